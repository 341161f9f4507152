/-
  sure: the simplex method walked: which row stops a column.
  sure: the simplex method walked: one turn.
  sure: the simplex method walked: turn by turn.
  sure: the simplex method walked: a row is laid.
  sure: the simplex method walked: what is to be as great as can be; the first tableau; Greatest.
  sure: Greatest walked.
  sure: Light, and the reference's Weights.
  sure: the reference's Weigh, and its Light.
  Sums of rows modulo 2, plain: how many rows a base has.
  Rows taken from each other until the rank is seen; the least rank of all choices of rows, plain.
  Products of rows modulo 2: vectors with duals are at most as many as their places. Plain Lean, no program.
  Printed by gen.py: the code of some functions, without what no step looks at; held against the program's own by the kernel.
  sure: the library's sort of a short slice, with the comparison that puts the greatest first.
  sure: the library's sort of a short slice: what stands ahead of the insertion.
  sure: a base with one row more.
  sure: the least rank, as the program finds it.
  sure: the reference's rank.
  sure: Fit, by the program and by the reference.
  sure: codes against weights and ranks.
  Printed by gen.py: the code of some functions, without what no step looks at; held against the program's own by the kernel.
  sure: the law SureLight.
  Printed by gen.py: the code of some functions, without what no step looks at; held against the program's own by the kernel.
  sure: Lists's copy named, of whatever length.
  sure: determinants of few rows of 0 and 1 are small. Plain Lean, no program.
  sure: channels.
-/
import Derived.Test.YtaagkbbphgdcdaaDoorPk10
import Derived.Test.YtaagkbbphgdcdaaDoorPk7
import Derived.Test.YtaagkbbphgdcdaaDoorPk6
import Derived.Test.YtaagkbbphgdcdaaDoorPk3
import Derived.Test.YtaagkbbphgdcdaaDoorProg
import Derived.KernelRfl
import Derived.Shelf.Abstract
import Derived.Test.YtaagkbbphgdcdaaDoorPk8
import Derived.Test.YtaagkbbphgdcdaaDoorPk9
set_option linter.all false
namespace Go.Proofs.Tryd.Am
open Go.Am Sr
set_option maxRecDepth 100000
set_option maxHeartbeats 8000000
theorem frEq {a b:Rat}:(([a.num,(a.den:Int)]:List Int)==[b.num,(b.den:Int)])=decide (a=b):=by
 rw [Bool.eq_iff_iff,beq_iff_eq,decide_eq_true_eq]
 constructor
 · intro h
   simp at h
   exact Rat.ext h.1 (by have:=h.2; omega)
 · rintro rfl; rfl
theorem outI_lt {o:Nat}:decide (outI (some o)<0)=false:=decide_eq_false (by unfold outI; simp only; omega)
theorem outI_no:decide (outI none<0)=true:=rfl
theorem sm_out [Tabs prog] {H z y0:Zh} {n m e b16:Nat} {tv e4:Value} {bt bb bg:Nat} {ys:List Int} {rb:Nat→Nat} {t:Nat→Nat→Rat} {g:Nat→Rat} {base:Nat→Nat} (s:TM H z n m tv bt bb bg ys rb t g base) (hs : ∀ i j,i<m→j≤n+m→Bq.Sml (t i j)) (he:e<n+m) (hW:n+m<1099511627776) (h16:z.length≤b16)
  (hy0:Ext (fun _=>False) z y0) (c16:y0[b16]? = some z0) {N:Env→Zh→Prop} {Q0:Exit→Env→Zh→Prop}
  (hN0 : ∀ e' y o,Ext (fun _=>False) z y→BestR t base (n+m) e m o→ELe e' [(0,Zd (n:Nat)),(4,e4),(5,Zd (m:Nat)),(6,tv),(7,bsV bb m ys),(12,smV bg (n+m+1)),(14,Zd (e:Nat)),(15,Zd (outI o))]→N e' y) :
  AWS prog 253 (.seq q67_33 (.block 10 (.loop l67_4))) (Zg N Q0) [(0,Zd (n:Nat)),(4,e4),(5,Zd (m:Nat)),(6,tv),(7,bsV bb m ys),(12,smV bg (n+m+1)),(14,Zd (e:Nat)),(15,.int .i64 (-1)),(16,pT b16)] y0:=by
 have hnm:addV .i64 (n:Int) (m:Int)=((n+m:Nat):Int):=by rw [Wf (by omega) (by omega)]; omega
 have hst : ∀ (y:Zh) (q:Rat) (K:Zh→Prop),Xh prog (y++[z0]) 44 (.pointer (some ⟨y.length,0,none⟩)) (qV q) K=K (y++[fC q.num q.den]):=fun y q K=>by
  rw [qV,frV,Wy (Yp y z0) rfl,set_new]
 have hlen:=(s.more hy0).tS.len
 rw [List.length_map,List.length_range] at hlen
 refine Ze fun N1 hN1=>?_
 simp (maxSteps:=2000000) only [↓Za,↓Zb,↓Zc,vup,List.map_cons,List.map_nil,cond_true,cond_false,aop,Zg,ev,sput,Zf,Zi,Nat.reduceBEq,hlen,isl_89]
 refine hN1 [(0,Zd (n:Nat)),(4,e4),(5,Zd (m:Nat)),(6,tv),(7,bsV bb m ys),(12,smV bg (n+m+1)),(14,Zd (e:Nat)),(15,.int .i64 (-1)),(16,pT b16),(135,tv),(136,Zd (m:Nat)),(137,.int .i64 0)] _ _ ?_ (by simp (maxSteps:=2000000) only [vup,cond_true,cond_false,Nat.reduceBEq])
 clear hN1
 try clear N1
 refine Zo ?_
 refine Zm fun Q hQ=>?_
 refine Yl (γ:=Nat×Option Nat×Zh) (fun q=>q.1≤m∧BestR t base (n+m) e q.1 q.2.1∧Ext (fun _=>False) z q.2.2∧∃ u w:Int,q.2.2[b16]? = some (fC u w)∧∀ o,q.2.1=some o→u=(t o (n+m) / t o e).num∧w=((t o (n+m) / t o e).den:Int))
  (fun q=>([(0,Zd (n:Nat)),(4,e4),(5,Zd (m:Nat)),(6,tv),(7,bsV bb m ys),(12,smV bg (n+m+1)),(14,Zd (e:Nat)),(15,Zd (outI q.2.1)),(16,pT b16),(135,tv),(136,Zd (m:Nat)),(137,Zd (q.1:Nat))],q.2.2)) (fun q=>m-q.1) (0,none,y0) ⟨Nat.zero_le _,fun k hk=>by omega,hy0,0,0,c16,nofun⟩ (by simp (maxSteps:=2000000) only [vup,cond_true,cond_false,Nat.reduceBEq,Int.natCast_zero,outI]) rfl ?_
 clear hlen c16
 rintro ⟨i,o,y⟩ ⟨hi,hbest,hE,u,w,c16,huw⟩
 simp only at hi hbest hE c16 huw
 refine Zm fun Q2 hQ2=>?_
 simp only [l67_4]
 have sy:=s.more hE
 by_cases hin:(i:Int)<m
 · have hi' : i<m:=by omega
   have row:=sy.row i hi'
   have hep:e<n+m+1:=by omega
   refine Ze fun N2 hN2=>?_
   simp (maxSteps:=2000000) only [↓Za,↓Zb,↓Zc,vup,cond_true,cond_false,aop,Zg,ev,sput,Zf,Zv,Zx,Nat.reduceBEq,hin]
   refine hN2 [(0,Zd (n:Nat)),(4,e4),(5,Zd (m:Nat)),(6,tv),(7,bsV bb m ys),(12,smV bg (n+m+1)),(14,Zd (e:Nat)),(15,Zd (outI o)),(16,pT b16),(135,tv),(136,Zd (m:Nat)),(137,Zd (i:Nat)),(138,.bool true)] _ _ ?_ (by simp (maxSteps:=2000000) only [vup,cond_true,cond_false,Nat.reduceBEq])
   clear hN2
   try clear N2
   refine Ze fun N3 hN3=>?_
   simp (maxSteps:=2000000) only [↓Zn,↓vdn,vup,cond_true,cond_false,Zg,ev,Nat.reduceBEq]
   refine hN3 [(0,Zd (n:Nat)),(4,e4),(5,Zd (m:Nat)),(6,tv),(7,bsV bb m ys),(12,smV bg (n+m+1)),(14,Zd (e:Nat)),(15,Zd (outI o)),(16,pT b16),(135,tv),(136,Zd (m:Nat)),(137,Zd (i:Nat))] _ _ ?_ (by simp (maxSteps:=2000000) only [vup,cond_true,cond_false,Nat.reduceBEq])
   clear hN3
   try clear N3
   refine Zk fun B hB=>?_
   refine Zo ?_
   refine Ze fun N4 hN4=>?_
   simp (maxSteps:=2000000) only [↓Za,↓Zb,↓Zc,vup,cond_true,cond_false,aop,Zg,ev,sput,Zf,Nat.reduceBEq]
   refine hN4 [(0,Zd (n:Nat)),(4,e4),(5,Zd (m:Nat)),(6,tv),(7,bsV bb m ys),(12,smV bg (n+m+1)),(14,Zd (e:Nat)),(15,Zd (outI o)),(16,pT b16),(17,Zd (i:Nat)),(135,tv),(136,Zd (m:Nat)),(137,Zd (i:Nat))] _ _ ?_ (by simp (maxSteps:=2000000) only [vup,cond_true,cond_false,Nat.reduceBEq])
   clear hN4
   try clear N4
   refine Zk fun C hC=>?_
   by_cases hle:(t i e).num≤0
   · have h2:decide ((t i e).num≤0)=true:=decide_eq_true hle
     refine Ze fun N5 hN5=>?_
     simp (maxSteps:=2000000) only [↓Za,↓Zb,↓Zc,vup,cond_true,cond_false,aop,Zg,ev,sput,Zf,Zv,Zx,Nat.reduceBEq,tyf,sy.idx hi',sy.ld hi',smIdx row hep,smFld0,smNum row hep,h2]
     refine hN5 [(0,Zd (n:Nat)),(4,e4),(5,Zd (m:Nat)),(6,tv),(7,bsV bb m ys),(12,smV bg (n+m+1)),(14,Zd (e:Nat)),(15,Zd (outI o)),(16,pT b16),(17,Zd (i:Nat)),(135,tv),(136,Zd (m:Nat)),(137,Zd (i:Nat)),(148,.bool true)] _ _ ?_ (by simp (maxSteps:=2000000) only [vup,cond_true,cond_false,Nat.reduceBEq])
     clear hN5
     try clear N5
     refine Yx rfl ?_
     refine Zj ?_
     simp (maxSteps:=2000000) only [↓Yi,Zg,Zl,if_true]
     refine hB [(0,Zd (n:Nat)),(4,e4),(5,Zd (m:Nat)),(6,tv),(7,bsV bb m ys),(12,smV bg (n+m+1)),(14,Zd (e:Nat)),(15,Zd (outI o)),(16,pT b16),(135,tv),(136,Zd (m:Nat)),(137,Zd (i:Nat))] _ _ ?_ (by simp (maxSteps:=2000000) only [vup,cond_true,cond_false,Nat.reduceBEq])
     clear hB
     try clear B
     refine Zj ?_
     simp (maxSteps:=2000000) only [↓Za,↓Zb,↓Zc,vup,cond_true,cond_false,aop,ev,sput,Zf,Zv,Zx,Nat.reduceBEq,Wx (show i<9223372036854775807 by omega)]
     exact hQ2 _ _ _ ⟨(i+1,o,y),⟨hi',hbest.skip (rnum_le.1 hle),hE,u,w,c16,huw⟩,by simp only; omega,by simp (maxSteps:=2000000) only [vup,cond_true,cond_false,Nat.reduceBEq],rfl⟩
   · have h2:decide ((t i e).num≤0)=false:=decide_eq_false hle
     have hpos:0<t i e:=rnum_pos.1 (by omega)
     have hne:=Bq.ne_of_pos hpos
     refine Ze fun N6 hN6=>?_
     simp (maxSteps:=2000000) only [↓Za,↓Zb,↓Zc,vup,cond_true,cond_false,aop,Zg,ev,sput,Zf,Zv,Zx,Nat.reduceBEq,tyf,sy.idx hi',sy.ld hi',smIdx row hep,smFld0,smNum row hep,h2]
     refine hN6 [(0,Zd (n:Nat)),(4,e4),(5,Zd (m:Nat)),(6,tv),(7,bsV bb m ys),(12,smV bg (n+m+1)),(14,Zd (e:Nat)),(15,Zd (outI o)),(16,pT b16),(17,Zd (i:Nat)),(135,tv),(136,Zd (m:Nat)),(137,Zd (i:Nat)),(148,.bool false)] _ _ ?_ (by simp (maxSteps:=2000000) only [vup,cond_true,cond_false,Nat.reduceBEq])
     clear hN6
     try clear N6
     refine Yg rfl ?_
     refine Zj ?_
     simp (maxSteps:=2000000) only [↓Zn,Zg]
     refine hC [(0,Zd (n:Nat)),(4,e4),(5,Zd (m:Nat)),(6,tv),(7,bsV bb m ys),(12,smV bg (n+m+1)),(14,Zd (e:Nat)),(15,Zd (outI o)),(16,pT b16),(17,Zd (i:Nat)),(135,tv),(136,Zd (m:Nat)),(137,Zd (i:Nat))] _ _ ?_ (by simp (maxSteps:=2000000) only [vup,cond_true,cond_false,Nat.reduceBEq])
     clear hC
     try clear C
     refine Ze fun N7 hN7=>?_
     simp only [q67_37]
     refine aw_drawE (fun _=>True) [(16,2)] 17 18 [3,8,12,15] (by kernel_rfl) (by kernel_rfl) (by kernel_rfl) (by kernel_rfl) (by kernel_rfl) (by rfl) trivial ?_
     simp (maxSteps:=2000000) only [↓dopsR_nil,↓vdn,vup,List.map_cons,List.map_nil,cond_true,cond_false,aop,Zg,ev,sput,Zf,Zv,Zx,Nat.reduceBEq,Nat.reduceAdd,hnm,sy.idx hi',sy.ld hi',smIdx row (show n+m<n+m+1 by omega),smLoad row (show n+m<n+m+1 by omega),smIdx row hep,smLoad row hep,Yz,List.nil_append,List.append_nil]
     refine ⟨qV (t i (n+m) / t i e),fun _ _=>⟨_,_,smover (hs i (n+m) hi' (Nat.le_refl _)) (hs i e hi' (by omega)) hne,rfl,rfl⟩,?_⟩
     simp (maxSteps:=2000000) only [tyf,Xv,Xc,hst]
     have hq1:=sm_quot (hs i (n+m) hi' (Nat.le_refl _)) (hs i e hi' (by omega)) hne
     obtain ⟨ri,hri⟩ : ∃ r,r=t i (n+m) / t i e:=⟨_,rfl⟩
     rw [← hri] at hq1 ⊢
     have hE1:Ext (fun _=>False) y (y++[fC ri.num ri.den]):=Ext.app _ _ _
     have c18:=Yp y (fC ri.num ri.den)
     have d16:=Vc c16 [fC ri.num ri.den]
     have hyl:y.length≠b16:=by have:=Zz c16; omega
     generalize y++[fC ri.num ri.den]=y1 at hE1 c18 d16 ⊢
     generalize y.length=b18 at c18 hyl ⊢
     refine hN7 [(0,Zd (n:Nat)),(4,e4),(5,Zd (m:Nat)),(6,tv),(7,bsV bb m ys),(12,smV bg (n+m+1)),(14,Zd (e:Nat)),(15,Zd (outI o)),(16,pT b16),(17,Zd (i:Nat)),(18,pT b18),(135,tv),(136,Zd (m:Nat)),(137,Zd (i:Nat))] _ _ ?_ (by simp (maxSteps:=2000000) only [vup,cond_true,cond_false,Nat.reduceBEq])
     clear hN7
     try clear N7
     have hE2:=hE.trans hE1
     have s1:=s.more hE2
     have fin : ∀ (b:Bool),b=takeB t base (n+m) e i o→AWS prog 253 (.cond (.tmp 188) q67_39 .skip) (Zl 11 (Zg B Q2)) [(0,Zd (n:Nat)),(4,e4),(5,Zd (m:Nat)),(6,tv),(7,bsV bb m ys),(12,smV bg (n+m+1)),(14,Zd (e:Nat)),(15,Zd (outI o)),(16,pT b16),(17,Zd (i:Nat)),(18,pT b18),(135,tv),(136,Zd (m:Nat)),(137,Zd (i:Nat)),(188,.bool b)] y1:=by
      intro b hb
      cases b with
      | false =>
        refine Yg rfl ?_
        refine Zj ?_
        simp (maxSteps:=2000000) only [↓Zn,Zg,Zl]
        refine hB [(0,Zd (n:Nat)),(4,e4),(5,Zd (m:Nat)),(6,tv),(7,bsV bb m ys),(12,smV bg (n+m+1)),(14,Zd (e:Nat)),(15,Zd (outI o)),(16,pT b16),(135,tv),(136,Zd (m:Nat)),(137,Zd (i:Nat))] _ _ ?_ (by simp (maxSteps:=2000000) only [vup,cond_true,cond_false,Nat.reduceBEq])
        clear hB
        try clear B
        refine Zj ?_
        simp (maxSteps:=2000000) only [↓Za,↓Zb,↓Zc,vup,cond_true,cond_false,aop,ev,sput,Zf,Zv,Zx,Nat.reduceBEq,Wx (show i<9223372036854775807 by omega)]
        cases o with
        | none=>cases hb
        | some o=>exact hQ2 _ _ _ ⟨(i+1,some o,y1),⟨hi',hbest.keep hb.symm,hE2,u,w,d16,huw⟩,by simp only; omega,by simp (maxSteps:=2000000) only [vup,cond_true,cond_false,Nat.reduceBEq],rfl⟩
      | true =>
        refine Yx rfl ?_
        refine Zj ?_
        simp only [q67_39]
        refine Xp [] (by kernel_rfl) (by kernel_rfl) (by kernel_rfl) (by kernel_rfl) ?_
        simp (maxSteps:=2000000) only [↓Yw,↓vdn,vup,cond_true,cond_false,aop,Zg,Zl,ev,sput,Zf,Nat.reduceBEq,Nat.reduceAdd,Vj c18,Wy d16 rfl]
        refine hB [(0,Zd (n:Nat)),(4,e4),(5,Zd (m:Nat)),(6,tv),(7,bsV bb m ys),(12,smV bg (n+m+1)),(14,Zd (e:Nat)),(15,Zd (i:Nat)),(16,pT b16),(135,tv),(136,Zd (m:Nat)),(137,Zd (i:Nat))] _ _ ?_ (by simp (maxSteps:=2000000) only [vup,cond_true,cond_false,Nat.reduceBEq])
        clear hB
        try clear B
        refine Zj ?_
        simp (maxSteps:=2000000) only [↓Za,↓Zb,↓Zc,vup,cond_true,cond_false,aop,ev,sput,Zf,Zv,Zx,Nat.reduceBEq,Wx (show i<9223372036854775807 by omega)]
        have hE3:Ext (fun _=>False) z (y1.set b16 (fC ri.num ri.den)):=⟨by rw [List.length_set]; exact hE2.1,fun q hq _=>by rw [List.getElem?_set_ne (by omega)]; exact hE2.2 q hq id⟩
        exact hQ2 _ _ _ ⟨(i+1,some i,y1.set b16 (fC ri.num ri.den)),⟨hi',hbest.take hpos hb.symm,hE3,ri.num,ri.den,Xj (Zz d16) _,fun o ho=>by cases ho; rw [hri]; exact ⟨rfl,rfl⟩⟩,by simp only; omega,by simp (maxSteps:=2000000) only [vup,cond_true,cond_false,Nat.reduceBEq,outI],rfl⟩
     refine Ze fun N8 hN8=>?_
     simp only [q67_38]
     refine Xp [(5,1)] (by kernel_rfl) (by kernel_rfl) (by kernel_rfl) (by kernel_rfl) ?_
     cases o with
     | none =>
       simp (maxSteps:=2000000) only [↓Yw,↓vdn,vup,cond_true,cond_false,aop,Zg,ev,sput,Zf,Zv,Zx,pickK,Nat.reduceBEq,outI_no]
       refine hN8 [(0,Zd (n:Nat)),(4,e4),(5,Zd (m:Nat)),(6,tv),(7,bsV bb m ys),(12,smV bg (n+m+1)),(14,Zd (e:Nat)),(15,Zd (outI none)),(16,pT b16),(17,Zd (i:Nat)),(18,pT b18),(135,tv),(136,Zd (m:Nat)),(137,Zd (i:Nat)),(188,.bool true)] _ _ ?_ (by simp (maxSteps:=2000000) only [vup,cond_true,cond_false,Nat.reduceBEq])
       clear hN8
       try clear N8
       exact fin true rfl
     | some o =>
       obtain ⟨rfl,rfl⟩:=huw o rfl
       obtain ⟨ho,hpo,_⟩:=hbest
       have hq2:=sm_quot (hs o (n+m) (by omega) (Nat.le_refl _)) (hs o e (by omega) (by omega)) (Bq.ne_of_pos hpo)
       obtain ⟨ro,hro⟩ : ∃ r,r=t o (n+m) / t o e:=⟨_,rfl⟩
       rw [← hro] at hq2 d16
       have htk:takeB t base (n+m) e i (some o)=(decide (ri<ro) || (decide (ri=ro)&&decide (base i<base o))):=by rw [takeB,hri,hro]
       rw [htk] at fin
       have hb4:decide (((base i:Nat):Int)<((base o:Nat):Int))=decide (base i<base o):=decide_eq_decide.2 (by omega)
       have hbo : ∀ K:Value→Prop,Yy prog 22 (bsV bb m ys) (.int .i64 (outI (some o))) K=K (.pointer (some ⟨bb,o,none⟩)):=fun K=>s1.bIdx (show o<m by omega) K
       simp (maxSteps:=2000000) only [↓vdn,vup,List.map_cons,List.map_nil,cond_true,cond_false,aop,ev,sput,Zf,Zv,Zx,pickK,Nat.reduceBEq,Nat.reduceAdd,outI_lt,Vj c18,Vj d16,Yz,List.nil_append,List.append_nil]
       refine ⟨_,_,smless hq1 hq2,rfl,?_⟩
       cases hlt:decide (ri<ro) with
       | true =>
         simp (maxSteps:=2000000) only [↓Yw,↓vdn,vup,cond_true,cond_false,aop,Zg,ev,sput,Zf,pickK,Nat.reduceBEq]
         refine hN8 [(0,Zd (n:Nat)),(4,e4),(5,Zd (m:Nat)),(6,tv),(7,bsV bb m ys),(12,smV bg (n+m+1)),(14,Zd (e:Nat)),(15,Zd (outI (some o))),(16,pT b16),(17,Zd (i:Nat)),(18,pT b18),(135,tv),(136,Zd (m:Nat)),(137,Zd (i:Nat)),(188,.bool true)] _ _ ?_ (by simp (maxSteps:=2000000) only [vup,cond_true,cond_false,Nat.reduceBEq])
         clear hN8
         try clear N8
         exact fin true (by rw [hlt]; rfl)
       | false =>
         cases heq:decide (ri=ro) with
         | false =>
           simp (maxSteps:=2000000) only [↓Yw,↓vdn,vup,cond_true,cond_false,aop,Zg,ev,sput,Zf,Zv,Zx,pickK,Nat.reduceBEq,Nat.reduceAdd,tyf,Vj c18,Vj d16,Xa,Option.map_some,List.length_cons,List.length_nil,Nat.zero_add,eqF,frEq,heq]
           refine hN8 [(0,Zd (n:Nat)),(4,e4),(5,Zd (m:Nat)),(6,tv),(7,bsV bb m ys),(12,smV bg (n+m+1)),(14,Zd (e:Nat)),(15,Zd (outI (some o))),(16,pT b16),(17,Zd (i:Nat)),(18,pT b18),(135,tv),(136,Zd (m:Nat)),(137,Zd (i:Nat)),(188,.bool false)] _ _ ?_ (by simp (maxSteps:=2000000) only [vup,cond_true,cond_false,Nat.reduceBEq])
           clear hN8
           try clear N8
           exact fin false (by rw [hlt,heq]; rfl)
         | true =>
           simp (maxSteps:=2000000) only [↓Yw,↓vdn,vup,cond_true,cond_false,aop,Zg,ev,sput,Zf,Zv,Zx,pickK,Nat.reduceBEq,Nat.reduceAdd,tyf,Vj c18,Vj d16,Xa,Option.map_some,List.length_cons,List.length_nil,Nat.zero_add,eqF,frEq,heq,s1.bIdx hi',s1.bLd hi',hbo,s1.bLd (show o<m by omega),hb4]
           refine hN8 [(0,Zd (n:Nat)),(4,e4),(5,Zd (m:Nat)),(6,tv),(7,bsV bb m ys),(12,smV bg (n+m+1)),(14,Zd (e:Nat)),(15,Zd (outI (some o))),(16,pT b16),(17,Zd (i:Nat)),(18,pT b18),(135,tv),(136,Zd (m:Nat)),(137,Zd (i:Nat)),(188,.bool (decide (base i<base o)))] _ _ ?_ (by simp (maxSteps:=2000000) only [vup,cond_true,cond_false,Nat.reduceBEq])
           clear hN8
           try clear N8
           exact fin _ (by rw [hlt,heq]; rfl)
 · obtain rfl:m=i:=by omega
   refine Ze fun N9 hN9=>?_
   simp (maxSteps:=2000000) only [↓Za,↓Zb,↓Zc,vup,cond_true,cond_false,aop,Zg,ev,sput,Zf,Zv,Zx,Nat.reduceBEq,hin]
   refine hN9 [(0,Zd (n:Nat)),(4,e4),(5,Zd (m:Nat)),(6,tv),(7,bsV bb m ys),(12,smV bg (n+m+1)),(14,Zd (e:Nat)),(15,Zd (outI o)),(16,pT b16),(135,tv),(136,Zd (m:Nat)),(137,Zd (m:Nat)),(138,.bool false)] _ _ ?_ (by simp (maxSteps:=2000000) only [vup,cond_true,cond_false,Nat.reduceBEq])
   clear hN9
   try clear N9
   refine Ze fun N10 hN10=>?_
   simp (maxSteps:=2000000) only [↓Yi,↓vdn,vup,cond_true,cond_false,Zg,ev,Nat.reduceBEq]
   refine hQ2 _ _ _ (hQ _ _ _ ?_)
   simp (maxSteps:=2000000) only [Zg,Zl,if_true]
   exact hN0 _ _ o hE hbest (by simp (maxSteps:=2000000) only [vup,cond_true,cond_false,Nat.reduceBEq])
end Go.Proofs.Tryd.Am
namespace Go.Proofs.Tryd.Am
open Go.Am Sr
set_option maxRecDepth 100000
set_option maxHeartbeats 8000000
def clrT (s:Bq.Tb) (o e i:Nat):Nat→Nat→Rat:=fun k=>if k=o then (Bq.piv s o e).t o else if k<i then (Bq.piv s o e).t k else s.t k
theorem clrT_step {s:Bq.Tb} {o e i:Nat}:clrT s o e (i+1)=fun k=>if k=i then (Bq.piv s o e).t i else clrT s o e i k:=by
 funext k
 simp only [clrT]
 by_cases hki:k=i
 · rw [if_pos hki,hki]
   by_cases hio:i=o
   · rw [if_pos hio,hio]
   · rw [if_neg hio,if_pos (by omega)]
 · rw [if_neg hki]
   by_cases hko:k=o
   · rw [if_pos hko,if_pos hko]
   · rw [if_neg hko,if_neg hko]
     by_cases h:k<i
     · rw [if_pos h,if_pos (by omega)]
     · rw [if_neg h,if_neg (by omega)]
theorem clrT_skip {s:Bq.Tb} {o e:Nat}:clrT s o e (o+1)=clrT s o e o:=by
 funext k
 simp only [clrT]
 by_cases hko:k=o
 · rw [if_pos hko,if_pos hko]
 · rw [if_neg hko,if_neg hko]
   by_cases h:k<o
   · rw [if_pos h,if_pos (by omega)]
   · rw [if_neg h,if_neg (by omega)]
theorem sm_turn [Tabs prog] {H z:Zh} {n m e o:Nat} {tv e4:Value} {bt bb bg:Nat} {ys:List Int} {rb:Nat→Nat} {sets:List Nat} {s:Bq.Tb} (M:TM H z n m tv bt bb bg ys rb s.t s.g s.base) (G:Bq.Good m (n+m) (Bq.smA n m sets) (Bq.smC n) s) (T:Bq.Turn m (n+m) s e o) (h6:n≤6) (hW:n+m<1099511627775)
  {Q:Exit→Env→Zh→Prop} (hN0 : ∀ e' y,TM H y n m tv bt bb bg ys rb (Bq.piv s o e).t (Bq.piv s o e).g (Bq.piv s o e).base→ELe e' [(0,Zd (n:Nat)),(4,e4),(5,Zd (m:Nat)),(6,tv),(7,bsV bb m ys),(12,smV bg (n+m+1))]→Q .normal e' y) :
  AWS prog 253 (.seq q67_41 (.seq (.seq q67_42 (.block 12 (.loop l67_5))) (.seq q67_47 (.seq (.seq q67_48 (.block 14 (.loop l67_6))) q67_54)))) Q [(0,Zd (n:Nat)),(4,e4),(5,Zd (m:Nat)),(6,tv),(7,bsV bb m ys),(12,smV bg (n+m+1)),(14,Zd (e:Nat)),(15,Zd (o:Nat))] z:=by
 have hst : ∀ (y:Zh) (q:Rat) (K:Zh→Prop),Xh prog (y++[z0]) 44 (.pointer (some ⟨y.length,0,none⟩)) (qV q) K=K (y++[fC q.num q.den]):=fun y q K=>by
  rw [qV,frV,Wy (Yp y z0) rfl,set_new]
 have ho:=T.om
 have he:e<n+m+1:=by have:=T.eN; omega
 have hp0:=Bq.ne_of_pos T.op
 obtain ⟨smT,smG⟩:=G.sml h6
 obtain ⟨smT',_⟩:=(G.piv T).sml h6
 have row:=M.row o ho
 refine Ze fun N1 hN1=>?_
 simp (maxSteps:=2000000) only [↓Za,↓Zb,↓Zc,vup,cond_true,cond_false,aop,Zg,ev,sput,Zf,Nat.reduceBEq,tyf,M.idx ho,M.ld ho,smIdx row he,smLoad row he,Xv,Xc,hst]
 have hE1:Ext (fun _=>False) z (z++[fC (s.t o e).num (s.t o e).den]):=Ext.app _ _ _
 have c19:=Yp z (fC (s.t o e).num (s.t o e).den)
 have M1:=M.more hE1
 generalize z++[fC (s.t o e).num (s.t o e).den]=z1 at hE1 c19 M1 ⊢
 generalize hbe:z.length=b19 at c19 ⊢
 refine hN1 [(0,Zd (n:Nat)),(4,e4),(5,Zd (m:Nat)),(6,tv),(7,bsV bb m ys),(12,smV bg (n+m+1)),(14,Zd (e:Nat)),(15,Zd (o:Nat)),(19,pT b19)] _ _ ?_ (by simp (maxSteps:=2000000) only [vup,cond_true,cond_false,Nat.reduceBEq])
 clear hN1
 try clear N1
 have row1:=M1.row o ho
 have hl:=(smSl row1).len
 rw [smR_len] at hl
 have hrb:rb o≠b19:=by have:=Zz row; omega
 refine Zk fun Y9 hY9=>?_
 refine Ze fun N2 hN2=>?_
 simp (maxSteps:=2000000) only [↓Za,↓Zb,↓Zc,vup,List.map_cons,List.map_nil,cond_true,cond_false,aop,Zg,ev,sput,Zf,Zi,Nat.reduceBEq,tyf,M1.idx ho,M1.ld ho,hl]
 refine hN2 [(0,Zd (n:Nat)),(4,e4),(5,Zd (m:Nat)),(6,tv),(7,bsV bb m ys),(12,smV bg (n+m+1)),(14,Zd (e:Nat)),(15,Zd (o:Nat)),(19,pT b19),(202,smV (rb o) (n+m+1)),(203,Zd ((n+m+1:Nat):Int)),(204,.int .i64 0)] _ _ ?_ (by simp (maxSteps:=2000000) only [vup,cond_true,cond_false,Nat.reduceBEq])
 clear hN2
 try clear N2
 refine Zo ?_
 refine Zm fun Q1 hQ1=>?_
 refine Yl (γ:=Nat×Zh) (fun q=>q.1≤n+m+1∧TM H q.2 n m tv bt bb bg ys rb (fun k=>if k=o then mixF (s.t o) ((Bq.piv s o e).t o) q.1 else s.t k) s.g s.base∧q.2[b19]? = some (fC (s.t o e).num (s.t o e).den))
  (fun q=>([(0,Zd (n:Nat)),(4,e4),(5,Zd (m:Nat)),(6,tv),(7,bsV bb m ys),(12,smV bg (n+m+1)),(14,Zd (e:Nat)),(15,Zd (o:Nat)),(19,pT b19),(202,smV (rb o) (n+m+1)),(203,Zd ((n+m+1:Nat):Int)),(204,Zd (q.1:Nat))],q.2)) (fun q=>n+m+1-q.1) (0,z1) ⟨Nat.zero_le _,M1.congr (fun i j _ _=>by
   simp only [mixF_zero]
   by_cases h:i=o
   · rw [if_pos h,h]
   · rw [if_neg h]) (fun _ _=>rfl) (fun _ _=>rfl),c19⟩ (by simp (maxSteps:=2000000) only [vup,cond_true,cond_false,Nat.reduceBEq,Int.natCast_zero]) rfl ?_
 clear c19 M1 row1 hl hE1 row M
 rintro ⟨j,y⟩ ⟨hj,M,c19⟩
 simp only at hj M c19
 refine Zm fun Q2 hQ2=>?_
 simp only [l67_5]
 by_cases hjn:(j:Int)<((n+m+1:Nat):Int)
 · have hj' : j<n+m+1:=by omega
   have row:=M.row o ho
   simp only [if_pos] at row
   have hld:=fun K=>smLoad row hj' K
   rw [mixF_at] at hld
   refine Ze fun N3 hN3=>?_
   simp (maxSteps:=2000000) only [↓Za,↓Zb,↓Zc,vup,cond_true,cond_false,aop,Zg,ev,sput,Zf,Zv,Zx,Nat.reduceBEq,hjn]
   refine hN3 [(0,Zd (n:Nat)),(4,e4),(5,Zd (m:Nat)),(6,tv),(7,bsV bb m ys),(12,smV bg (n+m+1)),(14,Zd (e:Nat)),(15,Zd (o:Nat)),(19,pT b19),(202,smV (rb o) (n+m+1)),(203,Zd ((n+m+1:Nat):Int)),(204,Zd (j:Nat)),(205,.bool true)] _ _ ?_ (by simp (maxSteps:=2000000) only [vup,cond_true,cond_false,Nat.reduceBEq])
   clear hN3
   try clear N3
   refine Ze fun N4 hN4=>?_
   simp (maxSteps:=2000000) only [↓Zn,↓vdn,vup,cond_true,cond_false,Zg,ev,Nat.reduceBEq]
   refine hN4 [(0,Zd (n:Nat)),(4,e4),(5,Zd (m:Nat)),(6,tv),(7,bsV bb m ys),(12,smV bg (n+m+1)),(14,Zd (e:Nat)),(15,Zd (o:Nat)),(19,pT b19),(202,smV (rb o) (n+m+1)),(203,Zd ((n+m+1:Nat):Int)),(204,Zd (j:Nat))] _ _ ?_ (by simp (maxSteps:=2000000) only [vup,cond_true,cond_false,Nat.reduceBEq])
   clear hN4
   try clear N4
   refine Zk fun B hB=>?_
   refine Zo ?_
   refine Ze fun N5 hN5=>?_
   simp (maxSteps:=2000000) only [↓Za,↓Zb,↓Zc,vup,cond_true,cond_false,aop,Zg,ev,sput,Zf,Nat.reduceBEq]
   refine hN5 [(0,Zd (n:Nat)),(4,e4),(5,Zd (m:Nat)),(6,tv),(7,bsV bb m ys),(12,smV bg (n+m+1)),(14,Zd (e:Nat)),(15,Zd (o:Nat)),(19,pT b19),(20,Zd (j:Nat)),(202,smV (rb o) (n+m+1)),(203,Zd ((n+m+1:Nat):Int)),(204,Zd (j:Nat))] _ _ ?_ (by simp (maxSteps:=2000000) only [vup,cond_true,cond_false,Nat.reduceBEq])
   clear hN5
   try clear N5
   refine Zj ?_
   simp only [q67_45]
   refine Xp [(13,1)] (by kernel_rfl) (by kernel_rfl) (by kernel_rfl) (by kernel_rfl) ?_
   simp (maxSteps:=2000000) only [↓Yw,↓vdn,vup,List.map_cons,List.map_nil,cond_true,cond_false,aop,Zg,Zl,ev,sput,Zf,Nat.reduceBEq,Nat.reduceAdd,M.idx ho,M.ld ho,smIdx row hj',hld,Vj c19,Yz,List.nil_append,List.append_nil]
   refine ⟨_,_,smover (smT o j ho (by omega)) (smT o e ho (by omega)) hp0,rfl,?_⟩
   have hstr:=fun K=>smStore ((Bq.piv s o e).t o j) row hj' K
   rw [mixF_step] at hstr
   rw [show s.t o j / s.t o e=(Bq.piv s o e).t o j from (Bq.piv_own j).symm]
   simp (maxSteps:=2000000) only [hstr]
   refine hB [(0,Zd (n:Nat)),(4,e4),(5,Zd (m:Nat)),(6,tv),(7,bsV bb m ys),(12,smV bg (n+m+1)),(14,Zd (e:Nat)),(15,Zd (o:Nat)),(19,pT b19),(202,smV (rb o) (n+m+1)),(203,Zd ((n+m+1:Nat):Int)),(204,Zd (j:Nat))] _ _ ?_ (by simp (maxSteps:=2000000) only [vup,cond_true,cond_false,Nat.reduceBEq])
   clear hB
   try clear B
   refine Zj ?_
   simp (maxSteps:=2000000) only [↓Za,↓Zb,↓Zc,vup,cond_true,cond_false,aop,ev,sput,Zf,Zv,Zx,Nat.reduceBEq,Wx (show j<9223372036854775807 by omega)]
   refine hQ2 _ _ _ ⟨(j+1,y.set (rb o) (smB (mixF (s.t o) ((Bq.piv s o e).t o) (j+1)) (n+m+1))),⟨hj',(M.setR ho (Xj (Zz row) _) (Ext.set _ rfl)).congr (fun i k _ _=>?_) (fun _ _=>rfl) (fun _ _=>rfl),?_⟩,by simp only; omega,by simp (maxSteps:=2000000) only [vup,cond_true,cond_false,Nat.reduceBEq],rfl⟩
   · by_cases h:i=o
     · rw [if_pos h,if_pos h]
     · rw [if_neg h,if_neg h,if_neg h]
   · rw [List.getElem?_set_ne hrb]; exact c19
 obtain rfl:j=n+m+1:=by omega
 refine Ze fun N6 hN6=>?_
 simp (maxSteps:=2000000) only [↓Za,↓Zb,↓Zc,vup,cond_true,cond_false,aop,Zg,ev,sput,Zf,Zv,Zx,Nat.reduceBEq,hjn]
 refine hN6 [(0,Zd (n:Nat)),(4,e4),(5,Zd (m:Nat)),(6,tv),(7,bsV bb m ys),(12,smV bg (n+m+1)),(14,Zd (e:Nat)),(15,Zd (o:Nat)),(19,pT b19),(202,smV (rb o) (n+m+1)),(203,Zd ((n+m+1:Nat):Int)),(204,Zd ((n+m+1:Nat):Int)),(205,.bool false)] _ _ ?_ (by simp (maxSteps:=2000000) only [vup,cond_true,cond_false,Nat.reduceBEq])
 clear hN6
 try clear N6
 refine Ze fun N7 hN7=>?_
 simp (maxSteps:=2000000) only [↓Yi,↓vdn,vup,cond_true,cond_false,Zg,ev,Nat.reduceBEq]
 refine hQ2 _ _ _ (hQ1 _ _ _ ?_)
 simp (maxSteps:=2000000) only [Zg,Zl,if_true]
 refine hY9 [(0,Zd (n:Nat)),(4,e4),(5,Zd (m:Nat)),(6,tv),(7,bsV bb m ys),(12,smV bg (n+m+1)),(14,Zd (e:Nat)),(15,Zd (o:Nat)),(205,.bool false)] _ _ ?_ (by simp (maxSteps:=2000000) only [vup,cond_true,cond_false,Nat.reduceBEq])
 clear hY9
 try clear Y9
 have M2:TM H y n m tv bt bb bg ys rb (clrT s o e 0) s.g s.base:=M.congr (fun i k _ hk=>by
  simp only [clrT]
  by_cases h:i=o
  · rw [if_pos h,if_pos h,mixF,if_pos hk]
  · rw [if_neg h,if_neg h,if_neg (by omega)]) (fun _ _=>rfl) (fun _ _=>rfl)
 clear hQ1 hQ2 M c19
 -- what the row stands for
 have hbs : ∀ K:Zh→Prop,Xh prog y 3 (.pointer (some ⟨bb,o,none⟩)) (Zd (e:Nat)) K=K (y.set bb (.ints ((List.range m).map (fun i=>(((Bq.piv s o e).base i:Nat):Int))++ys) 3 false)):=fun K=>by
  rw [storeBI M2.bs Xf (by simp; omega)]
  congr 2
  rw [List.set_append_left _ _ (by simpa using ho)]
  congr 2
  apply List.ext_getElem (by simp)
  intro i h1 h2
  rw [List.getElem_set]
  simp only [List.getElem_map,List.getElem_range,Bq.piv]
  by_cases h:o=i
  · rw [if_pos h,if_pos h.symm]
  · rw [if_neg h,if_neg (Ne.symm h)]
 refine Ze fun N8 hN8=>?_
 simp (maxSteps:=2000000) only [↓Za,↓Zb,↓Zc,vup,cond_true,cond_false,aop,Zg,ev,sput,Zf,Nat.reduceBEq,M2.bIdx ho,hbs]
 have hb3:=Xj (Zz M2.bs) (.ints ((List.range m).map (fun i=>(((Bq.piv s o e).base i:Nat):Int))++ys) 3 false)
 have hE3:Ext (fun i=>i=bb) y (y.set bb (.ints ((List.range m).map (fun i=>(((Bq.piv s o e).base i:Nat):Int))++ys) 3 false)):=Ext.set _ rfl
 generalize y.set bb (.ints ((List.range m).map (fun i=>(((Bq.piv s o e).base i:Nat):Int))++ys) 3 false)=y1 at hb3 hE3 ⊢
 have M3:TM H y1 n m tv bt bb bg ys rb (clrT s o e 0) s.g (Bq.piv s o e).base:=M2.set M2.nb hE3 M2.bnt (fun i hi=>(hE3.2 _ (Zz (M2.row i hi)) (M2.neb hi)).trans (M2.row i hi)) ((hE3.2 _ (Zz M2.gn) M2.gnb).trans M2.gn) hb3
 refine hN8 [(0,Zd (n:Nat)),(4,e4),(5,Zd (m:Nat)),(6,tv),(7,bsV bb m ys),(12,smV bg (n+m+1)),(14,Zd (e:Nat)),(15,Zd (o:Nat)),(205,.bool false)] _ _ ?_ (by simp (maxSteps:=2000000) only [vup,cond_true,cond_false,Nat.reduceBEq])
 clear hN8
 try clear N8
 clear M2 hb3 hE3 hbs
 -- the other rows
 have hlen:=M3.tS.len
 rw [List.length_map,List.length_range] at hlen
 refine Zk fun Z hZ=>?_
 refine Ze fun N9 hN9=>?_
 simp (maxSteps:=2000000) only [↓Za,↓Zb,↓Zc,vup,List.map_cons,List.map_nil,cond_true,cond_false,aop,Zg,ev,sput,Zf,Zi,Nat.reduceBEq,hlen,isl_89]
 refine hN9 [(0,Zd (n:Nat)),(4,e4),(5,Zd (m:Nat)),(6,tv),(7,bsV bb m ys),(12,smV bg (n+m+1)),(14,Zd (e:Nat)),(15,Zd (o:Nat)),(205,.bool false),(227,tv),(228,Zd (m:Nat)),(229,.int .i64 0)] _ _ ?_ (by simp (maxSteps:=2000000) only [vup,cond_true,cond_false,Nat.reduceBEq])
 clear hN9
 try clear N9
 refine Zo ?_
 refine Zm fun Q3 hQ3=>?_
 refine Yl (γ:=Nat×Zh) (fun q=>q.1≤m∧TM H q.2 n m tv bt bb bg ys rb (clrT s o e q.1) s.g (Bq.piv s o e).base)
  (fun q=>([(0,Zd (n:Nat)),(4,e4),(5,Zd (m:Nat)),(6,tv),(7,bsV bb m ys),(12,smV bg (n+m+1)),(14,Zd (e:Nat)),(15,Zd (o:Nat)),(205,.bool false),(227,tv),(228,Zd (m:Nat)),(229,Zd (q.1:Nat))],q.2)) (fun q=>m-q.1) (0,y1) ⟨Nat.zero_le _,M3⟩ (by simp (maxSteps:=2000000) only [vup,cond_true,cond_false,Nat.reduceBEq,Int.natCast_zero]) rfl ?_
 clear M3 hlen
 rintro ⟨i,x⟩ ⟨hi,M⟩
 simp only at hi M
 refine Zm fun Q4 hQ4=>?_
 simp only [l67_6]
 have rowo:=M.row o ho
 simp only [clrT,if_pos] at rowo
 by_cases hin:(i:Int)<m
 · have hi' : i<m:=by omega
   refine Ze fun N10 hN10=>?_
   simp (maxSteps:=2000000) only [↓Za,↓Zb,↓Zc,vup,cond_true,cond_false,aop,Zg,ev,sput,Zf,Zv,Zx,Nat.reduceBEq,hin]
   refine hN10 [(0,Zd (n:Nat)),(4,e4),(5,Zd (m:Nat)),(6,tv),(7,bsV bb m ys),(12,smV bg (n+m+1)),(14,Zd (e:Nat)),(15,Zd (o:Nat)),(205,.bool false),(227,tv),(228,Zd (m:Nat)),(229,Zd (i:Nat)),(230,.bool true)] _ _ ?_ (by simp (maxSteps:=2000000) only [vup,cond_true,cond_false,Nat.reduceBEq])
   clear hN10
   try clear N10
   refine Ze fun N11 hN11=>?_
   simp (maxSteps:=2000000) only [↓Zn,↓vdn,vup,cond_true,cond_false,Zg,ev,Nat.reduceBEq]
   refine hN11 [(0,Zd (n:Nat)),(4,e4),(5,Zd (m:Nat)),(6,tv),(7,bsV bb m ys),(12,smV bg (n+m+1)),(14,Zd (e:Nat)),(15,Zd (o:Nat)),(205,.bool false),(227,tv),(228,Zd (m:Nat)),(229,Zd (i:Nat))] _ _ ?_ (by simp (maxSteps:=2000000) only [vup,cond_true,cond_false,Nat.reduceBEq])
   clear hN11
   try clear N11
   refine Zk fun B hB=>?_
   refine Zo ?_
   refine Ze fun N12 hN12=>?_
   simp (maxSteps:=2000000) only [↓Za,↓Zb,↓Zc,vup,cond_true,cond_false,aop,Zg,ev,sput,Zf,Nat.reduceBEq]
   refine hN12 [(0,Zd (n:Nat)),(4,e4),(5,Zd (m:Nat)),(6,tv),(7,bsV bb m ys),(12,smV bg (n+m+1)),(14,Zd (e:Nat)),(15,Zd (o:Nat)),(21,Zd (i:Nat)),(205,.bool false),(227,tv),(228,Zd (m:Nat)),(229,Zd (i:Nat))] _ _ ?_ (by simp (maxSteps:=2000000) only [vup,cond_true,cond_false,Nat.reduceBEq])
   clear hN12
   try clear N12
   by_cases hio:i=o
   · have h1:((i:Int) != (o:Int))=false:=by rw [hio]; simp
     refine Ze fun N13 hN13=>?_
     simp (maxSteps:=2000000) only [↓Za,↓Zb,↓Zc,vup,cond_true,cond_false,aop,Zg,ev,sput,Zf,Zv,Zx,Nat.reduceBEq,h1]
     refine hN13 [(0,Zd (n:Nat)),(4,e4),(5,Zd (m:Nat)),(6,tv),(7,bsV bb m ys),(12,smV bg (n+m+1)),(14,Zd (e:Nat)),(15,Zd (o:Nat)),(21,Zd (i:Nat)),(205,.bool false),(227,tv),(228,Zd (m:Nat)),(229,Zd (i:Nat)),(234,.bool false)] _ _ ?_ (by simp (maxSteps:=2000000) only [vup,cond_true,cond_false,Nat.reduceBEq])
     clear hN13
     try clear N13
     refine Yg rfl ?_
     refine Zj ?_
     simp (maxSteps:=2000000) only [↓Zn,Zg,Zl]
     refine hB [(0,Zd (n:Nat)),(4,e4),(5,Zd (m:Nat)),(6,tv),(7,bsV bb m ys),(12,smV bg (n+m+1)),(14,Zd (e:Nat)),(15,Zd (o:Nat)),(205,.bool false),(227,tv),(228,Zd (m:Nat)),(229,Zd (i:Nat))] _ _ ?_ (by simp (maxSteps:=2000000) only [vup,cond_true,cond_false,Nat.reduceBEq])
     clear hB
     try clear B
     refine Zj ?_
     simp (maxSteps:=2000000) only [↓Za,↓Zb,↓Zc,vup,cond_true,cond_false,aop,ev,sput,Zf,Zv,Zx,Nat.reduceBEq,Wx (show i<9223372036854775807 by omega)]
     have h9:clrT s o e (i+1)=clrT s o e i:=by rw [hio,clrT_skip]
     exact hQ4 _ _ _ ⟨(i+1,x),⟨hi',by simp only; rw [h9]; exact M⟩,by simp only; omega,by simp (maxSteps:=2000000) only [vup,cond_true,cond_false,Nat.reduceBEq],rfl⟩
   · have h1:((i:Int) != (o:Int))=true:=by rw [bne_iff_ne]; omega
     have rowi:=M.row i hi'
     simp only [clrT,if_neg hio,if_neg (Nat.lt_irrefl i)] at rowi
     refine Ze fun N14 hN14=>?_
     simp (maxSteps:=2000000) only [↓Za,↓Zb,↓Zc,vup,cond_true,cond_false,aop,Zg,ev,sput,Zf,Zv,Zx,Nat.reduceBEq,h1]
     refine hN14 [(0,Zd (n:Nat)),(4,e4),(5,Zd (m:Nat)),(6,tv),(7,bsV bb m ys),(12,smV bg (n+m+1)),(14,Zd (e:Nat)),(15,Zd (o:Nat)),(21,Zd (i:Nat)),(205,.bool false),(227,tv),(228,Zd (m:Nat)),(229,Zd (i:Nat)),(234,.bool true)] _ _ ?_ (by simp (maxSteps:=2000000) only [vup,cond_true,cond_false,Nat.reduceBEq])
     clear hN14
     try clear N14
     refine Yx rfl ?_
     refine Zj ?_
     simp only [q67_52]
     refine Xp [(9,4)] (by kernel_rfl) (by kernel_rfl) (by kernel_rfl) (by kernel_rfl) ?_
     simp (maxSteps:=2000000) only [↓Yw,↓vdn,vup,List.map_cons,List.map_nil,cond_true,cond_false,aop,Zg,Zl,ev,sput,Zf,Nat.reduceBEq,Nat.reduceAdd,M.idx hi',M.ld hi',M.idx ho,M.ld ho,Yz,List.nil_append,List.append_nil]
     refine (smclear_call rowi rowo (fun h=>hio (M.inj i o hi' ho h)) he (by omega) (fun j hj=>smT i j hi' (by omega)) (fun j hj=>smT' o j ho (by omega))).mono ?_
     rintro _ x1 ⟨hr,hEr⟩
     refine hB [(0,Zd (n:Nat)),(4,e4),(5,Zd (m:Nat)),(6,tv),(7,bsV bb m ys),(12,smV bg (n+m+1)),(14,Zd (e:Nat)),(15,Zd (o:Nat)),(205,.bool false),(227,tv),(228,Zd (m:Nat)),(229,Zd (i:Nat))] _ _ ?_ (by simp (maxSteps:=2000000) only [vup,cond_true,cond_false,Nat.reduceBEq])
     clear hB
     try clear B
     refine Zj ?_
     simp (maxSteps:=2000000) only [↓Za,↓Zb,↓Zc,vup,cond_true,cond_false,aop,ev,sput,Zf,Zv,Zx,Nat.reduceBEq,Wx (show i<9223372036854775807 by omega)]
     refine hQ4 _ _ _ ⟨(i+1,x1),⟨hi',(M.setR hi' hr hEr).congr (fun k j _ _=>?_) (fun _ _=>rfl) (fun _ _=>rfl)⟩,by simp only; omega,by simp (maxSteps:=2000000) only [vup,cond_true,cond_false,Nat.reduceBEq],rfl⟩
     simp only [clrT_step]
     by_cases hki:k=i
     · rw [if_pos hki,if_pos hki,Bq.piv_old hio,Bq.piv_own]
     · rw [if_neg hki,if_neg hki]
 obtain rfl:m=i:=by omega
 refine Ze fun N15 hN15=>?_
 simp (maxSteps:=2000000) only [↓Za,↓Zb,↓Zc,vup,cond_true,cond_false,aop,Zg,ev,sput,Zf,Zv,Zx,Nat.reduceBEq,hin]
 refine hN15 [(0,Zd (n:Nat)),(4,e4),(5,Zd (m:Nat)),(6,tv),(7,bsV bb m ys),(12,smV bg (n+m+1)),(14,Zd (e:Nat)),(15,Zd (o:Nat)),(205,.bool false),(227,tv),(228,Zd (m:Nat)),(229,Zd (m:Nat)),(230,.bool false)] _ _ ?_ (by simp (maxSteps:=2000000) only [vup,cond_true,cond_false,Nat.reduceBEq])
 clear hN15
 try clear N15
 refine Ze fun N16 hN16=>?_
 simp (maxSteps:=2000000) only [↓Yi,↓vdn,vup,cond_true,cond_false,Zg,ev,Nat.reduceBEq]
 refine hQ4 _ _ _ (hQ3 _ _ _ ?_)
 simp (maxSteps:=2000000) only [Zg,Zl,if_true]
 refine hZ [(0,Zd (n:Nat)),(4,e4),(5,Zd (m:Nat)),(6,tv),(7,bsV bb m ys),(12,smV bg (n+m+1)),(14,Zd (e:Nat)),(15,Zd (o:Nat)),(205,.bool false),(230,.bool false)] _ _ ?_ (by simp (maxSteps:=2000000) only [vup,cond_true,cond_false,Nat.reduceBEq])
 clear hZ
 try clear Z
 clear hQ3 hQ4
 refine Zj ?_
 simp (maxSteps:=2000000) only [↓Za,↓Zb,↓Zc,vup,List.map_cons,List.map_nil,cond_true,cond_false,aop,ev,sput,Zf,Nat.reduceBEq,M.idx ho,M.ld ho,Yz,List.nil_append,List.append_nil]
 refine (smclear_call M.gn rowo (fun h=>M.rg o ho h.symm) he (by omega) (fun j hj=>smG j (by omega)) (fun j hj=>smT' o j ho (by omega))).mono ?_
 rintro _ x1 ⟨hr,hEr⟩
 refine hN0 _ _ ((M.setG hr hEr).congr (fun k j hk _=>?_) (fun j _=>?_) (fun _ _=>rfl)) (by simp (maxSteps:=2000000) only [vup,cond_true,cond_false,Nat.reduceBEq])
 · simp only [clrT]
   by_cases hko:k=o
   · rw [if_pos hko,hko]
   · rw [if_neg hko,if_pos hk]
 · rw [Bq.piv_own]; rfl
end Go.Proofs.Tryd.Am
namespace Go.Proofs.Tryd.Am
open Go.Am Sr
set_option maxRecDepth 100000
set_option maxHeartbeats 8000000
theorem sml_neg1:Bq.Sml (-1):=⟨by decide,by decide⟩
theorem qV_neg1:qV (-1) = .agg #[Zd (-1),Zd 1]:=rfl
theorem sm_loop [Tabs prog] {H z:Zh} {n m k b4:Nat} {tv:Value} {bt bb bg:Nat} {ys:List Int} {rb:Nat→Nat} {sets:List Nat} {s:Bq.Tb} (M:TM H z n m tv bt bb bg ys rb s.t s.g s.base) (G:Bq.Good m (n+m) (Bq.smA n m sets) (Bq.smC n) s) (hk:Bq.Stops m (n+m) k s) (h6:n≤6) (hW:n+m<1099511627775) (hm:sets.length=m)
  (hc : ∀ i,i<n→∃ c∈sets,c.testBit i=true) (h4:H[b4]? = some z0) {Q:Value→Zh→Prop} (hQ0 : ∀ q z',Bq.IsOpt n sets q→Ext (fun i=>i=b4) H z'→Q (qV q) z') :
  AWS prog 253 (.block 6 (.loop l67_7)) (Zu prog [.cell 4 44] Q) [(0,Zd (n:Nat)),(4,pT b4),(5,Zd (m:Nat)),(6,tv),(7,bsV bb m ys),(12,smV bg (n+m+1))] z:=by
 have hnm:addV .i64 (n:Int) (m:Int)=((n+m:Nat):Int):=by rw [Wf (by omega) (by omega)]; omega
 have h4l:=Zz h4
 refine Zo ?_
 refine Zm fun Q1 hQ1=>?_
 refine Yl (γ:=Bq.Tb×Nat×Zh) (fun q=>Bq.Good m (n+m) (Bq.smA n m sets) (Bq.smC n) q.1∧Bq.Stops m (n+m) q.2.1 q.1∧TM H q.2.2 n m tv bt bb bg ys rb q.1.t q.1.g q.1.base)
  (fun q=>([(0,Zd (n:Nat)),(4,pT b4),(5,Zd (m:Nat)),(6,tv),(7,bsV bb m ys),(12,smV bg (n+m+1))],q.2.2)) (fun q=>q.2.1) (s,k,z) ⟨G,hk,M⟩ (by simp (maxSteps:=2000000) only [vup,cond_true,cond_false,Nat.reduceBEq]) rfl ?_
 clear M G hk
 rintro ⟨s,k,z⟩ ⟨G,hk,M⟩
 simp only at G hk M
 refine Zm fun Q2 hQ2=>?_
 simp only [l67_7]
 refine Zo ?_
 obtain ⟨smT,smG⟩:=G.sml h6
 refine Ze fun N1 hN1=>?_
 simp (maxSteps:=2000000) only [↓Za,↓Zb,↓Zc,vup,cond_false,aop,Zg,ev,sput,Zf,Nat.reduceBEq]
 refine hN1 [(0,Zd (n:Nat)),(4,pT b4),(5,Zd (m:Nat)),(6,tv),(7,bsV bb m ys),(12,smV bg (n+m+1)),(14,.int .i64 0)] _ _ ?_ (by simp (maxSteps:=2000000) only [vup,cond_true,cond_false,Nat.reduceBEq])
 clear hN1
 try clear N1
 refine Zk fun M1 hM1=>?_
 refine sm_in M.gn (by omega) fun e' c hcn hl hx he=>hM1 [(0,Zd (n:Nat)),(4,pT b4),(5,Zd (m:Nat)),(6,tv),(7,bsV bb m ys),(12,smV bg (n+m+1)),(14,Zd (c:Nat))] _ _ ?_ he
 clear hM1
 refine Zk fun A hA=>?_
 by_cases hend:c=n+m
 · have h1:((c:Int)==((n+m:Nat):Int))=true:=by rw [hend]; exact beq_self_eq_true _
   refine Ze fun N2 hN2=>?_
   simp (maxSteps:=2000000) only [↓Za,↓Zb,↓Zc,vup,cond_true,cond_false,aop,Zg,ev,sput,Zf,Zv,Zx,Nat.reduceBEq,hnm,h1]
   refine hN2 [(0,Zd (n:Nat)),(4,pT b4),(5,Zd (m:Nat)),(6,tv),(7,bsV bb m ys),(12,smV bg (n+m+1)),(14,Zd (c:Nat)),(126,.bool true)] _ _ ?_ (by simp (maxSteps:=2000000) only [vup,cond_true,cond_false,Nat.reduceBEq])
   clear hN2
   try clear N2
   refine Yx rfl ?_
   have hz4:z[b4]? = some z0:=(M.ext.2 _ h4l id).trans h4
   have ht:=smtimes (h:=z) sml_neg1 (smG (n+m) (Nat.le_refl _))
   rw [qV_neg1] at ht
   have hopt:=G.opt hm (fun j hj=>hl j (by omega))
   rw [show -1*s.g (n+m) = - s.g (n+m) by grind] at ht
   generalize-s.g (n+m)=q at ht hopt
   refine Zj ?_
   simp (maxSteps:=2000000) only [↓Za,↓Zp,↓Ya,↓Zb,↓Zc,vup,List.map_cons,List.map_nil,cond_true,cond_false,aop,Zg,Zl,ev,sput,Zf,Zv,Zx,Nat.reduceBEq,hnm,bldF,smIdx M.gn (show n+m<n+m+1 by omega),smLoad M.gn (show n+m<n+m+1 by omega),Yz,List.nil_append,List.append_nil]
   refine ht.mono ?_
   rintro _ z ⟨rfl,rfl⟩
   simp (maxSteps:=2000000) only [qV,frV,Wy hz4 rfl]
   refine hQ2 _ _ _ (hQ1 _ _ _ ?_)
   simp (maxSteps:=2000000) only [vup,cond_true,cond_false,Zl,Nat.reduceBEq,Zu,Xu,tup,Vj (Xj (Zz hz4) _)]
   refine hQ0 q _ hopt ⟨by rw [List.length_set]; exact M.ext.1,fun i hi hne=>?_⟩
   rw [List.getElem?_set_ne (Ne.symm hne)]
   exact M.ext.2 i hi id
 · have h1:((c:Int)==((n+m:Nat):Int))=false:=by rw [beq_eq_false_iff_ne]; omega
   have hgc:0<s.g c:=hx.resolve_left hend
   have hcN:c<n+m:=by omega
   refine Ze fun N3 hN3=>?_
   simp (maxSteps:=2000000) only [↓Za,↓Zb,↓Zc,vup,cond_true,cond_false,aop,Zg,ev,sput,Zf,Zv,Zx,Nat.reduceBEq,hnm,h1]
   refine hN3 [(0,Zd (n:Nat)),(4,pT b4),(5,Zd (m:Nat)),(6,tv),(7,bsV bb m ys),(12,smV bg (n+m+1)),(14,Zd (c:Nat)),(126,.bool false)] _ _ ?_ (by simp (maxSteps:=2000000) only [vup,cond_true,cond_false,Nat.reduceBEq])
   clear hN3
   try clear N3
   refine Yg rfl ?_
   refine Zj ?_
   simp (maxSteps:=2000000) only [↓Zn,Zg]
   refine hA [(0,Zd (n:Nat)),(4,pT b4),(5,Zd (m:Nat)),(6,tv),(7,bsV bb m ys),(12,smV bg (n+m+1)),(14,Zd (c:Nat))] _ _ ?_ (by simp (maxSteps:=2000000) only [vup,cond_true,cond_false,Nat.reduceBEq])
   clear hA
   try clear A
   refine Ze fun N4 hN4=>?_
   simp (maxSteps:=2000000) only [↓Za,↓Zb,↓Zc,vup,cond_false,aop,Zg,ev,sput,Zf,Nat.reduceBEq]
   refine hN4 [(0,Zd (n:Nat)),(4,pT b4),(5,Zd (m:Nat)),(6,tv),(7,bsV bb m ys),(12,smV bg (n+m+1)),(14,Zd (c:Nat)),(15,.int .i64 (-1))] _ _ ?_ (by simp (maxSteps:=2000000) only [vup,cond_true,cond_false,Nat.reduceBEq])
   clear hN4
   try clear N4
   refine Ze fun N5 hN5=>?_
   simp (maxSteps:=2000000) only [↓Za,↓Zb,↓Zc,vup,cond_false,aop,Zg,sput,Zf,Nat.reduceBEq,tyf,Xv,Xc]
   have hE1:Ext (fun _=>False) z (z++[z0]):=Ext.app _ _ _
   have c16:=Yp z z0
   refine hN5 [(0,Zd (n:Nat)),(4,pT b4),(5,Zd (m:Nat)),(6,tv),(7,bsV bb m ys),(12,smV bg (n+m+1)),(14,Zd (c:Nat)),(15,.int .i64 (-1)),(16,pT z.length)] _ _ ?_ (by simp (maxSteps:=2000000) only [vup,cond_true,cond_false,Nat.reduceBEq])
   clear hN5
   try clear N5
   refine Zk fun Z hZ=>?_
   refine sm_out M smT hcN (by omega) (Nat.le_refl _) hE1 c16 fun e' y o hE hbest he=>?_
   have hio : ∃ o',o=some o':=by
    cases o with
    | some o'=>exact ⟨o',rfl⟩
    | none =>
      obtain ⟨i,hi,hp⟩:=G.stop hm hc hcN
      have:=hbest i hi
      grind
   obtain ⟨o,rfl⟩:=hio
   obtain ⟨b1,b2,b3⟩:=hbest
   have T:Bq.Turn m (n+m) s c o:=⟨hcN,hgc,hl,b1,b2,b3⟩
   refine hZ [(0,Zd (n:Nat)),(4,pT b4),(5,Zd (m:Nat)),(6,tv),(7,bsV bb m ys),(12,smV bg (n+m+1)),(14,Zd (c:Nat)),(15,Zd (o:Nat))] _ _ ?_ he
   refine sm_turn (M.more hE) G T h6 hW fun e' y M' he=>?_
   cases k with
   | zero=>exact absurd T (hk c o)
   | succ k=>exact hQ2 _ _ _ ⟨(Bq.piv s o c,k,y),⟨G.piv T,hk c o T,M'⟩,by simp only; omega,he,rfl⟩
end Go.Proofs.Tryd.Am
namespace Go.Proofs.Tryd.Am
open Go.Am Sr
set_option maxRecDepth 100000
set_option maxHeartbeats 8000000
def pL (f:Nat→Rat) (j W:Nat):List (Int×Int):=(List.range j).map (fun k=>smF (f k))++List.replicate (W-j) (0,0)
abbrev pB (ps:List (Int×Int)):Blk:=.cells ((Yv ps).map Zd) 44 false
section
variable {f:Nat→Rat} {j W:Nat}
theorem pL_len (h:j≤W):(pL f j W).length=W:=by simp [pL]; omega
theorem pL_zero:pL f 0 W=List.replicate W (0,0):=by simp [pL]
theorem pL_all:pL f W W=smR f W:=by simp [pL,smR]
theorem pL_set (h:j<W):(pL f j W).set j (smF (f j))=pL f (j+1) W:=by
 unfold pL
 rw [List.set_append_right _ _ (by simp),List.length_map,List.length_range,Nat.sub_self,List.range_succ,List.map_append,List.append_assoc]
 congr 1
 obtain ⟨k,hk⟩ : ∃ k,W-j=k+1:=⟨W-j-1,by omega⟩
 rw [hk,show W-(j+1)=k by omega,List.replicate_succ]
 rfl
end
theorem flat_num {ps:List (Int×Int)} {j:Nat} (hj:j<ps.length) (a b x:Int):((Yv (ps.set j (a,b))).map Zd).set (j*2) (Zd x)=(Yv (ps.set j (x,b))).map Zd:=by
 have hl:=Xx ps
 rw [flatP_set ps j a b hj,flatP_set ps j x b hj,splice_map,splice_map]
 simp only [Yh,List.map_cons,List.map_nil,List.append_assoc]
 rw [List.set_append_right _ _ (by simp; omega)]
 have e:j*2-(((Yv ps).map Zd).take (j*2)).length=0:=by simp; omega
 rw [e]; rfl
theorem sm_row [Tabs prog] {z:Zh} {n m i br s:Nat} {e1 e4 e6 e7 e24 e25 e26:Value} {sets:List Nat} (hi:i<m) (hsi:s=sets.getD i 0) (hs:s<9223372036854775808) (hW:n+m<1099511627775) (hn:n≤62) (hb:z[br]? = some (pB (List.replicate (n+m+1) (0,0)))) {N:Env→Zh→Prop} {Q0:Exit→Env→Zh→Prop}
  (hN0 : ∀ e,ELe e [(0,Zd (n:Nat)),(1,e1),(4,e4),(5,Zd (m:Nat)),(6,e6),(7,e7),(8,Zd (i:Nat)),(10,smV br (n+m+1)),(24,e24),(25,e25),(26,e26)]→N e (z.set br (smB (Bq.smA n m sets i) (n+m+1)))) :
  AWS prog 253 (.seq q67_8 (.block 2 (.loop l67_0))) (Zg N Q0) [(0,Zd (n:Nat)),(1,e1),(4,e4),(5,Zd (m:Nat)),(6,e6),(7,e7),(8,Zd (i:Nat)),(9,Zd (s:Nat)),(10,smV br (n+m+1)),(24,e24),(25,e25),(26,e26)] z:=by
 have hnn : ∀ k:Nat,(0:Int)≤(k:Int):=Int.natCast_nonneg
 have hnm:addV .i64 (n:Int) (m:Int)=((n+m:Nat):Int):=by rw [Wf (by omega) (by omega)]; omega
 have hni:addV .i64 (n:Int) (i:Int)=((n+i:Nat):Int):=by rw [Wf (by omega) (by omega)]; omega
 have hbl:=Zz hb
 have slice : ∀ (y:Zh) (ps:List (Int×Int)),ps.length=n+m+1→y[br]? = some (pB ps)→PairSl y (smV br (n+m+1)) ps:=fun y ps hl hy=>by
  have:=pairSl_cells hy
  rwa [hl] at this
 have hl0:=(slice z _ (by simp) hb).len
 rw [List.length_replicate] at hl0
 refine Ze fun N1 hN1=>?_
 simp (maxSteps:=2000000) only [↓Za,↓Zb,↓Zc,vup,List.map_cons,List.map_nil,cond_true,cond_false,aop,Zg,ev,sput,Zf,Zi,Nat.reduceBEq,tyf,hl0]
 refine hN1 [(0,Zd (n:Nat)),(1,e1),(4,e4),(5,Zd (m:Nat)),(6,e6),(7,e7),(8,Zd (i:Nat)),(9,Zd (s:Nat)),(10,smV br (n+m+1)),(24,e24),(25,e25),(26,e26),(36,smV br (n+m+1)),(37,Zd ((n+m+1:Nat):Int)),(38,.int .i64 0)] _ _ ?_ (by simp (maxSteps:=2000000) only [vup,cond_true,cond_false,Nat.reduceBEq])
 clear hN1
 try clear N1
 refine Zo ?_
 refine Zm fun Q hQ=>?_
 refine Yl (γ:=Nat) (fun j=>j≤n+m+1)
  (fun j=>([(0,Zd (n:Nat)),(1,e1),(4,e4),(5,Zd (m:Nat)),(6,e6),(7,e7),(8,Zd (i:Nat)),(9,Zd (s:Nat)),(10,smV br (n+m+1)),(24,e24),(25,e25),(26,e26),(36,smV br (n+m+1)),(37,Zd ((n+m+1:Nat):Int)),(38,Zd (j:Nat))],z.set br (pB (pL (Bq.smA n m sets i) j (n+m+1))))) (fun j=>n+m+1-j) 0 (Nat.zero_le _) (by simp (maxSteps:=2000000) only [vup,cond_true,cond_false,Nat.reduceBEq,Int.natCast_zero]) (by
   rw [pL_zero]
   apply List.ext_getElem?
   intro q
   by_cases hq:br=q
   · rw [← hq,List.getElem?_set_self hbl]; exact hb
   · rw [List.getElem?_set_ne hq]) ?_
 intro j hj
 refine Zm fun Q2 hQ2=>?_
 simp only [l67_0]
 obtain ⟨y,hy⟩ : ∃ y,y=z.set br (pB (pL (Bq.smA n m sets i) j (n+m+1))):=⟨_,rfl⟩
 rw [← hy]
 have yb:y[br]? = some (pB (pL (Bq.smA n m sets i) j (n+m+1))):=by rw [hy]; exact Xj hbl _
 have hpl:=pL_len (f:=Bq.smA n m sets i) hj
 by_cases hjn:(j:Int)<((n+m+1:Nat):Int)
 · have hj' : j<n+m+1:=by omega
   have hjp:j<(pL (Bq.smA n m sets i) j (n+m+1)).length:=by rw [hpl]; exact hj'
   refine Ze fun N2 hN2=>?_
   simp (maxSteps:=2000000) only [↓Za,↓Zb,↓Zc,vup,cond_true,cond_false,aop,Zg,ev,sput,Zf,Zv,Zx,Nat.reduceBEq,hjn]
   refine hN2 [(0,Zd (n:Nat)),(1,e1),(4,e4),(5,Zd (m:Nat)),(6,e6),(7,e7),(8,Zd (i:Nat)),(9,Zd (s:Nat)),(10,smV br (n+m+1)),(24,e24),(25,e25),(26,e26),(36,smV br (n+m+1)),(37,Zd ((n+m+1:Nat):Int)),(38,Zd (j:Nat)),(39,.bool true)] _ _ ?_ (by simp (maxSteps:=2000000) only [vup,cond_true,cond_false,Nat.reduceBEq])
   clear hN2
   try clear N2
   refine Ze fun N3 hN3=>?_
   simp (maxSteps:=2000000) only [↓Zn,↓vdn,vup,cond_true,cond_false,Zg,ev,Nat.reduceBEq]
   refine hN3 [(0,Zd (n:Nat)),(1,e1),(4,e4),(5,Zd (m:Nat)),(6,e6),(7,e7),(8,Zd (i:Nat)),(9,Zd (s:Nat)),(10,smV br (n+m+1)),(24,e24),(25,e25),(26,e26),(36,smV br (n+m+1)),(37,Zd ((n+m+1:Nat):Int)),(38,Zd (j:Nat))] _ _ ?_ (by simp (maxSteps:=2000000) only [vup,cond_true,cond_false,Nat.reduceBEq])
   clear hN3
   try clear N3
   refine Zk fun B hB=>?_
   refine Zo ?_
   refine Ze fun N4 hN4=>?_
   simp (maxSteps:=2000000) only [↓Za,↓Zb,↓Zc,vup,cond_true,cond_false,aop,Zg,ev,sput,Zf,Nat.reduceBEq]
   refine hN4 [(0,Zd (n:Nat)),(1,e1),(4,e4),(5,Zd (m:Nat)),(6,e6),(7,e7),(8,Zd (i:Nat)),(9,Zd (s:Nat)),(10,smV br (n+m+1)),(11,Zd (j:Nat)),(24,e24),(25,e25),(26,e26),(36,smV br (n+m+1)),(37,Zd ((n+m+1:Nat):Int)),(38,Zd (j:Nat))] _ _ ?_ (by simp (maxSteps:=2000000) only [vup,cond_true,cond_false,Nat.reduceBEq])
   clear hN4
   try clear N4
   have bld1 : ∀ K:Value→Prop,Va prog 44 [(1,.int .i64 1)] K=K (.agg #[Zd 0,Zd 1]):=fun K=>by
    simp [Va,zero_44,fillL,pl_44_1,Wl,cellsOf,Yh]
   refine Ze fun N5 hN5=>?_
   simp (maxSteps:=2000000) only [↓Za,↓Zb,↓Zc,vup,List.map_cons,List.map_nil,cond_true,cond_false,aop,Zg,ev,sput,Zf,Nat.reduceBEq,bld1,(slice y _ hpl yb).idx el_50 esz_44 hjp,elemP_pair,storePC yb shp_44 hjp]
   obtain ⟨y1,hy1⟩ : ∃ y1,y1=y.set br (pB ((pL (Bq.smA n m sets i) j (n+m+1)).set j (0,1))):=⟨_,rfl⟩
   rw [← hy1]
   have yb1:y1[br]? = some (pB ((pL (Bq.smA n m sets i) j (n+m+1)).set j (0,1))):=by rw [hy1]; exact Xj (Zz yb) _
   refine hN5 [(0,Zd (n:Nat)),(1,e1),(4,e4),(5,Zd (m:Nat)),(6,e6),(7,e7),(8,Zd (i:Nat)),(9,Zd (s:Nat)),(10,smV br (n+m+1)),(11,Zd (j:Nat)),(24,e24),(25,e25),(26,e26),(36,smV br (n+m+1)),(37,Zd ((n+m+1:Nat):Int)),(38,Zd (j:Nat))] _ _ ?_ (by simp (maxSteps:=2000000) only [vup,cond_true,cond_false,Nat.reduceBEq])
   clear hN5
   try clear N5
   have hpl1:((pL (Bq.smA n m sets i) j (n+m+1)).set j ((0:Int),(1:Int))).length=n+m+1:=by rw [List.length_set]; exact hpl
   have fin : ∀ (b:Bool),Bq.smA n m sets i j=(if b=true then 1 else 0)→AWS prog 253 (.cond (.tmp 68) q67_13 .skip) (Zl 3 (Zg B Q2)) [(0,Zd (n:Nat)),(1,e1),(4,e4),(5,Zd (m:Nat)),(6,e6),(7,e7),(8,Zd (i:Nat)),(9,Zd (s:Nat)),(10,smV br (n+m+1)),(11,Zd (j:Nat)),(24,e24),(25,e25),(26,e26),(36,smV br (n+m+1)),(37,Zd ((n+m+1:Nat):Int)),(38,Zd (j:Nat)),(68,.bool b)] y1:=by
    intro b hb2
    cases b with
    | false =>
      refine Yg rfl ?_
      refine Zj ?_
      simp (maxSteps:=2000000) only [↓Zn,Zg,Zl]
      refine hB [(0,Zd (n:Nat)),(1,e1),(4,e4),(5,Zd (m:Nat)),(6,e6),(7,e7),(8,Zd (i:Nat)),(9,Zd (s:Nat)),(10,smV br (n+m+1)),(24,e24),(25,e25),(26,e26),(36,smV br (n+m+1)),(37,Zd ((n+m+1:Nat):Int)),(38,Zd (j:Nat))] _ _ ?_ (by simp (maxSteps:=2000000) only [vup,cond_true,cond_false,Nat.reduceBEq])
      clear hB
      try clear B
      refine Zj ?_
      simp (maxSteps:=2000000) only [↓Za,↓Zb,↓Zc,vup,cond_true,cond_false,aop,ev,sput,Zf,Zv,Zx,Nat.reduceBEq,Wx (show j<9223372036854775807 by omega)]
      refine hQ2 _ _ _ ⟨j+1,hj',by omega,by simp (maxSteps:=2000000) only [vup,cond_true,cond_false,Nat.reduceBEq],?_⟩
      rw [hy1,hy,List.set_set,← pL_set hj',hb2]; rfl
    | true =>
      refine Yx rfl ?_
      refine Zj ?_
      simp (maxSteps:=2000000) only [↓Za,↓Zb,↓Zc,vup,cond_true,cond_false,aop,Zg,Zl,ev,sput,Zf,Nat.reduceBEq,(slice y1 _ hpl1 yb1).idx el_50 esz_44 (show j<_ by rw [hpl1]; exact hj'),elemP_pair,smFld0,storeC yb1 Xf (show one (Zd 1)=true from rfl) (show j*2<_ by rw [List.length_map,Xx,hpl1]; omega),flat_num hjp]
      refine hB [(0,Zd (n:Nat)),(1,e1),(4,e4),(5,Zd (m:Nat)),(6,e6),(7,e7),(8,Zd (i:Nat)),(9,Zd (s:Nat)),(10,smV br (n+m+1)),(24,e24),(25,e25),(26,e26),(36,smV br (n+m+1)),(37,Zd ((n+m+1:Nat):Int)),(38,Zd (j:Nat))] _ _ ?_ (by simp (maxSteps:=2000000) only [vup,cond_true,cond_false,Nat.reduceBEq])
      clear hB
      try clear B
      refine Zj ?_
      simp (maxSteps:=2000000) only [↓Za,↓Zb,↓Zc,vup,cond_true,cond_false,aop,ev,sput,Zf,Zv,Zx,Nat.reduceBEq,Wx (show j<9223372036854775807 by omega)]
      refine hQ2 _ _ _ ⟨j+1,hj',by omega,by simp (maxSteps:=2000000) only [vup,cond_true,cond_false,Nat.reduceBEq],?_⟩
      rw [hy1,hy,List.set_set,List.set_set,← pL_set hj',hb2]; rfl
   refine Ze fun N6 hN6=>?_
   simp only [q67_12]
   by_cases hjlt:j<n
   · have h1:decide ((j:Int)<(n:Int))=true:=decide_eq_true (by omega)
     have h2:((j:Int)==((n+i:Nat):Int))=false:=by rw [beq_eq_false_iff_ne]; omega
     have h3:((j:Int)==((n+m:Nat):Int))=false:=by rw [beq_eq_false_iff_ne]; omega
     have hA:Bq.smA n m sets i j=(if s.testBit j=true then 1 else 0):=by rw [Bq.smA_lo hjlt,← hsi]; rfl
     cases hb:s.testBit j with
     | true =>
       rw [hb] at hA
       refine Xw 10 fun N1 hN1=>?_
       simp (maxSteps:=2000000) only [↓Za,↓Zb,↓Zc,↓vdn,vup,cond_true,cond_false,aop,ev,sput,Zf,Zv,Zx,Nat.reduceBEq,List.take_succ_cons,List.take_zero,h1,hnn,testV hs,hb,if_true,show ((1:Int)==1)=true from rfl]
       refine hN1 _ _ ?_
       clear hN1 N1
       simp only [List.drop_succ_cons,List.drop_zero]
       simp (maxSteps:=2000000) only [↓Za,↓Zb,↓Zc,↓vdn,vup,cond_true,cond_false,aop,Zg,ev,sput,Zf,Nat.reduceBEq]
       refine hN6 [(0,Zd (n:Nat)),(1,e1),(4,e4),(5,Zd (m:Nat)),(6,e6),(7,e7),(8,Zd (i:Nat)),(9,Zd (s:Nat)),(10,smV br (n+m+1)),(11,Zd (j:Nat)),(24,e24),(25,e25),(26,e26),(36,smV br (n+m+1)),(37,Zd ((n+m+1:Nat):Int)),(38,Zd (j:Nat)),(68,.bool true)] _ _ ?_ (by simp (maxSteps:=2000000) only [vup,cond_true,cond_false,Nat.reduceBEq])
       clear hN6
       try clear N6
       exact fin true hA
     | false =>
       rw [hb] at hA
       refine Xw 10 fun N1 hN1=>?_
       simp (maxSteps:=2000000) only [↓Za,↓Zb,↓Zc,↓vdn,vup,cond_true,cond_false,aop,ev,sput,Zf,Zv,Zx,Nat.reduceBEq,List.take_succ_cons,List.take_zero,h1,hnn,testV hs,hb,Bool.false_eq_true,if_false,show ((0:Int)==1)=false from rfl]
       refine hN1 _ _ ?_
       clear hN1 N1
       simp only [List.drop_succ_cons,List.drop_zero]
       refine Xw 7 fun N1 hN1=>?_
       simp (maxSteps:=2000000) only [↓Za,↓Zb,↓Zc,↓vdn,vup,cond_true,cond_false,aop,ev,sput,Zf,Zv,Zx,Nat.reduceBEq,List.take_succ_cons,List.take_zero,hni,h2]
       refine hN1 _ _ ?_
       clear hN1 N1
       simp only [List.drop_succ_cons,List.drop_zero]
       simp (maxSteps:=2000000) only [↓Za,↓Zb,↓Zc,↓vdn,vup,cond_true,cond_false,aop,Zg,ev,sput,Zf,Zv,Zx,Nat.reduceBEq,hnm,h3]
       refine hN6 [(0,Zd (n:Nat)),(1,e1),(4,e4),(5,Zd (m:Nat)),(6,e6),(7,e7),(8,Zd (i:Nat)),(9,Zd (s:Nat)),(10,smV br (n+m+1)),(11,Zd (j:Nat)),(24,e24),(25,e25),(26,e26),(36,smV br (n+m+1)),(37,Zd ((n+m+1:Nat):Int)),(38,Zd (j:Nat)),(68,.bool false)] _ _ ?_ (by simp (maxSteps:=2000000) only [vup,cond_true,cond_false,Nat.reduceBEq])
       clear hN6
       try clear N6
       exact fin false hA
   · have h1:decide ((j:Int)<(n:Int))=false:=decide_eq_false (by omega)
     by_cases hji:j=n+i
     · have h2:((j:Int)==((n+i:Nat):Int))=true:=by rw [hji]; exact beq_self_eq_true _
       refine Xw 10 fun N1 hN1=>?_
       simp (maxSteps:=2000000) only [↓Za,↓Zb,↓Zc,↓vdn,vup,cond_true,cond_false,aop,ev,sput,Zf,Zv,Zx,Nat.reduceBEq,List.take_succ_cons,List.take_zero,h1]
       refine hN1 _ _ ?_
       clear hN1 N1
       simp only [List.drop_succ_cons,List.drop_zero]
       refine Xw 7 fun N1 hN1=>?_
       simp (maxSteps:=2000000) only [↓Za,↓Zb,↓Zc,↓vdn,vup,cond_true,cond_false,aop,ev,sput,Zf,Zv,Zx,Nat.reduceBEq,List.take_succ_cons,List.take_zero,hni,h2]
       refine hN1 _ _ ?_
       clear hN1 N1
       simp only [List.drop_succ_cons,List.drop_zero]
       simp (maxSteps:=2000000) only [↓Za,↓Zb,↓Zc,↓vdn,vup,cond_true,cond_false,aop,Zg,ev,sput,Zf,Nat.reduceBEq]
       refine hN6 [(0,Zd (n:Nat)),(1,e1),(4,e4),(5,Zd (m:Nat)),(6,e6),(7,e7),(8,Zd (i:Nat)),(9,Zd (s:Nat)),(10,smV br (n+m+1)),(11,Zd (j:Nat)),(24,e24),(25,e25),(26,e26),(36,smV br (n+m+1)),(37,Zd ((n+m+1:Nat):Int)),(38,Zd (j:Nat)),(68,.bool true)] _ _ ?_ (by simp (maxSteps:=2000000) only [vup,cond_true,cond_false,Nat.reduceBEq])
       clear hN6
       try clear N6
       exact fin true (by rw [hji,Bq.smA_mid hi,if_pos rfl,if_pos rfl])
     · have h2:((j:Int)==((n+i:Nat):Int))=false:=by rw [beq_eq_false_iff_ne]; omega
       by_cases hjm:j=n+m
       · have h3:((j:Int)==((n+m:Nat):Int))=true:=by rw [hjm]; exact beq_self_eq_true _
         refine Xw 10 fun N1 hN1=>?_
         simp (maxSteps:=2000000) only [↓Za,↓Zb,↓Zc,↓vdn,vup,cond_true,cond_false,aop,ev,sput,Zf,Zv,Zx,Nat.reduceBEq,List.take_succ_cons,List.take_zero,h1]
         refine hN1 _ _ ?_
         clear hN1 N1
         simp only [List.drop_succ_cons,List.drop_zero]
         refine Xw 7 fun N1 hN1=>?_
         simp (maxSteps:=2000000) only [↓Za,↓Zb,↓Zc,↓vdn,vup,cond_true,cond_false,aop,ev,sput,Zf,Zv,Zx,Nat.reduceBEq,List.take_succ_cons,List.take_zero,hni,h2]
         refine hN1 _ _ ?_
         clear hN1 N1
         simp only [List.drop_succ_cons,List.drop_zero]
         simp (maxSteps:=2000000) only [↓Za,↓Zb,↓Zc,↓vdn,vup,cond_true,cond_false,aop,Zg,ev,sput,Zf,Zv,Zx,Nat.reduceBEq,hnm,h3]
         refine hN6 [(0,Zd (n:Nat)),(1,e1),(4,e4),(5,Zd (m:Nat)),(6,e6),(7,e7),(8,Zd (i:Nat)),(9,Zd (s:Nat)),(10,smV br (n+m+1)),(11,Zd (j:Nat)),(24,e24),(25,e25),(26,e26),(36,smV br (n+m+1)),(37,Zd ((n+m+1:Nat):Int)),(38,Zd (j:Nat)),(68,.bool true)] _ _ ?_ (by simp (maxSteps:=2000000) only [vup,cond_true,cond_false,Nat.reduceBEq])
         clear hN6
         try clear N6
         exact fin true (by rw [hjm,Bq.smA_end,if_pos rfl])
       · have h3:((j:Int)==((n+m:Nat):Int))=false:=by rw [beq_eq_false_iff_ne]; omega
         refine Xw 10 fun N1 hN1=>?_
         simp (maxSteps:=2000000) only [↓Za,↓Zb,↓Zc,↓vdn,vup,cond_true,cond_false,aop,ev,sput,Zf,Zv,Zx,Nat.reduceBEq,List.take_succ_cons,List.take_zero,h1]
         refine hN1 _ _ ?_
         clear hN1 N1
         simp only [List.drop_succ_cons,List.drop_zero]
         refine Xw 7 fun N1 hN1=>?_
         simp (maxSteps:=2000000) only [↓Za,↓Zb,↓Zc,↓vdn,vup,cond_true,cond_false,aop,ev,sput,Zf,Zv,Zx,Nat.reduceBEq,List.take_succ_cons,List.take_zero,hni,h2]
         refine hN1 _ _ ?_
         clear hN1 N1
         simp only [List.drop_succ_cons,List.drop_zero]
         simp (maxSteps:=2000000) only [↓Za,↓Zb,↓Zc,↓vdn,vup,cond_true,cond_false,aop,Zg,ev,sput,Zf,Zv,Zx,Nat.reduceBEq,hnm,h3]
         refine hN6 [(0,Zd (n:Nat)),(1,e1),(4,e4),(5,Zd (m:Nat)),(6,e6),(7,e7),(8,Zd (i:Nat)),(9,Zd (s:Nat)),(10,smV br (n+m+1)),(11,Zd (j:Nat)),(24,e24),(25,e25),(26,e26),(36,smV br (n+m+1)),(37,Zd ((n+m+1:Nat):Int)),(38,Zd (j:Nat)),(68,.bool false)] _ _ ?_ (by simp (maxSteps:=2000000) only [vup,cond_true,cond_false,Nat.reduceBEq])
         clear hN6
         try clear N6
         refine fin false ?_
         obtain ⟨r,rfl⟩ : ∃ r,j=n+r:=⟨j-n,by omega⟩
         rw [Bq.smA_mid (by omega),if_neg (by omega),if_neg (by decide)]
 · obtain rfl:j=n+m+1:=by omega
   refine Ze fun N7 hN7=>?_
   simp (maxSteps:=2000000) only [↓Za,↓Zb,↓Zc,vup,cond_true,cond_false,aop,Zg,ev,sput,Zf,Zv,Zx,Nat.reduceBEq,hjn]
   refine hN7 [(0,Zd (n:Nat)),(1,e1),(4,e4),(5,Zd (m:Nat)),(6,e6),(7,e7),(8,Zd (i:Nat)),(9,Zd (s:Nat)),(10,smV br (n+m+1)),(24,e24),(25,e25),(26,e26),(36,smV br (n+m+1)),(37,Zd ((n+m+1:Nat):Int)),(38,Zd ((n+m+1:Nat):Int)),(39,.bool false)] _ _ ?_ (by simp (maxSteps:=2000000) only [vup,cond_true,cond_false,Nat.reduceBEq])
   clear hN7
   try clear N7
   refine Ze fun N8 hN8=>?_
   simp (maxSteps:=2000000) only [↓Yi,↓vdn,vup,cond_true,cond_false,Zg,ev,Nat.reduceBEq]
   refine hQ2 _ _ _ (hQ _ _ _ ?_)
   simp (maxSteps:=2000000) only [Zg,Zl,if_true]
   rw [hy,pL_all]
   exact hN0 _ (by simp (maxSteps:=2000000) only [vup,cond_true,cond_false,Nat.reduceBEq])
end Go.Proofs.Tryd.Am
namespace Go.Proofs.Tryd.Am
open Go.Am Sr
set_option maxRecDepth 100000
set_option maxHeartbeats 8000000
theorem sm_gain [Tabs prog] {z:Zh} {n m bg:Nat} {e1 e4 e6 e7:Value} (hW:n+m<1099511627775) (hb:z[bg]? = some (pB (List.replicate (n+m+1) (0,0)))) {N:Env→Zh→Prop} {Q0:Exit→Env→Zh→Prop}
  (hN0 : ∀ e,ELe e [(0,Zd (n:Nat)),(1,e1),(4,e4),(5,Zd (m:Nat)),(6,e6),(7,e7),(12,smV bg (n+m+1))]→N e (z.set bg (smB (Bq.smC n) (n+m+1)))) :
  AWS prog 253 (.seq q67_19 (.block 4 (.loop l67_2))) (Zg N Q0) [(0,Zd (n:Nat)),(1,e1),(4,e4),(5,Zd (m:Nat)),(6,e6),(7,e7),(12,smV bg (n+m+1))] z:=by
 have hbl:=Zz hb
 have slice : ∀ (y:Zh) (ps:List (Int×Int)),ps.length=n+m+1→y[bg]? = some (pB ps)→PairSl y (smV bg (n+m+1)) ps:=fun y ps hl hy=>by
  have:=pairSl_cells hy
  rwa [hl] at this
 have hl0:=(slice z _ (by simp) hb).len
 rw [List.length_replicate] at hl0
 refine Ze fun N1 hN1=>?_
 simp (maxSteps:=2000000) only [↓Za,↓Zb,↓Zc,vup,List.map_cons,List.map_nil,cond_true,cond_false,aop,Zg,ev,sput,Zf,Zi,Nat.reduceBEq,tyf,hl0]
 refine hN1 [(0,Zd (n:Nat)),(1,e1),(4,e4),(5,Zd (m:Nat)),(6,e6),(7,e7),(12,smV bg (n+m+1)),(90,smV bg (n+m+1)),(91,Zd ((n+m+1:Nat):Int)),(92,.int .i64 0)] _ _ ?_ (by simp (maxSteps:=2000000) only [vup,cond_true,cond_false,Nat.reduceBEq])
 clear hN1
 try clear N1
 refine Zo ?_
 refine Zm fun Q hQ=>?_
 refine Yl (γ:=Nat) (fun j=>j≤n+m+1)
  (fun j=>([(0,Zd (n:Nat)),(1,e1),(4,e4),(5,Zd (m:Nat)),(6,e6),(7,e7),(12,smV bg (n+m+1)),(90,smV bg (n+m+1)),(91,Zd ((n+m+1:Nat):Int)),(92,Zd (j:Nat))],z.set bg (pB (pL (Bq.smC n) j (n+m+1))))) (fun j=>n+m+1-j) 0 (Nat.zero_le _) (by simp (maxSteps:=2000000) only [vup,cond_true,cond_false,Nat.reduceBEq,Int.natCast_zero]) (by
   rw [pL_zero]
   apply List.ext_getElem?
   intro q
   by_cases hq:bg=q
   · rw [← hq,List.getElem?_set_self hbl]; exact hb
   · rw [List.getElem?_set_ne hq]) ?_
 intro j hj
 refine Zm fun Q2 hQ2=>?_
 simp only [l67_2]
 obtain ⟨y,hy⟩ : ∃ y,y=z.set bg (pB (pL (Bq.smC n) j (n+m+1))):=⟨_,rfl⟩
 rw [← hy]
 have yb:y[bg]? = some (pB (pL (Bq.smC n) j (n+m+1))):=by rw [hy]; exact Xj hbl _
 have hpl:=pL_len (f:=Bq.smC n) hj
 by_cases hjn:(j:Int)<((n+m+1:Nat):Int)
 · have hj' : j<n+m+1:=by omega
   have hjp:j<(pL (Bq.smC n) j (n+m+1)).length:=by rw [hpl]; exact hj'
   refine Ze fun N2 hN2=>?_
   simp (maxSteps:=2000000) only [↓Za,↓Zb,↓Zc,vup,cond_true,cond_false,aop,Zg,ev,sput,Zf,Zv,Zx,Nat.reduceBEq,hjn]
   refine hN2 [(0,Zd (n:Nat)),(1,e1),(4,e4),(5,Zd (m:Nat)),(6,e6),(7,e7),(12,smV bg (n+m+1)),(90,smV bg (n+m+1)),(91,Zd ((n+m+1:Nat):Int)),(92,Zd (j:Nat)),(93,.bool true)] _ _ ?_ (by simp (maxSteps:=2000000) only [vup,cond_true,cond_false,Nat.reduceBEq])
   clear hN2
   try clear N2
   refine Ze fun N3 hN3=>?_
   simp (maxSteps:=2000000) only [↓Zn,↓vdn,vup,cond_true,cond_false,Zg,ev,Nat.reduceBEq]
   refine hN3 [(0,Zd (n:Nat)),(1,e1),(4,e4),(5,Zd (m:Nat)),(6,e6),(7,e7),(12,smV bg (n+m+1)),(90,smV bg (n+m+1)),(91,Zd ((n+m+1:Nat):Int)),(92,Zd (j:Nat))] _ _ ?_ (by simp (maxSteps:=2000000) only [vup,cond_true,cond_false,Nat.reduceBEq])
   clear hN3
   try clear N3
   refine Zk fun B hB=>?_
   refine Zo ?_
   refine Ze fun N4 hN4=>?_
   simp (maxSteps:=2000000) only [↓Za,↓Zb,↓Zc,vup,cond_true,cond_false,aop,Zg,ev,sput,Zf,Nat.reduceBEq]
   refine hN4 [(0,Zd (n:Nat)),(1,e1),(4,e4),(5,Zd (m:Nat)),(6,e6),(7,e7),(12,smV bg (n+m+1)),(13,Zd (j:Nat)),(90,smV bg (n+m+1)),(91,Zd ((n+m+1:Nat):Int)),(92,Zd (j:Nat))] _ _ ?_ (by simp (maxSteps:=2000000) only [vup,cond_true,cond_false,Nat.reduceBEq])
   clear hN4
   try clear N4
   have bld1 : ∀ K:Value→Prop,Va prog 44 [(1,.int .i64 1)] K=K (.agg #[Zd 0,Zd 1]):=fun K=>by
    simp [Va,zero_44,fillL,pl_44_1,Wl,cellsOf,Yh]
   refine Ze fun N5 hN5=>?_
   simp (maxSteps:=2000000) only [↓Za,↓Zb,↓Zc,vup,List.map_cons,List.map_nil,cond_true,cond_false,aop,Zg,ev,sput,Zf,Nat.reduceBEq,bld1,(slice y _ hpl yb).idx el_50 esz_44 hjp,elemP_pair,storePC yb shp_44 hjp]
   obtain ⟨y1,hy1⟩ : ∃ y1,y1=y.set bg (pB ((pL (Bq.smC n) j (n+m+1)).set j (0,1))):=⟨_,rfl⟩
   rw [← hy1]
   have yb1:y1[bg]? = some (pB ((pL (Bq.smC n) j (n+m+1)).set j (0,1))):=by rw [hy1]; exact Xj (Zz yb) _
   refine hN5 [(0,Zd (n:Nat)),(1,e1),(4,e4),(5,Zd (m:Nat)),(6,e6),(7,e7),(12,smV bg (n+m+1)),(13,Zd (j:Nat)),(90,smV bg (n+m+1)),(91,Zd ((n+m+1:Nat):Int)),(92,Zd (j:Nat))] _ _ ?_ (by simp (maxSteps:=2000000) only [vup,cond_true,cond_false,Nat.reduceBEq])
   clear hN5
   try clear N5
   have hpl1:((pL (Bq.smC n) j (n+m+1)).set j ((0:Int),(1:Int))).length=n+m+1:=by rw [List.length_set]; exact hpl
   by_cases hjlt:(j:Int)<(n:Int)
   · have hA:Bq.smC n j=1:=if_pos (by omega)
     refine Ze fun N6 hN6=>?_
     simp (maxSteps:=2000000) only [↓Za,↓Zb,↓Zc,vup,cond_true,cond_false,aop,Zg,ev,sput,Zf,Zv,Zx,Nat.reduceBEq,hjlt]
     refine hN6 [(0,Zd (n:Nat)),(1,e1),(4,e4),(5,Zd (m:Nat)),(6,e6),(7,e7),(12,smV bg (n+m+1)),(13,Zd (j:Nat)),(90,smV bg (n+m+1)),(91,Zd ((n+m+1:Nat):Int)),(92,Zd (j:Nat)),(101,.bool true)] _ _ ?_ (by simp (maxSteps:=2000000) only [vup,cond_true,cond_false,Nat.reduceBEq])
     clear hN6
     try clear N6
     refine Yx rfl ?_
     refine Zj ?_
     simp (maxSteps:=2000000) only [↓Za,↓Zb,↓Zc,vup,cond_true,cond_false,aop,Zg,Zl,ev,sput,Zf,Nat.reduceBEq,(slice y1 _ hpl1 yb1).idx el_50 esz_44 (show j<_ by rw [hpl1]; exact hj'),elemP_pair,smFld0,storeC yb1 Xf (show one (Zd 1)=true from rfl) (show j*2<_ by rw [List.length_map,Xx,hpl1]; omega),flat_num hjp]
     refine hB [(0,Zd (n:Nat)),(1,e1),(4,e4),(5,Zd (m:Nat)),(6,e6),(7,e7),(12,smV bg (n+m+1)),(90,smV bg (n+m+1)),(91,Zd ((n+m+1:Nat):Int)),(92,Zd (j:Nat))] _ _ ?_ (by simp (maxSteps:=2000000) only [vup,cond_true,cond_false,Nat.reduceBEq])
     clear hB
     try clear B
     refine Zj ?_
     simp (maxSteps:=2000000) only [↓Za,↓Zb,↓Zc,vup,cond_true,cond_false,aop,ev,sput,Zf,Zv,Zx,Nat.reduceBEq,Wx (show j<9223372036854775807 by omega)]
     refine hQ2 _ _ _ ⟨j+1,hj',by omega,by simp (maxSteps:=2000000) only [vup,cond_true,cond_false,Nat.reduceBEq],?_⟩
     rw [hy1,hy,List.set_set,List.set_set,← pL_set hj',hA]; rfl
   · have hA:Bq.smC n j=0:=if_neg (by omega)
     refine Ze fun N7 hN7=>?_
     simp (maxSteps:=2000000) only [↓Za,↓Zb,↓Zc,vup,cond_true,cond_false,aop,Zg,ev,sput,Zf,Zv,Zx,Nat.reduceBEq,hjlt]
     refine hN7 [(0,Zd (n:Nat)),(1,e1),(4,e4),(5,Zd (m:Nat)),(6,e6),(7,e7),(12,smV bg (n+m+1)),(13,Zd (j:Nat)),(90,smV bg (n+m+1)),(91,Zd ((n+m+1:Nat):Int)),(92,Zd (j:Nat)),(101,.bool false)] _ _ ?_ (by simp (maxSteps:=2000000) only [vup,cond_true,cond_false,Nat.reduceBEq])
     clear hN7
     try clear N7
     refine Yg rfl ?_
     refine Zj ?_
     simp (maxSteps:=2000000) only [↓Zn,Zg,Zl]
     refine hB [(0,Zd (n:Nat)),(1,e1),(4,e4),(5,Zd (m:Nat)),(6,e6),(7,e7),(12,smV bg (n+m+1)),(90,smV bg (n+m+1)),(91,Zd ((n+m+1:Nat):Int)),(92,Zd (j:Nat))] _ _ ?_ (by simp (maxSteps:=2000000) only [vup,cond_true,cond_false,Nat.reduceBEq])
     clear hB
     try clear B
     refine Zj ?_
     simp (maxSteps:=2000000) only [↓Za,↓Zb,↓Zc,vup,cond_true,cond_false,aop,ev,sput,Zf,Zv,Zx,Nat.reduceBEq,Wx (show j<9223372036854775807 by omega)]
     refine hQ2 _ _ _ ⟨j+1,hj',by omega,by simp (maxSteps:=2000000) only [vup,cond_true,cond_false,Nat.reduceBEq],?_⟩
     rw [hy1,hy,List.set_set,← pL_set hj',hA]; rfl
 · obtain rfl:j=n+m+1:=by omega
   refine Ze fun N8 hN8=>?_
   simp (maxSteps:=2000000) only [↓Za,↓Zb,↓Zc,vup,cond_true,cond_false,aop,Zg,ev,sput,Zf,Zv,Zx,Nat.reduceBEq,hjn]
   refine hN8 [(0,Zd (n:Nat)),(1,e1),(4,e4),(5,Zd (m:Nat)),(6,e6),(7,e7),(12,smV bg (n+m+1)),(90,smV bg (n+m+1)),(91,Zd ((n+m+1:Nat):Int)),(92,Zd ((n+m+1:Nat):Int)),(93,.bool false)] _ _ ?_ (by simp (maxSteps:=2000000) only [vup,cond_true,cond_false,Nat.reduceBEq])
   clear hN8
   try clear N8
   refine Ze fun N9 hN9=>?_
   simp (maxSteps:=2000000) only [↓Yi,↓vdn,vup,cond_true,cond_false,Zg,ev,Nat.reduceBEq]
   refine hQ2 _ _ _ (hQ _ _ _ ?_)
   simp (maxSteps:=2000000) only [Zg,Zl,if_true]
   rw [hy,pL_all]
   exact hN0 _ (by simp (maxSteps:=2000000) only [vup,cond_true,cond_false,Nat.reduceBEq])
theorem litV1 {h:Zh} {b W:Nat} (K:Value→Zh→Prop):Yo prog h 89 1 [(0,smV b W)] K=K (.slice (some ⟨h.length,0,none⟩) 1 1) (h++[.cells [smV b W] 50 false]):=by
 simp only [Yo,el_89,zero_50,esz_50,reps,fillL,mkb,Wl,cellsOf,List.length_singleton,Nat.mul_one,Nat.zero_add]
 exact propext ⟨fun h=>h.2.2.2,fun h=>⟨trivial,by decide,by decide,h⟩⟩
theorem pushE {h:Zh} {v:Value} {xs:List Int} (ho:OwnSl 3 h v xs) {x:Int} (hn:xs.length<1099511627776) {K:Value→Zh→Prop}
  (hk : ∀ v' h',OwnSl 3 h' v' (xs++[x])→Ext (fun i=>Ye v=some i) h h'→(Ye v' = Ye v∨∃ b,Ye v' = some b∧h.length≤b)→K v' h') :
  Ys prog (h++[.ints [x] 3 false]) 22 22 v (.slice (some ⟨h.length,0,none⟩) 1 1) K:=by
 have hx1:Ext (fun _=>False) h (h++[.ints [x] 3 false]):=Ext.app _ _ _
 refine (ho.ext hx1 fun _ _=>id).append app_22_22 hn (Yp _ _) fun v' h' ho' hE hb=>hk v' h' ho' ((hx1.mono fun _ h=>h.elim).trans hE) ?_
 rcases hb with h1 | ⟨b,h1,h2⟩
 · exact .inl h1
 · exact .inr ⟨b,h1,by have:=hx1.1; omega⟩
theorem pushV {h:Zh} {v:Value} {ws:List Value} (ho:OwnV 50 h v ws) {b W:Nat} (hw : ∀ w∈ws,notI w=true∧one w=true) (hn:ws.length<1000000) {K:Value→Zh→Prop}
  (hk : ∀ v' h',OwnV 50 h' v' (ws++[smV b W])→Ext (fun i=>Ye v=some i) h h'→(Ye v' = Ye v∨∃ b,Ye v' = some b∧h.length≤b)→K v' h') :
  Ys prog (h++[.cells [smV b W] 50 false]) 89 89 v (.slice (some ⟨h.length,0,none⟩) 1 1) K:=by
 have hx1:Ext (fun _=>False) h (h++[.cells [smV b W] 50 false]):=Ext.app _ _ _
 have hx:ValSl (h++[.cells [smV b W] 50 false]) (.slice (some ⟨h.length,0,none⟩) 1 1) [smV b W]:=.inr ⟨h.length,0,none,_,[smV b W],50,false,rfl,by simp,by simp [view,Blk.view],by simp⟩
 refine (ho.ext hx1).app app_89_89 hx (fun w h=>?_) (by simp; omega) fun v' h' ho' hE hb=>hk v' h' ho' ((hx1.mono fun _ h=>h.elim).trans hE) ?_
 · rcases List.mem_append.1 h with h | h
   · exact hw w h
   · rw [List.mem_singleton.1 h]; exact ⟨rfl,rfl⟩
 · rcases hb with h1 | ⟨b,h1,h2⟩
   · exact .inl h1
   · exact .inr ⟨b,h1,by have:=hx1.1; omega⟩
structure TI (H z:Zh) (n m k:Nat) (sets:List Nat) (tv bv:Value) (rb:Nat→Nat):Prop where
 ext:Ext (fun _=>False) H z
 tS:OwnV 50 z tv ((List.range k).map fun i=>smV (rb i) (n+m+1))
 bS:OwnSl 3 z bv ((List.range k).map fun i=>((n+i:Nat):Int))
 row : ∀ i,i<k→z[rb i]? = some (smB (Bq.smA n m sets i) (n+m+1))
 inj : ∀ i j,i<k→j<k→rb i=rb j→i=j
 nr : ∀ i,i<k→H.length≤rb i
 nt : ∀ b,Ye tv=some b→H.length≤b
 nb : ∀ b,Ye bv=some b→H.length≤b
theorem own_int {h:Zh} {v:Value} {xs:List Int} (o:OwnSl 3 h v xs) {b:Nat} (hb:Ye v=some b) : ∃ c,h[b]? = some (.ints c 3 false):=by
 rcases o with ⟨rfl,rfl⟩ | ⟨b',ys,rfl,h1⟩
 · cases hb
 · cases hb; exact ⟨_,h1⟩
theorem TI.zero (H:Zh) (n m:Nat) (sets:List Nat):TI H H n m 0 sets (.slice none 0 0) (.slice none 0 0) fun _=>0 :=
 ⟨Ext.refl _ _,.inl ⟨rfl,rfl⟩,.inl ⟨rfl,rfl⟩,fun i h=>by omega,fun i j h _ _=>by omega,fun i h=>by omega,fun b h=>(by cases h),fun b h=>(by cases h)⟩
section
variable {H z z1:Zh} {n m k:Nat} {sets:List Nat} {tv bv tv' bv' : Value} {rb:Nat→Nat}
theorem TI.more (s:TI H z n m k sets tv bv rb) (hE:Ext (fun _=>False) z z1):TI H z1 n m k sets tv bv rb:=by
 have o : ∀ {b B},z[b]? = some B→z1[b]? = some B:=fun hb=>(hE.2 _ (Zz hb) id).trans hb
 exact ⟨s.ext.trans hE,s.tS.ext hE,s.bS.ext hE fun _ _=>id,fun i hi=>o (s.row i hi),s.inj,s.nr,s.nt,s.nb⟩
theorem TI.push {z2 z3:Zh} {br:Nat} (s:TI H z n m k sets tv bv rb) (hbr:H.length≤br) (hne : ∀ i,i<k→rb i≠br) (hr:z[br]? = some (smB (Bq.smA n m sets k) (n+m+1)))
  (h1:OwnV 50 z2 tv' (((List.range k).map fun i=>smV (rb i) (n+m+1))++[smV br (n+m+1)])) (hE1:Ext (fun i=>Ye tv=some i) z z2) (hb1:Ye tv' = Ye tv∨∃ b,Ye tv' = some b∧z.length≤b)
  (h2:OwnSl 3 z3 bv' (((List.range k).map fun i=>((n+i:Nat):Int))++[((n+k:Nat):Int)])) (hE2:Ext (fun i=>Ye bv=some i) z2 z3) (hb2:Ye bv' = Ye bv∨∃ b,Ye bv' = some b∧z2.length≤b) :
  TI H z3 n m (k+1) sets tv' bv' (fun i=>if i<k then rb i else br):=by
 have hl1:=s.ext.1
 have hl2:=hE1.1
 have hbv : ∀ b,Ye bv=some b→∃ c,z2[b]? = some (.ints c 3 false):=fun b hb=>by
  obtain ⟨c,hc⟩:=own_int s.bS hb
  refine ⟨c,(hE1.2 b (Zz hc) fun h=>?_).trans hc⟩
  obtain ⟨d,hd⟩:=s.tS.blk h
  rw [hc] at hd; cases hd
 have keep : ∀ {b:Nat} {f:Nat→Rat},z[b]? = some (smB f (n+m+1))→z3[b]? = some (smB f (n+m+1)):=fun {b f} hb=>by
  have h3:z2[b]? = some (smB f (n+m+1)):=(hE1.2 b (Zz hb) fun h=>by
   obtain ⟨d,hd⟩:=s.tS.blk h
   rw [hb] at hd; cases hd).trans hb
  exact (hE2.2 b (Zz h3) fun h=>by
   obtain ⟨d,hd⟩:=hbv b h
   rw [h3] at hd; cases hd).trans h3
 have hcg:((List.range k).map fun i=>smV (if i<k then rb i else br) (n+m+1))=(List.range k).map fun i=>smV (rb i) (n+m+1):=List.map_congr_left fun i hi=>by rw [if_pos (List.mem_range.1 hi)]
 refine ⟨⟨by have:=hE2.1; omega,fun i hi _=>?_⟩,?_,?_,fun i hi=>?_,fun i j hi hj h=>?_,fun i hi=>?_,fun b hb=>?_,fun b hb=>?_⟩
 · rw [hE2.2 i (by omega) fun h=>by have:=s.nb i h; omega,hE1.2 i (by omega) fun h=>by have:=s.nt i h; omega]
   exact s.ext.2 i hi id
 · rw [List.range_succ,List.map_append,hcg,List.map_singleton,if_neg (Nat.lt_irrefl k)]
   refine h1.same fun b hb=>?_
   obtain ⟨d,hd⟩:=h1.blk hb
   exact hE2.2 b (Zz hd) fun h=>by
    obtain ⟨c,hc⟩:=hbv b h
    rw [hd] at hc; cases hc
 · rw [List.range_succ,List.map_append,List.map_singleton]; exact h2
 · by_cases hik:i<k
   · rw [if_pos hik]; exact keep (s.row i hik)
   · obtain rfl:i=k:=by omega
     rw [if_neg hik]; exact keep hr
 · by_cases hik:i<k
   · by_cases hjk:j<k
     · rw [if_pos hik,if_pos hjk] at h; exact s.inj i j hik hjk h
     · rw [if_pos hik,if_neg hjk] at h; exact absurd h (hne i hik)
   · by_cases hjk:j<k
     · rw [if_neg hik,if_pos hjk] at h; exact absurd h.symm (hne j hjk)
     · omega
 · by_cases hik:i<k
   · rw [if_pos hik]; exact s.nr i hik
   · rw [if_neg hik]; exact hbr
 · rcases hb1 with h | ⟨b',h,h'⟩
   · exact s.nt b (h▸hb)
   · rw [h] at hb; cases hb; omega
 · rcases hb2 with h | ⟨b',h,h'⟩
   · exact s.nb b (h▸hb)
   · rw [h] at hb; cases hb; omega
end
end Go.Proofs.Tryd.Am
namespace Go.Proofs.Tryd.Am
open Go.Am Sr
set_option maxRecDepth 100000
set_option maxHeartbeats 8000000
theorem TI.whole {H z z1:Zh} {n m bg:Nat} {sets:List Nat} {tv bv:Value} {rb:Nat→Nat} (s:TI H z n m m sets tv bv rb) (h1:1≤m) (hbg:z.length≤bg) (hg:z1[bg]? = some (smB (Bq.smC n) (n+m+1))) (hE:Ext (fun _=>False) z z1) :
  ∃ bt bb ys,bv=bsV bb m ys∧TM H z1 n m tv bt bb bg ys rb (Bq.tb0 n m sets).t (Bq.tb0 n m sets).g (Bq.tb0 n m sets).base:=by
 have hl:=s.ext.1
 have s1:=s.more hE
 rcases s1.tS with ⟨_,h⟩ | ⟨bt,yt,ht,_,hbt⟩
 · have:=congrArg List.length h
   simp at this; omega
 · rcases s1.bS with ⟨_,h⟩ | ⟨bb,ys,hb,hbb⟩
   · have:=congrArg List.length h
     simp at this; omega
   · refine ⟨bt,bb,ys,by rw [hb,List.length_map,List.length_range],s1.ext,s1.tS.val,by rw [ht]; rfl,⟨_,hbt⟩,s1.row,hg,hbb,s1.inj,fun i hi h=>?_,s1.nr,by omega,s1.nb bb (by rw [hb]; rfl)⟩
     have:=Zz (s.row i hi)
     omega
theorem s67_callW [Tabs Tryd.prog] {args:List Value} {h:Zh} {Q:Value→Zh→Prop} (hsz:args.length≤253) (hk:AWS Tryd.prog 253 s67 (Zu Tryd.prog [.cell 4 44] Q) (Zt 0 args) h):ACall Tryd.prog 67 args h Q :=
 Xd Tryd.func67 rfl (enters_of Tryd.func67 (by kernel_rfl) rfl) rfl rfl (by decide) s67_strip s67_ok hsz hk
theorem greatest_call [Tabs prog] {h:Zh} {n:Nat} {sv:Value} {sets:List Nat} (hv:IntSl h sv (sets.map Int.ofNat)) (h6:n≤6) (hm:sets.length≤5000) (h1:sets≠[]) (hs : ∀ s∈sets,s<9223372036854775808) (hc : ∀ i,i<n→∃ c∈sets,c.testBit i=true) :
  ACall prog 67 [Zd n,sv] h fun r h'=>∃ q,r=qV q∧Bq.IsOpt n sets q∧Ext (fun _=>False) h h':=by
 obtain ⟨m,hmm⟩ : ∃ m,sets.length=m:=⟨_,rfl⟩
 have hm1:1≤m:=by
  rcases Nat.eq_zero_or_pos m with h | h
  · exact absurd (List.length_eq_zero_iff.1 (hmm.trans h)) h1
  · exact h
 rw [hmm] at hm
 have hW:n+m<1099511627775:=by omega
 have hnm:addV .i64 (n:Int) (m:Int)=((n+m:Nat):Int):=by rw [Wf (by omega) (by omega)]; omega
 have hnm1:addV .i64 ((n+m:Nat):Int) 1=((n+m+1:Nat):Int):=by rw [Wf (by omega) (by omega)]; omega
 have hl0:=hv.len
 rw [List.length_map,hmm] at hl0
 refine s67_callW (by simp) ?_
 simp only [s67]
 refine Ze fun N1 hN1=>?_
 simp (maxSteps:=2000000) only [↓Za,↓Zb,↓Zc,vup,cond_false,aop,Zg,Zt,sput,Zf,Nat.reduceBEq,Nat.reduceAdd,tyf,Xv,Xc]
 obtain ⟨H,hH⟩ : ∃ H,H=h++[z0]:=⟨_,rfl⟩
 have hE0:Ext (fun _=>False) h H:=hH▸Ext.app _ _ _
 have h4:H[h.length]? = some z0:=hH▸Yp h z0
 have hv:=Xn hv hE0
 have hlH:=hE0.1
 have h4l:=Zz h4
 rw [← hH]
 clear hH
 have fin : ∀ q z',Bq.IsOpt n sets q→Ext (fun i=>i=h.length) H z'→(∃ q',qV q=qV q'∧Bq.IsOpt n sets q'∧Ext (fun _=>False) h z'):=fun q z' hq hE=>⟨q,rfl,hq,⟨by have:=hE.1; omega,fun i hi _=>by rw [hE.2 i (by omega) (by omega)]; exact hE0.2 i hi id⟩⟩
 generalize h.length=b4 at h4 h4l fin ⊢
 refine hN1 [(0,Zd (n:Nat)),(1,sv),(4,pT b4)] _ _ ?_ (by simp (maxSteps:=2000000) only [vup,cond_true,cond_false,Nat.reduceBEq])
 clear hN1
 try clear N1
 refine Ze fun N2 hN2=>?_
 simp (maxSteps:=2000000) only [↓Za,↓Zb,↓Zc,vup,List.map_cons,List.map_nil,cond_true,cond_false,aop,Zg,ev,sput,Zf,Zi,Nat.reduceBEq,tyf,hl0]
 refine hN2 [(0,Zd (n:Nat)),(1,sv),(4,pT b4),(5,Zd (m:Nat))] _ _ ?_ (by simp (maxSteps:=2000000) only [vup,cond_true,cond_false,Nat.reduceBEq])
 clear hN2
 try clear N2
 refine Ze fun N3 hN3=>?_
 simp (maxSteps:=2000000) only [↓Za,↓Zb,↓Zc,vup,cond_false,aop,Zg,ev,sput,Zf,Nat.reduceBEq]
 refine hN3 [(0,Zd (n:Nat)),(1,sv),(4,pT b4),(5,Zd (m:Nat)),(6,.slice none 0 0)] _ _ ?_ (by simp (maxSteps:=2000000) only [vup,cond_true,cond_false,Nat.reduceBEq])
 clear hN3
 try clear N3
 refine Ze fun N4 hN4=>?_
 simp (maxSteps:=2000000) only [↓Za,↓Zb,↓Zc,vup,cond_false,aop,Zg,ev,sput,Zf,Nat.reduceBEq]
 refine hN4 [(0,Zd (n:Nat)),(1,sv),(4,pT b4),(5,Zd (m:Nat)),(6,.slice none 0 0),(7,.slice none 0 0)] _ _ ?_ (by simp (maxSteps:=2000000) only [vup,cond_true,cond_false,Nat.reduceBEq])
 clear hN4
 try clear N4
 refine Zk fun Z hZ=>?_
 refine Ze fun N5 hN5=>?_
 simp (maxSteps:=2000000) only [↓Za,↓Zb,↓Zc,vup,List.map_cons,List.map_nil,cond_true,cond_false,aop,Zg,ev,sput,Zf,Zi,Nat.reduceBEq,tyf,hl0]
 refine hN5 [(0,Zd (n:Nat)),(1,sv),(4,pT b4),(5,Zd (m:Nat)),(6,.slice none 0 0),(7,.slice none 0 0),(24,sv),(25,Zd (m:Nat)),(26,.int .i64 0)] _ _ ?_ (by simp (maxSteps:=2000000) only [vup,cond_true,cond_false,Nat.reduceBEq])
 clear hN5
 try clear N5
 refine Zo ?_
 refine Zm fun Q hQ=>?_
 refine Yl (γ:=Nat×Value×Value×Zh) (fun s=>s.1≤m∧∃ rb,TI H s.2.2.2 n m s.1 sets s.2.1 s.2.2.1 rb)
  (fun s=>([(0,Zd (n:Nat)),(1,sv),(4,pT b4),(5,Zd (m:Nat)),(6,s.2.1),(7,s.2.2.1),(24,sv),(25,Zd (m:Nat)),(26,Zd (s.1:Nat))],s.2.2.2)) (fun s=>m-s.1) (0,.slice none 0 0,.slice none 0 0,H) ⟨Nat.zero_le _,_,TI.zero H n m sets⟩ (by simp (maxSteps:=2000000) only [vup,cond_true,cond_false,Nat.reduceBEq,Int.natCast_zero]) rfl ?_
 rintro ⟨k,tv,bv,z⟩ ⟨hk,rb,T⟩
 simp only at hk T
 refine Zm fun Q2 hQ2=>?_
 simp only [l67_1]
 have hvz:=Xn hv T.ext
 by_cases hin:(k:Int)<(m:Int)
 · have hk' : k<m:=by omega
   have hkl:k<(sets.map Int.ofNat).length:=by rw [List.length_map,hmm]; exact hk'
   obtain ⟨s,hsd⟩ : ∃ s,s=sets.getD k 0:=⟨_,rfl⟩
   have hsk:(sets.map Int.ofNat).getD k 0=(s:Int):=by
    rw [hsd,List.getD,List.getElem?_map,List.getD,List.getElem?_eq_getElem (by omega)]; rfl
   have hs' : s<9223372036854775808:=hs s (by rw [hsd,List.getD,List.getElem?_eq_getElem (by omega)]; exact List.getElem_mem _)
   refine Ze fun N6 hN6=>?_
   simp (maxSteps:=2000000) only [↓Za,↓Zb,↓Zc,vup,cond_true,cond_false,aop,Zg,ev,sput,Zf,Zv,Zx,Nat.reduceBEq,hin]
   refine hN6 [(0,Zd (n:Nat)),(1,sv),(4,pT b4),(5,Zd (m:Nat)),(6,tv),(7,bv),(24,sv),(25,Zd (m:Nat)),(26,Zd (k:Nat)),(27,.bool true)] _ _ ?_ (by simp (maxSteps:=2000000) only [vup,cond_true,cond_false,Nat.reduceBEq])
   clear hN6
   try clear N6
   refine Ze fun N7 hN7=>?_
   simp (maxSteps:=2000000) only [↓Zn,↓vdn,vup,cond_true,cond_false,Zg,ev,Nat.reduceBEq]
   refine hN7 [(0,Zd (n:Nat)),(1,sv),(4,pT b4),(5,Zd (m:Nat)),(6,tv),(7,bv),(24,sv),(25,Zd (m:Nat)),(26,Zd (k:Nat))] _ _ ?_ (by simp (maxSteps:=2000000) only [vup,cond_true,cond_false,Nat.reduceBEq])
   clear hN7
   try clear N7
   refine Zk fun B hB=>?_
   refine Zo ?_
   refine Ze fun N8 hN8=>?_
   simp (maxSteps:=2000000) only [↓Za,↓Zb,↓Zc,vup,cond_true,cond_false,aop,Zg,ev,sput,Zf,Nat.reduceBEq,hvz.idx Xt Xe hkl,hvz.load Xf hkl,hsk]
   refine hN8 [(0,Zd (n:Nat)),(1,sv),(4,pT b4),(5,Zd (m:Nat)),(6,tv),(7,bv),(8,Zd (k:Nat)),(9,Zd (s:Nat)),(24,sv),(25,Zd (m:Nat)),(26,Zd (k:Nat))] _ _ ?_ (by simp (maxSteps:=2000000) only [vup,cond_true,cond_false,Nat.reduceBEq])
   clear hN8
   try clear N8
   refine Ze fun N9 hN9=>?_
   simp (maxSteps:=2000000) only [↓Za,↓Zb,↓Zc,vup,cond_true,cond_false,aop,Zg,ev,sput,Zf,Zv,Zx,Nat.reduceBEq,hnm,hnm1,makeP el_50 zero_44 info_44 rfl (show n+m+1≤1099511627776 by omega)]
   have hE1:Ext (fun _=>False) z (z++[pB (List.replicate (n+m+1) (0,0))]):=Ext.app _ _ _
   have c10:=Yp z (pB (List.replicate (n+m+1) (0,0)))
   have hb0:H.length≤z.length:=T.ext.1
   have hne : ∀ i,i<k→rb i≠z.length:=fun i hi hc=>by have:=Zz (T.row i hi); omega
   have hset : ∀ B,Ext (fun _=>False) z ((z++[pB (List.replicate (n+m+1) (0,0))]).set z.length B):=fun B=>⟨by simp,fun i hi _=>by rw [List.getElem?_set_ne (by omega)]; exact hE1.2 i hi id⟩
   generalize z++[pB (List.replicate (n+m+1) (0,0))]=y at hE1 c10 hset ⊢
   generalize z.length=br at c10 hb0 hne hset ⊢
   refine hN9 [(0,Zd (n:Nat)),(1,sv),(4,pT b4),(5,Zd (m:Nat)),(6,tv),(7,bv),(8,Zd (k:Nat)),(9,Zd (s:Nat)),(10,smV br (n+m+1)),(24,sv),(25,Zd (m:Nat)),(26,Zd (k:Nat))] _ _ ?_ (by simp (maxSteps:=2000000) only [vup,cond_true,cond_false,Nat.reduceBEq])
   clear hN9
   try clear N9
   refine Zk fun M1 hM1=>?_
   refine sm_row hk' hsd hs' hW (by omega) c10 fun e' he=>hM1 [(0,Zd (n:Nat)),(1,sv),(4,pT b4),(5,Zd (m:Nat)),(6,tv),(7,bv),(8,Zd (k:Nat)),(10,smV br (n+m+1)),(24,sv),(25,Zd (m:Nat)),(26,Zd (k:Nat))] _ _ ?_ he
   clear hM1
   have T:=T.more (hset (smB (Bq.smA n m sets k) (n+m+1)))
   have c10:=Xj (Zz c10) (smB (Bq.smA n m sets k) (n+m+1))
   clear hset hE1
   generalize y.set br (smB (Bq.smA n m sets k) (n+m+1))=z at T c10 ⊢
   have hnk:addV .i64 (n:Int) (k:Int)=((n+k:Nat):Int):=by rw [Wf (by omega) (by omega)]; omega
   refine Ze fun N10 hN10=>?_
   simp (maxSteps:=2000000) only [↓Za,↓Zb,↓Zc,vup,List.map_cons,List.map_nil,cond_true,cond_false,aop,Zg,ev,sput,Zf,Zi,Nat.reduceBEq,litV1]
   refine pushV T.tS (fun w hw=>?_) (by rw [List.length_map,List.length_range]; omega) fun tv' z2 o1 x1 d1=>?_
   · obtain ⟨i,_,rfl⟩:=List.mem_map.1 hw
     exact ⟨rfl,rfl⟩
   refine hN10 [(0,Zd (n:Nat)),(1,sv),(4,pT b4),(5,Zd (m:Nat)),(6,tv'),(7,bv),(8,Zd (k:Nat)),(10,smV br (n+m+1)),(24,sv),(25,Zd (m:Nat)),(26,Zd (k:Nat))] _ _ ?_ (by simp (maxSteps:=2000000) only [vup,cond_true,cond_false,Nat.reduceBEq])
   clear hN10
   try clear N10
   refine Zj ?_
   simp (maxSteps:=2000000) only [↓Za,↓Zb,↓Zc,vup,List.map_cons,List.map_nil,cond_true,cond_false,aop,Zg,Zl,ev,sput,Zf,Zv,Zx,Zi,Nat.reduceBEq,hnk,litI1]
   refine pushE (h:=z2) (xs:=(List.range k).map fun i=>((n+i:Nat):Int)) (T.bS.ext x1 fun b hb hb'=>?_) (by rw [List.length_map,List.length_range]; omega) fun bv' z3 o2 x2 d2=>?_
   · obtain ⟨c,hc⟩:=own_int T.bS hb
     obtain ⟨d,hd⟩:=T.tS.blk hb'
     rw [hc] at hd; cases hd
   refine hB [(0,Zd (n:Nat)),(1,sv),(4,pT b4),(5,Zd (m:Nat)),(6,tv'),(7,bv'),(24,sv),(25,Zd (m:Nat)),(26,Zd (k:Nat))] _ _ ?_ (by simp (maxSteps:=2000000) only [vup,cond_true,cond_false,Nat.reduceBEq])
   clear hB
   try clear B
   refine Zj ?_
   simp (maxSteps:=2000000) only [↓Za,↓Zb,↓Zc,vup,cond_true,cond_false,aop,ev,sput,Zf,Zv,Zx,Nat.reduceBEq,Wx (show k<9223372036854775807 by omega)]
   exact hQ2 _ _ _ ⟨(k+1,tv',bv',z3),⟨hk',_,T.push hb0 hne c10 o1 x1 d1 o2 x2 d2⟩,by simp only; omega,by simp (maxSteps:=2000000) only [vup,cond_true,cond_false,Nat.reduceBEq],rfl⟩
 · obtain rfl:k=m:=by omega
   refine Ze fun N11 hN11=>?_
   simp (maxSteps:=2000000) only [↓Za,↓Zb,↓Zc,vup,cond_true,cond_false,aop,Zg,ev,sput,Zf,Zv,Zx,Nat.reduceBEq,hin]
   refine hN11 [(0,Zd (n:Nat)),(1,sv),(4,pT b4),(5,Zd (k:Nat)),(6,tv),(7,bv),(24,sv),(25,Zd (k:Nat)),(26,Zd (k:Nat)),(27,.bool false)] _ _ ?_ (by simp (maxSteps:=2000000) only [vup,cond_true,cond_false,Nat.reduceBEq])
   clear hN11
   try clear N11
   refine Ze fun N12 hN12=>?_
   simp (maxSteps:=2000000) only [↓Yi,↓vdn,vup,cond_true,cond_false,Zg,ev,Nat.reduceBEq]
   refine hQ2 _ _ _ (hQ _ _ _ ?_)
   simp (maxSteps:=2000000) only [Zg,Zl,Zu,if_true]
   refine hZ [(0,Zd (n:Nat)),(1,sv),(4,pT b4),(5,Zd (k:Nat)),(6,tv),(7,bv)] _ _ ?_ (by simp (maxSteps:=2000000) only [vup,cond_true,cond_false,Nat.reduceBEq])
   clear hZ
   try clear Z
   clear hQ hQ2
   refine Ze fun N13 hN13=>?_
   simp (maxSteps:=2000000) only [↓Za,↓Zb,↓Zc,vup,cond_true,cond_false,aop,Zg,ev,sput,Zf,Zv,Zx,Nat.reduceBEq,hnm,hnm1,makeP el_50 zero_44 info_44 rfl (show n+k+1≤1099511627776 by omega)]
   have hE1:Ext (fun _=>False) z (z++[pB (List.replicate (n+k+1) (0,0))]):=Ext.app _ _ _
   have c12:=Yp z (pB (List.replicate (n+k+1) (0,0)))
   have hset : ∀ B,Ext (fun _=>False) z ((z++[pB (List.replicate (n+k+1) (0,0))]).set z.length B):=fun B=>⟨by simp,fun i hi _=>by rw [List.getElem?_set_ne (by omega)]; exact hE1.2 i hi id⟩
   refine hN13 [(0,Zd (n:Nat)),(1,sv),(4,pT b4),(5,Zd (k:Nat)),(6,tv),(7,bv),(12,smV z.length (n+k+1))] _ _ ?_ (by simp (maxSteps:=2000000) only [vup,cond_true,cond_false,Nat.reduceBEq])
   clear hN13
   try clear N13
   refine Zk fun M2 hM2=>?_
   refine sm_gain hW c12 fun e' he=>hM2 [(0,Zd (n:Nat)),(1,sv),(4,pT b4),(5,Zd (k:Nat)),(6,tv),(7,bv),(12,smV z.length (n+k+1))] _ _ ?_ he
   clear hM2
   have c12:=Xj (Zz c12) (smB (Bq.smC n) (n+k+1))
   obtain ⟨bt,bb,ys,rfl,M⟩:=T.whole hm1 (Nat.le_refl _) c12 (hset _)
   obtain ⟨r,hr⟩:=(Bq.good0 n k sets).ends h6 (by omega)
   refine aws_le (sm_loop M (Bq.good0 n k sets) hr h6 hW hmm hc h4 fin) (by simp (maxSteps:=2000000) only [vup,cond_true,cond_false,Nat.reduceBEq])
end Go.Proofs.Tryd.Am
namespace Go.Proofs.Tryd.Am
open Go.Am Sr
set_option maxRecDepth 100000
set_option maxHeartbeats 4000000
def wf (ps:List (Int×Int)) (i:Nat):Rat:=wq (ps.getD i (0,0))
end Go.Proofs.Tryd.Am
namespace Go.Proofs.Tryd.Am
open Go.Am Sr
set_option maxRecDepth 100000
set_option maxHeartbeats 8000000
end Go.Proofs.Tryd.Am
namespace Rn
def S:List Nat→Nat→Bool
 | [],y=>y==0
 | x::l,y=>S l y || S l (y ^^^ x)
theorem S_zero : ∀ l,S l 0=true
 | []=>rfl
 | x::l=>by rw [S,S_zero l]; rfl
theorem Vb (a b:Nat):(a ^^^ b) ^^^ b=a:=by rw [Nat.xor_assoc,Nat.xor_self,Nat.xor_zero]
theorem S_xor : ∀ (l:List Nat) {a b:Nat},S l a=true→S l b=true→S l (a ^^^ b)=true
 | [],a,b,ha,hb=>by
   rw [S,beq_iff_eq] at ha hb ⊢; subst ha hb; rfl
 | x::l,a,b,ha,hb=>by
   rw [S,Bool.or_eq_true] at ha hb ⊢
   rcases ha with ha | ha <;> rcases hb with hb | hb
   · exact .inl (S_xor l ha hb)
   · right; have:=S_xor l ha hb; rw [← Nat.xor_assoc] at this; exact this
   · right; have:=S_xor l ha hb
     rw [Nat.xor_assoc,Nat.xor_comm x b,← Nat.xor_assoc] at this; exact this
   · left; have:=S_xor l ha hb
     rw [Nat.xor_assoc,Nat.xor_comm x,Vb] at this; exact this
theorem S_mem : ∀ {l:List Nat} {x:Nat},x∈l→S l x=true
 | y::l,x,h=>by
   rw [S,Bool.or_eq_true]
   rcases List.mem_cons.1 h with rfl | h
   · right; rw [Nat.xor_self]; exact S_zero l
   · exact .inl (S_mem h)
theorem S_sub {m:List Nat} : ∀ {l:List Nat} {y:Nat},(∀ x∈l,S m x=true)→S l y=true→S m y=true
 | [],y,_,h=>by rw [S,beq_iff_eq] at h; subst h; exact S_zero m
 | x::l,y,hm,h=>by
   rw [S,Bool.or_eq_true] at h
   rcases h with h | h
   · exact S_sub (fun z hz=>hm z (by simp [hz])) h
   · have h1:=S_sub (fun z hz=>hm z (by simp [hz])) h
     have:=S_xor m h1 (hm x (by simp))
     rw [Vb] at this; exact this
theorem S_eq {l m:List Nat} (h1 : ∀ x∈l,S m x=true) (h2 : ∀ x∈m,S l x=true) (y:Nat):S l y=S m y:=by
 rw [Bool.eq_iff_iff]; exact ⟨S_sub h1,S_sub h2⟩
/-! How many sums there are. -/
theorem cnt_sub {L:List Nat} (hL:L.Nodup) : ∀ l:List Nat,l.Nodup→(∀ x∈l,x∈L)→l.length≤L.length:=by
 intro l hl hs
 induction l generalizing L with
 | nil=>exact Nat.zero_le _
 | cons x l ih =>
   have hn:=List.nodup_cons.1 hl
   have hx:=hs x (by simp)
   have h1:=ih (L:=L.erase x) (hL.erase x) hn.2 fun y hy=>(List.mem_erase_of_ne (by rintro rfl; exact hn.1 hy)).2 (hs y (by simp [hy]))
   rw [List.length_erase_of_mem hx] at h1
   have:=List.length_pos_of_mem hx
   rw [List.length_cons]; omega
theorem countP_xor_le {p:Nat→Bool} {x n:Nat} (hx:x<2 ^ n):(List.range (2 ^ n)).countP (fun y=>p (y ^^^ x))≤(List.range (2 ^ n)).countP p:=by
 rw [List.countP_eq_length_filter,List.countP_eq_length_filter,← List.length_map (f:=fun y=>y ^^^ x)]
 refine cnt_sub (List.Pairwise.filter _ List.nodup_range) _ ?_ fun z hz=>?_
 · rw [List.Nodup,List.pairwise_map]
   refine (List.Pairwise.filter _ List.nodup_range).imp fun h e=>h ?_
   have:=congrArg (· ^^^ x) e
   simp only [Vb] at this; exact this
 · obtain ⟨y,hy,rfl⟩:=List.mem_map.1 hz
   rw [List.mem_filter,List.mem_range] at hy ⊢
   exact ⟨Nat.xor_lt_two_pow hy.1 hx,hy.2⟩
theorem countP_xor {p:Nat→Bool} {x n:Nat} (hx:x<2 ^ n):(List.range (2 ^ n)).countP (fun y=>p (y ^^^ x))=(List.range (2 ^ n)).countP p:=by
 refine Nat.le_antisymm (countP_xor_le hx) ?_
 have:=countP_xor_le (p:=fun y=>p (y ^^^ x)) hx
 simp only [Vb] at this; exact this
theorem countP_or {p q:Nat→Bool} (h : ∀ y,p y=true→q y=false) : ∀ l:List Nat,l.countP (fun y=>p y || q y)=l.countP p+l.countP q
 | []=>rfl
 | y::l=>by
   rw [List.countP_cons,List.countP_cons,List.countP_cons,countP_or h l]
   cases hp:p y with
   | true=>rw [h y hp]; simp; omega
   | false=>simp; omega
def Ind:List Nat→Prop
 | []=>True
 | x::l=>S l x=false∧Ind l
def cnt (n:Nat) (l:List Nat):Nat:=(List.range (2 ^ n)).countP (S l)
theorem cnt_nil (n:Nat):cnt n []=1:=by
 have : ∀ m,0<m→(List.range m).countP (fun y=>y==0)=1:=by
  intro m
  induction m with
  | zero=>intro h; omega
  | succ m ih =>
    intro _
    rw [List.range_succ,List.countP_append]
    by_cases hm:m=0
    · subst hm; rfl
    · rw [ih (by omega)]; simp [hm]
 exact this _ (Nat.two_pow_pos n)
theorem cnt_ind {n:Nat} : ∀ (l:List Nat),(∀ x∈l,x<2 ^ n)→Ind l→cnt n l=2 ^ l.length
 | [],_,_=>cnt_nil n
 | x::l,hl,⟨h1,h2⟩=>by
   have ih:=cnt_ind l (fun z hz=>hl z (by simp [hz])) h2
   have e:cnt n (x::l)=(List.range (2 ^ n)).countP (S l)+(List.range (2 ^ n)).countP fun y=>S l (y ^^^ x):=by
    refine countP_or (q:=fun y=>S l (y ^^^ x)) (fun y hy=>?_) _
    cases h:S l (y ^^^ x) with
    | false=>rfl
    | true =>
      have:=S_xor l hy h
      rw [← Nat.xor_assoc,Nat.xor_self,Nat.zero_xor,h1] at this; cases this
   rw [e,countP_xor (hl x (by simp))]
   unfold cnt at ih
   rw [ih,List.length_cons,Nat.pow_succ]; omega
def dim (n:Nat) (l:List Nat):Nat:=(cnt n l).log2
theorem dim_ind {n:Nat} {l:List Nat} (hl : ∀ x∈l,x<2 ^ n) (h:Ind l):dim n l=l.length:=by rw [dim,cnt_ind l hl h,Nat.log2_two_pow]
theorem dim_congr {n:Nat} {l m:List Nat} (h : ∀ y,S l y=S m y):dim n l=dim n m:=by
 rw [dim,dim,cnt,cnt,List.countP_congr fun y _=>by rw [h y]]
theorem cnt_pos (n:Nat) (l:List Nat):cnt n l≠0:=by
 have:0<cnt n l:=List.countP_pos_iff.2 ⟨0,List.mem_range.2 (Nat.two_pow_pos n),S_zero l⟩
 omega
theorem dim_mono {n:Nat} {l m:List Nat} (h : ∀ y,S l y=true→S m y=true):dim n l≤dim n m:=by
 have h1:cnt n l≤cnt n m:=List.countP_mono_left fun y _=>h y
 rw [dim,dim,Nat.le_log2 (cnt_pos n m)]
 exact Nat.le_trans (Nat.log2_self_le (cnt_pos n l)) h1
/-! Bases: each row has a greatest column of its own. -/
theorem bit_top {b:Nat} (h:b≠0):b.testBit b.log2=true:=Nat.testBit_log2 h
theorem bit_over {b j:Nat} (h:b.log2<j):b.testBit j=false:=Nat.testBit_lt_two_pow (Nat.lt_of_lt_of_le Nat.lt_log2_self (Nat.pow_le_pow_right (by decide) h))
theorem lt_bit {n m i:Nat} (hn:n.testBit i=false) (hm:m.testBit i=true) (h : ∀ j,i<j→n.testBit j=m.testBit j):n<m:=by
 have e:n / 2 ^ (i+1)=m / 2 ^ (i+1):=by
  apply Nat.eq_of_testBit_eq
  intro j
  rw [Nat.testBit_div_two_pow,Nat.testBit_div_two_pow]; exact h _ (by omega)
 have h1:n % 2 ^ (i+1)<2 ^ i:=by
  refine Nat.lt_pow_two_of_testBit _ fun j hj=>?_
  rw [Nat.testBit_mod_two_pow]
  by_cases hji:j=i
  · subst hji; rw [hn,Bool.and_false]
  · have : ¬ j<i+1:=by omega
    simp [this]
 have h2:2 ^ i≤m % 2 ^ (i+1):=Nat.ge_two_pow_of_testBit (by rw [Nat.testBit_mod_two_pow,hm]; simp)
 have a:=Nat.div_add_mod n (2 ^ (i+1))
 have b:=Nat.div_add_mod m (2 ^ (i+1))
 rw [e] at a
 generalize 2 ^ (i+1)*(m / 2 ^ (i+1))=q at a b
 omega
def mn (a b:Nat):Nat:=if b<a then b else a
theorem mn_bits {r b:Nat} (hb:b≠0):(mn r (r ^^^ b)).testBit b.log2=false∧(∀ j,b.log2<j→(mn r (r ^^^ b)).testBit j=r.testBit j)∧(mn r (r ^^^ b)=r∨mn r (r ^^^ b)=r ^^^ b):=by
 have hi : ∀ j,b.log2<j→(r ^^^ b).testBit j=r.testBit j:=fun j hj=>by rw [Nat.testBit_xor,bit_over hj,Bool.xor_false]
 have ht:(r ^^^ b).testBit b.log2 = !r.testBit b.log2:=by rw [Nat.testBit_xor,bit_top hb,Bool.xor_true]
 cases hr:r.testBit b.log2 with
 | true =>
   rw [hr] at ht
   have:r ^^^ b<r:=lt_bit ht hr hi
   rw [mn,if_pos this]
   exact ⟨ht,hi,.inr rfl⟩
 | false =>
   rw [hr] at ht
   have:r<r ^^^ b:=lt_bit hr ht fun j hj=>(hi j hj).symm
   rw [mn,if_neg (by omega)]
   exact ⟨hr,fun _ _=>rfl,.inl rfl⟩
def red (B:List Nat) (row:Nat):Nat:=B.foldl (fun r b=>mn r (r ^^^ b)) row
def Bs (B:List Nat):Prop:=B.Pairwise (fun a b=>b.log2<a.log2)∧∀ x∈B,x≠0
theorem red_keep : ∀ (B:List Nat) (r j:Nat),(∀ b∈B,b≠0∧b.log2<j)→(red B r).testBit j=r.testBit j
 | [],_,_,_=>rfl
 | b::B,r,j,h=>by
   have hb:=h b (by simp)
   rw [red,List.foldl_cons]
   exact (red_keep B _ j fun c hc=>h c (by simp [hc])).trans ((mn_bits hb.1).2.1 j hb.2)
theorem red_clear : ∀ (B:List Nat) (r:Nat),Bs B→∀ b∈B,(red B r).testBit b.log2=false
 | [],_,_,_,h=>by cases h
 | c::B,r,⟨hp,h0⟩,b,hb=>by
   rw [List.pairwise_cons] at hp
   have hc:=h0 c (by simp)
   rw [red,List.foldl_cons]
   rcases List.mem_cons.1 hb with rfl | hb
   · exact (red_keep B _ _ fun d hd=>⟨h0 d (by simp [hd]),hp.1 d hd⟩).trans (mn_bits hc).1
   · exact red_clear B _ ⟨hp.2,fun x hx=>h0 x (by simp [hx])⟩ b hb
theorem red_S {B:List Nat} : ∀ (l:List Nat) (r:Nat),(∀ b∈l,b∈B∧b≠0)→S B (r ^^^ red l r)=true
 | [],r,_=>by rw [red,List.foldl_nil,Nat.xor_self]; exact S_zero B
 | b::l,r,h=>by
   have hb:=h b (by simp)
   rw [red,List.foldl_cons]
   have h1:=red_S l (mn r (r ^^^ b)) fun c hc=>h c (by simp [hc])
   rw [red] at h1
   rcases (mn_bits (r:=r) hb.2).2.2 with e | e
   · rw [e] at h1 ⊢; exact h1
   · rw [e] at h1 ⊢
     have:=S_xor B (S_mem hb.1) h1
     rw [← Nat.xor_assoc,Nat.xor_comm b,Vb] at this
     exact this
theorem red_top {B:List Nat} (hB:Bs B) {r:Nat} (h:red B r≠0) : ∀ b∈B,(red B r).log2≠b.log2:=fun b hb e=>by
 have:=red_clear B r hB b hb
 rw [← e,bit_top h] at this; cases this
theorem Bs.more {B C:List Nat} (hB:Bs B) {r:Nat} (h:red B r≠0) (hm : ∀ x,x∈C↔x∈B∨x=red B r) (hs:C.Pairwise fun a b=>b≤a) (hn:C.Nodup):Bs C∧∀ y,S C y=S (B++[r]) y:=by
 have hd : ∀ x∈C,∀ y∈C,x≠y→x.log2≠y.log2:=by
  have dB : ∀ x∈B,∀ y∈B,x≠y→x.log2≠y.log2:=by
   intro x hx y hy hne
   obtain ⟨i,hi,rfl⟩:=List.getElem_of_mem hx
   obtain ⟨j,hj,rfl⟩:=List.getElem_of_mem hy
   rcases Nat.lt_trichotomy i j with h1 | h1 | h1
   · have:=List.pairwise_iff_getElem.1 hB.1 i j hi hj h1; omega
   · subst h1; exact absurd rfl hne
   · have:=List.pairwise_iff_getElem.1 hB.1 j i hj hi h1; omega
  intro x hx y hy hne
  rcases (hm x).1 hx with hx | rfl <;> rcases (hm y).1 hy with hy | rfl
  · exact dB x hx y hy hne
  · exact fun e=>red_top hB h x hx e.symm
  · exact red_top hB h y hy
  · exact absurd rfl hne
 have h0 : ∀ x∈C,x≠0:=fun x hx=>by
  rcases (hm x).1 hx with hx | rfl
  · exact hB.2 x hx
  · exact h
 refine ⟨⟨?_,h0⟩,fun y=>?_⟩
 · rw [List.pairwise_iff_getElem] at hs ⊢
   intro i j hi hj hij
   have h1:=hs i j hi hj hij
   have h2:=hd C[i] (List.getElem_mem hi) C[j] (List.getElem_mem hj) (List.pairwise_iff_getElem.1 hn i j hi hj hij)
   have h3:C[j].log2≤C[i].log2:=by
    rw [Nat.le_log2 (h0 _ (List.getElem_mem hi))]
    exact Nat.le_trans (Nat.log2_self_le (h0 _ (List.getElem_mem hj))) h1
   omega
 · have hx:=red_S (B:=B) B r fun b hb=>⟨hb,hB.2 b hb⟩
   have up : ∀ {z},S B z=true→S (B++[r]) z=true:=fun hz=>S_sub (fun x hx=>S_mem (by simp [hx])) hz
   have upC : ∀ {z},S B z=true→S C z=true:=fun hz=>S_sub (fun x hx=>S_mem ((hm x).2 (.inl hx))) hz
   refine S_eq (fun x hxC=>?_) (fun x hxB=>?_) y
   · rcases (hm x).1 hxC with h1 | rfl
     · exact S_mem (by simp [h1])
     · have:=S_xor (B++[r]) (S_mem (show r∈B++[r] by simp)) (up hx)
       rw [← Nat.xor_assoc,Nat.xor_self,Nat.zero_xor] at this; exact this
   · rcases List.mem_append.1 hxB with h1 | h1
     · exact S_mem ((hm x).2 (.inl h1))
     · obtain rfl:=List.mem_singleton.1 h1
       have:=S_xor C (upC hx) (S_mem ((hm _).2 (.inr rfl)))
       rw [Vb] at this; exact this
end Rn
namespace Rn
def rowsF (L:Nat→Nat) (n:Nat):List Nat:=(List.range n).map L
theorem Wp {L:Nat→Nat} {n x:Nat}:x∈rowsF L n↔∃ i,i<n∧L i=x:=by simp [rowsF]
theorem rowsF_S {L:Nat→Nat} {n i:Nat} (h:i<n):S (rowsF L n) (L i)=true:=S_mem (Wp.2 ⟨i,h,rfl⟩)
structure EI (n:Nat) (L0 L:Nat→Nat) (k c:Nat) (pv:Nat→Nat):Prop where
 kn:k≤n
 lt : ∀ i,i<n→L i<2 ^ n
 same : ∀ y,S (rowsF L n) y=S (rowsF L0 n) y
 piv : ∀ j,j<k→(L j).testBit (pv j)=true∧∀ i,i<n→i≠j→(L i).testBit (pv j)=false
 low : ∀ i,k≤i→i<n→∀ b,b<c→(L i).testBit b=false
section
variable {n k c a:Nat} {L0 L:Nat→Nat} {pv:Nat→Nat}
theorem EI.start (h : ∀ i,i<n→L i<2 ^ n):EI n L L 0 0 pv:=⟨Nat.zero_le _,h,fun _=>rfl,fun _ h=>by omega,fun _ _ _ _ h=>by omega⟩
theorem EI.none (e:EI n L0 L k c pv) (h : ∀ i,k≤i→i<n→(L i).testBit c=false):EI n L0 L k (c+1) pv :=
 ⟨e.kn,e.lt,e.same,e.piv,fun i h1 h2 b hb=>(Nat.lt_or_eq_of_le (Nat.le_of_lt_succ hb)).elim (fun hc=>e.low i h1 h2 b hc) fun hc=>by subst hc; exact h i h1 h2⟩
def swp (L:Nat→Nat) (k a:Nat):Nat→Nat:=fun i=>if i=k then L a else if i=a then L k else L i
def elm (L:Nat→Nat) (k c:Nat):Nat→Nat:=fun i=>if i≠k∧(L i).testBit c=true then L i ^^^ L k else L i
theorem swp_from (L:Nat→Nat) {k a n:Nat} (hk:k≤a) (ha:a<n) (i:Nat) (hi:i<n) : ∃ j,j<n∧swp L k a i=L j∧(k≤i→k≤j)∧(i<k→j=i):=by
 unfold swp
 by_cases h1:i=k
 · rw [if_pos h1]; exact ⟨a,ha,rfl,fun _=>hk,fun h=>by omega⟩
 · rw [if_neg h1]
   by_cases h2:i=a
   · rw [if_pos h2]; exact ⟨k,by omega,rfl,fun _=>Nat.le_refl _,fun h=>by omega⟩
   · rw [if_neg h2]; exact ⟨i,hi,rfl,fun h=>h,fun _=>rfl⟩
theorem swp_to (L:Nat→Nat) {k a n:Nat} (hk:k≤a) (ha:a<n) (j:Nat) (hj:j<n) : ∃ i,i<n∧swp L k a i=L j:=by
 by_cases h1:j=a
 · exact ⟨k,by omega,by rw [swp,if_pos rfl,h1]⟩
 · by_cases h2:j=k
   · refine ⟨a,ha,?_⟩
     unfold swp
     rw [if_neg (by omega),if_pos rfl,h2]
   · exact ⟨j,hj,by rw [swp,if_neg h2,if_neg h1]⟩
theorem swp_S (hk:k≤a) (ha:a<n) (y:Nat):S (rowsF (swp L k a) n) y=S (rowsF L n) y:=by
 refine S_eq (fun x hx=>?_) (fun x hx=>?_) y
 · obtain ⟨i,hi,rfl⟩:=Wp.1 hx
   obtain ⟨j,hj,e,_⟩:=swp_from L hk ha i hi
   rw [e]; exact rowsF_S hj
 · obtain ⟨j,hj,rfl⟩:=Wp.1 hx
   obtain ⟨i,hi,e⟩:=swp_to L hk ha j hj
   rw [← e]; exact rowsF_S hi
theorem elm_S (hk:k<n) (y:Nat):S (rowsF (elm L k c) n) y=S (rowsF L n) y:=by
 have ek:elm L k c k=L k:=by rw [elm,if_neg (by simp)]
 refine S_eq (fun x hx=>?_) (fun x hx=>?_) y
 · obtain ⟨i,hi,rfl⟩:=Wp.1 hx
   unfold elm
   split
   · exact S_xor _ (rowsF_S hi) (rowsF_S hk)
   · exact rowsF_S hi
 · obtain ⟨i,hi,rfl⟩:=Wp.1 hx
   have h1:=rowsF_S (L:=elm L k c) hi
   have h2:=rowsF_S (L:=elm L k c) hk
   rw [ek] at h2
   unfold elm at h1
   split at h1
   · have:=S_xor _ h1 h2
     rw [Vb] at this; exact this
   · exact h1
theorem EI.some (e:EI n L0 L k c pv) (hk:k≤a) (ha:a<n) (hb:(L a).testBit c=true):EI n L0 (elm (swp L k a) k c) (k+1) (c+1) fun j=>if j=k then c else pv j:=by
 have hkn:k<n:=by omega
 have srow:swp L k a k=L a:=by rw [swp,if_pos rfl]
 have ek:elm (swp L k a) k c k=L a:=by rw [elm,if_neg (by simp),srow]
 have other : ∀ i,i≠k→elm (swp L k a) k c i=if (swp L k a i).testBit c=true then swp L k a i ^^^ L a else swp L k a i:=fun i hi=>by
  unfold elm; rw [srow]
  by_cases h:(swp L k a i).testBit c=true
  · rw [if_pos ⟨hi,h⟩,if_pos h]
  · rw [if_neg (fun h2=>h h2.2),if_neg h]
 refine ⟨by omega,fun i hi=>?_,fun y=>?_,fun j hj=>?_,fun i h1 h2 b hbc=>?_⟩
 · obtain ⟨j,hj,es,_⟩:=swp_from L hk ha i hi
   unfold elm
   rw [srow,es]
   split
   · exact Nat.xor_lt_two_pow (e.lt j hj) (e.lt a ha)
   · exact e.lt j hj
 · rw [elm_S hkn,swp_S hk ha]; exact e.same y
 · by_cases hjk:j=k
   · subst hjk
     rw [if_pos rfl,ek]
     refine ⟨hb,fun i hi hne=>?_⟩
     rw [other i hne]
     cases h:(swp L j a i).testBit c with
     | true=>rw [if_pos rfl,Nat.testBit_xor,h,hb]; rfl
     | false=>rw [if_neg (by decide),h]
   · rw [if_neg hjk]
     have hj' : j<k:=by omega
     obtain ⟨p1,p2⟩:=e.piv j hj'
     have ra:=p2 a ha (by omega)
     refine ⟨?_,fun i hi hne=>?_⟩
     · rw [other j hjk]
       obtain ⟨j2,_,es,_,e2⟩:=swp_from L hk ha j (by omega)
       rw [es,e2 hj']
       split
       · rw [Nat.testBit_xor,p1,ra]; rfl
       · exact p1
     · by_cases hik:i=k
       · subst hik; rw [ek]; exact ra
       · rw [other i hik]
         obtain ⟨i2,hi2,es,g1,g2⟩:=swp_from L hk ha i hi
         have hne2:i2≠j:=by
          by_cases h:i<k
          · rw [g2 h]; exact hne
          · have:=g1 (by omega); omega
         have r2:=p2 i2 hi2 hne2
         rw [es]
         split
         · rw [Nat.testBit_xor,r2,ra]; rfl
         · exact r2
 · have hik:i≠k:=by omega
   rw [other i hik]
   by_cases hc:b=c
   · subst hc
     cases h:(swp L k a i).testBit b with
     | true=>rw [if_pos rfl,Nat.testBit_xor,h,hb]; rfl
     | false=>rw [if_neg (by decide),h]
   · obtain ⟨i2,hi2,es,g1,_⟩:=swp_from L hk ha i h2
     have r1:=e.low i2 (g1 (by omega)) hi2 b (by omega)
     have r2:=e.low a hk ha b (by omega)
     rw [es]
     split
     · rw [Nat.testBit_xor,r1,r2]; rfl
     · exact r1
theorem S_bit {p:Nat} : ∀ {l:List Nat} {y:Nat},(∀ z∈l,z.testBit p=false)→S l y=true→y.testBit p=false
 | [],y,_,h=>by rw [S,beq_iff_eq] at h; subst h; exact Nat.zero_testBit p
 | x::l,y,hl,h=>by
   rw [S,Bool.or_eq_true] at h
   rcases h with h | h
   · exact S_bit (fun z hz=>hl z (by simp [hz])) h
   · have h1:=S_bit (fun z hz=>hl z (by simp [hz])) h
     rw [Nat.testBit_xor,hl x (by simp),Bool.xor_false] at h1; exact h1
theorem ind_piv (L:Nat→Nat) (pv:Nat→Nat) : ∀ (k:Nat),(∀ j,j<k→(L j).testBit (pv j)=true∧∀ i,i<k→i≠j→(L i).testBit (pv j)=false)→Ind (rowsF L k).reverse
 | 0,_=>trivial
 | k+1,h=>by
   have e:(rowsF L (k+1)).reverse=L k::(rowsF L k).reverse:=by simp [rowsF,List.range_succ]
   rw [e]
   refine ⟨?_,ind_piv L pv k fun j hj=>⟨(h j (by omega)).1,fun i hi hne=>(h j (by omega)).2 i (by omega) hne⟩⟩
   cases hs:S (rowsF L k).reverse (L k) with
   | false=>rfl
   | true =>
     have:=S_bit (p:=pv k) (fun z hz=>by
      obtain ⟨i,hi,rfl⟩:=Wp.1 (List.mem_reverse.1 hz)
      exact (h k (by omega)).2 i (by omega) (by omega)) hs
     rw [(h k (by omega)).1] at this; cases this
theorem zero_low {x n:Nat} (h:x<2 ^ n) (hb : ∀ b,b<n→x.testBit b=false):x=0:=by
 apply Nat.eq_of_testBit_eq
 intro i
 rw [Nat.zero_testBit]
 by_cases hi:i<n
 · exact hb i hi
 · exact Nat.testBit_lt_two_pow (Nat.lt_of_lt_of_le h (Nat.pow_le_pow_right (by decide) (by omega)))
theorem EI.fin (e:EI n L0 L k n pv):dim n (rowsF L0 n)=k:=by
 have h1 : ∀ y,S (rowsF L0 n) y=S (rowsF L k).reverse y:=fun y=>by
  rw [← e.same y]
  refine S_eq (fun x hx=>?_) (fun x hx=>?_) y
  · obtain ⟨i,hi,rfl⟩:=Wp.1 hx
    by_cases hik:i<k
    · exact S_mem (List.mem_reverse.2 (Wp.2 ⟨i,hik,rfl⟩))
    · rw [zero_low (e.lt i hi) (e.low i (by omega) hi)]; exact S_zero _
  · obtain ⟨i,hi,rfl⟩:=Wp.1 (List.mem_reverse.1 hx)
    have:=e.kn
    exact rowsF_S (by omega)
 have hkn:=e.kn
 rw [dim_congr h1,dim_ind (fun x hx=>by
  obtain ⟨i,hi,rfl⟩:=Wp.1 (List.mem_reverse.1 hx)
  exact e.lt i (by omega)) (ind_piv L pv k fun j hj=>⟨(e.piv j hj).1,fun i hi hne=>(e.piv j hj).2 i (by omega) hne⟩)]
 simp [rowsF]
end
/-! The least of b and of some numbers. -/
def IsMin (b:Nat) (P:Nat→Prop) (v:Nat):Prop:=(v=b∨P v)∧v≤b∧∀ w,P w→v≤w
theorem IsMin.uniq {b:Nat} {P:Nat→Prop} {v w:Nat} (h1:IsMin b P v) (h2:IsMin b P w):v=w:=by
 obtain ⟨a1,b1,c1⟩:=h1
 obtain ⟨a2,b2,c2⟩:=h2
 have x1:v≤w:=by rcases a2 with rfl | h; exact b1; exact c1 w h
 have x2:w≤v:=by rcases a1 with rfl | h; exact b2; exact c2 v h
 omega
theorem IsMin.start (b:Nat):IsMin b (fun _=>False) b:=⟨.inl rfl,Nat.le_refl _,fun _ h=>h.elim⟩
theorem IsMin.next {b v w:Nat} {P P' : Nat→Prop} (h1:IsMin b P v) (h2:IsMin v P' w):IsMin b (fun x=>P x∨P' x) w:=by
 obtain ⟨a1,b1,c1⟩:=h1
 obtain ⟨a2,b2,c2⟩:=h2
 refine ⟨?_,by omega,fun x hx=>?_⟩
 · rcases a2 with rfl | h
   · exact a1.imp id .inl
   · exact .inr (.inr h)
 · rcases hx with h | h
   · have:=c1 x h; omega
   · exact c2 x h
theorem IsMin.congr {b v:Nat} {P P' : Nat→Prop} (h1:IsMin b P v) (h : ∀ x,P x↔P' x):IsMin b P' v :=
 ⟨h1.1.imp id (h v).1,h1.2.1,fun w hw=>h1.2.2 w ((h w).2 hw)⟩
theorem IsMin.skip {b:Nat} {P:Nat→Prop} (h : ∀ w,P w→b≤w):IsMin b P b:=⟨.inl rfl,Nat.le_refl _,h⟩
def okRow (g:Nat→Nat) (n i r:Nat):Prop:=r<2 ^ n∧r.testBit i=true∧∀ b,b≠i→r.testBit b=true→(g i).testBit b=true
def Cm (g:Nat→Nat) (n:Nat):Nat→Nat→List Nat→Prop
 | 0,_,c=>c=[]
 | k+1,i,c=>∃ r d,c=r::d∧okRow g n i r∧Cm g n k (i+1) d
def Rk (g:Nat→Nat) (n k i:Nat) (R:List Nat) (w:Nat):Prop:=∃ c,Cm g n k i c∧w=dim n (R++c)
theorem S_app2 {l m:List Nat} (h : ∀ y,S l y=S m y) (c:List Nat) (y:Nat):S (l++c) y=S (m++c) y:=by
 have key : ∀ {l m:List Nat},(∀ y,S l y=S m y)→∀ x∈l++c,S (m++c) x=true:=by
  intro l m h x hx
  rcases List.mem_append.1 hx with hx | hx
  · have h1:S m x=true:=by rw [← h]; exact S_mem hx
    exact S_sub (fun z hz=>S_mem (List.mem_append_left _ hz)) h1
  · exact S_mem (List.mem_append_right _ hx)
 exact S_eq (key h) (key fun y=>(h y).symm) y
theorem Rk.congr {g:Nat→Nat} {n k i:Nat} {R R' : List Nat} (h : ∀ y,S R y=S R' y) (w:Nat):Rk g n k i R w↔Rk g n k i R' w:=by
 constructor
 · rintro ⟨c,hc,e⟩; exact ⟨c,hc,by rw [e,dim_congr (S_app2 h c)]⟩
 · rintro ⟨c,hc,e⟩; exact ⟨c,hc,by rw [e,dim_congr (S_app2 h c)]⟩
theorem Rk.zero {g:Nat→Nat} {n i:Nat} {R:List Nat} (w:Nat):Rk g n 0 i R w↔w=dim n R:=by
 constructor
 · rintro ⟨c,hc,e⟩; rw [Cm] at hc; subst hc; rw [List.append_nil] at e; exact e
 · intro e; exact ⟨[],rfl,by rw [List.append_nil]; exact e⟩
theorem Rk.succ {g:Nat→Nat} {n k i:Nat} {R:List Nat} (w:Nat):Rk g n (k+1) i R w↔∃ r,okRow g n i r∧Rk g n k (i+1) (R++[r]) w:=by
 constructor
 · rintro ⟨c,⟨r,d,rfl,h1,h2⟩,e⟩
   exact ⟨r,h1,d,h2,by rw [e,List.append_assoc]; rfl⟩
 · rintro ⟨r,h1,d,h2,e⟩
   exact ⟨r::d,⟨r,d,rfl,h1,h2⟩,by rw [e,List.append_assoc]; rfl⟩
theorem Rk.ge {g:Nat→Nat} {n k i:Nat} {R:List Nat} {w:Nat} (h:Rk g n k i R w):dim n R≤w:=by
 obtain ⟨c,_,rfl⟩:=h
 exact dim_mono fun y hy=>S_sub (fun z hz=>S_mem (List.mem_append_left _ hz)) hy
end Rn
namespace Rn
open Sr
end Rn
namespace Go.Proofs.Tryd.Am
open Go.Am
set_option maxRecDepth 100000
end Go.Proofs.Tryd.Am
namespace Go.Proofs.Tryd.Am
open Go.Am Sr
set_option maxRecDepth 100000
set_option maxHeartbeats 1000000
def swL (L:List Nat) (j:Nat):List Nat:=(L.set j (L.getD (j-1) 0)).set (j-1) (L.getD j 0)
theorem swL_get {L:List Nat} {j:Nat} (h1:1≤j) (h2:j<L.length) (t:Nat):(swL L j).getD t 0=if t=j-1 then L.getD j 0 else if t=j then L.getD (j-1) 0 else L.getD t 0:=by
 rw [swL,getD_setN (by rw [List.length_set]; omega),getD_setN h2]
def SrtTo (L:List Nat) (i:Nat):Prop:=∀ p q,p<q→q<i→L.getD q 0≤L.getD p 0
def SrtBut (L:List Nat) (i j:Nat):Prop:=∀ p q,p<q→q≤i→q≠j→L.getD q 0≤L.getD p 0
theorem SrtBut.step {L:List Nat} {i j:Nat} (h:SrtBut L i j) (h1:1≤j) (h2:j<L.length) (hj:j≤i) (hlt:L.getD (j-1) 0<L.getD j 0):SrtBut (swL L j) i (j-1):=by
 intro p q hpq hq hne
 rw [swL_get h1 h2,swL_get h1 h2,if_neg hne]
 by_cases hqj:q=j
 · rw [if_pos hqj]
   by_cases hp:p=j-1
   · rw [if_pos hp]; omega
   · rw [if_neg hp,if_neg (by omega)]
     exact h p (j-1) (by omega) (by omega) (by omega)
 · rw [if_neg hqj]
   by_cases hp:p=j-1
   · rw [if_pos hp]; exact h j q (by omega) hq hqj
   · rw [if_neg hp]
     by_cases hpj:p=j
     · rw [if_pos hpj]; exact h (j-1) q (by omega) hq hqj
     · rw [if_neg hpj]; exact h p q hpq hq hqj
theorem SrtBut.done {L:List Nat} {i j:Nat} (h:SrtBut L i j) (hj:j=0∨L.getD j 0≤L.getD (j-1) 0):SrtTo L (i+1):=by
 intro p q hpq hq
 by_cases hqj:q=j
 · subst hqj
   rcases hj with hj | hj
   · omega
   · by_cases hp:p=q-1
     · subst hp; exact hj
     · exact Nat.le_trans hj (h p (q-1) (by omega) (by omega) (by omega))
 · exact h p q hpq (by omega) hqj
theorem SrtTo.pw {L:List Nat} (h:SrtTo L L.length):L.Pairwise fun a b=>b≤a:=by
 rw [List.pairwise_iff_getElem]
 intro i j hi hj hij
 have:=h i j hij hj
 rw [List.getD,List.getD,List.getElem?_eq_getElem hi,List.getElem?_eq_getElem hj] at this
 exact this
abbrev ov (b n m:Nat):Value:=.slice (some ⟨b,0,some 0⟩) n (n+m)
end Go.Proofs.Tryd.Am
namespace Go.Proofs.Tryd.Am
open Go.Am Sr
set_option maxRecDepth 100000
set_option maxHeartbeats 1000000
end Go.Proofs.Tryd.Am
namespace Go.Proofs.Tryd.Am
open Go.Am Sr
set_option maxRecDepth 100000
set_option maxHeartbeats 1000000
def SpSl (h:Zh) (v:Value) (B:List Nat):Prop:=(v = .slice none 0 0∧B=[])∨(B≠[]∧IntSl h v (iL B))
theorem SpSl.int {h:Zh} {v:Value} {B:List Nat} (hv:SpSl h v B):IntSl h v (iL B):=by
 rcases hv with ⟨rfl,rfl⟩ | ⟨_,h⟩
 · exact .inl ⟨rfl,rfl⟩
 · exact h
theorem SpSl.ext {h h' : Zh} {v:Value} {B:List Nat} (hv:SpSl h v B) (hE:Ext (fun _=>False) h h'):SpSl h' v B:=hv.imp id fun h=>⟨h.1,Xn h.2 hE⟩
theorem getD_mem {B:List Nat} {j:Nat} (hj:j<B.length):B.getD j 0∈B:=by
 rw [List.getD,List.getElem?_eq_getElem hj]; exact List.getElem_mem hj
end Go.Proofs.Tryd.Am
namespace Go.Proofs.Tryd.Am
open Go.Am Sr
set_option maxRecDepth 100000
set_option maxHeartbeats 1000000
structure FH (h:Zh) (gv:Value) (bb bg bx bf:Nat):Prop where
 g:h[bg]? = some (.cells [gv] 22 false)
 x:h[bx]? = some (.cells [gv] 56 false)
 f:h[bf]? = some (.cells [.func (.func 74) #[] #[pt bb,pt bg,pt bx,pt bf]] 75 false)
 ng:bg≠bb
 nx:bx≠bb
 nf:bf≠bb
theorem FH.ext {h h' : Zh} {gv:Value} {bb bg bx bf:Nat} (f:FH h gv bb bg bx bf) (hE:Ext (fun i=>i=bb) h h'):FH h' gv bb bg bx bf :=
 { f with g:=(hE.2 _ (Zz f.g) f.ng).trans f.g,x:=(hE.2 _ (Zz f.x) f.nx).trans f.x,f:=(hE.2 _ (Zz f.f) f.nf).trans f.f }
end Go.Proofs.Tryd.Am
namespace Go.Proofs.Tryd.Am
open Go.Am Sr
set_option maxRecDepth 100000
set_option maxHeartbeats 1000000
def c5 (L:Nat→Nat):List Value:=(List.range 5).map fun i=>Zd (L i:Nat)
def upd (L:Nat→Nat) (i x:Nat):Nat→Nat:=fun t=>if t=i then x else L t
section
variable {h:Zh} {b i:Nat} {L:Nat→Nat}
end
end Go.Proofs.Tryd.Am
namespace Go.Proofs.Tryd.Am
open Go.Am Sr
set_option maxRecDepth 100000
set_option maxHeartbeats 1000000
end Go.Proofs.Tryd.Am
namespace Go.Proofs.Tryd.Am
open Go.Am Sr
end Go.Proofs.Tryd.Am
namespace Go.Proofs.Tryd.Am
open Go.Am
set_option maxRecDepth 100000
end Go.Proofs.Tryd.Am
namespace Go.Proofs.Tryd.Am
open Go.Am Sr
set_option maxRecDepth 100000
set_option maxHeartbeats 4000000
end Go.Proofs.Tryd.Am
namespace Go.Proofs.Tryd.Am
open Go.Am
set_option maxRecDepth 100000
/-! 12: planchet planchetlaw05.SureConfuses -/
@[reducible] def q12_0:SCode:=.region [⟨some 2,.assign (.const (.bool false)),none⟩]
@[reducible] def q12_1:SCode:=.region [⟨some 8,.move (.tmp 0),none⟩,
  ⟨some 9,.call { callee:=.value (.func 18),args:=#[.tmp 8],argTypes:=#[22] },none⟩,
  ⟨some 10,.call { callee:=.value (.func 44),args:=#[.tmp 9],argTypes:=#[22] },none⟩,
  ⟨some 7,.move (.tmp 10),none⟩,
  ⟨some 11,.extract (.tmp 7) 0,none⟩,
  ⟨some 12,.extract (.tmp 7) 1,none⟩,
  ⟨some 3,.assign (.tmp 11),none⟩,
  ⟨some 4,.assign (.tmp 12),none⟩]
@[reducible] def q12_2:SCode:=.region [⟨some 14,.move (.tmp 0),none⟩,
  ⟨some 15,.call { callee:=.value (.func 18),args:=#[.tmp 14],argTypes:=#[22] },none⟩,
  ⟨some 16,.call { callee:=.value (.func 45),args:=#[.tmp 15],argTypes:=#[22] },none⟩,
  ⟨some 13,.move (.tmp 16),none⟩,
  ⟨some 17,.extract (.tmp 13) 0,none⟩,
  ⟨some 18,.extract (.tmp 13) 1,none⟩,
  ⟨some 5,.alloc 44,none⟩,
  ⟨none,.store 44 (.tmp 5) (.tmp 17),none⟩,
  ⟨some 6,.assign (.tmp 18),none⟩]
@[reducible] def q12_3:SCode:=.region [⟨some 19,.move (.tmp 0),none⟩,
  ⟨some 20,.call { callee:=.value (.func 46),args:=#[.tmp 19],argTypes:=#[22] },none⟩,
  ⟨some 21,.unOp .not 4 (.tmp 20),none⟩]
@[reducible] def q12_4:SCode:=.region [⟨some 22,.move (.tmp 3),none⟩,
  ⟨some 23,.call { callee:=.builtin .len,args:=#[.tmp 22],argTypes:=#[22] },none⟩,
  ⟨some 24,.binOp .eql 3 (.tmp 23) (.const (.int .i64 0)) 3,none⟩,
  ⟨some 25,.move (.tmp 24),none⟩,
  ⟨some 26,.load 44 (.tmp 5),some (25,true)⟩,
  ⟨some 27,.call { callee:=.value (.func 40),args:=#[.tmp 26],argTypes:=#[44] },some (25,true)⟩,
  ⟨some 28,.pick (.tmp 25) (.tmp 27) (.const (.bool false)),none⟩,
  ⟨some 29,.move (.tmp 28),none⟩,
  ⟨some 30,.move (.tmp 4),some (29,true)⟩,
  ⟨some 31,.binOp .eql 23 (.tmp 30) (.const (.int .i64 2)) 23,some (29,true)⟩,
  ⟨some 32,.pick (.tmp 29) (.tmp 31) (.const (.bool false)),none⟩,
  ⟨some 33,.move (.tmp 32),none⟩,
  ⟨some 34,.move (.tmp 6),some (33,true)⟩,
  ⟨some 35,.binOp .eql 23 (.tmp 34) (.const (.int .i64 2)) 23,some (33,true)⟩,
  ⟨some 36,.pick (.tmp 33) (.tmp 35) (.const (.bool false)),none⟩,
  ⟨some 37,.move (.tmp 36),none⟩,
  ⟨some 38,.call { callee:=.value (.func 21),args:=#[],argTypes:=#[] },some (37,true)⟩,
  ⟨some 39,.pick (.tmp 37) (.tmp 38) (.const (.bool false)),none⟩,
  ⟨some 2,.assign (.tmp 39),none⟩]
def q12_5:SCode:=.draw [⟨some 40,.move (.tmp 3),none⟩,
    ⟨some 41,.move (.tmp 0),none⟩,
    ⟨some 42,.call { callee:=.value (.func 47),args:=#[.tmp 41],argTypes:=#[22] },none⟩,
    ⟨some 43,.call { callee:=.value (.func 24),args:=#[.tmp 40,.tmp 42],argTypes:=#[22,22] },none⟩,
    ⟨some 44,.move (.tmp 43),none⟩,
    ⟨some 45,.move (.tmp 4),some (44,true)⟩,
    ⟨some 46,.binOp .eql 23 (.tmp 45) (.const (.int .i64 0)) 23,some (44,true)⟩,
    ⟨some 47,.pick (.tmp 44) (.tmp 46) (.const (.bool false)),none⟩,
    ⟨some 48,.move (.tmp 47),none⟩,
    ⟨some 49,.load 44 (.tmp 5),some (48,true)⟩,
    ⟨some 50,.move (.tmp 0),some (48,true)⟩,
    ⟨some 51,.call { callee:=.value (.func 48),args:=#[.tmp 50],argTypes:=#[22] },some (48,true)⟩,
    ⟨some 52,.binOp .eql 44 (.tmp 49) (.tmp 51) 44,some (48,true)⟩,
    ⟨some 53,.pick (.tmp 48) (.tmp 52) (.const (.bool false)),none⟩,
    ⟨some 54,.move (.tmp 53),none⟩,
    ⟨some 55,.move (.tmp 6),some (54,true)⟩,
    ⟨some 56,.binOp .eql 23 (.tmp 55) (.const (.int .i64 0)) 23,some (54,true)⟩,
    ⟨some 57,.pick (.tmp 54) (.tmp 56) (.const (.bool false)),none⟩,
    ⟨some 58,.move (.tmp 57),none⟩,
    ⟨some 59,.call { callee:=.value (.func 21),args:=#[],argTypes:=#[] },some (58,true)⟩,
    ⟨some 60,.pick (.tmp 58) (.tmp 59) (.const (.bool false)),none⟩,
    ⟨some 2,.assign (.tmp 60),none⟩]
  [[],[],[1],[0,2,2],[3,3],[4],[5,4],[4,6],[7,4],[8],[8],[10,8,8],[9,11,8],[8,12],[13,11],[14],[15,14],[14,16],[17,14],[18,18],[18,19],[20,19,0,1,2,3,4,5,6,7,8,9,10,11,12,13,14,15,16,17,18,19,20]]
def s12:SCode:=(.seq q12_0 (.seq q12_1 (.seq q12_2 (.seq (.seq q12_3 (.cond (.tmp 21) (.seq q12_4 .ret) .skip)) (.seq q12_5 .ret)))))
theorem s12_strip:Zy (Zw Tryd.f12)=s12:=by kernel_rfl
theorem s12_ok:Yn 61 (Zw Tryd.f12)=true:=by kernel_rfl
end Go.Proofs.Tryd.Am
namespace Go.Proofs.Tryd.Am
open Go.Am Sr
set_option maxRecDepth 100000
set_option maxHeartbeats 8000000
theorem none_call [Tabs prog] {h:Zh} {x y:Int}:ACall prog 40 [frV x y] h fun r h'=>Ext (fun _=>False) h h'∧r = .bool ([x,y]==[0,0]):=by
 refine s40_call (by simp) ?_
 simp only [s40,frV]
 simp (maxSteps:=2000000) only [↓Za,↓Zp,↓Ya,↓Zb,↓Zc,vup,List.map_nil,cond_true,cond_false,aop,Zg,Zt,ev,sput,Zf,Zv,Zx,Nat.reduceBEq,Nat.reduceAdd,Zu,Xu,tup,boxF,Xc,Vj (Yp h _),bldF0,Xa,Option.map_some,List.length_cons,List.length_nil,Nat.zero_add,eqF]
 exact Ext.app _ _ _
theorem none_call0 [Tabs prog] {h:Zh}:ACall prog 40 [.agg #[Zd 0,Zd 0]] h fun r h'=>Ext (fun _=>False) h h'∧r = .bool true:=(none_call (x:=0) (y:=0)).mono fun r h' ⟨a,b⟩=>⟨a,by rw [b]; rfl⟩
end Go.Proofs.Tryd.Am
namespace Bq
def B4:List (List Int):=[0,1].flatMap fun a=>[0,1].flatMap fun b=>[0,1].flatMap fun c=>[0,1].map fun d=>[a,b,c,d]
def pl (a b:List Int):List Int:=match a,b with
 | [a0,a1,a2,a3],[b0,b1,b2,b3]=>[a0*b1-a1*b0,a0*b2-a2*b0,a0*b3-a3*b0,a1*b2-a2*b1,a1*b3-a3*b1,a2*b3-a3*b2]
 | _,_=>[]
def lap (p q:List Int):Int:=match p,q with
 | [p0,p1,p2,p3,p4,p5],[q0,q1,q2,q3,q4,q5]=>p0*q5-p1*q4+p2*q3+p3*q2-p4*q1+p5*q0
 | _,_=>0
def V6:List (List Int):=[[-1,-1,-1,-1,-1,0],[-1,-1,-1,-1,0,1],[-1,-1,-1,0,-1,-1],[-1,-1,-1,0,0,0],[-1,-1,-1,0,1,1],[-1,-1,-1,1,0,-1],[-1,-1,-1,1,1,0],[-1,-1,0,-1,0,0],[-1,-1,0,-1,1,1],[-1,-1,0,0,0,0],[-1,-1,0,0,1,1],[-1,-1,0,1,0,0],[-1,-1,0,1,1,1],[-1,-1,1,0,1,1],[-1,0,-1,0,-1,0],[-1,0,-1,0,0,0],[-1,0,-1,0,1,0],[-1,0,-1,1,-1,-1],[-1,0,-1,1,0,-1],[-1,0,-1,1,1,-1],[-1,0,0,0,0,0],[-1,0,0,0,1,0],[-1,0,0,1,0,0],[-1,0,0,1,1,0],[-1,0,1,0,1,0],[-1,0,1,1,1,1],[-1,1,-1,1,0,-1],[-1,1,0,1,0,0],[-1,1,0,1,1,-1],[-1,1,1,1,1,0],[0,-1,-1,-1,-1,-1],[0,-1,-1,-1,-1,0],[0,-1,-1,-1,-1,1],[0,-1,-1,0,0,-1],[0,-1,-1,0,0,0],[0,-1,-1,0,0,1],[0,-1,0,-1,0,0],[0,-1,0,-1,0,1],[0,-1,0,0,0,0],[0,-1,0,0,0,1],[0,-1,1,-1,1,1],[0,-1,1,0,0,1],[0,0,-1,0,-1,-1],[0,0,-1,0,-1,0],[0,0,-1,0,0,-1],[0,0,-1,0,0,0],[0,0,0,-1,-1,-1],[0,0,0,-1,-1,0],[0,0,0,-1,-1,1],[0,0,0,-1,0,0],[0,0,0,-1,0,1],[0,0,0,-1,1,1],[0,0,0,0,-1,-1],[0,0,0,0,-1,0],[0,0,0,0,0,-1],[0,0,0,0,0,0],[0,0,0,0,0,1],[0,0,0,0,1,0],[0,0,0,0,1,1],[0,0,0,1,-1,-1],[0,0,0,1,0,-1],[0,0,0,1,0,0],[0,0,0,1,1,-1],[0,0,0,1,1,0],[0,0,0,1,1,1],[0,0,1,0,0,0],[0,0,1,0,0,1],[0,0,1,0,1,0],[0,0,1,0,1,1],[0,1,-1,0,0,-1],[0,1,-1,1,-1,-1],[0,1,0,0,0,-1],[0,1,0,0,0,0],[0,1,0,1,0,-1],[0,1,0,1,0,0],[0,1,1,0,0,-1],[0,1,1,0,0,0],[0,1,1,0,0,1],[0,1,1,1,1,-1],[0,1,1,1,1,0],[0,1,1,1,1,1],[1,-1,-1,-1,-1,0],[1,-1,0,-1,-1,1],[1,-1,0,-1,0,0],[1,-1,1,-1,0,1],[1,0,-1,-1,-1,-1],[1,0,-1,0,-1,0],[1,0,0,-1,-1,0],[1,0,0,-1,0,0],[1,0,0,0,-1,0],[1,0,0,0,0,0],[1,0,1,-1,-1,1],[1,0,1,-1,0,1],[1,0,1,-1,1,1],[1,0,1,0,-1,0],[1,0,1,0,0,0],[1,0,1,0,1,0],[1,1,-1,0,-1,-1],[1,1,0,-1,-1,-1],[1,1,0,-1,0,0],[1,1,0,0,-1,-1],[1,1,0,0,0,0],[1,1,0,1,-1,-1],[1,1,0,1,0,0],[1,1,1,-1,-1,0],[1,1,1,-1,0,1],[1,1,1,0,-1,-1],[1,1,1,0,0,0],[1,1,1,0,1,1],[1,1,1,1,0,-1],[1,1,1,1,1,0]]
theorem pl_V6:(B4.all fun a=>B4.all fun b=>V6.contains (pl a b))=true:=by decide +kernel
theorem lap_V6:(V6.all fun p=>V6.all fun q=>decide ((lap p q).natAbs≤3))=true:=by decide +kernel
theorem lap_le {a b c d:List Int} (ha:a∈B4) (hb:b∈B4) (hc:c∈B4) (hd:d∈B4):(lap (pl a b) (pl c d)).natAbs≤3:=by
 have h1:=List.contains_iff_mem.1 (List.all_eq_true.1 (List.all_eq_true.1 pl_V6 a ha) b hb)
 have h2:=List.contains_iff_mem.1 (List.all_eq_true.1 (List.all_eq_true.1 pl_V6 c hc) d hd)
 exact of_decide_eq_true (List.all_eq_true.1 (List.all_eq_true.1 lap_V6 _ h1) _ h2)
def row4 (r:List Int):List Int:=[r.getD 0 0,r.getD 1 0,r.getD 2 0,r.getD 3 0]
theorem get01 {r:List Int} (h : ∀ y∈r,y=0∨y=1) (i:Nat):r.getD i 0=0∨r.getD i 0=1:=by
 rw [List.getD]
 by_cases hi:i<r.length
 · rw [List.getElem?_eq_getElem hi]; exact h _ (List.getElem_mem _)
 · rw [List.getElem?_eq_none (by omega)]; exact .inl rfl
theorem row4_mem {r:List Int} (h : ∀ y∈r,y=0∨y=1):row4 r∈B4:=by
 rw [row4]
 rcases get01 h 0 with h0 | h0 <;> rcases get01 h 1 with h1 | h1 <;> rcases get01 h 2 with h2 | h2 <;> rcases get01 h 3 with h3 | h3 <;> rw [h0,h1,h2,h3] <;> decide
theorem pdet4 (a b c d:List Int):pdet 4 [a,b,c,d]=lap (pl (row4 a) (row4 b)) (pl (row4 c) (row4 d)):=by
 simp only [pdet,pdet.isum,List.length_cons,List.length_nil,List.getD_cons_zero,List.getD_cons_succ,List.eraseIdx,Nat.zero_add,Nat.reduceAdd,row4,pl,lap]
 simp only [Nat.reduceMod,if_true]
 grind
theorem pdet4_abs {s:List (List Int)} (hl:s.length=4) (h : ∀ r∈s,∀ y∈r,y=0∨y=1):(pdet 4 s).natAbs≤3:=by
 match s,hl with
 | [a,b,c,d],_ =>
   rw [pdet4]
   exact lap_le (row4_mem (h a (by simp))) (row4_mem (h b (by simp))) (row4_mem (h c (by simp))) (row4_mem (h d (by simp)))
theorem pdet_next {n M:Nat} (hM : ∀ s:List (List Int),s.length=n→(∀ r∈s,∀ y∈r,y=0∨y=1)→(pdet n s).natAbs≤M) {s:List (List Int)} (hl:s.length=n+1) (h : ∀ r∈s,∀ y∈r,y=0∨y=1):(pdet (n+1) s).natAbs≤(n+1)*M:=by
 rw [pdet,hl]
 refine isum_abs fun i hi=>?_
 have h1:=hM (s.eraseIdx i) (by rw [List.length_eraseIdx,if_pos (by omega),hl]; rfl) fun r hr=>h r (List.mem_of_mem_eraseIdx hr)
 have hy:(s.getD i []).getD n 0=0∨(s.getD i []).getD n 0=1:=by
  have e2:s.getD i []=s[i]'(by omega):=by rw [List.getD,List.getElem?_eq_getElem]; rfl
  rw [e2]; exact get01 (h _ (List.getElem_mem _)) n
 rw [Int.natAbs_mul,Int.natAbs_mul]
 have h3:(if (i+n) % 2=0 then (1:Int) else -1).natAbs=1:=by split <;> rfl
 rw [h3,Nat.one_mul]
 rcases hy with h4 | h4 <;> rw [h4]
 · simp
 · simpa using h1
theorem pdet_90 {n:Nat} (h6:n≤6) {s:List (List Int)} (hl:s.length=n) (h : ∀ r∈s,∀ y∈r,y=0∨y=1):(pdet n s).natAbs≤90:=by
 have d4 : ∀ s:List (List Int),s.length=4→(∀ r∈s,∀ y∈r,y=0∨y=1)→(pdet 4 s).natAbs≤3:=fun s h1 h2=>pdet4_abs h1 h2
 have d5 : ∀ s:List (List Int),s.length=5→(∀ r∈s,∀ y∈r,y=0∨y=1)→(pdet 5 s).natAbs≤15:=fun s h1 h2=>pdet_next d4 h1 h2
 have d6 : ∀ s:List (List Int),s.length=6→(∀ r∈s,∀ y∈r,y=0∨y=1)→(pdet 6 s).natAbs≤90:=fun s h1 h2=>pdet_next d5 h1 h2
 have low : ∀ m,m≤3→fact m≤6:=fun m hm=>by
  have:m=0∨m=1∨m=2∨m=3:=by omega
  rcases this with rfl | rfl | rfl | rfl <;> decide
 by_cases h3:n≤3
 · exact Nat.le_trans (pdet_abs n s hl h) (Nat.le_trans (low n h3) (by decide))
 · have:n=4∨n=5∨n=6:=by omega
   rcases this with rfl | rfl | rfl
   · exact Nat.le_trans (d4 s hl h) (by decide)
   · exact Nat.le_trans (d5 s hl h) (by decide)
   · exact d6 s hl h
theorem opt_num {n:Nat} {sets:List Nat} {q:Rat} (h6:n≤6) (hc : ∀ i,i<n→∃ s∈sets,s.testBit i=true) (h:IsOpt n sets q):q.num.natAbs≤540∧q.den≤90:=by
 obtain ⟨x,hx,hxq⟩:=h.at_
 obtain ⟨B,v,hv,hle⟩:=corner_ex hc hx
 have hq:q=sumTo v n:=Rat.le_antisymm (by rw [← hxq]; exact hle) (h.le v hv.ok)
 have hd:pdet n (Wv n sets B)≠0:=(pdet_row hv.len).2 hv.det
 obtain ⟨y,h1,h2,h3⟩:=leaf_some hv.len hd
 have hy:sumTo v n=sumTo y n:=sumTo_congr fun i hi=>h3 v hv i hi
 have hlen:(Wv n sets B).length=n:=by rw [Wv,List.length_map,hv.len]
 have hr01 : ∀ r∈Wv n sets B,r.length=n+1∧∀ y∈r,y=0∨y=1:=fun r hr=>by
  obtain ⟨k,_,rfl⟩:=List.mem_map.1 hr
  exact ⟨rowI_len n sets k,rowI_01⟩
 have hdb:=pdet_90 h6 hlen fun r hr=>(hr01 r hr).2
 have hj : ∀ j,j<n→(pdet n ((Wv n sets B).map (putR n j))).natAbs≤90:=fun j hj=>pdet_90 h6 (by rw [List.length_map,hlen]) fun r hr y hy=>by
  obtain ⟨r',hr',rfl⟩:=List.mem_map.1 hr
  rw [putR] at hy
  rcases List.mem_or_eq_of_mem_set hy with h | h
  · exact (hr01 r' hr').2 y h
  · rw [h]; exact get01 (hr01 r' hr').2 n
 have hS:(pdet.isum (fun j=>pdet n ((Wv n sets B).map (putR n j))) n).natAbs≤n*90:=isum_abs hj
 obtain ⟨S,hSd⟩ : ∃ S,S=pdet.isum (fun j=>pdet n ((Wv n sets B).map (putR n j))) n:=⟨_,rfl⟩
 obtain ⟨d,hdd⟩ : ∃ d,d=pdet n (Wv n sets B):=⟨_,rfl⟩
 rw [← hSd] at hS
 rw [← hdd] at hd hdb
 have e:q*(d:Rat)=(S:Rat):=by
  rw [hSd,isum_cast,hq,hy,Rat.mul_comm,← Yb]
  exact sumTo_congr fun j hj=>by rw [h1 j hj,hdd,Rat.mul_comm]
 have e2:=divInt_of_mul hd e
 have e3:=natAbs_divInt_num_le S hd
 rw [e2] at e3
 exact ⟨by omega,by omega⟩
end Bq
namespace Go.Proofs.Tryd.Am
open Go.Am Sr
def Chn (xs:List Int):Prop:=1≤xs.length∧xs.length≤6∧∀ i,i<xs.length→1≤xs.getD i 0∧xs.getD i 0≤255
def chB (xs:List Int):Bool:=decide (1≤xs.length)&&decide (xs.length≤6)&&(List.range xs.length).all fun i=>decide (1≤xs.getD i 0)&&decide (xs.getD i 0≤255)
theorem Vl {xs:List Int}:chB xs=true↔Chn xs:=by
 simp only [chB,Chn,Bool.and_eq_true,decide_eq_true_eq,List.all_eq_true,List.mem_range,and_assoc]
theorem chB_take (xs:List Int):chB (xs.take 80)=chB xs:=by
 by_cases h:xs.length≤80
 · rw [List.take_of_length_le h]
 · have h1:chB xs=false:=by
    rw [← Bool.not_eq_true,Vl]; intro hc; have:=hc.2.1; omega
   have h2:chB (xs.take 80)=false:=by
    rw [← Bool.not_eq_true,Vl]; intro hc; have:=hc.2.1; rw [List.length_take] at this; omega
   rw [h1,h2]
theorem chB_same {xs:List Int} (h:chB xs=true):xs.take 80=xs:=List.take_of_length_le (by have:=(Vl.1 h).2.1; omega)
theorem chn_gn {xs:List Int} (c:Chn xs) {i:Nat} (hi:i<xs.length):xs.getD i 0=((gn xs i:Nat):Int)∧1≤gn xs i∧gn xs i<256:=by
 have:=c.2.2 i hi
 unfold gn; omega
def setO (xs:List Int) (o:Nat):Nat:=mk (fun i=>(gn xs i).testBit o) xs.length
theorem setO_bit {xs:List Int} {o i:Nat} (hi:i<xs.length):(setO xs o).testBit i=(gn xs i).testBit o:=by rw [setO,mk_bit,decide_eq_true hi,Bool.true_and]
theorem setO_lt (xs:List Int) (o:Nat):setO xs o<2 ^ xs.length:=mk_lt _ _
def bsTo (xs:List Int):Nat→List Nat
 | 0=>[]
 | o+1=>if setO xs o≠0∧¬ setO xs o∈bsTo xs o then bsTo xs o++[setO xs o] else bsTo xs o
theorem mem_bsTo {xs:List Int} {s:Nat} : ∀ {k:Nat},s∈bsTo xs k↔s≠0∧∃ o,o<k∧s=setO xs o
 | 0=>by rw [bsTo]; exact ⟨fun h=>(by cases h),fun ⟨_,o,h,_⟩=>absurd h (Nat.not_lt_zero o)⟩
 | k+1=>by
   rw [bsTo]
   have ih:=mem_bsTo (xs:=xs) (s:=s) (k:=k)
   split
   · next h =>
     rw [List.mem_append,List.mem_singleton,ih]
     constructor
     · rintro (⟨h1,o,ho,e⟩ | rfl)
       · exact ⟨h1,o,by omega,e⟩
       · exact ⟨h.1,k,by omega,rfl⟩
     · rintro ⟨h1,o,ho,e⟩
       by_cases hk:o=k
       · exact .inr (by rw [e,hk])
       · exact .inl ⟨h1,o,by omega,e⟩
   · next h =>
     rw [ih]
     constructor
     · rintro ⟨h1,o,ho,e⟩; exact ⟨h1,o,by omega,e⟩
     · rintro ⟨h1,o,ho,e⟩
       by_cases hk:o=k
       · refine ih.1 (Classical.byContradiction fun hn=>h ⟨?_,?_⟩)
         · rw [← hk,← e]; exact h1
         · rw [← hk,← e,hk]; exact hn
       · exact ⟨h1,o,by omega,e⟩
theorem bsTo_len (xs:List Int) : ∀ k,(bsTo xs k).length≤k
 | 0=>Nat.le_refl _
 | k+1=>by
   rw [bsTo]; have:=bsTo_len xs k
   split
   · rw [List.length_append,List.length_singleton]; omega
   · omega
theorem bs_lt {xs:List Int} {k:Nat} : ∀ s∈bsTo xs k,s<2 ^ xs.length:=fun s hs=>by
 obtain ⟨_,o,_,rfl⟩:=mem_bsTo.1 hs; exact setO_lt xs o
theorem bit_ex {a k:Nat} (h0:a≠0) (hk:a<2 ^ k) : ∃ o,o<k∧a.testBit o=true:=by
 refine Classical.byContradiction fun h=>h0 (Nat.eq_of_testBit_eq fun o=>?_)
 rw [Nat.zero_testBit]
 by_cases ho:o<k
 · cases hb:a.testBit o with
   | false=>rfl
   | true=>exact absurd ⟨o,ho,hb⟩ h
 · exact Nat.testBit_lt_two_pow (Nat.lt_of_lt_of_le hk (Nat.pow_le_pow_right (by decide) (by omega)))
theorem set_in {xs:List Int} {i o:Nat} (hi:i<xs.length) (ho:o<8) (hb:(gn xs i).testBit o=true):setO xs o∈bsTo xs 8∧(setO xs o).testBit i=true:=by
 have h1:(setO xs o).testBit i=true:=by rw [setO_bit hi]; exact hb
 exact ⟨mem_bsTo.2 ⟨fun h=>(by rw [h,Nat.zero_testBit] at h1; cases h1),o,ho,rfl⟩,h1⟩
theorem bs_cover {xs:List Int} (c:Chn xs) (i:Nat) (hi:i<xs.length) : ∃ s∈bsTo xs 8,s.testBit i=true:=by
 obtain ⟨_,h1,h2⟩:=chn_gn c hi
 obtain ⟨o,ho,hb⟩:=bit_ex (a:=gn xs i) (k:=8) (by omega) h2
 obtain ⟨h3,h4⟩:=set_in hi ho hb
 exact ⟨_,h3,h4⟩
theorem bs_ne {xs:List Int} (c:Chn xs):bsTo xs 8≠[]:=fun h=>by
 obtain ⟨s,hs,_⟩:=bs_cover c 0 (by have:=c.1; omega)
 rw [h] at hs; cases hs
/-! ### Optima in general -/
theorem opt_ge1 {n:Nat} {sets:List Nat} {q:Rat} (h0:0<n) (h:Bq.IsOpt n sets q):1≤q:=by
 have:=h.le (fun i=>if i=0 then 1 else 0) ⟨fun i _=>by split <;> decide,fun s _=>by
  have:Bq.dot (Bq.bitQ s) (fun i=>if i=0 then 1 else 0) n=Bq.bitQ s 0:=by
   have h1:=Bq.dot_unit (n:=n) (t:=0) (fun i=>if i=0 then 1 else 0) (Bq.bitQ s) h0 fun i _=>rfl
   rw [← h1,Bq.dot,Bq.dot]
   exact Bq.sumTo_congr fun i _=>Rat.mul_comm _ _
  rw [this,Bq.bitQ]; split <;> decide⟩
 have e:Bq.sumTo (fun i=>if i=0 then (1:Rat) else 0) n=1:=Bq.sumTo_pick (fun _=>(1:Rat)) h0
 rwa [e] at this
theorem feas_le1 {n:Nat} {sets:List Nat} {x:Nat→Rat} (hc : ∀ i,i<n→∃ s∈sets,s.testBit i=true) (hx:Bq.PFeas n sets x) {i:Nat} (hi:i<n):x i≤1:=by
 obtain ⟨s,hs,hb⟩:=hc i hi
 refine Rat.le_trans ?_ (hx.le s hs)
 have h2:=Bq.sumTo_one (g:=fun i=>Bq.bitQ s i*x i) hi fun j hj=>Rat.mul_nonneg (Bq.bitQ_nn _ _) (hx.nn j hj)
 have h3:Bq.bitQ s i=1:=by rw [Bq.bitQ,if_pos hb]
 simp only [h3,Rat.one_mul] at h2
 exact h2
theorem opt_len {n:Nat} {sets:List Nat} {q:Rat} (hc : ∀ i,i<n→∃ s∈sets,s.testBit i=true) (h:Bq.IsOpt n sets q):q≤((n:Nat):Rat):=by
 obtain ⟨x,hx,rfl⟩:=h.at_
 exact sum_le_nat fun i hi=>feas_le1 hc hx hi
/-! ### What Back tells -/
def BQ (xs:List Int) (q:Rat):Prop:=Bq.IsOpt xs.length (bsTo xs 8) q
def cfP (xs:List Int) (i j:Nat):Bool:=(gn xs i &&& gn xs j) != 0
def cfL (xs:List Int):List Int:=iL (mat (cfP xs) xs.length)
theorem cfL_len (xs:List Int):(cfL xs).length=xs.length:=by rw [cfL,iL_len,mat_len]
theorem back_num {xs:List Int} (c:Chn xs) {q:Rat} (hq:BQ xs q):(q.den:Int)≤q.num∧q.num≤540∧q.num≤(q.den:Int)*xs.length:=by
 have h1:=opt_ge1 c.1 hq
 have h2:=opt_len (bs_cover c) hq
 have h3:=(Bq.opt_num c.2.1 (bs_cover c) hq).1
 rw [Rat.le_iff] at h1 h2
 have e1:(1:Rat).num=1:=rfl
 have e2:(1:Rat).den=1:=rfl
 have e3:(((xs.length:Nat):Rat)).num=(xs.length:Int):=rfl
 have e4:(((xs.length:Nat):Rat)).den=1:=rfl
 rw [e1,e2] at h1
 rw [e3,e4] at h2
 refine ⟨by omega,by omega,?_⟩
 rw [Int.mul_comm]; omega
end Go.Proofs.Tryd.Am
