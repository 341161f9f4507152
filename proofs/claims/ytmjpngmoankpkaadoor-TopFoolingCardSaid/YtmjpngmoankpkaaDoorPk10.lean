/-
  top: the greatest clear rectangles of a table.
  top: the end of a slice of pairs made 0.
  top: DeleteFunc on pairs.
  top: a smallest cover, as the program finds it: one step of the search.
  top: a smallest cover, as the program finds it: the search.
-/
import Derived.Test.YtmjpngmoankpkaaDoorPk9
import Derived.Test.YtmjpngmoankpkaaDoorPk5
set_option linter.all false
namespace Go.Proofs.Tryd.Am.Tf
open Go.Proofs.Tryd.Am
open Go.Am
set_option maxRecDepth 100000
set_option maxHeartbeats 4000000
noncomputable def clrB (t:List (List Int)) (x:Int) (p:Nat×Nat):Bool:=@decide (Clr t p.1 p.2 x) (Classical.propDecidable _)
def pI (p:Nat×Nat):Int×Int:=((p.1:Int),(p.2:Int))
noncomputable def allR (t:List (List Int)) (x:Int):List (Nat×Nat):=(Vg (2 ^ t.length-1) (2 ^ wd t-1)).filter (clrB t x)
def belB (r s:Nat×Nat):Bool:=!(decide (s.1=r.1∧s.2=r.2))&&inB r.1 r.2 s.1 s.2
noncomputable def grR (t:List (List Int)) (x:Int):List (Nat×Nat):=(allR t x).filter fun r=>!((allR t x).any fun s=>belB r s)
theorem clrB_iff {t:List (List Int)} {x:Int} {p:Nat×Nat}:clrB t x p=true↔Clr t p.1 p.2 x:=by unfold clrB; exact @decide_eq_true_iff _ (Classical.propDecidable _)
theorem clrB_no {t:List (List Int)} {x:Int} {p:Nat×Nat} (h : ¬ Clr t p.1 p.2 x):clrB t x p=false:=by
 cases hb:clrB t x p with
 | false=>rfl
 | true=>exact absurd (clrB_iff.1 hb) h
theorem Mix.no {t:List (List Int)} {a b:Nat} {x:Int} (h:Mix t a b) : ¬ Clr t a b x:=by
 obtain ⟨i,j,i',j',h1,h2,h3,h4,h5,h6,h7⟩:=h
 exact fun c=>h7 ((c.1 i j h1 h2 h3).trans (c.1 i' j' h4 h5 h6).symm)
theorem Clr.other {t:List (List Int)} {a b:Nat} {x y:Int} (h:Clr t a b y) (hx:0≤x) (hn:y≠x) : ¬ Clr t a b x:=by
 rintro ⟨_,c | ⟨_,i,j,h1,h2,h3,h4⟩⟩
 · omega
 · exact hn ((h.1 i j h1 h2 h3).symm.trans h4)
theorem rects_mem {R C:Nat} {p:Nat×Nat} (h:p∈Vg R C):1≤p.1∧p.1≤R∧1≤p.2∧p.2≤C:=by
 simp only [Vg,List.mem_flatMap,List.mem_range,List.mem_map] at h
 obtain ⟨i,hi,j,hj,rfl⟩:=h
 simp only; omega
theorem pow4 {n:Nat} (h:n≤4):2 ^ n-1≤15:=by
 have:=Nat.pow_le_pow_right (n:=2) (by decide) h
 omega
theorem allR_mem {t:List (List Int)} (ht:Tab t) {x:Int} {p:Nat×Nat} (h:p∈allR t x):p.1≤15∧p.2≤15∧Clr t p.1 p.2 x:=by
 obtain ⟨h1,h2⟩:=List.mem_filter.1 h
 have h3:=rects_mem h1
 have h4:=pow4 ht.n4
 have h5:=pow4 ht.w4
 exact ⟨by omega,by omega,clrB_iff.1 h2⟩
theorem rects_len {R C:Nat}:(Vg R C).length=R*C:=by
 induction R with
 | zero=>simp [Vg]
 | succ R ih=>rw [rects_succ,List.length_append,ih,rrow,List.length_map,List.length_range,Nat.succ_mul]
theorem allR_len {t:List (List Int)} (ht:Tab t) {x:Int}:(allR t x).length≤225:=by
 have h1:(allR t x).length≤(Vg (2 ^ t.length-1) (2 ^ wd t-1)).length:=List.length_filter_le _ _
 rw [rects_len] at h1
 exact Nat.le_trans h1 (Nat.mul_le_mul (pow4 ht.n4) (pow4 ht.w4))
structure GS (H hp:Yc) (ov:Value) (l:List (Int×Int)):Prop where
 ext:Ext (fun _=>False) H hp
 c5:hp[H.length]? = some (.cells [ov] 77 false)
 own:OwnP 81 hp ov l
 new : ∀ b,Yk ov=some b→H.length≤b
theorem GS.more {H hp h1:Yc} {ov:Value} {l:List (Int×Int)} (s:GS H hp ov l) (hE:Ext (fun _=>False) hp h1):GS H h1 ov l :=
 ⟨s.ext.trans hE,(hE.2 _ (Yp s.c5) id).trans s.c5,s.own.ext hE,s.new⟩
theorem GS.put {H hp h1:Yc} {ov w:Value} {l l' : List (Int×Int)} (s:GS H hp ov l) (hE:Ext (fun b=>Yk ov=some b) hp h1) (ho:OwnP 81 h1 w l') (hn : ∀ b,Yk w=some b→Yk ov=some b∨hp.length≤b):GS H (h1.set H.length (.cells [w] 77 false)) w l':=by
 have e5:=(hE.2 _ (Yp s.c5) (Wd s.own s.c5)).trans s.c5
 have hl:=s.ext.1
 refine ⟨⟨by rw [List.length_set]; exact Nat.le_trans s.ext.1 hE.1,fun q hq _=>?_⟩,Xy (Yp e5) _,ho.same fun b hb=>List.getElem?_set_ne (fun hc:H.length=b=>Wd ho e5 (by rw [hc]; exact hb)),fun b hb=>?_⟩
 · rw [List.getElem?_set_ne (by omega),hE.2 q (Nat.lt_of_lt_of_le hq s.ext.1) (fun hc=>by have:=s.new q hc; omega)]
   exact s.ext.2 q hq id
 · rcases hn b hb with h1 | h1
   · exact s.new b h1
   · omega
theorem litR {h:Yc} {x y:Int} {K:Value→Yc→Prop}:Yx prog h 77 1 [(0,.agg #[Zx x,Zx y])] K=K (.slice (some ⟨h.length,0,none⟩) 1 1) (h++[.ints [x,y] 81 false]):=by
 simp only [Yx,el_77,zero_81,esz_81,reps,fillL,mkb,Wt,cellsOf,List.toList_toArray,List.length_cons,List.length_nil,Nat.zero_add,Nat.zero_mul,Yt]
 refine propext ⟨fun h=>?_,fun h=>⟨trivial,by decide,by decide,?_⟩⟩
 · simpa [Xf] using h.2.2.2
 · simpa [Xf] using h
theorem ext_app {S:Nat→Prop} {h g h' : Yc} (hE:Ext S (h++g) h'):Ext S h h' :=
 ⟨by have:=hE.1; rw [List.length_append] at this; omega,fun b hb hf=>(hE.2 b (by rw [List.length_append]; omega) hf).trans (List.getElem?_append_left hb)⟩
theorem blk_app {hp g:Yc} {w ov:Value} (hb:Yk w=Yk ov∨∃ b,Yk w=some b∧(hp++g).length≤b) : ∀ b,Yk w=some b→Yk ov=some b∨hp.length≤b:=fun b hb1=>by
 rcases hb with h1 | ⟨b',h1,h2⟩
 · exact .inl (h1▸hb1)
 · rw [h1] at hb1; cases hb1
   rw [List.length_append] at h2; exact .inr (by omega)
theorem great_round [Tabs prog] {H hp:Yc} {v ov:Value} {t:List (List Int)} {x:Int} {b2 b3:Nat} {pre:List (Nat×Nat)} {p:Nat×Nat} (hv:TabS H v t) (ht:Tab t) (hx:x=0∨x=1) (c2:H[b2]? = some (.cells [v] 70 false)) (c3:H[b3]? = some (.cells [Zx x] 3 false))
  (hpre:pre++[p] <+: Vg (2 ^ t.length-1) (2 ^ wd t-1)) (s:GS H hp ov ((pre.filter (clrB t x)).map pI)) {e0:Env} {Q:Exit→Env→Yc→Prop} :
  AWS prog 47 r44_0_a (Zv (AWS prog 47 r44_0_b (rangeQ e0 (fun hq=>∃ ov',GS H hq ov' (((pre++[p]).filter (clrB t x)).map pI)) Q)) (fun _ _ _=>False)) [(2,pt b2),(3,pt b3),(5,pt H.length),(14,rVm p)] hp:=by
 have hp1:=rects_mem (hpre.subset (List.mem_append_right _ (List.mem_singleton.2 rfl)))
 have h4:=pow4 ht.n4
 have h5:=pow4 ht.w4
 have hplen:pre.length≤225:=by
  have h1:=hpre.length_le
  rw [rects_len,List.length_append] at h1
  have h2:=Nat.mul_le_mul h4 h5
  omega
 have hfl:=List.length_filter_le (clrB t x) pre
 have hfa:(pre++[p]).filter (clrB t x)=pre.filter (clrB t x)++(if clrB t x p=true then [p] else []):=by
  rw [List.filter_append]
  congr 1
  cases hb:clrB t x p <;> simp [hb]
 obtain ⟨a,b⟩:=p
 simp only at hp1
 refine Yd ?_
 simp only [r44_0_a]
 simp (maxSteps:=2000000) only [s44,↓Za,↓Zk,↓Zr,↓Ze,↓Zm,↓Zs,↓Zf,↓Zh,↓Zg,↓Zc,↓Zb,↓vdn,vup,Zn,Zl,Zo,Zi,Zj,List.map_cons,List.map_nil,cond_true,cond_false,aop,Zv,Zq,Zp,ev,sput,Zt,Zy,Ya,unK,Zd,Zw,Nat.reduceBEq,Nat.reduceAdd,Int.reduceBEq,Int.reduceBNe,Int.reduceLT,Zu,Zz,tup,tyf,Xx,Xd,zero_81,storeR]
 have hE0:Ext (fun _=>False) hp (hp++[Blk.cells [Zx (a:Nat),Zx (b:Nat)] 81 false]):=Ext.app _ _ _
 have c7:=Yj hp (Blk.cells [Zx (a:Nat),Zx (b:Nat)] 81 false)
 have s1:=s.more hE0
 generalize hp++[Blk.cells [Zx (a:Nat),Zx (b:Nat)] 81 false]=h1 at hE0 c7 s1 ⊢
 generalize hp.length=b7 at c7 ⊢
 refine aws_le (?_:AWS prog 47 _ _ [(2,pt b2),(3,pt b3),(5,pt H.length),(7,pt b7)] h1) (by simp (maxSteps:=2000000) only [↓Za,↓Zk,↓Zr,↓Ze,↓Zm,↓Zs,↓Zf,↓Zh,↓Zg,↓Zc,↓Zb,↓vdn,vup,Zn,Zl,Zo,Zi,Zj,List.map_cons,List.map_nil,cond_true,cond_false,aop,Zv,Zq,Zp,ev,sput,Zt,Zy,Ya,unK,Zd,Zw,Nat.reduceBEq,Nat.reduceAdd,Int.reduceBEq,Int.reduceBNe,Int.reduceLT,Zu,Zz,tup,tyf])
 simp only [r44_0_b]
 refine Yh ?_
 refine Yf fun Q1 hQ1=>?_
 have d2:=(s1.ext.2 _ (Yp c2) id).trans c2
 refine Yb fun N1 hN1=>?_
 simp (maxSteps:=2000000) only [s44,↓Za,↓Zk,↓Zr,↓Ze,↓Zm,↓Zs,↓Zf,↓Zh,↓Zg,↓Zc,↓Zb,↓vdn,vup,Zn,Zl,Zo,Zi,Zj,List.map_cons,List.map_nil,cond_true,cond_false,aop,Zv,Zq,Zp,ev,sput,Zt,Zy,Ya,unK,Zd,Zw,Nat.reduceBEq,Nat.reduceAdd,Int.reduceBEq,Int.reduceBNe,Int.reduceLT,Zu,Zz,tup,tyf,Yz,List.nil_append,List.append_nil,List.toList_toArray,List.cons_append,Xa d2 shp_70,loadR c7]
 refine (clear_call (hv.ext s1.ext) ht (show a<9223372036854775808 by omega) (show b<9223372036854775808 by omega)).mono ?_
 rintro _ h2 ⟨⟨y,ok,rfl,hok,hmix⟩,hE2⟩
 simp (maxSteps:=2000000) only [s44,↓Za,↓Zk,↓Zr,↓Ze,↓Zm,↓Zs,↓Zf,↓Zh,↓Zg,↓Zc,↓Zb,↓vdn,vup,Zn,Zl,Zo,Zi,Zj,List.map_cons,List.map_nil,cond_true,cond_false,aop,Zv,Zq,Zp,ev,sput,Zt,Zy,Ya,unK,Zd,Zw,Nat.reduceBEq,Nat.reduceAdd,Int.reduceBEq,Int.reduceBNe,Int.reduceLT,Zu,Zz,tup,tyf]
 refine hN1 [(2,pt b2),(3,pt b3),(5,pt H.length),(7,pt b7),(8,Zx y),(9,.bool ok)] _ _ ?_ (by simp (maxSteps:=2000000) only [↓Za,↓Zk,↓Zr,↓Ze,↓Zm,↓Zs,↓Zf,↓Zh,↓Zg,↓Zc,↓Zb,↓vdn,vup,Zn,Zl,Zo,Zi,Zj,List.map_cons,List.map_nil,cond_true,cond_false,aop,Zv,Zq,Zp,ev,sput,Zt,Zy,Ya,unK,Zd,Zw,Nat.reduceBEq,Nat.reduceAdd,Int.reduceBEq,Int.reduceBNe,Int.reduceLT,Zu,Zz,tup,tyf])
 clear hN1
 try clear N1
 have s2:=s1.more hE2
 have d3:=(s2.ext.2 _ (Yp c3) id).trans c3
 have d7:=(hE2.2 _ (Yp c7) id).trans c7
 cases ok with
 | false =>
   refine Yb fun N2 hN2=>?_
   simp (maxSteps:=2000000) only [s44,↓Za,↓Zk,↓Zr,↓Ze,↓Zm,↓Zs,↓Zf,↓Zh,↓Zg,↓Zc,↓Zb,↓vdn,vup,Zn,Zl,Zo,Zi,Zj,List.map_cons,List.map_nil,cond_true,cond_false,aop,Zv,Zq,Zp,ev,sput,Zt,Zy,Ya,unK,Zd,Zw,Nat.reduceBEq,Nat.reduceAdd,Int.reduceBEq,Int.reduceBNe,Int.reduceLT,Zu,Zz,tup,tyf]
   refine hN2 [(2,pt b2),(3,pt b3),(5,pt H.length),(7,pt b7),(8,Zx y),(9,.bool false),(26,.bool false)] _ _ ?_ (by simp (maxSteps:=2000000) only [↓Za,↓Zk,↓Zr,↓Ze,↓Zm,↓Zs,↓Zf,↓Zh,↓Zg,↓Zc,↓Zb,↓vdn,vup,Zn,Zl,Zo,Zi,Zj,List.map_cons,List.map_nil,cond_true,cond_false,aop,Zv,Zq,Zp,ev,sput,Zt,Zy,Ya,unK,Zd,Zw,Nat.reduceBEq,Nat.reduceAdd,Int.reduceBEq,Int.reduceBNe,Int.reduceLT,Zu,Zz,tup,tyf])
   clear hN2
   try clear N2
   refine Yq rfl ?_
   refine Yd ?_
   simp (maxSteps:=2000000) only [s44,↓Za,↓Zk,↓Zr,↓Ze,↓Zm,↓Zs,↓Zf,↓Zh,↓Zg,↓Zc,↓Zb,↓vdn,vup,Zn,Zl,Zo,Zi,Zj,List.map_cons,List.map_nil,cond_true,cond_false,aop,Zv,Zq,Zp,ev,sput,Zt,Zy,Ya,unK,Zd,Zw,Nat.reduceBEq,Nat.reduceAdd,Int.reduceBEq,Int.reduceBNe,Int.reduceLT,Zu,Zz,tup,tyf]
   refine hQ1 _ _ _ ?_
   simp (maxSteps:=2000000) only [s44,↓Za,↓Zk,↓Zr,↓Ze,↓Zm,↓Zs,↓Zf,↓Zh,↓Zg,↓Zc,↓Zb,↓vdn,vup,Zn,Zl,Zo,Zi,Zj,List.map_cons,List.map_nil,cond_true,cond_false,aop,Zv,Zq,Zp,ev,sput,Zt,Zy,Ya,unK,Zd,Zw,Nat.reduceBEq,Nat.reduceAdd,Int.reduceBEq,Int.reduceBNe,Int.reduceLT,Zu,Zz,tup,tyf,rangeQ]
   refine ⟨ov,?_⟩
   rw [hfa,if_neg (by rw [clrB_no (hmix rfl).no]; decide),List.append_nil]
   exact s2
 | true =>
   have hc:=hok rfl
   cases hy:(y==x) with
   | false =>
     refine Yb fun N3 hN3=>?_
     simp (maxSteps:=2000000) only [s44,↓Za,↓Zk,↓Zr,↓Ze,↓Zm,↓Zs,↓Zf,↓Zh,↓Zg,↓Zc,↓Zb,↓vdn,vup,Zn,Zl,Zo,Zi,Zj,List.map_cons,List.map_nil,cond_true,cond_false,aop,Zv,Zq,Zp,ev,sput,Zt,Zy,Ya,unK,Zd,Zw,Nat.reduceBEq,Nat.reduceAdd,Int.reduceBEq,Int.reduceBNe,Int.reduceLT,Zu,Zz,tup,tyf,Xa d3 Yw,hy]
     refine hN3 [(2,pt b2),(3,pt b3),(5,pt H.length),(7,pt b7),(8,Zx y),(9,.bool true),(26,.bool false)] _ _ ?_ (by simp (maxSteps:=2000000) only [↓Za,↓Zk,↓Zr,↓Ze,↓Zm,↓Zs,↓Zf,↓Zh,↓Zg,↓Zc,↓Zb,↓vdn,vup,Zn,Zl,Zo,Zi,Zj,List.map_cons,List.map_nil,cond_true,cond_false,aop,Zv,Zq,Zp,ev,sput,Zt,Zy,Ya,unK,Zd,Zw,Nat.reduceBEq,Nat.reduceAdd,Int.reduceBEq,Int.reduceBNe,Int.reduceLT,Zu,Zz,tup,tyf])
     clear hN3
     try clear N3
     refine Yq rfl ?_
     refine Yd ?_
     simp (maxSteps:=2000000) only [s44,↓Za,↓Zk,↓Zr,↓Ze,↓Zm,↓Zs,↓Zf,↓Zh,↓Zg,↓Zc,↓Zb,↓vdn,vup,Zn,Zl,Zo,Zi,Zj,List.map_cons,List.map_nil,cond_true,cond_false,aop,Zv,Zq,Zp,ev,sput,Zt,Zy,Ya,unK,Zd,Zw,Nat.reduceBEq,Nat.reduceAdd,Int.reduceBEq,Int.reduceBNe,Int.reduceLT,Zu,Zz,tup,tyf]
     refine hQ1 _ _ _ ?_
     simp (maxSteps:=2000000) only [s44,↓Za,↓Zk,↓Zr,↓Ze,↓Zm,↓Zs,↓Zf,↓Zh,↓Zg,↓Zc,↓Zb,↓vdn,vup,Zn,Zl,Zo,Zi,Zj,List.map_cons,List.map_nil,cond_true,cond_false,aop,Zv,Zq,Zp,ev,sput,Zt,Zy,Ya,unK,Zd,Zw,Nat.reduceBEq,Nat.reduceAdd,Int.reduceBEq,Int.reduceBNe,Int.reduceLT,Zu,Zz,tup,tyf,rangeQ]
     refine ⟨ov,?_⟩
     rw [hfa,if_neg (by rw [clrB_no (hc.other (by omega) (by simpa using hy))]; decide),List.append_nil]
     exact s2
   | true =>
     obtain rfl:y=x:=by simpa using hy
     refine Yb fun N4 hN4=>?_
     simp (maxSteps:=2000000) only [s44,↓Za,↓Zk,↓Zr,↓Ze,↓Zm,↓Zs,↓Zf,↓Zh,↓Zg,↓Zc,↓Zb,↓vdn,vup,Zn,Zl,Zo,Zi,Zj,List.map_cons,List.map_nil,cond_true,cond_false,aop,Zv,Zq,Zp,ev,sput,Zt,Zy,Ya,unK,Zd,Zw,Nat.reduceBEq,Nat.reduceAdd,Int.reduceBEq,Int.reduceBNe,Int.reduceLT,Zu,Zz,tup,tyf,Xa d3 Yw,hy]
     refine hN4 [(2,pt b2),(3,pt b3),(5,pt H.length),(7,pt b7),(8,Zx y),(9,.bool true),(26,.bool true)] _ _ ?_ (by simp (maxSteps:=2000000) only [↓Za,↓Zk,↓Zr,↓Ze,↓Zm,↓Zs,↓Zf,↓Zh,↓Zg,↓Zc,↓Zb,↓vdn,vup,Zn,Zl,Zo,Zi,Zj,List.map_cons,List.map_nil,cond_true,cond_false,aop,Zv,Zq,Zp,ev,sput,Zt,Zy,Ya,unK,Zd,Zw,Nat.reduceBEq,Nat.reduceAdd,Int.reduceBEq,Int.reduceBNe,Int.reduceLT,Zu,Zz,tup,tyf])
     clear hN4
     try clear N4
     refine Xe rfl ?_
     refine Yd ?_
     have hb:b7≠H.length:=fun hc=>by have:=s2.c5; rw [← hc,d7] at this; cases this
     simp (maxSteps:=2000000) only [s44,↓Za,↓Zk,↓Zr,↓Ze,↓Zm,↓Zs,↓Zf,↓Zh,↓Zg,↓Zc,↓Zb,↓vdn,vup,Zn,Zl,Zo,Zi,Zj,List.map_cons,List.map_nil,cond_true,cond_false,aop,Zv,Zq,Zp,ev,sput,Zt,Zy,Ya,unK,Zd,Zw,Nat.reduceBEq,Nat.reduceAdd,Int.reduceBEq,Int.reduceBNe,Int.reduceLT,Zu,Zz,tup,tyf,Xa s2.c5 shp_77,loadR d7,litR]
     refine (s2.own.ext (Ext.app _ _ _)).append app_77_77 (by rw [List.length_map]; omega) (Yj _ _) ?_
     intro w z1 ho hE hb
     have hE1:=ext_app hE
     have e5:=(hE1.2 _ (Yp s2.c5) (Wd s2.own s2.c5)).trans s2.c5
     simp (maxSteps:=2000000) only [s44,↓Za,↓Zk,↓Zr,↓Ze,↓Zm,↓Zs,↓Zf,↓Zh,↓Zg,↓Zc,↓Zb,↓vdn,vup,Zn,Zl,Zo,Zi,Zj,List.map_cons,List.map_nil,cond_true,cond_false,aop,Zv,Zq,Zp,ev,sput,Zt,Zy,Ya,unK,Zd,Zw,Nat.reduceBEq,Nat.reduceAdd,Int.reduceBEq,Int.reduceBNe,Int.reduceLT,Zu,Zz,tup,tyf,store1 e5 shp_77 (OwnP_one ho)]
     refine hQ1 _ _ _ ?_
     simp (maxSteps:=2000000) only [s44,↓Za,↓Zk,↓Zr,↓Ze,↓Zm,↓Zs,↓Zf,↓Zh,↓Zg,↓Zc,↓Zb,↓vdn,vup,Zn,Zl,Zo,Zi,Zj,List.map_cons,List.map_nil,cond_true,cond_false,aop,Zv,Zq,Zp,ev,sput,Zt,Zy,Ya,unK,Zd,Zw,Nat.reduceBEq,Nat.reduceAdd,Int.reduceBEq,Int.reduceBNe,Int.reduceLT,Zu,Zz,tup,tyf,rangeQ]
     refine ⟨w,?_⟩
     rw [hfa,if_pos (clrB_iff.2 hc),List.map_append]
     exact s2.put hE1 ho (blk_app hb)
theorem EN.more {e:TypeId} {h hp h1:Yc} {ov:Value} {l:List (Int×Int)} (s:EN e h hp ov l) (hE:Ext (fun _=>False) hp h1):EN e h h1 ov l:=⟨s.own.ext hE,s.ext.trans hE,s.new⟩
theorem pI_get {al:List (Nat×Nat)} {i:Nat} (hi:i<al.length):(al.map pI).getD i (0,0)=pI (al.getD i (0,0)):=by
 rw [List.getD,List.getElem?_map,List.getElem?_eq_getElem hi,List.getD,List.getElem?_eq_getElem hi]; rfl
theorem great_take {al:List (Nat×Nat)} (q:Nat×Nat→Bool) {i:Nat} (hi:i<al.length):((al.take (i+1)).filter q).map pI=((al.take i).filter q).map pI++(if q (al.getD i (0,0))=true then [pI (al.getD i (0,0))] else []):=by
 have e:al.take (i+1)=al.take i++[al.getD i (0,0)]:=by
  rw [List.take_succ,List.getElem?_eq_getElem hi,Option.toList_some,List.getD,List.getElem?_eq_getElem hi]; rfl
 rw [e,List.filter_append,List.map_append]
 congr 1
 cases hq:q (al.getD i (0,0)) with
 | false=>rw [List.filter_cons,hq]; rfl
 | true=>rw [List.filter_cons,hq]; rfl
theorem s44_callW [Tabs Tryd.prog] {args:List Value} {h:Yc} {Q:Value→Yc→Prop} (hsz:args.length≤47) (hk:AWS Tryd.prog 47 s44 (Zu Tryd.prog [.tmp 4] Q) (Zp 0 args) h):ACall Tryd.prog 44 args h Q :=
 Xg Tryd.func44 rfl (enters_of Tryd.func44 (by kernel_rfl) rfl) rfl rfl (by decide) s44_strip s44_ok hsz hk
theorem greatest_call [Tabs prog] {h:Yc} {v:Value} {t:List (List Int)} {x:Int} (hv:TabS h v t) (ht:Tab t) (hx:x=0∨x=1):ACall prog 44 [v,Zx x] h fun r h'=>EN 81 h h' r ((grR t x).map pI):=by
 have hbx : ∀ (g:Yc) (K:Value→Yc→Prop),boxK prog g 70 v K=K (Xd g) (g++[Blk.cells [v] 70 false]):=by
  obtain ⟨ws,h1,_⟩:=hv
  intro g K
  rcases h1 with ⟨rfl,_⟩ | ⟨b,o,sp,cap,c,e,ro,rfl,_⟩ <;> simp only [boxK,esz_70,Option.isSome_some,true_and,cellsOf]
 have h4:=pow4 ht.n4
 have h5:=pow4 ht.w4
 have hal:=allR_len ht (x:=x)
 refine s44_callW (by simp) ?_
 simp only [s44]
 refine Yb fun N5 hN5=>?_
 simp (maxSteps:=2000000) only [s44,↓Za,↓Zk,↓Zr,↓Ze,↓Zm,↓Zs,↓Zf,↓Zh,↓Zg,↓Zc,↓Zb,↓vdn,vup,Zn,Zl,Zo,Zi,Zj,List.map_cons,List.map_nil,cond_true,cond_false,aop,Zv,Zq,Zp,ev,sput,Zt,Zy,Ya,unK,Zd,Zw,Nat.reduceBEq,Nat.reduceAdd,Int.reduceBEq,Int.reduceBNe,Int.reduceLT,Zu,Zz,tup,tyf,hbx,boxI3,Xd]
 have hE0:Ext (fun _=>False) h (h++[Blk.cells [v] 70 false]++[Blk.cells [Zx x] 3 false]):=by rw [List.append_assoc]; exact Ext.app _ _ _
 have c2:=Xi (Yj h (Blk.cells [v] 70 false)) [Blk.cells [Zx x] 3 false]
 have c3:=Yj (h++[Blk.cells [v] 70 false]) (Blk.cells [Zx x] 3 false)
 generalize h++[Blk.cells [v] 70 false]++[Blk.cells [Zx x] 3 false]=H at hE0 c2 c3 ⊢
 generalize (h++[Blk.cells [v] 70 false]).length=b3 at c3 ⊢
 generalize h.length=b2 at c2 ⊢
 refine hN5 [(0,v),(1,Zx x),(2,pt b2),(3,pt b3),(4,.slice none 0 0)] _ _ ?_ (by simp (maxSteps:=2000000) only [↓Za,↓Zk,↓Zr,↓Ze,↓Zm,↓Zs,↓Zf,↓Zh,↓Zg,↓Zc,↓Zb,↓vdn,vup,Zn,Zl,Zo,Zi,Zj,List.map_cons,List.map_nil,cond_true,cond_false,aop,Zv,Zq,Zp,ev,sput,Zt,Zy,Ya,unK,Zd,Zw,Nat.reduceBEq,Nat.reduceAdd,Int.reduceBEq,Int.reduceBNe,Int.reduceLT,Zu,Zz,tup,tyf])
 clear hN5
 try clear N5
 have hvH:=hv.ext hE0
 refine Yb fun N6 hN6=>?_
 simp (maxSteps:=2000000) only [s44,↓Za,↓Zk,↓Zr,↓Ze,↓Zm,↓Zs,↓Zf,↓Zh,↓Zg,↓Zc,↓Zb,↓vdn,vup,Zn,Zl,Zo,Zi,Zj,List.map_cons,List.map_nil,cond_true,cond_false,aop,Zv,Zq,Zp,ev,sput,Zt,Zy,Ya,unK,Zd,Zw,Nat.reduceBEq,Nat.reduceAdd,Int.reduceBEq,Int.reduceBNe,Int.reduceLT,Zu,Zz,tup,tyf,Xx,Xd,zero_77]
 have s0:GS H (H++[Blk.cells [.slice none 0 0] 77 false]) (.slice none 0 0) []:=⟨Ext.app _ _ _,Yj _ _,.inl ⟨rfl,rfl⟩,nofun⟩
 generalize H++[Blk.cells [.slice none 0 0] 77 false]=Z at s0 ⊢
 refine hN6 [(0,v),(1,Zx x),(2,pt b2),(3,pt b3),(4,.slice none 0 0),(5,pt H.length),(6,.slice none 0 0)] _ _ ?_ (by simp (maxSteps:=2000000) only [↓Za,↓Zk,↓Zr,↓Ze,↓Zm,↓Zs,↓Zf,↓Zh,↓Zg,↓Zc,↓Zb,↓vdn,vup,Zn,Zl,Zo,Zi,Zj,List.map_cons,List.map_nil,cond_true,cond_false,aop,Zv,Zq,Zp,ev,sput,Zt,Zy,Ya,unK,Zd,Zw,Nat.reduceBEq,Nat.reduceAdd,Int.reduceBEq,Int.reduceBNe,Int.reduceLT,Zu,Zz,tup,tyf])
 clear hN6
 try clear N6
 have d2:=(s0.ext.2 _ (Yp c2) id).trans c2
 refine Ye fun M hM=>?_
 refine Yb fun N7 hN7=>?_
 simp (maxSteps:=2000000) only [s44,↓Za,↓Zk,↓Zr,↓Ze,↓Zm,↓Zs,↓Zf,↓Zh,↓Zg,↓Zc,↓Zb,↓vdn,vup,Zn,Zl,Zo,Zi,Zj,List.map_cons,List.map_nil,cond_true,cond_false,aop,Zv,Zq,Zp,ev,sput,Zt,Zy,Ya,unK,Zd,Zw,Nat.reduceBEq,Nat.reduceAdd,Int.reduceBEq,Int.reduceBNe,Int.reduceLT,Zu,Zz,tup,tyf,Xa d2 shp_70,List.map_toArray]
 refine hN7 [(0,v),(1,Zx x),(2,pt b2),(3,pt b3),(4,.slice none 0 0),(5,pt H.length),(6,.slice none 0 0),(12,v),(13,.func (.func 92) #[v] #[])] _ _ ?_ (by simp (maxSteps:=2000000) only [↓Za,↓Zk,↓Zr,↓Ze,↓Zm,↓Zs,↓Zf,↓Zh,↓Zg,↓Zc,↓Zb,↓vdn,vup,Zn,Zl,Zo,Zi,Zj,List.map_cons,List.map_nil,cond_true,cond_false,aop,Zv,Zq,Zp,ev,sput,Zt,Zy,Ya,unK,Zd,Zw,Nat.reduceBEq,Nat.reduceAdd,Int.reduceBEq,Int.reduceBNe,Int.reduceLT,Zu,Zz,tup,tyf])
 clear hN7
 try clear N7
 refine Yh ?_
 refine Yf fun Q hQ=>?_
 refine aws_range2 rectIter (R:=2 ^ t.length-1) (C:=2 ^ wd t-1) (by omega) (by omega) rfl (ACall.forget (rVm_low _) (whole_call (hvH.ext s0.ext) ht)) (fun pre hq=>∃ ov,GS H hq ov ((pre.filter (clrB t x)).map pI)) ⟨_,s0⟩ ?_ ?_
 · rintro pre p hp hpre ⟨ov,s⟩
   exact aws_le (great_round hvH ht hx c2 c3 hpre s) (by simp (maxSteps:=2000000) only [↓Za,↓Zk,↓Zr,↓Ze,↓Zm,↓Zs,↓Zf,↓Zh,↓Zg,↓Zc,↓Zb,↓vdn,vup,Zn,Zl,Zo,Zi,Zj,List.map_cons,List.map_nil,cond_true,cond_false,aop,Zv,Zq,Zp,ev,sput,Zt,Zy,Ya,unK,Zd,Zw,Nat.reduceBEq,Nat.reduceAdd,Int.reduceBEq,Int.reduceBNe,Int.reduceLT,Zu,Zz,tup,tyf])
 · rintro hp ⟨ov,s⟩
   refine hQ _ _ _ ?_
   simp (maxSteps:=2000000) only [s44,↓Za,↓Zk,↓Zr,↓Ze,↓Zm,↓Zs,↓Zf,↓Zh,↓Zg,↓Zc,↓Zb,↓vdn,vup,Zn,Zl,Zo,Zi,Zj,List.map_cons,List.map_nil,cond_true,cond_false,aop,Zv,Zq,Zp,ev,sput,Zt,Zy,Ya,unK,Zd,Zw,Nat.reduceBEq,Nat.reduceAdd,Int.reduceBEq,Int.reduceBNe,Int.reduceLT,Zu,Zz,tup,tyf]
   refine hM [(4,.slice none 0 0),(5,pt H.length),(6,.slice none 0 0)] _ _ ?_ (by simp (maxSteps:=2000000) only [↓Za,↓Zk,↓Zr,↓Ze,↓Zm,↓Zs,↓Zf,↓Zh,↓Zg,↓Zc,↓Zb,↓vdn,vup,Zn,Zl,Zo,Zi,Zj,List.map_cons,List.map_nil,cond_true,cond_false,aop,Zv,Zq,Zp,ev,sput,Zt,Zy,Ya,unK,Zd,Zw,Nat.reduceBEq,Nat.reduceAdd,Int.reduceBEq,Int.reduceBNe,Int.reduceLT,Zu,Zz,tup,tyf])
   clear hM
   try clear M
   clear hQ
   change GS H hp ov ((allR t x).map pI) at s
   have hgr:grR t x=((allR t x).take (allR t x).length).filter fun r=>!((allR t x).any fun s=>belB r s):=by rw [List.take_length]; rfl
   have hmem : ∀ q∈allR t x,q.1≤15∧q.2≤15:=fun q hq=>⟨(allR_mem ht hq).1,(allR_mem ht hq).2.1⟩
   generalize grR t x=gr at hgr ⊢
   generalize allR t x=al at s hal hgr hmem
   subst hgr
   have hlen:(al.map pI).length=al.length:=List.length_map _
   refine Ye fun L hL=>?_
   refine Yb fun N8 hN8=>?_
   simp (maxSteps:=2000000) only [s44,↓Za,↓Zk,↓Zr,↓Ze,↓Zm,↓Zs,↓Zf,↓Zh,↓Zg,↓Zc,↓Zb,↓vdn,vup,Zn,Zl,Zo,Zi,Zj,List.map_cons,List.map_nil,cond_true,cond_false,aop,Zv,Zq,Zp,ev,sput,Zt,Zy,Ya,unK,Zd,Zw,Nat.reduceBEq,Nat.reduceAdd,Int.reduceBEq,Int.reduceBNe,Int.reduceLT,Zu,Zz,tup,tyf,Xa s.c5 shp_77,s.own.pair.len,hlen]
   refine hN8 [(4,.slice none 0 0),(5,pt H.length),(6,.slice none 0 0),(31,ov),(32,Zx al.length),(33,.int .i64 0)] _ _ ?_ (by simp (maxSteps:=2000000) only [↓Za,↓Zk,↓Zr,↓Ze,↓Zm,↓Zs,↓Zf,↓Zh,↓Zg,↓Zc,↓Zb,↓vdn,vup,Zn,Zl,Zo,Zi,Zj,List.map_cons,List.map_nil,cond_true,cond_false,aop,Zv,Zq,Zp,ev,sput,Zt,Zy,Ya,unK,Zd,Zw,Nat.reduceBEq,Nat.reduceAdd,Int.reduceBEq,Int.reduceBNe,Int.reduceLT,Zu,Zz,tup,tyf])
   clear hN8
   try clear N8
   refine Yh ?_
   refine Yf fun Q3 hQ3=>?_
   refine Xh (γ:=Nat×Value×Yc) (fun s=>s.1≤al.length∧EN 81 hp s.2.2 s.2.1 (((al.take s.1).filter fun r=>!(al.any fun s=>belB r s)).map pI))
    (fun s=>([(4,.slice none 0 0),(5,pt H.length),(6,s.2.1),(31,ov),(32,Zx al.length),(33,Zx (s.1:Nat))],s.2.2)) (fun s=>al.length-s.1) (0,.slice none 0 0,hp) ⟨Nat.zero_le _,EN.nil 81 hp⟩ (by simp (maxSteps:=2000000) only [↓Za,↓Zk,↓Zr,↓Ze,↓Zm,↓Zs,↓Zf,↓Zh,↓Zg,↓Zc,↓Zb,↓vdn,vup,Zn,Zl,Zo,Zi,Zj,List.map_cons,List.map_nil,cond_true,cond_false,aop,Zv,Zq,Zp,ev,sput,Zt,Zy,Ya,unK,Zd,Zw,Nat.reduceBEq,Nat.reduceAdd,Int.reduceBEq,Int.reduceBNe,Int.reduceLT,Zu,Zz,tup,tyf,Int.natCast_zero]) rfl ?_
   rintro ⟨i,w6,z⟩ ⟨hi,s6⟩
   simp only at hi s6
   refine Yf fun Q4 hQ4=>?_
   simp only [l44_1]
   by_cases hin:(i:Int)<al.length
   · have hi' : i<al.length:=by omega
     have hi2:i<(al.map pI).length:=by rw [hlen]; exact hi'
     have hgt:=great_take (fun r=>!(al.any fun s=>belB r s)) hi'
     have hfl:=List.length_filter_le (fun r=>!(al.any fun s=>belB r s)) (al.take i)
     rw [List.length_take] at hfl
     have hm:=hmem _ (show al.getD i (0,0)∈al by rw [List.getD,List.getElem?_eq_getElem hi']; exact List.getElem_mem hi')
     have hg:=pI_get hi'
     generalize al.getD i (0,0)=ab at hgt hm hg
     obtain ⟨a,b⟩:=ab
     simp only at hm
     refine Yb fun N9 hN9=>?_
     simp (maxSteps:=2000000) only [s44,↓Za,↓Zk,↓Zr,↓Ze,↓Zm,↓Zs,↓Zf,↓Zh,↓Zg,↓Zc,↓Zb,↓vdn,vup,Zn,Zl,Zo,Zi,Zj,List.map_cons,List.map_nil,cond_true,cond_false,aop,Zv,Zq,Zp,ev,sput,Zt,Zy,Ya,unK,Zd,Zw,Nat.reduceBEq,Nat.reduceAdd,Int.reduceBEq,Int.reduceBNe,Int.reduceLT,Zu,Zz,tup,tyf,hin]
     refine hN9 [(4,.slice none 0 0),(5,pt H.length),(6,w6),(31,ov),(32,Zx al.length),(33,Zx (i:Nat)),(34,.bool true)] _ _ ?_ (by simp (maxSteps:=2000000) only [↓Za,↓Zk,↓Zr,↓Ze,↓Zm,↓Zs,↓Zf,↓Zh,↓Zg,↓Zc,↓Zb,↓vdn,vup,Zn,Zl,Zo,Zi,Zj,List.map_cons,List.map_nil,cond_true,cond_false,aop,Zv,Zq,Zp,ev,sput,Zt,Zy,Ya,unK,Zd,Zw,Nat.reduceBEq,Nat.reduceAdd,Int.reduceBEq,Int.reduceBNe,Int.reduceLT,Zu,Zz,tup,tyf])
     clear hN9
     try clear N9
     refine Yb fun N10 hN10=>?_
     simp (maxSteps:=2000000) only [s44,↓Za,↓Zk,↓Zr,↓Ze,↓Zm,↓Zs,↓Zf,↓Zh,↓Zg,↓Zc,↓Zb,↓vdn,vup,Zn,Zl,Zo,Zi,Zj,List.map_cons,List.map_nil,cond_true,cond_false,aop,Zv,Zq,Zp,ev,sput,Zt,Zy,Ya,unK,Zd,Zw,Nat.reduceBEq,Nat.reduceAdd,Int.reduceBEq,Int.reduceBNe,Int.reduceLT,Zu,Zz,tup,tyf]
     refine hN10 [(4,.slice none 0 0),(5,pt H.length),(6,w6),(31,ov),(32,Zx al.length),(33,Zx (i:Nat))] _ _ ?_ (by simp (maxSteps:=2000000) only [↓Za,↓Zk,↓Zr,↓Ze,↓Zm,↓Zs,↓Zf,↓Zh,↓Zg,↓Zc,↓Zb,↓vdn,vup,Zn,Zl,Zo,Zi,Zj,List.map_cons,List.map_nil,cond_true,cond_false,aop,Zv,Zq,Zp,ev,sput,Zt,Zy,Ya,unK,Zd,Zw,Nat.reduceBEq,Nat.reduceAdd,Int.reduceBEq,Int.reduceBNe,Int.reduceLT,Zu,Zz,tup,tyf])
     clear hN10
     try clear N10
     refine Ye fun B hB=>?_
     refine Yh ?_
     have hoz:=s.own.ext s6.ext
     have hld:=fun K=>hoz.pair.load (P:=prog) shp_81 hi2 K
     rw [hg] at hld
     refine Yb fun N11 hN11=>?_
     simp (maxSteps:=2000000) only [s44,↓Za,↓Zk,↓Zr,↓Ze,↓Zm,↓Zs,↓Zf,↓Zh,↓Zg,↓Zc,↓Zb,↓vdn,vup,Zn,Zl,Zo,Zi,Zj,List.map_cons,List.map_nil,cond_true,cond_false,aop,Zv,Zq,Zp,ev,sput,Zt,Zy,Ya,unK,Zd,Zw,Nat.reduceBEq,Nat.reduceAdd,Int.reduceBEq,Int.reduceBNe,Int.reduceLT,Zu,Zz,tup,tyf,hoz.pair.idx el_77 esz_81 hi2,hld,pI,Xx,Xd,zero_81,storeR]
     have hE1:Ext (fun _=>False) z (z++[Blk.cells [Zx (a:Nat),Zx (b:Nat)] 81 false]):=Ext.app _ _ _
     have c11:=Yj z (Blk.cells [Zx (a:Nat),Zx (b:Nat)] 81 false)
     have s7:=s6.more hE1
     generalize z++[Blk.cells [Zx (a:Nat),Zx (b:Nat)] 81 false]=z1 at hE1 c11 s7 ⊢
     generalize z.length=b11 at c11 ⊢
     refine hN11 [(4,.slice none 0 0),(5,pt H.length),(6,w6),(11,pt b11),(31,ov),(32,Zx al.length),(33,Zx (i:Nat))] _ _ ?_ (by simp (maxSteps:=2000000) only [↓Za,↓Zk,↓Zr,↓Ze,↓Zm,↓Zs,↓Zf,↓Zh,↓Zg,↓Zc,↓Zb,↓vdn,vup,Zn,Zl,Zo,Zi,Zj,List.map_cons,List.map_nil,cond_true,cond_false,aop,Zv,Zq,Zp,ev,sput,Zt,Zy,Ya,unK,Zd,Zw,Nat.reduceBEq,Nat.reduceAdd,Int.reduceBEq,Int.reduceBNe,Int.reduceLT,Zu,Zz,tup,tyf])
     clear hN11
     try clear N11
     have e5:=(s7.ext.2 _ (Yp s.c5) id).trans s.c5
     have hoz1:=s.own.ext s7.ext
     have hc:=containsR_call (h:=z1) (v:=ov) (ps:=al.map pI) (fn:=95) (cap:=#[pt b11]) (by omega) (fun p=>belB (a,b) (p.1.toNat,p.2.toNat)) (fun hp=>Ext (fun _=>False) z1 hp) (fun hp hE=>hoz1.pair.ext hE) (fun p hp zq hEq=>by
      obtain ⟨q,hq,rfl⟩:=List.mem_map.1 hp
      have hm2:=hmem _ hq
      refine (less_call (a:=a) (b:=b) (c:=q.1) (d:=q.2) (by omega) (by omega) (by omega) (by omega) ((hEq.2 _ (Yp c11) id).trans c11)).mono fun r h2 hh=>⟨?_,hEq.trans hh.2⟩
      rw [hh.1]; rfl) (Ext.refl _ _)
     have hany:((al.map pI).any fun p=>belB (a,b) (p.1.toNat,p.2.toNat))=al.any fun s=>belB (a,b) s:=by rw [List.any_map]; rfl
     rw [hany] at hc
     refine Yb fun N12 hN12=>?_
     simp (maxSteps:=2000000) only [s44,↓Za,↓Zk,↓Zr,↓Ze,↓Zm,↓Zs,↓Zf,↓Zh,↓Zg,↓Zc,↓Zb,↓vdn,vup,Zn,Zl,Zo,Zi,Zj,List.map_cons,List.map_nil,cond_true,cond_false,aop,Zv,Zq,Zp,ev,sput,Zt,Zy,Ya,unK,Zd,Zw,Nat.reduceBEq,Nat.reduceAdd,Int.reduceBEq,Int.reduceBNe,Int.reduceLT,Zu,Zz,tup,tyf,Yz,List.nil_append,List.append_nil,List.toList_toArray,List.cons_append,Xa e5 shp_77,List.map_toArray]
     refine (hc).mono ?_
     rintro _ z2 ⟨rfl,hE2⟩
     simp (maxSteps:=2000000) only [s44,↓Za,↓Zk,↓Zr,↓Ze,↓Zm,↓Zs,↓Zf,↓Zh,↓Zg,↓Zc,↓Zb,↓vdn,vup,Zn,Zl,Zo,Zi,Zj,List.map_cons,List.map_nil,cond_true,cond_false,aop,Zv,Zq,Zp,ev,sput,Zt,Zy,Ya,unK,Zd,Zw,Nat.reduceBEq,Nat.reduceAdd,Int.reduceBEq,Int.reduceBNe,Int.reduceLT,Zu,Zz,tup,tyf]
     refine hN12 [(4,.slice none 0 0),(5,pt H.length),(6,w6),(11,pt b11),(31,ov),(32,Zx al.length),(33,Zx (i:Nat)),(40,.bool (!(al.any fun s=>belB (a,b) s)))] _ _ ?_ (by simp (maxSteps:=2000000) only [↓Za,↓Zk,↓Zr,↓Ze,↓Zm,↓Zs,↓Zf,↓Zh,↓Zg,↓Zc,↓Zb,↓vdn,vup,Zn,Zl,Zo,Zi,Zj,List.map_cons,List.map_nil,cond_true,cond_false,aop,Zv,Zq,Zp,ev,sput,Zt,Zy,Ya,unK,Zd,Zw,Nat.reduceBEq,Nat.reduceAdd,Int.reduceBEq,Int.reduceBNe,Int.reduceLT,Zu,Zz,tup,tyf])
     clear hN12
     try clear N12
     have s8:=s7.more hE2
     have d11:=(hE2.2 _ (Yp c11) id).trans c11
     cases hq:(!(al.any fun s=>belB (a,b) s)) with
     | false =>
       refine Yq rfl ?_
       refine Yd ?_
       simp (maxSteps:=2000000) only [s44,↓Za,↓Zk,↓Zr,↓Ze,↓Zm,↓Zs,↓Zf,↓Zh,↓Zg,↓Zc,↓Zb,↓vdn,vup,Zn,Zl,Zo,Zi,Zj,List.map_cons,List.map_nil,cond_true,cond_false,aop,Zv,Zq,Zp,ev,sput,Zt,Zy,Ya,unK,Zd,Zw,Nat.reduceBEq,Nat.reduceAdd,Int.reduceBEq,Int.reduceBNe,Int.reduceLT,Zu,Zz,tup,tyf]
       refine hB [(4,.slice none 0 0),(5,pt H.length),(6,w6),(31,ov),(32,Zx al.length),(33,Zx (i:Nat))] _ _ ?_ (by simp (maxSteps:=2000000) only [↓Za,↓Zk,↓Zr,↓Ze,↓Zm,↓Zs,↓Zf,↓Zh,↓Zg,↓Zc,↓Zb,↓vdn,vup,Zn,Zl,Zo,Zi,Zj,List.map_cons,List.map_nil,cond_true,cond_false,aop,Zv,Zq,Zp,ev,sput,Zt,Zy,Ya,unK,Zd,Zw,Nat.reduceBEq,Nat.reduceAdd,Int.reduceBEq,Int.reduceBNe,Int.reduceLT,Zu,Zz,tup,tyf])
       clear hB
       try clear B
       refine Yd ?_
       simp (maxSteps:=2000000) only [s44,↓Za,↓Zk,↓Zr,↓Ze,↓Zm,↓Zs,↓Zf,↓Zh,↓Zg,↓Zc,↓Zb,↓vdn,vup,Zn,Zl,Zo,Zi,Zj,List.map_cons,List.map_nil,cond_true,cond_false,aop,Zv,Zq,Zp,ev,sput,Zt,Zy,Ya,unK,Zd,Zw,Nat.reduceBEq,Nat.reduceAdd,Int.reduceBEq,Int.reduceBNe,Int.reduceLT,Zu,Zz,tup,tyf,Vd (show i<9223372036854775807 by omega)]
       exact hQ4 _ _ _ ⟨(i+1,w6,z2),⟨hi',by rw [hgt,if_neg (by rw [hq]; decide),List.append_nil]; exact s8⟩,by simp only; omega,by simp (maxSteps:=2000000) only [↓Za,↓Zk,↓Zr,↓Ze,↓Zm,↓Zs,↓Zf,↓Zh,↓Zg,↓Zc,↓Zb,↓vdn,vup,Zn,Zl,Zo,Zi,Zj,List.map_cons,List.map_nil,cond_true,cond_false,aop,Zv,Zq,Zp,ev,sput,Zt,Zy,Ya,unK,Zd,Zw,Nat.reduceBEq,Nat.reduceAdd,Int.reduceBEq,Int.reduceBNe,Int.reduceLT,Zu,Zz,tup,tyf],rfl⟩
     | true =>
       refine Xe rfl ?_
       refine Yd ?_
       simp (maxSteps:=2000000) only [s44,↓Za,↓Zk,↓Zr,↓Ze,↓Zm,↓Zs,↓Zf,↓Zh,↓Zg,↓Zc,↓Zb,↓vdn,vup,Zn,Zl,Zo,Zi,Zj,List.map_cons,List.map_nil,cond_true,cond_false,aop,Zv,Zq,Zp,ev,sput,Zt,Zy,Ya,unK,Zd,Zw,Nat.reduceBEq,Nat.reduceAdd,Int.reduceBEq,Int.reduceBNe,Int.reduceLT,Zu,Zz,tup,tyf,loadR d11,litR]
       refine (s8.own.ext (Ext.app _ _ _)).append app_77_77 (by rw [List.length_map]; omega) (Yj _ _) ?_
       intro w z3 ho hE hb
       refine hB [(4,.slice none 0 0),(5,pt H.length),(6,w),(31,ov),(32,Zx al.length),(33,Zx (i:Nat))] _ _ ?_ (by simp (maxSteps:=2000000) only [↓Za,↓Zk,↓Zr,↓Ze,↓Zm,↓Zs,↓Zf,↓Zh,↓Zg,↓Zc,↓Zb,↓vdn,vup,Zn,Zl,Zo,Zi,Zj,List.map_cons,List.map_nil,cond_true,cond_false,aop,Zv,Zq,Zp,ev,sput,Zt,Zy,Ya,unK,Zd,Zw,Nat.reduceBEq,Nat.reduceAdd,Int.reduceBEq,Int.reduceBNe,Int.reduceLT,Zu,Zz,tup,tyf])
       clear hB
       try clear B
       refine Yd ?_
       simp (maxSteps:=2000000) only [s44,↓Za,↓Zk,↓Zr,↓Ze,↓Zm,↓Zs,↓Zf,↓Zh,↓Zg,↓Zc,↓Zb,↓vdn,vup,Zn,Zl,Zo,Zi,Zj,List.map_cons,List.map_nil,cond_true,cond_false,aop,Zv,Zq,Zp,ev,sput,Zt,Zy,Ya,unK,Zd,Zw,Nat.reduceBEq,Nat.reduceAdd,Int.reduceBEq,Int.reduceBNe,Int.reduceLT,Zu,Zz,tup,tyf,Vd (show i<9223372036854775807 by omega)]
       exact hQ4 _ _ _ ⟨(i+1,w,z3),⟨hi',by rw [hgt,if_pos hq]; exact s8.step ho hE hb⟩,by simp only; omega,by simp (maxSteps:=2000000) only [↓Za,↓Zk,↓Zr,↓Ze,↓Zm,↓Zs,↓Zf,↓Zh,↓Zg,↓Zc,↓Zb,↓vdn,vup,Zn,Zl,Zo,Zi,Zj,List.map_cons,List.map_nil,cond_true,cond_false,aop,Zv,Zq,Zp,ev,sput,Zt,Zy,Ya,unK,Zd,Zw,Nat.reduceBEq,Nat.reduceAdd,Int.reduceBEq,Int.reduceBNe,Int.reduceLT,Zu,Zz,tup,tyf],rfl⟩
   · obtain rfl:i=al.length:=by omega
     refine Yb fun N13 hN13=>?_
     simp (maxSteps:=2000000) only [s44,↓Za,↓Zk,↓Zr,↓Ze,↓Zm,↓Zs,↓Zf,↓Zh,↓Zg,↓Zc,↓Zb,↓vdn,vup,Zn,Zl,Zo,Zi,Zj,List.map_cons,List.map_nil,cond_true,cond_false,aop,Zv,Zq,Zp,ev,sput,Zt,Zy,Ya,unK,Zd,Zw,Nat.reduceBEq,Nat.reduceAdd,Int.reduceBEq,Int.reduceBNe,Int.reduceLT,Zu,Zz,tup,tyf,hin]
     refine hN13 [(4,.slice none 0 0),(5,pt H.length),(6,w6),(31,ov),(32,Zx al.length),(33,Zx al.length),(34,.bool false)] _ _ ?_ (by simp (maxSteps:=2000000) only [↓Za,↓Zk,↓Zr,↓Ze,↓Zm,↓Zs,↓Zf,↓Zh,↓Zg,↓Zc,↓Zb,↓vdn,vup,Zn,Zl,Zo,Zi,Zj,List.map_cons,List.map_nil,cond_true,cond_false,aop,Zv,Zq,Zp,ev,sput,Zt,Zy,Ya,unK,Zd,Zw,Nat.reduceBEq,Nat.reduceAdd,Int.reduceBEq,Int.reduceBNe,Int.reduceLT,Zu,Zz,tup,tyf])
     clear hN13
     try clear N13
     refine Yb fun N14 hN14=>?_
     simp (maxSteps:=2000000) only [s44,↓Za,↓Zk,↓Zr,↓Ze,↓Zm,↓Zs,↓Zf,↓Zh,↓Zg,↓Zc,↓Zb,↓vdn,vup,Zn,Zl,Zo,Zi,Zj,List.map_cons,List.map_nil,cond_true,cond_false,aop,Zv,Zq,Zp,ev,sput,Zt,Zy,Ya,unK,Zd,Zw,Nat.reduceBEq,Nat.reduceAdd,Int.reduceBEq,Int.reduceBNe,Int.reduceLT,Zu,Zz,tup,tyf]
     refine hQ4 _ _ _ (hQ3 _ _ _ ?_)
     simp (maxSteps:=2000000) only [s44,↓Za,↓Zk,↓Zr,↓Ze,↓Zm,↓Zs,↓Zf,↓Zh,↓Zg,↓Zc,↓Zb,↓vdn,vup,Zn,Zl,Zo,Zi,Zj,List.map_cons,List.map_nil,cond_true,cond_false,aop,Zv,Zq,Zp,ev,sput,Zt,Zy,Ya,unK,Zd,Zw,Nat.reduceBEq,Nat.reduceAdd,Int.reduceBEq,Int.reduceBNe,Int.reduceLT,Zu,Zz,tup,tyf,if_true]
     refine hL [(4,.slice none 0 0),(5,pt H.length),(6,w6),(34,.bool false)] _ _ ?_ (by simp (maxSteps:=2000000) only [↓Za,↓Zk,↓Zr,↓Ze,↓Zm,↓Zs,↓Zf,↓Zh,↓Zg,↓Zc,↓Zb,↓vdn,vup,Zn,Zl,Zo,Zi,Zj,List.map_cons,List.map_nil,cond_true,cond_false,aop,Zv,Zq,Zp,ev,sput,Zt,Zy,Ya,unK,Zd,Zw,Nat.reduceBEq,Nat.reduceAdd,Int.reduceBEq,Int.reduceBNe,Int.reduceLT,Zu,Zz,tup,tyf])
     clear hL
     try clear L
     refine Yd ?_
     simp (maxSteps:=2000000) only [s44,↓Za,↓Zk,↓Zr,↓Ze,↓Zm,↓Zs,↓Zf,↓Zh,↓Zg,↓Zc,↓Zb,↓vdn,vup,Zn,Zl,Zo,Zi,Zj,List.map_cons,List.map_nil,cond_true,cond_false,aop,Zv,Zq,Zp,ev,sput,Zt,Zy,Ya,unK,Zd,Zw,Nat.reduceBEq,Nat.reduceAdd,Int.reduceBEq,Int.reduceBNe,Int.reduceLT,Zu,Zz,tup,tyf]
     exact ⟨s6.own,(hE0.trans s.ext).trans s6.ext,fun b hb=>by have:=s6.new b hb; have:=(hE0.trans s.ext).1; omega⟩
end Go.Proofs.Tryd.Am.Tf
namespace Go.Proofs.Tryd.Am.Tf
open Go.Proofs.Tryd.Am
open Go.Am
set_option maxRecDepth 100000
set_option maxHeartbeats 2000000
theorem flatP_take : ∀ (ps:List (Int×Int)) (i:Nat),(Yn ps).take (i*2)=Yn (ps.take i)
 | [],i=>by simp [Yn]
 | p::ps,0=>by simp [Yn]
 | p::ps,i+1=>by
   have ih:=flatP_take ps i
   have e1 : ∀ l:List (Int×Int),Yn (p::l)=p.1::p.2::Yn l:=fun l=>rfl
   rw [List.take_succ_cons,e1,e1,show (i+1)*2=i*2+1+1 by omega,List.take_succ_cons,List.take_succ_cons,ih]
theorem flatP_zero : ∀ n:Nat,Yn (List.replicate n (0,0))=List.replicate (n*2) 0
 | 0=>rfl
 | n+1=>by
   have e1 : ∀ l:List (Int×Int),Yn ((0,0)::l)=0::0::Yn l:=fun l=>rfl
   rw [List.replicate_succ,e1,flatP_zero n,show (n+1)*2=n*2+1+1 by omega,List.replicate_succ,List.replicate_succ]
theorem ownP_clear {h:Yc} {v:Value} {ps:List (Int×Int)} {i:Nat} (ho:OwnP 28 h v ps) (hi:i≤ps.length) {K:Value→Value→Yc→Prop} (hk : ∀ w h',OwnP 28 h' v (ps.take i++List.replicate (ps.length-i) (0,0))→Ext (fun j=>Yk v=some j) h h'→K w (.tuple #[]) h') :
  Xs prog 26 v (some (Zx i)) none none (fun w=>clearK prog h 26 w (K w)):=by
 have he:(elemOf' prog 26).isSome=true:=by rw [el_26]; rfl
 have hfull:i=ps.length→ps.take i++List.replicate (ps.length-i) (0,0)=ps:=fun h=>by rw [h,Nat.sub_self,List.take_length]; simp
 have hlen:(ps.take i++List.replicate (ps.length-i) ((0:Int),(0:Int))).length=ps.length:=by
  rw [List.length_append,List.length_take,List.length_replicate,Nat.min_eq_left hi]; omega
 rcases ho with ⟨rfl,rfl⟩ | ⟨b,ys,rfl,hb⟩
 · simp only [List.length_nil,Nat.le_zero_eq] at hi
   subst hi
   have h1:=hk (.slice none 0 0) h (.inl ⟨rfl,rfl⟩) (Ext.refl _ _)
   show _∧_∧_∧_∧_
   exact ⟨by simp [el_26,Vk],rfl,rfl,rfl,he,h1⟩
 · have l1:=Wr ps
   have hsplice:Yt (Yn ps++Yn ys) (i*2) (List.replicate ((ps.length-i)*2) 0)=Yn (ps.take i++List.replicate (ps.length-i) (0,0))++Yn ys:=by
    rw [Yt,List.length_replicate,List.take_append_of_le_length (by omega),show i*2+(ps.length-i)*2=(Yn ps).length by omega,List.drop_left,flatP_app,flatP_zero,flatP_take]
   have hsto : ∀ w,i<ps.length→storesK h b (i*2) (List.replicate ((ps.length-i)*2) (.int .i64 0)) (fun h'=>K w (.tuple #[]) h'):=fun w h1=>by
    have e1:Xf (List.replicate ((ps.length-i)*2) (Value.int .i64 0))=some (List.replicate ((ps.length-i)*2) 0):=by
     have:=intsOf_map' (List.replicate ((ps.length-i)*2) 0)
     rw [List.map_replicate] at this; exact this
    refine ⟨by simp [List.all_eq_true,one],?_⟩
    simp only [hb,e1]
    refine ⟨by rw [List.length_replicate,List.length_append]; omega,?_⟩
    rw [hsplice]
    exact hk w _ (.inr ⟨b,ys,by rw [hlen],by rw [List.getElem?_set_self (Yp hb)]⟩) (Ext.set _ rfl)
   have hzb:(elemOf' prog 26).bind (Xq prog)=some [.int .i64 0,.int .i64 0]:=by rw [el_26,Option.bind_some,zero_28]
   simp only [Xs,el_26,Vk,bnd]
   refine ⟨by omega,by omega,by omega,fun h=>(by cases h),fun _=>?_⟩
   by_cases h0:i=0
   · subst h0
     refine .inl ⟨rfl,he,fun hn=>?_,fun hn=>?_⟩
     · rw [Int.toNat_natCast] at hn
       have h1:=hfull (by omega)
       exact hk _ h (by rw [h1]; exact .inr ⟨b,ys,rfl,hb⟩) (Ext.refl _ _)
     · rw [Int.toNat_natCast] at hn
       rw [hzb,Int.toNat_natCast]; exact ⟨rfl,hsto _ (by omega)⟩
   · refine .inr ⟨by omega,?_⟩
     by_cases hl:i<ps.length
     · refine .inl ⟨by omega,by omega,he,fun hn=>by omega,fun hn=>?_⟩
       rw [hzb]
       have e2:((ps.length:Int)-((i:Nat):Int)).toNat=ps.length-i:=by omega
       have e3:0+((i:Nat):Int).toNat*2=i*2:=by simp
       rw [e2,e3]; exact ⟨rfl,hsto _ hl⟩
     · have h1:=hfull (by omega)
       exact .inr ⟨by omega,he,hk _ h (by rw [h1]; exact .inr ⟨b,ys,rfl,hb⟩) (Ext.refl _ _)⟩
def Vc (p:Int×Int→Bool) (xs:List (Int×Int)) (j:Nat):Nat:=((xs.take j).filter fun x=>!p x).length
theorem stay_leP (p:Int×Int→Bool) (xs:List (Int×Int)) (j:Nat):Vc p xs j≤j:=Nat.le_trans (List.length_filter_le _ _) (by rw [List.length_take]; omega)
theorem take_snocP {xs:List (Int×Int)} {j:Nat} (hj:j<xs.length):xs.take (j+1)=xs.take j++[xs.getD j (0,0)]:=by
 rw [List.take_succ,List.getElem?_eq_getElem hj,Option.toList_some,List.getD,List.getElem?_eq_getElem hj]; rfl
theorem stay_hitP {p:Int×Int→Bool} {xs:List (Int×Int)} {j:Nat} (hj:j<xs.length) (hp:p (xs.getD j (0,0))=true):(xs.take (j+1)).filter (fun x=>!p x)=(xs.take j).filter fun x=>!p x:=by
 rw [take_snocP hj,List.filter_append,List.filter_cons,List.filter_nil,hp]; simp
theorem stay_missP {p:Int×Int→Bool} {xs:List (Int×Int)} {j:Nat} (hj:j<xs.length) (hp:p (xs.getD j (0,0))=false):(xs.take (j+1)).filter (fun x=>!p x)=((xs.take j).filter fun x=>!p x)++[xs.getD j (0,0)]:=by
 rw [take_snocP hj,List.filter_append,List.filter_cons,List.filter_nil,hp]; simp
structure DlP (p:Int×Int→Bool) (xs:List (Int×Int)) (j:Nat) (ys:List (Int×Int)):Prop where
 len:ys.length=xs.length
 tk:ys.take (Vc p xs j)=(xs.take j).filter fun x=>!p x
 dr:ys.drop j=xs.drop j
theorem DlP.get {p:Int×Int→Bool} {xs ys:List (Int×Int)} {j k:Nat} (d:DlP p xs j ys) (h:j≤k):ys.getD k (0,0)=xs.getD k (0,0):=by
 have h1:(ys.drop j)[k-j]? = (xs.drop j)[k-j]?:=by rw [d.dr]
 rw [List.getElem?_drop,List.getElem?_drop,show j+(k-j)=k by omega] at h1
 rw [List.getD,h1,List.getD]
theorem DlP.hit {p:Int×Int→Bool} {xs ys:List (Int×Int)} {j:Nat} (d:DlP p xs j ys) (hj:j<xs.length) (hp:p (xs.getD j (0,0))=true):DlP p xs (j+1) ys∧Vc p xs (j+1)=Vc p xs j:=by
 have h1:Vc p xs (j+1)=Vc p xs j:=by rw [Vc,stay_hitP hj hp]; rfl
 refine ⟨⟨d.len,by rw [h1,stay_hitP hj hp]; exact d.tk,?_⟩,h1⟩
 have:=congrArg (List.drop 1) d.dr
 rw [List.drop_drop,List.drop_drop] at this
 exact this
theorem DlP.miss {p:Int×Int→Bool} {xs ys:List (Int×Int)} {j:Nat} (d:DlP p xs j ys) (hj:j<xs.length) (hp:p (xs.getD j (0,0))=false):DlP p xs (j+1) (ys.set (Vc p xs j) (xs.getD j (0,0)))∧Vc p xs (j+1)=Vc p xs j+1:=by
 have h1:Vc p xs (j+1)=Vc p xs j+1:=by rw [Vc,stay_missP hj hp,List.length_append]; rfl
 have hs:=stay_leP p xs j
 have hl:=d.len
 refine ⟨⟨by rw [List.length_set]; exact d.len,?_,?_⟩,h1⟩
 · rw [h1,stay_missP hj hp,← d.tk,take_snocP (by rw [List.length_set]; omega),List.take_set_of_le (Nat.le_refl _),List.getD,List.getElem?_set_self (by omega)]; rfl
 · have:=congrArg (List.drop 1) d.dr
   rw [List.drop_drop,List.drop_drop] at this
   rw [List.drop_set_of_lt (by omega)]
   exact this
theorem OwnP_set {h:Yc} {v:Value} {ps:List (Int×Int)} {i:Nat} {x:Int×Int} {K:Yc→Prop} (ho:OwnP 28 h v ps) (hi:i<ps.length) (hk : ∀ h',OwnP 28 h' v (ps.set i x)→Ext (fun j=>Yk v=some j) h h'→K h'):Xu prog h 28 (Wq v 2 i) (pV x) K:=by
 rcases ho with ⟨rfl,rfl⟩ | ⟨b,ys,rfl,hb⟩
 · simp at hi
 · simp only [Wq,Nat.zero_add]
   rw [storePI hb shp_28 hi]
   exact hk _ (.inr ⟨b,ys,by rw [List.length_set],Xy (Yp hb) _⟩) (Ext.set _ rfl)
end Go.Proofs.Tryd.Am.Tf
namespace Go.Proofs.Tryd.Am.Tf
open Go.Proofs.Tryd.Am
open Go.Am
set_option maxRecDepth 100000
set_option maxHeartbeats 2000000
theorem storePr {h:Yc} {x y:Int} {K:Yc→Prop}:Xu prog (h++[Blk.cells [.int .i64 0,.int .i64 0] 28 false]) 28 (.pointer (some ⟨h.length,0,none⟩)) (.agg #[Zx x,Zx y]) K=K (h++[Blk.cells [Zx x,Zx y] 28 false]):=by
 have:=storeA (P:=prog) (h:=h++[Blk.cells [.int .i64 0,.int .i64 0] 28 false]) (t:=28) (vs:=[Zx x,Zx y]) (K:=K) (Yj h (Blk.cells [.int .i64 0,.int .i64 0] 28 false)) (by rw [shp_28]; rfl) rfl rfl
 rw [Be.set_new] at this
 exact this
theorem OwnP_take {P:Program} {e:TypeId} {h:Yc} {v:Value} {ps:List (Int×Int)} {t:TypeId} {m:Nat} (ho:OwnP e h v ps) (hm:m≤ps.length) (he:elemOf' P t=some e) (hs:esz P e=some 2) {K:Value→Prop} (hk : ∀ v',OwnP e h v' (ps.take m)→Yk v' = Yk v→K v'):Xs P t v none (some (Zx m)) none K:=by
 rcases ho with ⟨rfl,rfl⟩ | ⟨b,ys,rfl,hb⟩
 · simp only [List.length_nil,Nat.le_zero_eq] at hm
   subst hm
   simp only [Xs,he,hs,bnd,Option.bind_some,Option.isSome_some]
   exact ⟨trivial,rfl,rfl,rfl,hk _ (.inl ⟨rfl,rfl⟩) rfl⟩
 · have e1:Yn ps++Yn ys=Yn (ps.take m)++Yn (ps.drop m++ys):=by
    rw [← flatP_app,← flatP_app,← List.append_assoc,List.take_append_drop]
   simp only [Xs,he,hs,bnd]
   refine ⟨by omega,by omega,by omega,fun h=>(by cases h),fun _=>.inl ⟨rfl,hk _ (.inr ⟨b,ps.drop m++ys,?_,by rw [hb,e1]⟩) rfl⟩⟩
   simp; omega
theorem s47_callW [Tabs Tryd.prog] {args:List Value} {h:Yc} {Q:Value→Yc→Prop} (hsz:args.length≤42) (hk:AWS Tryd.prog 42 s47 (Zu Tryd.prog [.tmp 4] Q) (Zp 0 args) h):ACall Tryd.prog 47 args h Q :=
 Xg Tryd.func47 rfl (enters_of Tryd.func47 (by kernel_rfl) rfl) rfl rfl (by decide) s47_strip s47_ok hsz hk
theorem delete_call [Tabs prog] {h:Yc} {v:Value} {ps:List (Int×Int)} {g:FuncId} {caps:Array Value} {p:Int×Int→Bool} (ho:OwnP 28 h v ps) (hl:ps.length<1099511627776) (hp : ∀ H,Ext (fun b=>Yk v=some b) h H→∀ x∈ps,ACall prog g (([]:List Value)++[pV x]++caps.toList) H fun r h2=>r = .bool (p x)∧Ext (fun _=>False) H h2) :
  ACall prog 47 [v,.func (.func g) #[] caps] h fun r h'=>OwnP 28 h' r (ps.filter fun x=>!p x)∧Ext (fun b=>Yk v=some b) h h'∧(Yk r=Yk v):=by
 have hget : ∀ k,k<ps.length→ps.getD k (0,0)∈ps:=fun k hk=>by rw [List.getD,List.getElem?_eq_getElem hk]; exact List.getElem_mem hk
 have hs:=Or.indexP_call (h:=h) (v:=v) (ps:=ps) (fn:=g) (cap:=caps) (by omega) (fun k hp=>Ext (fun _=>False) h hp∧∀ j,j<k→p (ps.getD j (0,0))=false) (fun k hp=>(Ext (fun _=>False) h hp∧∀ j,j<k→p (ps.getD j (0,0))=false)∧p (ps.getD k (0,0))=true) (fun k z hi=>ho.pair.ext hi.1) (fun k hk z hi=>(hp z (hi.1.mono fun _ h=>h.elim) _ (hget k hk)).mono fun r h2 hh=>⟨_,hh.1,fun hb=>⟨⟨hi.1.trans hh.2,hi.2⟩,hb⟩,fun hb=>⟨hi.1.trans hh.2,fun j hj=>if h1:j<k then hi.2 j h1 else (show k=j by omega)▸hb⟩⟩) ⟨Ext.refl _ _,fun j hj=>absurd hj (Nat.not_lt_zero j)⟩
 refine s47_callW (by simp) ?_
 simp only [s47]
 refine Yb fun N1 hN1=>?_
 simp (maxSteps:=2000000) only [s47,↓Za,↓Zk,↓Zr,↓Ze,↓Zm,↓Zs,↓Zf,↓Zh,↓Zg,↓Zc,↓Zb,↓vdn,vup,Zn,Zl,Zo,Zi,Zj,List.map_cons,List.map_nil,cond_true,cond_false,aop,Zv,Zq,Zp,ev,sput,Zt,Zy,Ya,unK,Zd,Zw,Nat.reduceBEq,Nat.reduceAdd,Int.reduceBEq,Int.reduceBNe,Int.reduceLT,Zu,Zz,tup,tyf]
 refine hN1 [(0,v),(1,.func (.func g) #[] caps),(4,.slice none 0 0)] _ _ ?_ (by simp (maxSteps:=2000000) only [↓Za,↓Zk,↓Zr,↓Ze,↓Zm,↓Zs,↓Zf,↓Zh,↓Zg,↓Zc,↓Zb,↓vdn,vup,Zn,Zl,Zo,Zi,Zj,List.map_cons,List.map_nil,cond_true,cond_false,aop,Zv,Zq,Zp,ev,sput,Zt,Zy,Ya,unK,Zd,Zw,Nat.reduceBEq,Nat.reduceAdd,Int.reduceBEq,Int.reduceBNe,Int.reduceLT,Zu,Zz,tup,tyf])
 clear hN1
 try clear N1
 refine Yb fun N2 hN2=>?_
 simp (maxSteps:=2000000) only [s47,↓Za,↓Zk,↓Zr,↓Ze,↓Zm,↓Zs,↓Zf,↓Zh,↓Zg,↓Zc,↓Zb,↓vdn,vup,Zn,Zl,Zo,Zi,Zj,List.map_cons,List.map_nil,cond_true,cond_false,aop,Zv,Zq,Zp,ev,sput,Zt,Zy,Ya,unK,Zd,Zw,Nat.reduceBEq,Nat.reduceAdd,Int.reduceBEq,Int.reduceBNe,Int.reduceLT,Zu,Zz,tup,tyf,Yz,List.nil_append,List.append_nil,List.toList_toArray,List.cons_append]
 refine (hs).mono ?_
 rintro r h0 hr
 rcases hr with ⟨i0,hlt,rfl,⟨hE0,hno⟩,hp0⟩ | ⟨rfl,hE0,hno⟩
 · have hall:(ps.take i0).filter (fun x=>!p x)=ps.take i0:=List.filter_eq_self.2 fun x hx=>by
    obtain ⟨j,hj,rfl⟩:=List.mem_iff_getElem.1 hx
    rw [List.length_take] at hj
    have:=hno j (by omega)
    rw [List.getD,List.getElem?_eq_getElem (by omega),Option.getD_some] at this
    rw [List.getElem_take,this]; rfl
   have hst0:Vc p ps i0=i0:=by rw [Vc,hall,List.length_take]; omega
   have d0:DlP p ps i0 ps:=⟨rfl,by rw [hst0,hall],rfl⟩
   obtain ⟨d1,hst1⟩:=d0.hit hlt hp0
   rw [hst0] at hst1
   have hne:(((i0:Nat):Int) == -1)=false:=by rw [beq_eq_false_iff_ne]; omega
   have hE0' : Ext (fun b=>Yk v=some b) h h0:=hE0.mono fun _ h=>h.elim
   have ho0:=ho.ext hE0
   refine hN2 [(0,v),(1,.func (.func g) #[] caps),(4,.slice none 0 0),(5,Zx (i0:Nat))] _ _ ?_ (by simp (maxSteps:=2000000) only [↓Za,↓Zk,↓Zr,↓Ze,↓Zm,↓Zs,↓Zf,↓Zh,↓Zg,↓Zc,↓Zb,↓vdn,vup,Zn,Zl,Zo,Zi,Zj,List.map_cons,List.map_nil,cond_true,cond_false,aop,Zv,Zq,Zp,ev,sput,Zt,Zy,Ya,unK,Zd,Zw,Nat.reduceBEq,Nat.reduceAdd,Int.reduceBEq,Int.reduceBNe,Int.reduceLT,Zu,Zz,tup,tyf])
   clear hN2
   try clear N2
   refine Ye fun M hM=>?_
   refine Yb fun N3 hN3=>?_
   simp (maxSteps:=2000000) only [s47,↓Za,↓Zk,↓Zr,↓Ze,↓Zm,↓Zs,↓Zf,↓Zh,↓Zg,↓Zc,↓Zb,↓vdn,vup,Zn,Zl,Zo,Zi,Zj,List.map_cons,List.map_nil,cond_true,cond_false,aop,Zv,Zq,Zp,ev,sput,Zt,Zy,Ya,unK,Zd,Zw,Nat.reduceBEq,Nat.reduceAdd,Int.reduceBEq,Int.reduceBNe,Int.reduceLT,Zu,Zz,tup,tyf,hne]
   refine hN3 [(0,v),(1,.func (.func g) #[] caps),(4,.slice none 0 0),(5,Zx (i0:Nat)),(12,.bool false)] _ _ ?_ (by simp (maxSteps:=2000000) only [↓Za,↓Zk,↓Zr,↓Ze,↓Zm,↓Zs,↓Zf,↓Zh,↓Zg,↓Zc,↓Zb,↓vdn,vup,Zn,Zl,Zo,Zi,Zj,List.map_cons,List.map_nil,cond_true,cond_false,aop,Zv,Zq,Zp,ev,sput,Zt,Zy,Ya,unK,Zd,Zw,Nat.reduceBEq,Nat.reduceAdd,Int.reduceBEq,Int.reduceBNe,Int.reduceLT,Zu,Zz,tup,tyf])
   clear hN3
   try clear N3
   refine Yq rfl ?_
   refine Yd ?_
   simp (maxSteps:=2000000) only [s47,↓Za,↓Zk,↓Zr,↓Ze,↓Zm,↓Zs,↓Zf,↓Zh,↓Zg,↓Zc,↓Zb,↓vdn,vup,Zn,Zl,Zo,Zi,Zj,List.map_cons,List.map_nil,cond_true,cond_false,aop,Zv,Zq,Zp,ev,sput,Zt,Zy,Ya,unK,Zd,Zw,Nat.reduceBEq,Nat.reduceAdd,Int.reduceBEq,Int.reduceBNe,Int.reduceLT,Zu,Zz,tup,tyf]
   refine hM [(0,v),(1,.func (.func g) #[] caps),(4,.slice none 0 0),(5,Zx (i0:Nat))] _ _ ?_ (by simp (maxSteps:=2000000) only [↓Za,↓Zk,↓Zr,↓Ze,↓Zm,↓Zs,↓Zf,↓Zh,↓Zg,↓Zc,↓Zb,↓vdn,vup,Zn,Zl,Zo,Zi,Zj,List.map_cons,List.map_nil,cond_true,cond_false,aop,Zv,Zq,Zp,ev,sput,Zt,Zy,Ya,unK,Zd,Zw,Nat.reduceBEq,Nat.reduceAdd,Int.reduceBEq,Int.reduceBNe,Int.reduceLT,Zu,Zz,tup,tyf])
   clear hM
   try clear M
   refine Ye fun Z hZ=>?_
   refine Yb fun N4 hN4=>?_
   simp (maxSteps:=2000000) only [s47,↓Za,↓Zk,↓Zr,↓Ze,↓Zm,↓Zs,↓Zf,↓Zh,↓Zg,↓Zc,↓Zb,↓vdn,vup,Zn,Zl,Zo,Zi,Zj,List.map_cons,List.map_nil,cond_true,cond_false,aop,Zv,Zq,Zp,ev,sput,Zt,Zy,Ya,unK,Zd,Zw,Nat.reduceBEq,Nat.reduceAdd,Int.reduceBEq,Int.reduceBNe,Int.reduceLT,Zu,Zz,tup,tyf,Vd (show i0<9223372036854775807 by omega)]
   refine hN4 [(0,v),(1,.func (.func g) #[] caps),(4,.slice none 0 0),(5,Zx (i0:Nat)),(6,Zx (i0+1:Nat))] _ _ ?_ (by simp (maxSteps:=2000000) only [↓Za,↓Zk,↓Zr,↓Ze,↓Zm,↓Zs,↓Zf,↓Zh,↓Zg,↓Zc,↓Zb,↓vdn,vup,Zn,Zl,Zo,Zi,Zj,List.map_cons,List.map_nil,cond_true,cond_false,aop,Zv,Zq,Zp,ev,sput,Zt,Zy,Ya,unK,Zd,Zw,Nat.reduceBEq,Nat.reduceAdd,Int.reduceBEq,Int.reduceBNe,Int.reduceLT,Zu,Zz,tup,tyf])
   clear hN4
   try clear N4
   refine Yh ?_
   refine Yf fun Q hQ=>?_
   refine Xh (γ:=Nat×List (Int×Int)×Yc) (fun s=>s.1≤ps.length∧DlP p ps s.1 s.2.1∧OwnP 28 s.2.2 v s.2.1∧Ext (fun b=>Yk v=some b) h s.2.2)
    (fun s=>([(0,v),(1,.func (.func g) #[] caps),(4,.slice none 0 0),(5,Zx (Vc p ps s.1:Nat)),(6,Zx (s.1:Nat))],s.2.2)) (fun s=>ps.length-s.1) (i0+1,ps,h0) ⟨hlt,d1,ho0,hE0'⟩ (by simp (maxSteps:=2000000) only [↓Za,↓Zk,↓Zr,↓Ze,↓Zm,↓Zs,↓Zf,↓Zh,↓Zg,↓Zc,↓Zb,↓vdn,vup,Zn,Zl,Zo,Zi,Zj,List.map_cons,List.map_nil,cond_true,cond_false,aop,Zv,Zq,Zp,ev,sput,Zt,Zy,Ya,unK,Zd,Zw,Nat.reduceBEq,Nat.reduceAdd,Int.reduceBEq,Int.reduceBNe,Int.reduceLT,Zu,Zz,tup,tyf,hst1]) rfl ?_
   rintro ⟨j,ys,H⟩ ⟨hj,d,hy,hE⟩
   simp only at hj d hy hE
   refine Yf fun Q2 hQ2=>?_
   simp only [l47_0]
   have hyl:=d.len
   have hsl:=stay_leP p ps j
   by_cases hjin:(j:Int)<ps.length
   · have hj' : j<ps.length:=by omega
     have hjY:j<ys.length:=by omega
     refine Ye fun A hA=>?_
     refine Yb fun N5 hN5=>?_
     simp (maxSteps:=2000000) only [s47,↓Za,↓Zk,↓Zr,↓Ze,↓Zm,↓Zs,↓Zf,↓Zh,↓Zg,↓Zc,↓Zb,↓vdn,vup,Zn,Zl,Zo,Zi,Zj,List.map_cons,List.map_nil,cond_true,cond_false,aop,Zv,Zq,Zp,ev,sput,Zt,Zy,Ya,unK,Zd,Zw,Nat.reduceBEq,Nat.reduceAdd,Int.reduceBEq,Int.reduceBNe,Int.reduceLT,Zu,Zz,tup,tyf,hy.pair.len,hyl,hjin]
     refine hN5 [(0,v),(1,.func (.func g) #[] caps),(4,.slice none 0 0),(5,Zx (Vc p ps j:Nat)),(6,Zx (j:Nat)),(19,.bool true)] _ _ ?_ (by simp (maxSteps:=2000000) only [↓Za,↓Zk,↓Zr,↓Ze,↓Zm,↓Zs,↓Zf,↓Zh,↓Zg,↓Zc,↓Zb,↓vdn,vup,Zn,Zl,Zo,Zi,Zj,List.map_cons,List.map_nil,cond_true,cond_false,aop,Zv,Zq,Zp,ev,sput,Zt,Zy,Ya,unK,Zd,Zw,Nat.reduceBEq,Nat.reduceAdd,Int.reduceBEq,Int.reduceBNe,Int.reduceLT,Zu,Zz,tup,tyf])
     clear hN5
     try clear N5
     refine Xe rfl ?_
     refine Yd ?_
     simp (maxSteps:=2000000) only [s47,↓Za,↓Zk,↓Zr,↓Ze,↓Zm,↓Zs,↓Zf,↓Zh,↓Zg,↓Zc,↓Zb,↓vdn,vup,Zn,Zl,Zo,Zi,Zj,List.map_cons,List.map_nil,cond_true,cond_false,aop,Zv,Zq,Zp,ev,sput,Zt,Zy,Ya,unK,Zd,Zw,Nat.reduceBEq,Nat.reduceAdd,Int.reduceBEq,Int.reduceBNe,Int.reduceLT,Zu,Zz,tup,tyf]
     refine hA [(0,v),(1,.func (.func g) #[] caps),(4,.slice none 0 0),(5,Zx (Vc p ps j:Nat)),(6,Zx (j:Nat))] _ _ ?_ (by simp (maxSteps:=2000000) only [↓Za,↓Zk,↓Zr,↓Ze,↓Zm,↓Zs,↓Zf,↓Zh,↓Zg,↓Zc,↓Zb,↓vdn,vup,Zn,Zl,Zo,Zi,Zj,List.map_cons,List.map_nil,cond_true,cond_false,aop,Zv,Zq,Zp,ev,sput,Zt,Zy,Ya,unK,Zd,Zw,Nat.reduceBEq,Nat.reduceAdd,Int.reduceBEq,Int.reduceBNe,Int.reduceLT,Zu,Zz,tup,tyf])
     clear hA
     try clear A
     refine Ye fun B hB=>?_
     refine Yh ?_
     refine Yb fun N6 hN6=>?_
     simp (maxSteps:=2000000) only [s47,↓Za,↓Zk,↓Zr,↓Ze,↓Zm,↓Zs,↓Zf,↓Zh,↓Zg,↓Zc,↓Zb,↓vdn,vup,Zn,Zl,Zo,Zi,Zj,List.map_cons,List.map_nil,cond_true,cond_false,aop,Zv,Zq,Zp,ev,sput,Zt,Zy,Ya,unK,Zd,Zw,Nat.reduceBEq,Nat.reduceAdd,Int.reduceBEq,Int.reduceBNe,Int.reduceLT,Zu,Zz,tup,tyf,hy.pair.idx el_26 Vk hjY,hy.pair.load shp_28 hjY,d.get (Nat.le_refl j),Xx,Xd,zero_28,storePr]
     have hEa:Ext (fun _=>False) H (H++[Blk.cells [Zx (ps.getD j (0,0)).1,Zx (ps.getD j (0,0)).2] 28 false]):=Ext.app _ _ _
     have c7:=Yj H (Blk.cells [Zx (ps.getD j (0,0)).1,Zx (ps.getD j (0,0)).2] 28 false)
     have hy1:=hy.ext hEa
     have hE1:=hE.trans (hEa.mono (S:=fun _=>False) (T:=fun b=>Yk v=some b) fun _ h=>h.elim)
     generalize H++[Blk.cells [Zx (ps.getD j (0,0)).1,Zx (ps.getD j (0,0)).2] 28 false]=H1 at hEa c7 hy1 hE1 ⊢
     generalize H.length=b7 at c7 ⊢
     refine hN6 [(0,v),(1,.func (.func g) #[] caps),(4,.slice none 0 0),(5,Zx (Vc p ps j:Nat)),(6,Zx (j:Nat)),(7,pt b7)] _ _ ?_ (by simp (maxSteps:=2000000) only [↓Za,↓Zk,↓Zr,↓Ze,↓Zm,↓Zs,↓Zf,↓Zh,↓Zg,↓Zc,↓Zb,↓vdn,vup,Zn,Zl,Zo,Zi,Zj,List.map_cons,List.map_nil,cond_true,cond_false,aop,Zv,Zq,Zp,ev,sput,Zt,Zy,Ya,unK,Zd,Zw,Nat.reduceBEq,Nat.reduceAdd,Int.reduceBEq,Int.reduceBNe,Int.reduceLT,Zu,Zz,tup,tyf])
     clear hN6
     try clear N6
     refine Yb fun N7 hN7=>?_
     simp (maxSteps:=2000000) only [s47,↓Za,↓Zk,↓Zr,↓Ze,↓Zm,↓Zs,↓Zf,↓Zh,↓Zg,↓Zc,↓Zb,↓vdn,vup,Zn,Zl,Zo,Zi,Zj,List.map_cons,List.map_nil,cond_true,cond_false,aop,Zv,Zq,Zp,ev,sput,Zt,Zy,Ya,unK,Zd,Zw,Nat.reduceBEq,Nat.reduceAdd,Int.reduceBEq,Int.reduceBNe,Int.reduceLT,Zu,Zz,tup,tyf,Yz,List.nil_append,List.append_nil,List.toList_toArray,List.cons_append,loadP c7]
     refine (hp H1 hE1 _ (hget j hj')).mono ?_
     rintro _ H2 ⟨rfl,hEb⟩
     simp (maxSteps:=2000000) only [s47,↓Za,↓Zk,↓Zr,↓Ze,↓Zm,↓Zs,↓Zf,↓Zh,↓Zg,↓Zc,↓Zb,↓vdn,vup,Zn,Zl,Zo,Zi,Zj,List.map_cons,List.map_nil,cond_true,cond_false,aop,Zv,Zq,Zp,ev,sput,Zt,Zy,Ya,unK,Zd,Zw,Nat.reduceBEq,Nat.reduceAdd,Int.reduceBEq,Int.reduceBNe,Int.reduceLT,Zu,Zz,tup,tyf]
     refine hN7 [(0,v),(1,.func (.func g) #[] caps),(4,.slice none 0 0),(5,Zx (Vc p ps j:Nat)),(6,Zx (j:Nat)),(7,pt b7),(29,.bool (!p (ps.getD j (0,0))))] _ _ ?_ (by simp (maxSteps:=2000000) only [↓Za,↓Zk,↓Zr,↓Ze,↓Zm,↓Zs,↓Zf,↓Zh,↓Zg,↓Zc,↓Zb,↓vdn,vup,Zn,Zl,Zo,Zi,Zj,List.map_cons,List.map_nil,cond_true,cond_false,aop,Zv,Zq,Zp,ev,sput,Zt,Zy,Ya,unK,Zd,Zw,Nat.reduceBEq,Nat.reduceAdd,Int.reduceBEq,Int.reduceBNe,Int.reduceLT,Zu,Zz,tup,tyf])
     clear hN7
     try clear N7
     have c8:=(hEb.2 _ (Yp c7) id).trans c7
     have hy2:=hy1.ext hEb
     have hE2:=hE1.trans (hEb.mono (S:=fun _=>False) (T:=fun b=>Yk v=some b) fun _ h=>h.elim)
     cases hpx:p (ps.getD j (0,0)) with
     | true =>
       obtain ⟨d',hs'⟩:=d.hit hj' hpx
       refine Yq rfl ?_
       refine Yd ?_
       simp (maxSteps:=2000000) only [s47,↓Za,↓Zk,↓Zr,↓Ze,↓Zm,↓Zs,↓Zf,↓Zh,↓Zg,↓Zc,↓Zb,↓vdn,vup,Zn,Zl,Zo,Zi,Zj,List.map_cons,List.map_nil,cond_true,cond_false,aop,Zv,Zq,Zp,ev,sput,Zt,Zy,Ya,unK,Zd,Zw,Nat.reduceBEq,Nat.reduceAdd,Int.reduceBEq,Int.reduceBNe,Int.reduceLT,Zu,Zz,tup,tyf]
       refine hB [(0,v),(1,.func (.func g) #[] caps),(4,.slice none 0 0),(5,Zx (Vc p ps j:Nat)),(6,Zx (j:Nat))] _ _ ?_ (by simp (maxSteps:=2000000) only [↓Za,↓Zk,↓Zr,↓Ze,↓Zm,↓Zs,↓Zf,↓Zh,↓Zg,↓Zc,↓Zb,↓vdn,vup,Zn,Zl,Zo,Zi,Zj,List.map_cons,List.map_nil,cond_true,cond_false,aop,Zv,Zq,Zp,ev,sput,Zt,Zy,Ya,unK,Zd,Zw,Nat.reduceBEq,Nat.reduceAdd,Int.reduceBEq,Int.reduceBNe,Int.reduceLT,Zu,Zz,tup,tyf])
       clear hB
       try clear B
       refine Yd ?_
       simp (maxSteps:=2000000) only [s47,↓Za,↓Zk,↓Zr,↓Ze,↓Zm,↓Zs,↓Zf,↓Zh,↓Zg,↓Zc,↓Zb,↓vdn,vup,Zn,Zl,Zo,Zi,Zj,List.map_cons,List.map_nil,cond_true,cond_false,aop,Zv,Zq,Zp,ev,sput,Zt,Zy,Ya,unK,Zd,Zw,Nat.reduceBEq,Nat.reduceAdd,Int.reduceBEq,Int.reduceBNe,Int.reduceLT,Zu,Zz,tup,tyf,Vd (show j<9223372036854775807 by omega)]
       exact hQ2 _ _ _ ⟨(j+1,ys,H2),⟨hj',d',hy2,hE2⟩,by simp only; omega,by simp (maxSteps:=2000000) only [↓Za,↓Zk,↓Zr,↓Ze,↓Zm,↓Zs,↓Zf,↓Zh,↓Zg,↓Zc,↓Zb,↓vdn,vup,Zn,Zl,Zo,Zi,Zj,List.map_cons,List.map_nil,cond_true,cond_false,aop,Zv,Zq,Zp,ev,sput,Zt,Zy,Ya,unK,Zd,Zw,Nat.reduceBEq,Nat.reduceAdd,Int.reduceBEq,Int.reduceBNe,Int.reduceLT,Zu,Zz,tup,tyf,hs'],rfl⟩
     | false =>
       obtain ⟨d',hs'⟩:=d.miss hj' hpx
       have hsY:Vc p ps j<ys.length:=by omega
       refine Xe rfl ?_
       refine Yb fun N8 hN8=>?_
       simp (maxSteps:=2000000) only [s47,↓Za,↓Zk,↓Zr,↓Ze,↓Zm,↓Zs,↓Zf,↓Zh,↓Zg,↓Zc,↓Zb,↓vdn,vup,Zn,Zl,Zo,Zi,Zj,List.map_cons,List.map_nil,cond_true,cond_false,aop,Zv,Zq,Zp,ev,sput,Zt,Zy,Ya,unK,Zd,Zw,Nat.reduceBEq,Nat.reduceAdd,Int.reduceBEq,Int.reduceBNe,Int.reduceLT,Zu,Zz,tup,tyf,hy2.pair.idx el_26 Vk hsY,loadP c8]
       refine OwnP_set hy2 hsY fun G hy3 hE3=>?_
       refine hN8 [(0,v),(1,.func (.func g) #[] caps),(4,.slice none 0 0),(5,Zx (Vc p ps j:Nat)),(6,Zx (j:Nat)),(7,pt b7),(29,.bool (!false))] _ _ ?_ (by simp (maxSteps:=2000000) only [↓Za,↓Zk,↓Zr,↓Ze,↓Zm,↓Zs,↓Zf,↓Zh,↓Zg,↓Zc,↓Zb,↓vdn,vup,Zn,Zl,Zo,Zi,Zj,List.map_cons,List.map_nil,cond_true,cond_false,aop,Zv,Zq,Zp,ev,sput,Zt,Zy,Ya,unK,Zd,Zw,Nat.reduceBEq,Nat.reduceAdd,Int.reduceBEq,Int.reduceBNe,Int.reduceLT,Zu,Zz,tup,tyf])
       clear hN8
       try clear N8
       refine Yd ?_
       simp (maxSteps:=2000000) only [s47,↓Za,↓Zk,↓Zr,↓Ze,↓Zm,↓Zs,↓Zf,↓Zh,↓Zg,↓Zc,↓Zb,↓vdn,vup,Zn,Zl,Zo,Zi,Zj,List.map_cons,List.map_nil,cond_true,cond_false,aop,Zv,Zq,Zp,ev,sput,Zt,Zy,Ya,unK,Zd,Zw,Nat.reduceBEq,Nat.reduceAdd,Int.reduceBEq,Int.reduceBNe,Int.reduceLT,Zu,Zz,tup,tyf,Vd (show Vc p ps j<9223372036854775807 by omega)]
       refine hB [(0,v),(1,.func (.func g) #[] caps),(4,.slice none 0 0),(5,Zx (Vc p ps j+1:Nat)),(6,Zx (j:Nat))] _ _ ?_ (by simp (maxSteps:=2000000) only [↓Za,↓Zk,↓Zr,↓Ze,↓Zm,↓Zs,↓Zf,↓Zh,↓Zg,↓Zc,↓Zb,↓vdn,vup,Zn,Zl,Zo,Zi,Zj,List.map_cons,List.map_nil,cond_true,cond_false,aop,Zv,Zq,Zp,ev,sput,Zt,Zy,Ya,unK,Zd,Zw,Nat.reduceBEq,Nat.reduceAdd,Int.reduceBEq,Int.reduceBNe,Int.reduceLT,Zu,Zz,tup,tyf])
       clear hB
       try clear B
       refine Yd ?_
       simp (maxSteps:=2000000) only [s47,↓Za,↓Zk,↓Zr,↓Ze,↓Zm,↓Zs,↓Zf,↓Zh,↓Zg,↓Zc,↓Zb,↓vdn,vup,Zn,Zl,Zo,Zi,Zj,List.map_cons,List.map_nil,cond_true,cond_false,aop,Zv,Zq,Zp,ev,sput,Zt,Zy,Ya,unK,Zd,Zw,Nat.reduceBEq,Nat.reduceAdd,Int.reduceBEq,Int.reduceBNe,Int.reduceLT,Zu,Zz,tup,tyf,Vd (show j<9223372036854775807 by omega)]
       exact hQ2 _ _ _ ⟨(j+1,ys.set (Vc p ps j) (ps.getD j (0,0)),G),⟨hj',d',hy3,hE2.trans hE3⟩,by simp only; omega,by simp (maxSteps:=2000000) only [↓Za,↓Zk,↓Zr,↓Ze,↓Zm,↓Zs,↓Zf,↓Zh,↓Zg,↓Zc,↓Zb,↓vdn,vup,Zn,Zl,Zo,Zi,Zj,List.map_cons,List.map_nil,cond_true,cond_false,aop,Zv,Zq,Zp,ev,sput,Zt,Zy,Ya,unK,Zd,Zw,Nat.reduceBEq,Nat.reduceAdd,Int.reduceBEq,Int.reduceBNe,Int.reduceLT,Zu,Zz,tup,tyf,hs'],rfl⟩
   obtain rfl:j=ps.length:=by omega
   refine Ye fun A hA=>?_
   refine Yb fun N9 hN9=>?_
   simp (maxSteps:=2000000) only [s47,↓Za,↓Zk,↓Zr,↓Ze,↓Zm,↓Zs,↓Zf,↓Zh,↓Zg,↓Zc,↓Zb,↓vdn,vup,Zn,Zl,Zo,Zi,Zj,List.map_cons,List.map_nil,cond_true,cond_false,aop,Zv,Zq,Zp,ev,sput,Zt,Zy,Ya,unK,Zd,Zw,Nat.reduceBEq,Nat.reduceAdd,Int.reduceBEq,Int.reduceBNe,Int.reduceLT,Zu,Zz,tup,tyf,hy.pair.len,hyl,hjin]
   refine hN9 [(0,v),(1,.func (.func g) #[] caps),(4,.slice none 0 0),(5,Zx (Vc p ps ps.length:Nat)),(6,Zx ps.length),(19,.bool false)] _ _ ?_ (by simp (maxSteps:=2000000) only [↓Za,↓Zk,↓Zr,↓Ze,↓Zm,↓Zs,↓Zf,↓Zh,↓Zg,↓Zc,↓Zb,↓vdn,vup,Zn,Zl,Zo,Zi,Zj,List.map_cons,List.map_nil,cond_true,cond_false,aop,Zv,Zq,Zp,ev,sput,Zt,Zy,Ya,unK,Zd,Zw,Nat.reduceBEq,Nat.reduceAdd,Int.reduceBEq,Int.reduceBNe,Int.reduceLT,Zu,Zz,tup,tyf])
   clear hN9
   try clear N9
   refine Yq rfl ?_
   refine Yd ?_
   simp (maxSteps:=2000000) only [s47,↓Za,↓Zk,↓Zr,↓Ze,↓Zm,↓Zs,↓Zf,↓Zh,↓Zg,↓Zc,↓Zb,↓vdn,vup,Zn,Zl,Zo,Zi,Zj,List.map_cons,List.map_nil,cond_true,cond_false,aop,Zv,Zq,Zp,ev,sput,Zt,Zy,Ya,unK,Zd,Zw,Nat.reduceBEq,Nat.reduceAdd,Int.reduceBEq,Int.reduceBNe,Int.reduceLT,Zu,Zz,tup,tyf]
   refine hQ2 _ _ _ (hQ _ _ _ ?_)
   simp (maxSteps:=2000000) only [s47,↓Za,↓Zk,↓Zr,↓Ze,↓Zm,↓Zs,↓Zf,↓Zh,↓Zg,↓Zc,↓Zb,↓vdn,vup,Zn,Zl,Zo,Zi,Zj,List.map_cons,List.map_nil,cond_true,cond_false,aop,Zv,Zq,Zp,ev,sput,Zt,Zy,Ya,unK,Zd,Zw,Nat.reduceBEq,Nat.reduceAdd,Int.reduceBEq,Int.reduceBNe,Int.reduceLT,Zu,Zz,tup,tyf,if_true]
   refine hZ [(0,v),(1,.func (.func g) #[] caps),(4,.slice none 0 0),(5,Zx (Vc p ps ps.length:Nat))] _ _ ?_ (by simp (maxSteps:=2000000) only [↓Za,↓Zk,↓Zr,↓Ze,↓Zm,↓Zs,↓Zf,↓Zh,↓Zg,↓Zc,↓Zb,↓vdn,vup,Zn,Zl,Zo,Zi,Zj,List.map_cons,List.map_nil,cond_true,cond_false,aop,Zv,Zq,Zp,ev,sput,Zt,Zy,Ya,unK,Zd,Zw,Nat.reduceBEq,Nat.reduceAdd,Int.reduceBEq,Int.reduceBNe,Int.reduceLT,Zu,Zz,tup,tyf])
   clear hZ
   try clear Z
   clear hQ hQ2
   have hsY:Vc p ps ps.length≤ys.length:=by omega
   refine Yb fun N10 hN10=>?_
   simp (maxSteps:=2000000) only [s47,↓Za,↓Zk,↓Zr,↓Ze,↓Zm,↓Zs,↓Zf,↓Zh,↓Zg,↓Zc,↓Zb,↓vdn,vup,Zn,Zl,Zo,Zi,Zj,List.map_cons,List.map_nil,cond_true,cond_false,aop,Zv,Zq,Zp,ev,sput,Zt,Zy,Ya,unK,Zd,Zw,Nat.reduceBEq,Nat.reduceAdd,Int.reduceBEq,Int.reduceBNe,Int.reduceLT,Zu,Zz,tup,tyf,Option.map_some,Option.map_none]
   refine ownP_clear hy hsY fun _ G hy2 hE2=>?_
   refine hN10 [(0,v),(1,.func (.func g) #[] caps),(4,.slice none 0 0),(5,Zx (Vc p ps ps.length:Nat))] _ _ ?_ (by simp (maxSteps:=2000000) only [↓Za,↓Zk,↓Zr,↓Ze,↓Zm,↓Zs,↓Zf,↓Zh,↓Zg,↓Zc,↓Zb,↓vdn,vup,Zn,Zl,Zo,Zi,Zj,List.map_cons,List.map_nil,cond_true,cond_false,aop,Zv,Zq,Zp,ev,sput,Zt,Zy,Ya,unK,Zd,Zw,Nat.reduceBEq,Nat.reduceAdd,Int.reduceBEq,Int.reduceBNe,Int.reduceLT,Zu,Zz,tup,tyf])
   clear hN10
   try clear N10
   refine Yd ?_
   simp (maxSteps:=2000000) only [s47,↓Za,↓Zk,↓Zr,↓Ze,↓Zm,↓Zs,↓Zf,↓Zh,↓Zg,↓Zc,↓Zb,↓vdn,vup,Zn,Zl,Zo,Zi,Zj,List.map_cons,List.map_nil,cond_true,cond_false,aop,Zv,Zq,Zp,ev,sput,Zt,Zy,Ya,unK,Zd,Zw,Nat.reduceBEq,Nat.reduceAdd,Int.reduceBEq,Int.reduceBNe,Int.reduceLT,Zu,Zz,tup,tyf,Option.map_some,Option.map_none]
   refine OwnP_take hy2 (by rw [List.length_append,List.length_take]; omega) el_26 Vk fun w hw hb=>?_
   have htk:=d.tk
   rw [List.take_length] at htk
   rw [List.take_append_of_le_length (by rw [List.length_take]; omega),List.take_take,Nat.min_self,htk] at hw
   exact ⟨hw,hE.trans hE2,hb⟩
 · have hf:ps.filter (fun x=>!p x)=ps:=List.filter_eq_self.2 fun x hx=>by
    obtain ⟨j,hj,rfl⟩:=List.mem_iff_getElem.1 hx
    have:=hno j hj
    rw [List.getD,List.getElem?_eq_getElem hj,Option.getD_some] at this
    rw [this]; rfl
   refine hN2 [(0,v),(1,.func (.func g) #[] caps),(4,.slice none 0 0),(5,.int .i64 (-1))] _ _ ?_ (by simp (maxSteps:=2000000) only [↓Za,↓Zk,↓Zr,↓Ze,↓Zm,↓Zs,↓Zf,↓Zh,↓Zg,↓Zc,↓Zb,↓vdn,vup,Zn,Zl,Zo,Zi,Zj,List.map_cons,List.map_nil,cond_true,cond_false,aop,Zv,Zq,Zp,ev,sput,Zt,Zy,Ya,unK,Zd,Zw,Nat.reduceBEq,Nat.reduceAdd,Int.reduceBEq,Int.reduceBNe,Int.reduceLT,Zu,Zz,tup,tyf])
   clear hN2
   try clear N2
   refine Ye fun M hM=>?_
   refine Yb fun N11 hN11=>?_
   simp (maxSteps:=2000000) only [s47,↓Za,↓Zk,↓Zr,↓Ze,↓Zm,↓Zs,↓Zf,↓Zh,↓Zg,↓Zc,↓Zb,↓vdn,vup,Zn,Zl,Zo,Zi,Zj,List.map_cons,List.map_nil,cond_true,cond_false,aop,Zv,Zq,Zp,ev,sput,Zt,Zy,Ya,unK,Zd,Zw,Nat.reduceBEq,Nat.reduceAdd,Int.reduceBEq,Int.reduceBNe,Int.reduceLT,Zu,Zz,tup,tyf]
   refine hN11 [(0,v),(1,.func (.func g) #[] caps),(4,.slice none 0 0),(5,.int .i64 (-1)),(12,.bool true)] _ _ ?_ (by simp (maxSteps:=2000000) only [↓Za,↓Zk,↓Zr,↓Ze,↓Zm,↓Zs,↓Zf,↓Zh,↓Zg,↓Zc,↓Zb,↓vdn,vup,Zn,Zl,Zo,Zi,Zj,List.map_cons,List.map_nil,cond_true,cond_false,aop,Zv,Zq,Zp,ev,sput,Zt,Zy,Ya,unK,Zd,Zw,Nat.reduceBEq,Nat.reduceAdd,Int.reduceBEq,Int.reduceBNe,Int.reduceLT,Zu,Zz,tup,tyf])
   clear hN11
   try clear N11
   refine Xe rfl ?_
   refine Yd ?_
   simp (maxSteps:=2000000) only [s47,↓Za,↓Zk,↓Zr,↓Ze,↓Zm,↓Zs,↓Zf,↓Zh,↓Zg,↓Zc,↓Zb,↓vdn,vup,Zn,Zl,Zo,Zi,Zj,List.map_cons,List.map_nil,cond_true,cond_false,aop,Zv,Zq,Zp,ev,sput,Zt,Zy,Ya,unK,Zd,Zw,Nat.reduceBEq,Nat.reduceAdd,Int.reduceBEq,Int.reduceBNe,Int.reduceLT,Zu,Zz,tup,tyf]
   exact ⟨by rw [hf]; exact ho.ext hE0,hE0.mono fun _ h=>h.elim⟩
end Go.Proofs.Tryd.Am.Tf
namespace Go.Proofs.Tryd.Am.Tf
open Go.Proofs.Tryd.Am
open Go.Am
set_option maxRecDepth 100000
set_option maxHeartbeats 4000000
def hasQ (q:Nat×Nat) (p:Int×Int):Bool:=hasB q.1 q.2 p.1.toNat p.2.toNat
def gcV (n b7:Nat):Value:=.func (.func 45) #[] #[pt b7,pt n,pt (n+1)]
structure CH (H:Yc) (t:List (List Int)) (sv:Value) (sets:List (Nat×Nat)) (b7:Nat):Prop where
 ok:Tab t
 sl:PairSl H sv (sets.map pI)
 c7:H[b7]? = some (.cells [sv] 77 false)
 sm : ∀ q∈sets,q.1≤15∧q.2≤15
 len:sets.length≤225
structure CS (H:Yc) (n b7:Nat) (out:List (Nat×Nat)) (ov:Value) (z:Yc):Prop where
 ext:Ext (fun _=>False) H z
 ge:H.length≤n
 c8:z[n]? = some (.cells [ov] 77 false)
 c9:z[n+1]? = some (.cells [gcV n b7] 79 false)
 own:OwnP 81 z ov (out.map pI)
 new : ∀ b,Yk ov=some b→H.length≤b
section
variable {H:Yc} {n b7:Nat} {out out' : List (Nat×Nat)} {ov w:Value} {z z1:Yc}
theorem CS.more (s:CS H n b7 out ov z) (hE:Ext (fun _=>False) z z1):CS H n b7 out ov z1 :=
 ⟨s.ext.trans hE,s.ge,(hE.2 _ (Yp s.c8) id).trans s.c8,(hE.2 _ (Yp s.c9) id).trans s.c9,s.own.ext hE,s.new⟩
theorem CS.put (s:CS H n b7 out ov z) (hE:Ext (fun b=>Yk ov=some b) z z1) (ho:OwnP 81 z1 w (out'.map pI)) (hn : ∀ b,Yk w=some b→Yk ov=some b∨z.length≤b) :
  CS H n b7 out' w (z1.set n (.cells [w] 77 false)):=by
 have e8:=(hE.2 _ (Yp s.c8) (Wd s.own s.c8)).trans s.c8
 have e9:=(hE.2 _ (Yp s.c9) (Wd s.own s.c9)).trans s.c9
 have old : ∀ {b:Nat},b≠n→(z1.set n (Blk.cells [w] 77 false))[b]? = z1[b]?:=fun h=>List.getElem?_set_ne (Ne.symm h)
 have hge:=s.ge
 refine ⟨⟨by rw [List.length_set]; exact Nat.le_trans s.ext.1 hE.1,fun q hq _=>?_⟩,s.ge,Xy (Yp e8) _,by rw [old (by omega)]; exact e9,ho.same fun b hb=>old (fun hc:b=n=>Wd ho e8 (by rw [← hc]; exact hb)),fun b hb=>?_⟩
 · rw [old (by omega),hE.2 q (Nat.lt_of_lt_of_le hq s.ext.1) (fun hc=>by have:=s.new q hc; omega)]
   exact s.ext.2 q hq id
 · rcases hn b hb with h1 | h1
   · exact s.new b h1
   · exact Nat.le_trans s.ext.1 h1
end
def KG (n:Nat) (ov:Value) (b:Nat):Prop:=b=n∨Yk ov=some b
theorem KG.trans {n:Nat} {ov ov' : Value} {z z1 z2:Yc} (h1:Ext (KG n ov) z z1) (h2:Ext (KG n ov') z1 z2) (hb : ∀ b,Yk ov' = some b→Yk ov=some b∨z.length≤b):Ext (KG n ov) z z2 :=
 ⟨Nat.le_trans h1.1 h2.1,fun b hlt hf=>by
  rw [h2.2 b (Nat.lt_of_lt_of_le hlt h1.1) fun hc=>?_]
  · exact h1.2 b hlt hf
  · rcases hc with e | e
    · exact hf (.inl e)
    · rcases hb b e with h | h
      · exact hf (.inr h)
      · omega⟩
def Cvd (l:List (Nat×Nat)) (left:List (Int×Int)):Prop:=∀ p∈left,∃ q∈l,hasQ q p=true
def CPost (H:Yc) (n b7:Nat) (sets:List (Nat×Nat)) (left:List (Int×Int)) (size:Nat) (out:List (Nat×Nat)) (ov:Value) (z:Yc) (r:Value) (z' : Yc):Prop :=
 ∃ b ov' out',r = .bool b∧CS H n b7 out' ov' z'∧Ext (KG n ov) z z'∧(∀ b,Yk ov' = some b→Yk ov=some b∨z.length≤b) ∧
   (b=true→∃ l,out' = out++l∧l.length≤size∧(∀ q∈l,q∈sets)∧Cvd l left)∧(b=false→out' = out∧¬ (left.length≤size∧Cvd sets left))
def GrowC [Tabs prog] (H:Yc) (t:List (List Int)) (sets:List (Nat×Nat)) (n b7 size:Nat):Prop :=
 ∀ left out ov lv z,CS H n b7 out ov z→OwnP 28 z lv left→(∀ b,Yk lv=some b→Yk ov≠some b)→(∀ p∈left,InT t p)→left.length≤16→out.length+size≤64 →
   ACall prog 45 [lv,Zx (size:Nat),pt b7,pt n,pt (n+1)] z (CPost H n b7 sets left size out ov z)
theorem own0 {z:Yc} {lv:Value} {p:Int×Int} {l:List (Int×Int)} (ho:OwnP 28 z lv (p::l)) : ∃ b,(∀ K:Value→Prop,Yv prog 26 lv (.int .i64 0) K=K (.pointer (some ⟨b,0,none⟩)))∧(∀ K:Value→Prop,Xn prog z 3 (.pointer (some ⟨b,0,none⟩)) K=K (Zx p.1))∧(∀ K:Value→Prop,Xn prog z 3 (.pointer (some ⟨b,1,none⟩)) K=K (Zx p.2)):=by
 have hi:=fun K:Value→Prop=>ho.pair.idx (P:=prog) el_26 Vk (k:=.i64) (i:=0) (by simp) K
 rcases ho with ⟨_,h2⟩ | ⟨b,ys,rfl,hb⟩
 · cases h2
 · refine ⟨b,fun K=>?_,fun K=>?_,fun K=>?_⟩
   · have:=hi K
     simpa [Wq] using this
   · simp only [Xn,Yw,cellK,hb]; simp [Yn]
   · simp only [Xn,Yw,cellK,hb]; simp [Yn]
theorem filt_len {q:Nat×Nat} {left:List (Int×Int)} (hne:left≠[]) (h:hasQ q (left.getD 0 (0,0))=true):(left.filter fun p=>!hasQ q p).length+1≤left.length:=by
 cases left with
 | nil=>exact absurd rfl hne
 | cons p l =>
   rw [List.filter_cons,show hasQ q p=true from h]
   have:=List.length_filter_le (fun p=>!hasQ q p) l
   simp only [Bool.not_true,Bool.false_eq_true,if_false,List.length_cons]; omega
theorem cov_step [Tabs prog] {H z:Yc} {n b7 b9 size a b:Nat} {t:List (List Int)} {sv ov lv e15:Value} {sets out:List (Nat×Nat)} {left:List (Int×Int)} {e16 e17:Value} (hH:CH H t sv sets b7) (ih:GrowC H t sets n b7 size) (s:CS H n b7 out ov z) (hl:OwnP 28 z lv left) (hdis : ∀ b,Yk lv=some b→Yk ov≠some b)
  (hin : ∀ p∈left,InT t p) (hne:left≠[]) (hl16:left.length≤16) (hsz:out.length+(size+1)≤64) (hab:(a,b)∈sets) (c9:z[b9]? = some (.cells [Zx (a:Nat),Zx (b:Nat)] 81 false)) (hhas:hasQ (a,b) (left.getD 0 (0,0))=true) {Q:Exit→Env→Yc→Prop}
  (hR : ∀ e z' ov' l,CS H n b7 (out++l) ov' z'→Ext (KG n ov) z z'→(∀ b,Yk ov' = some b→Yk ov=some b∨z.length≤b)→l.length≤size+1→(∀ q∈l,q∈sets)→Cvd l left→sget e 7 = .bool true→Q .ret e z')
  (hN : ∀ e z' ov',CS H n b7 out ov' z'→Ext (KG n ov) z z'→(∀ b,Yk ov' = some b→Yk ov=some b∨z.length≤b)→¬ (left.length≤size+1∧Cvd sets left)→ELe e [(0,lv),(1,Zx ((size+1:Nat):Int)),(2,pt b7),(3,pt n),(4,pt (n+1)),(15,e15),(16,e16),(17,e17)]→Q .normal e z') :
  AWS prog 50 (.seq q45_9 (.seq (.seq q45_10 (.cond (.tmp 43) (.seq q45_11 .ret) .skip)) q45_12)) Q [(0,lv),(1,Zx ((size+1:Nat):Int)),(2,pt b7),(3,pt n),(4,pt (n+1)),(9,pt b9),(15,e15),(16,e16),(17,e17)] z:=by
 have hm:=hH.sm _ hab
 simp only at hm
 have hfl:=filt_len hne hhas
 have holen:(out.map pI).length=out.length:=List.length_map _
 refine Yb fun N1 hN1=>?_
 simp (maxSteps:=2000000) only [s45,↓Za,↓Zk,↓Zr,↓Ze,↓Zm,↓Zs,↓Zf,↓Zh,↓Zg,↓Zc,↓Zb,↓vdn,vup,Zn,Zl,Zo,Zi,Zj,List.map_cons,List.map_nil,cond_true,cond_false,aop,Zv,Zq,Zp,ev,sput,Zt,Zy,Ya,unK,Zd,Zw,Nat.reduceBEq,Nat.reduceAdd,Int.reduceBEq,Int.reduceBNe,Int.reduceLT,Zu,Zz,tup,tyf,Xa s.c8 shp_77,loadR c9,litR]
 refine (s.own.ext (Ext.app _ _ _)).append app_77_77 (by omega) (Yj _ _) ?_
 intro w z1 ho hE hb
 have hE1:=ext_app hE
 have hw:=blk_app hb
 have e8:=(hE1.2 _ (Yp s.c8) (Wd s.own s.c8)).trans s.c8
 have d9:=(hE1.2 _ (Yp c9) (Wd s.own c9)).trans c9
 simp (maxSteps:=2000000) only [s45,↓Za,↓Zk,↓Zr,↓Ze,↓Zm,↓Zs,↓Zf,↓Zh,↓Zg,↓Zc,↓Zb,↓vdn,vup,Zn,Zl,Zo,Zi,Zj,List.map_cons,List.map_nil,cond_true,cond_false,aop,Zv,Zq,Zp,ev,sput,Zt,Zy,Ya,unK,Zd,Zw,Nat.reduceBEq,Nat.reduceAdd,Int.reduceBEq,Int.reduceBNe,Int.reduceLT,Zu,Zz,tup,tyf,store1 e8 shp_77 (OwnP_one ho)]
 have ho' : OwnP 81 z1 w ((out++[(a,b)]).map pI):=by rw [List.map_append]; exact ho
 have s1:=s.put hE1 ho' hw
 have hb9:b9≠n:=fun hc=>by rw [hc,s.c8] at c9; cases c9
 have f9:(z1.set n (Blk.cells [w] 77 false))[b9]? = some (.cells [Zx (a:Nat),Zx (b:Nat)] 81 false):=by rw [List.getElem?_set_ne (Ne.symm hb9)]; exact d9
 have hl1:OwnP 28 (z1.set n (Blk.cells [w] 77 false)) lv left:=hl.same fun b hb2=>by
  rw [List.getElem?_set_ne (fun hc:n=b=>Wd hl s.c8 (by rw [hc]; exact hb2))]
  exact hE1.2 b (hl.lt hb2) (hdis b hb2)
 have hE2:Ext (KG n ov) z (z1.set n (Blk.cells [w] 77 false)):=⟨by rw [List.length_set]; exact hE1.1,fun b hb hf=>by
  rw [List.getElem?_set_ne fun hc=>hf (.inl hc.symm)]
  exact hE1.2 b hb fun hc=>hf (.inr hc)⟩
 have hlt1 : ∀ b,Yk w=some b→b<(z1.set n (Blk.cells [w] 77 false)).length:=fun b hb=>by rw [List.length_set]; exact ho.lt hb
 have hlz:z.length≤(z1.set n (Blk.cells [w] 77 false)).length:=hE2.1
 generalize z1.set n (Blk.cells [w] 77 false)=z2 at s1 f9 hl1 hE2 hlt1 hlz ⊢
 refine hN1 [(0,lv),(1,Zx ((size+1:Nat):Int)),(2,pt b7),(3,pt n),(4,pt (n+1)),(9,pt b9),(15,e15),(16,e16),(17,e17)] _ _ ?_ (by simp (maxSteps:=2000000) only [↓Za,↓Zk,↓Zr,↓Ze,↓Zm,↓Zs,↓Zf,↓Zh,↓Zg,↓Zc,↓Zb,↓vdn,vup,Zn,Zl,Zo,Zi,Zj,List.map_cons,List.map_nil,cond_true,cond_false,aop,Zv,Zq,Zp,ev,sput,Zt,Zy,Ya,unK,Zd,Zw,Nat.reduceBEq,Nat.reduceAdd,Int.reduceBEq,Int.reduceBNe,Int.reduceLT,Zu,Zz,tup,tyf])
 clear hN1
 try clear N1
 refine Ye fun M hM=>?_
 refine Yb fun N2 hN2=>?_
 simp only [q45_10]
 refine aw_drawR (fun z=>z[n+1]? = some (.cells [gcV n b7] 79 false)) [(0,5),(7,4)] (by kernel_rfl) (by kernel_rfl) (by kernel_rfl) (by kernel_rfl) s1.c9 ?_
 simp (maxSteps:=2000000) only [s45,↓Za,↓Zk,↓Zr,↓Ze,↓Zm,↓Zs,↓Zf,↓Zh,↓Zg,↓Zc,↓Zb,↓vdn,vup,Zn,Zl,Zo,Zi,Zj,List.map_cons,List.map_nil,cond_true,cond_false,aop,Zv,Zq,Zp,ev,sput,Zt,Zy,Ya,unK,Zd,Zw,Nat.reduceBEq,Nat.reduceAdd,Int.reduceBEq,Int.reduceBNe,Int.reduceLT,Zu,Zz,tup,tyf]
 refine ⟨gcV n b7,fun hp hhp=>by simp only [Xa hhp shp_79,true_and],?_⟩
 have hcl:ADet prog 40 [lv] z2 (.slice (some ⟨z2.length,0,some 0⟩) left.length left.length) (z2++[.ints (Yn left) 28 false]):=ACall.named hne ((clone_call hl1.pair hne (by omega)).mono fun r h' s=>⟨s.own,s.ext,s.new⟩)
 simp (maxSteps:=2000000) only [s45,↓Za,↓Zk,↓Zr,↓Ze,↓Zm,↓Zs,↓Zf,↓Zh,↓Zg,↓Zc,↓Zb,↓vdn,vup,Zn,Zl,Zo,Zi,Zj,List.map_cons,List.map_nil,cond_true,cond_false,aop,Zv,Zq,Zp,ev,sput,Zt,Zy,Ya,unK,Zd,Zw,Nat.reduceBEq,Nat.reduceAdd,Int.reduceBEq,Int.reduceBNe,Int.reduceLT,Zu,Zz,tup,tyf,Yz,List.nil_append,List.append_nil,List.toList_toArray,List.cons_append]
 refine ⟨_,_,hcl,Xi s1.c9 _,?_⟩
 have hr3:OwnP 28 (z2++[.ints (Yn left) 28 false]) (.slice (some ⟨z2.length,0,some 0⟩) left.length left.length) left:=.inr ⟨z2.length,[],rfl,by rw [Yj]; simp [Yn]⟩
 have g9:=Xi f9 [Blk.ints (Yn left) 28 false]
 have hdl:ADet prog 47 [.slice (some ⟨z2.length,0,some 0⟩) left.length left.length,.func (.func 48) #[] #[pt b9]] (z2++[.ints (Yn left) 28 false]) _ _:=ACall.settled (e:=28) (b:=z2.length) (ps:=left.filter fun x=>!hasQ (a,b) x) (by simp) ((delete_call (p:=hasQ (a,b)) hr3 (by omega) fun Z hZ p hp =>
  (has2_call (a:=a) (b:=b) (by omega) (by omega) ((hZ.2 _ (Yp g9) (Wd hr3 g9)).trans g9) (hin p hp)).mono fun r h2 hh=>⟨hh.1,hh.2⟩).mono fun r h' hh=>⟨hh.1,hh.2.1.mono fun i (hi:some z2.length=some i)=>(Option.some.inj hi).symm,hh.2.2⟩)
 rw [Be.set_new] at hdl
 simp (maxSteps:=2000000) only [s45,↓Za,↓Zk,↓Zr,↓Ze,↓Zm,↓Zs,↓Zf,↓Zh,↓Zg,↓Zc,↓Zb,↓vdn,vup,Zn,Zl,Zo,Zi,Zj,List.map_cons,List.map_nil,cond_true,cond_false,aop,Zv,Zq,Zp,ev,sput,Zt,Zy,Ya,unK,Zd,Zw,Nat.reduceBEq,Nat.reduceAdd,Int.reduceBEq,Int.reduceBNe,Int.reduceLT,Zu,Zz,tup,tyf,Yz,List.nil_append,List.append_nil,List.toList_toArray,List.cons_append,List.map_toArray]
 refine ⟨_,_,hdl,Xi s1.c9 _,?_⟩
 have s4:=s1.more (Ext.app (fun _=>False) z2 [Blk.ints (Yn (left.filter fun x=>!hasQ (a,b) x)) 28 false])
 have hE24:Ext (fun _=>False) z2 (z2++[Blk.ints (Yn (left.filter fun x=>!hasQ (a,b) x)) 28 false]):=Ext.app _ _ _
 have ho4:OwnP 28 (z2++[Blk.ints (Yn (left.filter fun x=>!hasQ (a,b) x)) 28 false]) (.slice (some ⟨z2.length,0,some 0⟩) (left.filter fun x=>!hasQ (a,b) x).length (left.filter fun x=>!hasQ (a,b) x).length) (left.filter fun x=>!hasQ (a,b) x):=.inr ⟨z2.length,[],rfl,by rw [Yj]; simp [Yn]⟩
 generalize z2++[Blk.ints (Yn (left.filter fun x=>!hasQ (a,b) x)) 28 false]=z4 at s4 hE24 ho4 ⊢
 have hsub:subV .i64 ((size+1:Nat):Int) 1=(size:Int):=by rw [subV_id (by omega) (by omega)]; omega
 simp (maxSteps:=2000000) only [s45,↓Za,↓Zk,↓Zr,↓Ze,↓Zm,↓Zs,↓Zf,↓Zh,↓Zg,↓Zc,↓Zb,↓vdn,vup,Zn,Zl,Zo,Zi,Zj,List.map_cons,List.map_nil,cond_true,cond_false,aop,Zv,Zq,Zp,ev,sput,Zt,Zy,Ya,unK,Zd,Zw,Nat.reduceBEq,Nat.reduceAdd,Int.reduceBEq,Int.reduceBNe,Int.reduceLT,Zu,Zz,tup,tyf,Yz,List.nil_append,List.append_nil,List.toList_toArray,List.cons_append,hsub,gcV]
 refine (ih (left.filter fun x=>!hasQ (a,b) x) (out++[(a,b)]) w _ z4 s4 ho4 (fun b hb1 hb2=>?_) (fun p hp=>hin p (List.mem_filter.1 hp).1) (by omega) (by rw [List.length_append,List.length_singleton]; omega)).mono ?_
 · have:=hlt1 b hb2
   have:z2.length=b:=Option.some.inj hb1
   omega
 rintro _ z5 ⟨bb,ov5,out5,rfl,s5,hE5,hb5,ht5,hf5⟩
 refine ⟨s5.c9,?_⟩
 have hE6:Ext (KG n ov) z z5:=KG.trans (KG.trans hE2 (hE24.mono fun _ h=>h.elim:Ext (KG n ov) z2 z4) fun b h=>.inl h) hE5 fun b hb=>hw b hb
 have hb6 : ∀ b,Yk ov5=some b→Yk ov=some b∨z.length≤b:=fun b hb=>by
  rcases hb5 b hb with h1 | h1
  · exact hw b h1
  · have:=hE24.1; exact .inr (by omega)
 refine hN2 [(0,lv),(1,Zx ((size+1:Nat):Int)),(2,pt b7),(3,pt n),(4,pt (n+1)),(9,pt b9),(15,e15),(16,e16),(17,e17),(43,.bool bb)] _ _ ?_ (by simp (maxSteps:=2000000) only [↓Za,↓Zk,↓Zr,↓Ze,↓Zm,↓Zs,↓Zf,↓Zh,↓Zg,↓Zc,↓Zb,↓vdn,vup,Zn,Zl,Zo,Zi,Zj,List.map_cons,List.map_nil,cond_true,cond_false,aop,Zv,Zq,Zp,ev,sput,Zt,Zy,Ya,unK,Zd,Zw,Nat.reduceBEq,Nat.reduceAdd,Int.reduceBEq,Int.reduceBNe,Int.reduceLT,Zu,Zz,tup,tyf])
 clear hN2
 try clear N2
 cases bb with
 | true =>
   refine Xe rfl ?_
   obtain ⟨l,rfl,hll,hls,hlc⟩:=ht5 rfl
   refine Yd ?_
   simp (maxSteps:=2000000) only [s45,↓Za,↓Zk,↓Zr,↓Ze,↓Zm,↓Zs,↓Zf,↓Zh,↓Zg,↓Zc,↓Zb,↓vdn,vup,Zn,Zl,Zo,Zi,Zj,List.map_cons,List.map_nil,cond_true,cond_false,aop,Zv,Zq,Zp,ev,sput,Zt,Zy,Ya,unK,Zd,Zw,Nat.reduceBEq,Nat.reduceAdd,Int.reduceBEq,Int.reduceBNe,Int.reduceLT,Zu,Zz,tup,tyf]
   rw [List.append_assoc] at s5
   refine hR _ _ _ ([(a,b)]++l) s5 hE6 hb6 (by rw [List.length_append,List.length_singleton]; omega) ?_ ?_ rfl
   · intro q hq
     rcases List.mem_append.1 hq with h1 | h1
     · rw [List.mem_singleton] at h1; exact h1▸hab
     · exact hls q h1
   · intro p hp
     cases hq:hasQ (a,b) p with
     | true=>exact ⟨(a,b),by simp,hq⟩
     | false =>
       obtain ⟨q,h1,h2⟩:=hlc p (List.mem_filter.2 ⟨hp,by rw [hq]; rfl⟩)
       exact ⟨q,List.mem_append_right _ h1,h2⟩
 | false =>
   refine Yq rfl ?_
   obtain ⟨rfl,hno⟩:=hf5 rfl
   refine Yd ?_
   simp (maxSteps:=2000000) only [s45,↓Za,↓Zk,↓Zr,↓Ze,↓Zm,↓Zs,↓Zf,↓Zh,↓Zg,↓Zc,↓Zb,↓vdn,vup,Zn,Zl,Zo,Zi,Zj,List.map_cons,List.map_nil,cond_true,cond_false,aop,Zv,Zq,Zp,ev,sput,Zt,Zy,Ya,unK,Zd,Zw,Nat.reduceBEq,Nat.reduceAdd,Int.reduceBEq,Int.reduceBNe,Int.reduceLT,Zu,Zz,tup,tyf]
   refine hM [(0,lv),(1,Zx ((size+1:Nat):Int)),(2,pt b7),(3,pt n),(4,pt (n+1)),(15,e15),(16,e16),(17,e17)] _ _ ?_ (by simp (maxSteps:=2000000) only [↓Za,↓Zk,↓Zr,↓Ze,↓Zm,↓Zs,↓Zf,↓Zh,↓Zg,↓Zc,↓Zb,↓vdn,vup,Zn,Zl,Zo,Zi,Zj,List.map_cons,List.map_nil,cond_true,cond_false,aop,Zv,Zq,Zp,ev,sput,Zt,Zy,Ya,unK,Zd,Zw,Nat.reduceBEq,Nat.reduceAdd,Int.reduceBEq,Int.reduceBNe,Int.reduceLT,Zu,Zz,tup,tyf])
   clear hM
   try clear M
   have hsub2:subV .i64 ((out.map pI++[pI (a,b)]).length:Int) 1=((out.map pI).length:Int):=by
    rw [List.length_append,List.length_singleton,subV_id (by omega) (by omega)]; omega
   have ho5:OwnP 81 z5 ov5 (out.map pI++[pI (a,b)]):=by
    have:=s5.own
    rwa [List.map_append] at this
   have hl5:=ho5.pair.len
   refine Yd ?_
   simp (maxSteps:=2000000) only [s45,↓Za,↓Zk,↓Zr,↓Ze,↓Zm,↓Zs,↓Zf,↓Zh,↓Zg,↓Zc,↓Zb,↓vdn,vup,Zn,Zl,Zo,Zi,Zj,List.map_cons,List.map_nil,cond_true,cond_false,aop,Zv,Zq,Zp,ev,sput,Zt,Zy,Ya,unK,Zd,Zw,Nat.reduceBEq,Nat.reduceAdd,Int.reduceBEq,Int.reduceBNe,Int.reduceLT,Zu,Zz,tup,tyf,Xa s5.c8 shp_77,hl5,List.map_cons,List.map_nil,hsub2,Option.map_none,Option.map_some]
   refine OwnP_cut ho5 el_77 esz_81 ?_
   intro w7 ho7 hb7
   simp (maxSteps:=2000000) only [s45,↓Za,↓Zk,↓Zr,↓Ze,↓Zm,↓Zs,↓Zf,↓Zh,↓Zg,↓Zc,↓Zb,↓vdn,vup,Zn,Zl,Zo,Zi,Zj,List.map_cons,List.map_nil,cond_true,cond_false,aop,Zv,Zq,Zp,ev,sput,Zt,Zy,Ya,unK,Zd,Zw,Nat.reduceBEq,Nat.reduceAdd,Int.reduceBEq,Int.reduceBNe,Int.reduceLT,Zu,Zz,tup,tyf,store1 s5.c8 shp_77 (OwnP_one ho7)]
   have s7:CS H n b7 out w7 (z5.set n (Blk.cells [w7] 77 false)):=s5.put (Ext.refl _ _) ho7 (fun b hb=>.inl (hb7▸hb))
   refine hN _ _ _ s7 ⟨by rw [List.length_set]; exact hE6.1,fun b hb hf=>?_⟩ (fun b hb=>hb6 b (hb7▸hb)) (fun hc=>hno ⟨by omega,fun p hp=>hc.2 p (List.mem_filter.1 hp).1⟩) (by simp (maxSteps:=2000000) only [↓Za,↓Zk,↓Zr,↓Ze,↓Zm,↓Zs,↓Zf,↓Zh,↓Zg,↓Zc,↓Zb,↓vdn,vup,Zn,Zl,Zo,Zi,Zj,List.map_cons,List.map_nil,cond_true,cond_false,aop,Zv,Zq,Zp,ev,sput,Zt,Zy,Ya,unK,Zd,Zw,Nat.reduceBEq,Nat.reduceAdd,Int.reduceBEq,Int.reduceBNe,Int.reduceLT,Zu,Zz,tup,tyf])
   rw [List.getElem?_set_ne fun hc=>hf (.inl hc.symm)]
   exact hE6.2 b hb hf
end Go.Proofs.Tryd.Am.Tf
namespace Go.Proofs.Tryd.Am.Tf
open Go.Proofs.Tryd.Am
open Go.Am
set_option maxRecDepth 100000
set_option maxHeartbeats 4000000
theorem own0' {z:Yc} {lv:Value} {left:List (Int×Int)} (ho:OwnP 28 z lv left) (hne:left≠[]) : ∃ b,(∀ K:Value→Prop,Yv prog 26 lv (.int .i64 0) K=K (.pointer (some ⟨b,0,none⟩)))∧(∀ K:Value→Prop,Xn prog z 3 (.pointer (some ⟨b,0,none⟩)) K=K (Zx (left.getD 0 (0,0)).1))∧(∀ K:Value→Prop,Xn prog z 3 (.pointer (some ⟨b,1,none⟩)) K=K (Zx (left.getD 0 (0,0)).2)):=by
 obtain ⟨p,l,rfl⟩:=List.exists_cons_of_ne_nil hne
 exact own0 ho
theorem cov_rounds [Tabs prog] {H z:Yc} {n b7 size:Nat} {t:List (List Int)} {sv ov lv:Value} {sets out:List (Nat×Nat)} {left:List (Int×Int)} (hH:CH H t sv sets b7) (ih:GrowC H t sets n b7 size) (s:CS H n b7 out ov z) (hl:OwnP 28 z lv left) (hdis : ∀ b,Yk lv=some b→Yk ov≠some b)
  (hin : ∀ p∈left,InT t p) (hne:left≠[]) (hl16:left.length≤16) (hsz:out.length+(size+1)≤64) {Q:Value→Yc→Prop} (hQ0 : ∀ r z',CPost H n b7 sets left (size+1) out ov z r z'→Q r z') :
  AWS prog 50 (.seq (.seq q45_5 (.block 0 (.loop l45_0))) (.seq q45_14 .ret)) (Zu prog [.tmp 7] Q) [(0,lv),(1,Zx ((size+1:Nat):Int)),(2,pt b7),(3,pt n),(4,pt (n+1))] z:=by
 have e7:=(s.ext.2 _ (Yp hH.c7) id).trans hH.c7
 have hsl:=hH.sl.ext s.ext
 have hlen:(sets.map pI).length=sets.length:=List.length_map _
 have hslen:=hH.len
 have hmem0:left.getD 0 (0,0)∈left:=by
  obtain ⟨p,l,rfl⟩:=List.exists_cons_of_ne_nil hne
  exact List.mem_cons_self
 refine Ye fun M hM=>?_
 refine Yb fun N1 hN1=>?_
 simp (maxSteps:=2000000) only [s45,↓Za,↓Zk,↓Zr,↓Ze,↓Zm,↓Zs,↓Zf,↓Zh,↓Zg,↓Zc,↓Zb,↓vdn,vup,Zn,Zl,Zo,Zi,Zj,List.map_cons,List.map_nil,cond_true,cond_false,aop,Zv,Zq,Zp,ev,sput,Zt,Zy,Ya,unK,Zd,Zw,Nat.reduceBEq,Nat.reduceAdd,Int.reduceBEq,Int.reduceBNe,Int.reduceLT,Zu,Zz,tup,tyf,Xa e7 shp_77,hsl.len,hlen]
 refine hN1 [(0,lv),(1,Zx ((size+1:Nat):Int)),(2,pt b7),(3,pt n),(4,pt (n+1)),(15,sv),(16,Zx sets.length),(17,.int .i64 0)] _ _ ?_ (by simp (maxSteps:=2000000) only [↓Za,↓Zk,↓Zr,↓Ze,↓Zm,↓Zs,↓Zf,↓Zh,↓Zg,↓Zc,↓Zb,↓vdn,vup,Zn,Zl,Zo,Zi,Zj,List.map_cons,List.map_nil,cond_true,cond_false,aop,Zv,Zq,Zp,ev,sput,Zt,Zy,Ya,unK,Zd,Zw,Nat.reduceBEq,Nat.reduceAdd,Int.reduceBEq,Int.reduceBNe,Int.reduceLT,Zu,Zz,tup,tyf])
 clear hN1
 try clear N1
 refine Yh ?_
 refine Yf fun Q1 hQ1=>?_
 refine Xh (γ:=Nat×Value×Yc) (fun g=>g.1≤sets.length∧CS H n b7 out g.2.1 g.2.2∧Ext (KG n ov) z g.2.2∧(∀ b,Yk g.2.1=some b→Yk ov=some b∨z.length≤b)∧(left.length≤size+1∧Cvd sets left→∀ k,k<g.1→hasQ (sets.getD k (0,0)) (left.getD 0 (0,0))=false))
  (fun g=>([(0,lv),(1,Zx ((size+1:Nat):Int)),(2,pt b7),(3,pt n),(4,pt (n+1)),(15,sv),(16,Zx sets.length),(17,Zx (g.1:Nat))],g.2.2)) (fun g=>sets.length-g.1) (0,ov,z) ⟨Nat.zero_le _,s,(Ext.refl (fun _=>False) z).mono fun _ h=>h.elim,fun b h=>.inl h,fun _ k hk=>absurd hk (Nat.not_lt_zero k)⟩ (by simp (maxSteps:=2000000) only [↓Za,↓Zk,↓Zr,↓Ze,↓Zm,↓Zs,↓Zf,↓Zh,↓Zg,↓Zc,↓Zb,↓vdn,vup,Zn,Zl,Zo,Zi,Zj,List.map_cons,List.map_nil,cond_true,cond_false,aop,Zv,Zq,Zp,ev,sput,Zt,Zy,Ya,unK,Zd,Zw,Nat.reduceBEq,Nat.reduceAdd,Int.reduceBEq,Int.reduceBNe,Int.reduceLT,Zu,Zz,tup,tyf,Int.natCast_zero]) rfl ?_
 rintro ⟨i,ov1,z1⟩ ⟨hi,s1,hE,hb,hno⟩
 simp only at hi s1 hE hb hno
 refine Yf fun Q2 hQ2=>?_
 simp only [l45_0]
 by_cases hin' : (i:Int)<sets.length
 · have hi' : i<sets.length:=by omega
   have hi2:i<(sets.map pI).length:=by omega
   have hl1:OwnP 28 z1 lv left:=hl.same fun b hb2=>hE.2 b (hl.lt hb2) (by
    rintro (hc | hc)
    · exact Wd hl s.c8 (hc▸hb2)
    · exact hdis b hb2 hc)
   have hdis1 : ∀ b,Yk lv=some b→Yk ov1≠some b:=fun b h1 h2=>(hb b h2).elim (hdis b h1) (fun h3=>by have:=hl.lt h1; omega)
   have hsl1:=hH.sl.ext s1.ext
   have hmem:sets.getD i (0,0)∈sets:=by rw [List.getD,List.getElem?_eq_getElem hi']; exact List.getElem_mem hi'
   have hg:=pI_get hi'
   have hno' : ∀ {X:Prop},(left.length≤size+1∧Cvd sets left→∀ k,k<i+1→hasQ (sets.getD k (0,0)) (left.getD 0 (0,0))=false)=(left.length≤size+1∧Cvd sets left→(∀ k,k<i→hasQ (sets.getD k (0,0)) (left.getD 0 (0,0))=false)∧hasQ (sets.getD i (0,0)) (left.getD 0 (0,0))=false):=by
    intro X
    apply propext
    refine forall_congr' fun hc=>⟨fun h=>⟨fun k hk=>h k (by omega),h i (by omega)⟩,fun h k hk=>?_⟩
    by_cases hki:k<i
    · exact h.1 k hki
    · obtain rfl:k=i:=by omega
      exact h.2
   generalize sets.getD i (0,0)=ab at hmem hg hno'
   obtain ⟨a,b⟩:=ab
   have hm:=hH.sm _ hmem
   simp only at hm
   refine Yb fun N2 hN2=>?_
   simp (maxSteps:=2000000) only [s45,↓Za,↓Zk,↓Zr,↓Ze,↓Zm,↓Zs,↓Zf,↓Zh,↓Zg,↓Zc,↓Zb,↓vdn,vup,Zn,Zl,Zo,Zi,Zj,List.map_cons,List.map_nil,cond_true,cond_false,aop,Zv,Zq,Zp,ev,sput,Zt,Zy,Ya,unK,Zd,Zw,Nat.reduceBEq,Nat.reduceAdd,Int.reduceBEq,Int.reduceBNe,Int.reduceLT,Zu,Zz,tup,tyf,hin']
   refine hN2 [(0,lv),(1,Zx ((size+1:Nat):Int)),(2,pt b7),(3,pt n),(4,pt (n+1)),(15,sv),(16,Zx sets.length),(17,Zx (i:Nat)),(18,.bool true)] _ _ ?_ (by simp (maxSteps:=2000000) only [↓Za,↓Zk,↓Zr,↓Ze,↓Zm,↓Zs,↓Zf,↓Zh,↓Zg,↓Zc,↓Zb,↓vdn,vup,Zn,Zl,Zo,Zi,Zj,List.map_cons,List.map_nil,cond_true,cond_false,aop,Zv,Zq,Zp,ev,sput,Zt,Zy,Ya,unK,Zd,Zw,Nat.reduceBEq,Nat.reduceAdd,Int.reduceBEq,Int.reduceBNe,Int.reduceLT,Zu,Zz,tup,tyf])
   clear hN2
   try clear N2
   refine Yb fun N3 hN3=>?_
   simp (maxSteps:=2000000) only [s45,↓Za,↓Zk,↓Zr,↓Ze,↓Zm,↓Zs,↓Zf,↓Zh,↓Zg,↓Zc,↓Zb,↓vdn,vup,Zn,Zl,Zo,Zi,Zj,List.map_cons,List.map_nil,cond_true,cond_false,aop,Zv,Zq,Zp,ev,sput,Zt,Zy,Ya,unK,Zd,Zw,Nat.reduceBEq,Nat.reduceAdd,Int.reduceBEq,Int.reduceBNe,Int.reduceLT,Zu,Zz,tup,tyf]
   refine hN3 [(0,lv),(1,Zx ((size+1:Nat):Int)),(2,pt b7),(3,pt n),(4,pt (n+1)),(15,sv),(16,Zx sets.length),(17,Zx (i:Nat))] _ _ ?_ (by simp (maxSteps:=2000000) only [↓Za,↓Zk,↓Zr,↓Ze,↓Zm,↓Zs,↓Zf,↓Zh,↓Zg,↓Zc,↓Zb,↓vdn,vup,Zn,Zl,Zo,Zi,Zj,List.map_cons,List.map_nil,cond_true,cond_false,aop,Zv,Zq,Zp,ev,sput,Zt,Zy,Ya,unK,Zd,Zw,Nat.reduceBEq,Nat.reduceAdd,Int.reduceBEq,Int.reduceBNe,Int.reduceLT,Zu,Zz,tup,tyf])
   clear hN3
   try clear N3
   refine Ye fun B hB=>?_
   refine Yh ?_
   have hld:=fun K=>hsl1.load (P:=prog) shp_81 hi2 K
   rw [hg] at hld
   refine Yb fun N4 hN4=>?_
   simp (maxSteps:=2000000) only [s45,↓Za,↓Zk,↓Zr,↓Ze,↓Zm,↓Zs,↓Zf,↓Zh,↓Zg,↓Zc,↓Zb,↓vdn,vup,Zn,Zl,Zo,Zi,Zj,List.map_cons,List.map_nil,cond_true,cond_false,aop,Zv,Zq,Zp,ev,sput,Zt,Zy,Ya,unK,Zd,Zw,Nat.reduceBEq,Nat.reduceAdd,Int.reduceBEq,Int.reduceBNe,Int.reduceLT,Zu,Zz,tup,tyf,hsl1.idx el_77 esz_81 hi2,hld,pI,Xx,Xd,zero_81,storeR]
   have hE1:Ext (fun _=>False) z1 (z1++[Blk.cells [Zx (a:Nat),Zx (b:Nat)] 81 false]):=Ext.app _ _ _
   have c9:=Yj z1 (Blk.cells [Zx (a:Nat),Zx (b:Nat)] 81 false)
   have s2:=s1.more hE1
   have hl2:=hl1.ext hE1
   have hE2:Ext (KG n ov) z (z1++[Blk.cells [Zx (a:Nat),Zx (b:Nat)] 81 false]):=KG.trans hE (hE1.mono fun _ h=>h.elim:Ext (KG n ov1) z1 _) hb
   have hlz:=hE1.1
   generalize z1++[Blk.cells [Zx (a:Nat),Zx (b:Nat)] 81 false]=z2 at hE1 c9 s2 hl2 hE2 hlz ⊢
   generalize z1.length=b9 at c9 ⊢
   refine hN4 [(0,lv),(1,Zx ((size+1:Nat):Int)),(2,pt b7),(3,pt n),(4,pt (n+1)),(9,pt b9),(15,sv),(16,Zx sets.length),(17,Zx (i:Nat))] _ _ ?_ (by simp (maxSteps:=2000000) only [↓Za,↓Zk,↓Zr,↓Ze,↓Zm,↓Zs,↓Zf,↓Zh,↓Zg,↓Zc,↓Zb,↓vdn,vup,Zn,Zl,Zo,Zi,Zj,List.map_cons,List.map_nil,cond_true,cond_false,aop,Zv,Zq,Zp,ev,sput,Zt,Zy,Ya,unK,Zd,Zw,Nat.reduceBEq,Nat.reduceAdd,Int.reduceBEq,Int.reduceBNe,Int.reduceLT,Zu,Zz,tup,tyf])
   clear hN4
   try clear N4
   obtain ⟨bl,k1,k2,k3⟩:=own0' hl2 hne
   obtain ⟨pi,pj,hp0,_,_⟩:=hin _ hmem0
   have hq:hasQ (a,b) (left.getD 0 (0,0))=hasB a b pi pj:=by rw [hp0,hasQ]; simp
   rw [hp0] at k2 k3
   simp only at k2 k3
   refine Ye fun C hC=>?_
   refine Yb fun N5 hN5=>?_
   simp only [q45_8]
   refine Xv [(9,1)] (by kernel_rfl) (by kernel_rfl) (by kernel_rfl) (by kernel_rfl) ?_
   simp (maxSteps:=2000000) only [s45,↓Za,↓Zk,↓Zr,↓Ze,↓Zm,↓Zs,↓Zf,↓Zh,↓Zg,↓Zc,↓Zb,↓vdn,vup,Zn,Zl,Zo,Zi,Zj,List.map_cons,List.map_nil,cond_true,cond_false,aop,Zv,Zq,Zp,ev,sput,Zt,Zy,Ya,unK,Zd,Zw,Nat.reduceBEq,Nat.reduceAdd,Int.reduceBEq,Int.reduceBNe,Int.reduceLT,Zu,Zz,tup,tyf,Yz,List.nil_append,List.append_nil,List.toList_toArray,List.cons_append,loadR c9,k1,k2,k3,pidx0,pidx1]
   refine ⟨_,_,ACall.forget (Low.bool _) (has_call (a:=a) (b:=b) (i:=pi) (j:=pj) (by omega) (by omega)),rfl,?_⟩
   simp (maxSteps:=2000000) only [s45,↓Za,↓Zk,↓Zr,↓Ze,↓Zm,↓Zs,↓Zf,↓Zh,↓Zg,↓Zc,↓Zb,↓vdn,vup,Zn,Zl,Zo,Zi,Zj,List.map_cons,List.map_nil,cond_true,cond_false,aop,Zv,Zq,Zp,ev,sput,Zt,Zy,Ya,unK,Zd,Zw,Nat.reduceBEq,Nat.reduceAdd,Int.reduceBEq,Int.reduceBNe,Int.reduceLT,Zu,Zz,tup,tyf]
   refine hN5 [(0,lv),(1,Zx ((size+1:Nat):Int)),(2,pt b7),(3,pt n),(4,pt (n+1)),(9,pt b9),(15,sv),(16,Zx sets.length),(17,Zx (i:Nat)),(31,.bool (!hasB a b pi pj))] _ _ ?_ (by simp (maxSteps:=2000000) only [↓Za,↓Zk,↓Zr,↓Ze,↓Zm,↓Zs,↓Zf,↓Zh,↓Zg,↓Zc,↓Zb,↓vdn,vup,Zn,Zl,Zo,Zi,Zj,List.map_cons,List.map_nil,cond_true,cond_false,aop,Zv,Zq,Zp,ev,sput,Zt,Zy,Ya,unK,Zd,Zw,Nat.reduceBEq,Nat.reduceAdd,Int.reduceBEq,Int.reduceBNe,Int.reduceLT,Zu,Zz,tup,tyf])
   clear hN5
   try clear N5
   cases hh:hasB a b pi pj with
   | false =>
     refine Xe rfl ?_
     refine Yd ?_
     simp (maxSteps:=2000000) only [s45,↓Za,↓Zk,↓Zr,↓Ze,↓Zm,↓Zs,↓Zf,↓Zh,↓Zg,↓Zc,↓Zb,↓vdn,vup,Zn,Zl,Zo,Zi,Zj,List.map_cons,List.map_nil,cond_true,cond_false,aop,Zv,Zq,Zp,ev,sput,Zt,Zy,Ya,unK,Zd,Zw,Nat.reduceBEq,Nat.reduceAdd,Int.reduceBEq,Int.reduceBNe,Int.reduceLT,Zu,Zz,tup,tyf,if_true]
     refine hB [(0,lv),(1,Zx ((size+1:Nat):Int)),(2,pt b7),(3,pt n),(4,pt (n+1)),(15,sv),(16,Zx sets.length),(17,Zx (i:Nat))] _ _ ?_ (by simp (maxSteps:=2000000) only [↓Za,↓Zk,↓Zr,↓Ze,↓Zm,↓Zs,↓Zf,↓Zh,↓Zg,↓Zc,↓Zb,↓vdn,vup,Zn,Zl,Zo,Zi,Zj,List.map_cons,List.map_nil,cond_true,cond_false,aop,Zv,Zq,Zp,ev,sput,Zt,Zy,Ya,unK,Zd,Zw,Nat.reduceBEq,Nat.reduceAdd,Int.reduceBEq,Int.reduceBNe,Int.reduceLT,Zu,Zz,tup,tyf])
     clear hB
     try clear B
     refine Yd ?_
     simp (maxSteps:=2000000) only [s45,↓Za,↓Zk,↓Zr,↓Ze,↓Zm,↓Zs,↓Zf,↓Zh,↓Zg,↓Zc,↓Zb,↓vdn,vup,Zn,Zl,Zo,Zi,Zj,List.map_cons,List.map_nil,cond_true,cond_false,aop,Zv,Zq,Zp,ev,sput,Zt,Zy,Ya,unK,Zd,Zw,Nat.reduceBEq,Nat.reduceAdd,Int.reduceBEq,Int.reduceBNe,Int.reduceLT,Zu,Zz,tup,tyf,Vd (show i<9223372036854775807 by omega)]
     exact hQ2 _ _ _ ⟨(i+1,ov1,z2),⟨hi',s2,hE2,hb,(hno' (X:=True)).mpr fun hc=>⟨hno hc,by rw [hq]; exact hh⟩⟩,by simp only; omega,by simp (maxSteps:=2000000) only [↓Za,↓Zk,↓Zr,↓Ze,↓Zm,↓Zs,↓Zf,↓Zh,↓Zg,↓Zc,↓Zb,↓vdn,vup,Zn,Zl,Zo,Zi,Zj,List.map_cons,List.map_nil,cond_true,cond_false,aop,Zv,Zq,Zp,ev,sput,Zt,Zy,Ya,unK,Zd,Zw,Nat.reduceBEq,Nat.reduceAdd,Int.reduceBEq,Int.reduceBNe,Int.reduceLT,Zu,Zz,tup,tyf],rfl⟩
   | true =>
     refine Yq rfl ?_
     refine Yd ?_
     simp (maxSteps:=2000000) only [s45,↓Za,↓Zk,↓Zr,↓Ze,↓Zm,↓Zs,↓Zf,↓Zh,↓Zg,↓Zc,↓Zb,↓vdn,vup,Zn,Zl,Zo,Zi,Zj,List.map_cons,List.map_nil,cond_true,cond_false,aop,Zv,Zq,Zp,ev,sput,Zt,Zy,Ya,unK,Zd,Zw,Nat.reduceBEq,Nat.reduceAdd,Int.reduceBEq,Int.reduceBNe,Int.reduceLT,Zu,Zz,tup,tyf]
     refine hC [(0,lv),(1,Zx ((size+1:Nat):Int)),(2,pt b7),(3,pt n),(4,pt (n+1)),(9,pt b9),(15,sv),(16,Zx sets.length),(17,Zx (i:Nat))] _ _ ?_ (by simp (maxSteps:=2000000) only [↓Za,↓Zk,↓Zr,↓Ze,↓Zm,↓Zs,↓Zf,↓Zh,↓Zg,↓Zc,↓Zb,↓vdn,vup,Zn,Zl,Zo,Zi,Zj,List.map_cons,List.map_nil,cond_true,cond_false,aop,Zv,Zq,Zp,ev,sput,Zt,Zy,Ya,unK,Zd,Zw,Nat.reduceBEq,Nat.reduceAdd,Int.reduceBEq,Int.reduceBNe,Int.reduceLT,Zu,Zz,tup,tyf])
     clear hC
     try clear C
     refine cov_step hH ih s2 hl2 hdis1 hin hne hl16 hsz hmem c9 (by rw [hq]; exact hh) ?_ ?_
     · intro e z' ov' l s' hE' hb' hll hls hlc he7
       refine hQ2 _ _ _ (hQ1 _ _ _ ?_)
       simp (maxSteps:=2000000) only [s45,↓Za,↓Zk,↓Zr,↓Ze,↓Zm,↓Zs,↓Zf,↓Zh,↓Zg,↓Zc,↓Zb,↓vdn,vup,Zn,Zl,Zo,Zi,Zj,List.map_cons,List.map_nil,cond_true,cond_false,aop,Zv,Zq,Zp,ev,sput,Zt,Zy,Ya,unK,Zd,Zw,Nat.reduceBEq,Nat.reduceAdd,Int.reduceBEq,Int.reduceBNe,Int.reduceLT,Zu,Zz,tup,tyf,he7]
       refine hQ0 _ _ ⟨true,ov',_,rfl,s',KG.trans hE2 hE' hb,fun b h=>?_,fun _=>⟨l,rfl,hll,hls,hlc⟩,nofun⟩
       rcases hb' b h with h1 | h1
       · exact hb b h1
       · exact .inr (Nat.le_trans hE2.1 h1)
     · intro e z' ov' s' hE' hb' hnn he
       refine hB [(0,lv),(1,Zx ((size+1:Nat):Int)),(2,pt b7),(3,pt n),(4,pt (n+1)),(15,sv),(16,Zx sets.length),(17,Zx (i:Nat))] _ _ ?_ he
       clear hB
       refine Yd ?_
       simp (maxSteps:=2000000) only [s45,↓Za,↓Zk,↓Zr,↓Ze,↓Zm,↓Zs,↓Zf,↓Zh,↓Zg,↓Zc,↓Zb,↓vdn,vup,Zn,Zl,Zo,Zi,Zj,List.map_cons,List.map_nil,cond_true,cond_false,aop,Zv,Zq,Zp,ev,sput,Zt,Zy,Ya,unK,Zd,Zw,Nat.reduceBEq,Nat.reduceAdd,Int.reduceBEq,Int.reduceBNe,Int.reduceLT,Zu,Zz,tup,tyf,Vd (show i<9223372036854775807 by omega)]
       refine hQ2 _ _ _ ⟨(i+1,ov',z'),⟨hi',s',KG.trans hE2 hE' hb,fun b h=>?_,fun hc=>absurd hc hnn⟩,by simp only; omega,by simp (maxSteps:=2000000) only [↓Za,↓Zk,↓Zr,↓Ze,↓Zm,↓Zs,↓Zf,↓Zh,↓Zg,↓Zc,↓Zb,↓vdn,vup,Zn,Zl,Zo,Zi,Zj,List.map_cons,List.map_nil,cond_true,cond_false,aop,Zv,Zq,Zp,ev,sput,Zt,Zy,Ya,unK,Zd,Zw,Nat.reduceBEq,Nat.reduceAdd,Int.reduceBEq,Int.reduceBNe,Int.reduceLT,Zu,Zz,tup,tyf],rfl⟩
       rcases hb' b h with h1 | h1
       · exact hb b h1
       · exact .inr (Nat.le_trans hE2.1 h1)
 · obtain rfl:i=sets.length:=by omega
   refine Yb fun N6 hN6=>?_
   simp (maxSteps:=2000000) only [s45,↓Za,↓Zk,↓Zr,↓Ze,↓Zm,↓Zs,↓Zf,↓Zh,↓Zg,↓Zc,↓Zb,↓vdn,vup,Zn,Zl,Zo,Zi,Zj,List.map_cons,List.map_nil,cond_true,cond_false,aop,Zv,Zq,Zp,ev,sput,Zt,Zy,Ya,unK,Zd,Zw,Nat.reduceBEq,Nat.reduceAdd,Int.reduceBEq,Int.reduceBNe,Int.reduceLT,Zu,Zz,tup,tyf,hin']
   refine hN6 [(0,lv),(1,Zx ((size+1:Nat):Int)),(2,pt b7),(3,pt n),(4,pt (n+1)),(15,sv),(16,Zx sets.length),(17,Zx sets.length),(18,.bool false)] _ _ ?_ (by simp (maxSteps:=2000000) only [↓Za,↓Zk,↓Zr,↓Ze,↓Zm,↓Zs,↓Zf,↓Zh,↓Zg,↓Zc,↓Zb,↓vdn,vup,Zn,Zl,Zo,Zi,Zj,List.map_cons,List.map_nil,cond_true,cond_false,aop,Zv,Zq,Zp,ev,sput,Zt,Zy,Ya,unK,Zd,Zw,Nat.reduceBEq,Nat.reduceAdd,Int.reduceBEq,Int.reduceBNe,Int.reduceLT,Zu,Zz,tup,tyf])
   clear hN6
   try clear N6
   refine Yb fun N7 hN7=>?_
   simp (maxSteps:=2000000) only [s45,↓Za,↓Zk,↓Zr,↓Ze,↓Zm,↓Zs,↓Zf,↓Zh,↓Zg,↓Zc,↓Zb,↓vdn,vup,Zn,Zl,Zo,Zi,Zj,List.map_cons,List.map_nil,cond_true,cond_false,aop,Zv,Zq,Zp,ev,sput,Zt,Zy,Ya,unK,Zd,Zw,Nat.reduceBEq,Nat.reduceAdd,Int.reduceBEq,Int.reduceBNe,Int.reduceLT,Zu,Zz,tup,tyf]
   refine hQ2 _ _ _ (hQ1 _ _ _ ?_)
   simp (maxSteps:=2000000) only [s45,↓Za,↓Zk,↓Zr,↓Ze,↓Zm,↓Zs,↓Zf,↓Zh,↓Zg,↓Zc,↓Zb,↓vdn,vup,Zn,Zl,Zo,Zi,Zj,List.map_cons,List.map_nil,cond_true,cond_false,aop,Zv,Zq,Zp,ev,sput,Zt,Zy,Ya,unK,Zd,Zw,Nat.reduceBEq,Nat.reduceAdd,Int.reduceBEq,Int.reduceBNe,Int.reduceLT,Zu,Zz,tup,tyf,if_true]
   refine hM [(0,lv),(1,Zx ((size+1:Nat):Int)),(2,pt b7),(3,pt n),(4,pt (n+1)),(18,.bool false)] _ _ ?_ (by simp (maxSteps:=2000000) only [↓Za,↓Zk,↓Zr,↓Ze,↓Zm,↓Zs,↓Zf,↓Zh,↓Zg,↓Zc,↓Zb,↓vdn,vup,Zn,Zl,Zo,Zi,Zj,List.map_cons,List.map_nil,cond_true,cond_false,aop,Zv,Zq,Zp,ev,sput,Zt,Zy,Ya,unK,Zd,Zw,Nat.reduceBEq,Nat.reduceAdd,Int.reduceBEq,Int.reduceBNe,Int.reduceLT,Zu,Zz,tup,tyf])
   clear hM
   try clear M
   refine Yd ?_
   simp (maxSteps:=2000000) only [s45,↓Za,↓Zk,↓Zr,↓Ze,↓Zm,↓Zs,↓Zf,↓Zh,↓Zg,↓Zc,↓Zb,↓vdn,vup,Zn,Zl,Zo,Zi,Zj,List.map_cons,List.map_nil,cond_true,cond_false,aop,Zv,Zq,Zp,ev,sput,Zt,Zy,Ya,unK,Zd,Zw,Nat.reduceBEq,Nat.reduceAdd,Int.reduceBEq,Int.reduceBNe,Int.reduceLT,Zu,Zz,tup,tyf]
   refine hQ0 _ _ ⟨false,ov1,out,rfl,s1,hE,hb,nofun,fun _=>⟨rfl,fun hc=>?_⟩⟩
   obtain ⟨q,hq,hh⟩:=hc.2 _ hmem0
   obtain ⟨k,hk,rfl⟩:=List.mem_iff_getElem.1 hq
   have:=hno hc k hk
   rw [List.getD,List.getElem?_eq_getElem hk,Option.getD_some,hh] at this
   cases this
theorem s45_callW [Tabs Tryd.prog] {args:List Value} {h:Yc} {Q:Value→Yc→Prop} (hsz:args.length≤50) (hk:AWS Tryd.prog 50 s45 (Zu Tryd.prog [.tmp 7] Q) (Zp 0 args) h):ACall Tryd.prog 45 args h Q :=
 Xg Tryd.func45 rfl (enters_of Tryd.func45 (by kernel_rfl) rfl) rfl rfl (by decide) s45_strip s45_ok hsz hk
theorem growC_step [Tabs prog] {H:Yc} {n b7 size:Nat} {t:List (List Int)} {sv:Value} {sets:List (Nat×Nat)} (hH:CH H t sv sets b7) (ih : ∀ s,size=s+1→GrowC H t sets n b7 s):GrowC H t sets n b7 size:=by
 intro left out ov lv z s hl hdis hin hl16 hsz
 refine s45_callW (by simp) ?_
 simp only [s45]
 refine Yb fun N8 hN8=>?_
 simp (maxSteps:=2000000) only [s45,↓Za,↓Zk,↓Zr,↓Ze,↓Zm,↓Zs,↓Zf,↓Zh,↓Zg,↓Zc,↓Zb,↓vdn,vup,Zn,Zl,Zo,Zi,Zj,List.map_cons,List.map_nil,cond_true,cond_false,aop,Zv,Zq,Zp,ev,sput,Zt,Zy,Ya,unK,Zd,Zw,Nat.reduceBEq,Nat.reduceAdd,Int.reduceBEq,Int.reduceBNe,Int.reduceLT,Zu,Zz,tup,tyf]
 refine hN8 [(0,lv),(1,Zx (size:Nat)),(2,pt b7),(3,pt n),(4,pt (n+1)),(7,.bool false)] _ _ ?_ (by simp (maxSteps:=2000000) only [↓Za,↓Zk,↓Zr,↓Ze,↓Zm,↓Zs,↓Zf,↓Zh,↓Zg,↓Zc,↓Zb,↓vdn,vup,Zn,Zl,Zo,Zi,Zj,List.map_cons,List.map_nil,cond_true,cond_false,aop,Zv,Zq,Zp,ev,sput,Zt,Zy,Ya,unK,Zd,Zw,Nat.reduceBEq,Nat.reduceAdd,Int.reduceBEq,Int.reduceBNe,Int.reduceLT,Zu,Zz,tup,tyf])
 clear hN8
 try clear N8
 refine Ye fun A hA=>?_
 by_cases hne:left=[]
 · subst hne
   refine Yb fun N9 hN9=>?_
   simp (maxSteps:=2000000) only [s45,↓Za,↓Zk,↓Zr,↓Ze,↓Zm,↓Zs,↓Zf,↓Zh,↓Zg,↓Zc,↓Zb,↓vdn,vup,Zn,Zl,Zo,Zi,Zj,List.map_cons,List.map_nil,cond_true,cond_false,aop,Zv,Zq,Zp,ev,sput,Zt,Zy,Ya,unK,Zd,Zw,Nat.reduceBEq,Nat.reduceAdd,Int.reduceBEq,Int.reduceBNe,Int.reduceLT,Zu,Zz,tup,tyf,hl.pair.len,List.length_nil,Int.natCast_zero,beq_self_eq_true]
   refine hN9 [(0,lv),(1,Zx (size:Nat)),(2,pt b7),(3,pt n),(4,pt (n+1)),(7,.bool false),(12,.bool true)] _ _ ?_ (by simp (maxSteps:=2000000) only [↓Za,↓Zk,↓Zr,↓Ze,↓Zm,↓Zs,↓Zf,↓Zh,↓Zg,↓Zc,↓Zb,↓vdn,vup,Zn,Zl,Zo,Zi,Zj,List.map_cons,List.map_nil,cond_true,cond_false,aop,Zv,Zq,Zp,ev,sput,Zt,Zy,Ya,unK,Zd,Zw,Nat.reduceBEq,Nat.reduceAdd,Int.reduceBEq,Int.reduceBNe,Int.reduceLT,Zu,Zz,tup,tyf])
   clear hN9
   try clear N9
   refine Xe rfl ?_
   refine Yd ?_
   simp (maxSteps:=2000000) only [s45,↓Za,↓Zk,↓Zr,↓Ze,↓Zm,↓Zs,↓Zf,↓Zh,↓Zg,↓Zc,↓Zb,↓vdn,vup,Zn,Zl,Zo,Zi,Zj,List.map_cons,List.map_nil,cond_true,cond_false,aop,Zv,Zq,Zp,ev,sput,Zt,Zy,Ya,unK,Zd,Zw,Nat.reduceBEq,Nat.reduceAdd,Int.reduceBEq,Int.reduceBNe,Int.reduceLT,Zu,Zz,tup,tyf]
   exact ⟨true,ov,out,rfl,s,(Ext.refl (fun _=>False) z).mono fun _ h=>h.elim,fun b h=>.inl h,fun _=>⟨[],by simp,Nat.zero_le _,nofun,nofun⟩,nofun⟩
 · have hpos:0<left.length:=by cases left with | nil=>exact absurd rfl hne | cons p l=>simp
   have g1:((left.length:Int)==0)=false:=by rw [beq_eq_false_iff_ne]; omega
   refine Yb fun N10 hN10=>?_
   simp (maxSteps:=2000000) only [s45,↓Za,↓Zk,↓Zr,↓Ze,↓Zm,↓Zs,↓Zf,↓Zh,↓Zg,↓Zc,↓Zb,↓vdn,vup,Zn,Zl,Zo,Zi,Zj,List.map_cons,List.map_nil,cond_true,cond_false,aop,Zv,Zq,Zp,ev,sput,Zt,Zy,Ya,unK,Zd,Zw,Nat.reduceBEq,Nat.reduceAdd,Int.reduceBEq,Int.reduceBNe,Int.reduceLT,Zu,Zz,tup,tyf,hl.pair.len,g1]
   refine hN10 [(0,lv),(1,Zx (size:Nat)),(2,pt b7),(3,pt n),(4,pt (n+1)),(7,.bool false),(12,.bool false)] _ _ ?_ (by simp (maxSteps:=2000000) only [↓Za,↓Zk,↓Zr,↓Ze,↓Zm,↓Zs,↓Zf,↓Zh,↓Zg,↓Zc,↓Zb,↓vdn,vup,Zn,Zl,Zo,Zi,Zj,List.map_cons,List.map_nil,cond_true,cond_false,aop,Zv,Zq,Zp,ev,sput,Zt,Zy,Ya,unK,Zd,Zw,Nat.reduceBEq,Nat.reduceAdd,Int.reduceBEq,Int.reduceBNe,Int.reduceLT,Zu,Zz,tup,tyf])
   clear hN10
   try clear N10
   refine Yq rfl ?_
   refine Yd ?_
   simp (maxSteps:=2000000) only [s45,↓Za,↓Zk,↓Zr,↓Ze,↓Zm,↓Zs,↓Zf,↓Zh,↓Zg,↓Zc,↓Zb,↓vdn,vup,Zn,Zl,Zo,Zi,Zj,List.map_cons,List.map_nil,cond_true,cond_false,aop,Zv,Zq,Zp,ev,sput,Zt,Zy,Ya,unK,Zd,Zw,Nat.reduceBEq,Nat.reduceAdd,Int.reduceBEq,Int.reduceBNe,Int.reduceLT,Zu,Zz,tup,tyf]
   refine hA [(0,lv),(1,Zx (size:Nat)),(2,pt b7),(3,pt n),(4,pt (n+1)),(7,.bool false)] _ _ ?_ (by simp (maxSteps:=2000000) only [↓Za,↓Zk,↓Zr,↓Ze,↓Zm,↓Zs,↓Zf,↓Zh,↓Zg,↓Zc,↓Zb,↓vdn,vup,Zn,Zl,Zo,Zi,Zj,List.map_cons,List.map_nil,cond_true,cond_false,aop,Zv,Zq,Zp,ev,sput,Zt,Zy,Ya,unK,Zd,Zw,Nat.reduceBEq,Nat.reduceAdd,Int.reduceBEq,Int.reduceBNe,Int.reduceLT,Zu,Zz,tup,tyf])
   clear hA
   try clear A
   refine Ye fun D hD=>?_
   by_cases h0:size=0
   · subst h0
     refine Yb fun N11 hN11=>?_
     simp (maxSteps:=2000000) only [s45,↓Za,↓Zk,↓Zr,↓Ze,↓Zm,↓Zs,↓Zf,↓Zh,↓Zg,↓Zc,↓Zb,↓vdn,vup,Zn,Zl,Zo,Zi,Zj,List.map_cons,List.map_nil,cond_true,cond_false,aop,Zv,Zq,Zp,ev,sput,Zt,Zy,Ya,unK,Zd,Zw,Nat.reduceBEq,Nat.reduceAdd,Int.reduceBEq,Int.reduceBNe,Int.reduceLT,Zu,Zz,tup,tyf,Int.natCast_zero,beq_self_eq_true]
     refine hN11 [(0,lv),(1,.int .i64 0),(2,pt b7),(3,pt n),(4,pt (n+1)),(7,.bool false),(14,.bool true)] _ _ ?_ (by simp (maxSteps:=2000000) only [↓Za,↓Zk,↓Zr,↓Ze,↓Zm,↓Zs,↓Zf,↓Zh,↓Zg,↓Zc,↓Zb,↓vdn,vup,Zn,Zl,Zo,Zi,Zj,List.map_cons,List.map_nil,cond_true,cond_false,aop,Zv,Zq,Zp,ev,sput,Zt,Zy,Ya,unK,Zd,Zw,Nat.reduceBEq,Nat.reduceAdd,Int.reduceBEq,Int.reduceBNe,Int.reduceLT,Zu,Zz,tup,tyf])
     clear hN11
     try clear N11
     refine Xe rfl ?_
     refine Yd ?_
     simp (maxSteps:=2000000) only [s45,↓Za,↓Zk,↓Zr,↓Ze,↓Zm,↓Zs,↓Zf,↓Zh,↓Zg,↓Zc,↓Zb,↓vdn,vup,Zn,Zl,Zo,Zi,Zj,List.map_cons,List.map_nil,cond_true,cond_false,aop,Zv,Zq,Zp,ev,sput,Zt,Zy,Ya,unK,Zd,Zw,Nat.reduceBEq,Nat.reduceAdd,Int.reduceBEq,Int.reduceBNe,Int.reduceLT,Zu,Zz,tup,tyf]
     exact ⟨false,ov,out,rfl,s,(Ext.refl (fun _=>False) z).mono fun _ h=>h.elim,fun b h=>.inl h,nofun,fun _=>⟨rfl,fun hc=>by omega⟩⟩
   · obtain ⟨k,rfl⟩ : ∃ k,size=k+1:=⟨size-1,by omega⟩
     have g2:(((k+1:Nat):Int)==0)=false:=by rw [beq_eq_false_iff_ne]; omega
     refine Yb fun N12 hN12=>?_
     simp (maxSteps:=2000000) only [s45,↓Za,↓Zk,↓Zr,↓Ze,↓Zm,↓Zs,↓Zf,↓Zh,↓Zg,↓Zc,↓Zb,↓vdn,vup,Zn,Zl,Zo,Zi,Zj,List.map_cons,List.map_nil,cond_true,cond_false,aop,Zv,Zq,Zp,ev,sput,Zt,Zy,Ya,unK,Zd,Zw,Nat.reduceBEq,Nat.reduceAdd,Int.reduceBEq,Int.reduceBNe,Int.reduceLT,Zu,Zz,tup,tyf,g2]
     refine hN12 [(0,lv),(1,Zx ((k+1:Nat):Int)),(2,pt b7),(3,pt n),(4,pt (n+1)),(7,.bool false),(14,.bool false)] _ _ ?_ (by simp (maxSteps:=2000000) only [↓Za,↓Zk,↓Zr,↓Ze,↓Zm,↓Zs,↓Zf,↓Zh,↓Zg,↓Zc,↓Zb,↓vdn,vup,Zn,Zl,Zo,Zi,Zj,List.map_cons,List.map_nil,cond_true,cond_false,aop,Zv,Zq,Zp,ev,sput,Zt,Zy,Ya,unK,Zd,Zw,Nat.reduceBEq,Nat.reduceAdd,Int.reduceBEq,Int.reduceBNe,Int.reduceLT,Zu,Zz,tup,tyf])
     clear hN12
     try clear N12
     refine Yq rfl ?_
     refine Yd ?_
     simp (maxSteps:=2000000) only [s45,↓Za,↓Zk,↓Zr,↓Ze,↓Zm,↓Zs,↓Zf,↓Zh,↓Zg,↓Zc,↓Zb,↓vdn,vup,Zn,Zl,Zo,Zi,Zj,List.map_cons,List.map_nil,cond_true,cond_false,aop,Zv,Zq,Zp,ev,sput,Zt,Zy,Ya,unK,Zd,Zw,Nat.reduceBEq,Nat.reduceAdd,Int.reduceBEq,Int.reduceBNe,Int.reduceLT,Zu,Zz,tup,tyf]
     refine hD [(0,lv),(1,Zx ((k+1:Nat):Int)),(2,pt b7),(3,pt n),(4,pt (n+1))] _ _ ?_ (by simp (maxSteps:=2000000) only [↓Za,↓Zk,↓Zr,↓Ze,↓Zm,↓Zs,↓Zf,↓Zh,↓Zg,↓Zc,↓Zb,↓vdn,vup,Zn,Zl,Zo,Zi,Zj,List.map_cons,List.map_nil,cond_true,cond_false,aop,Zv,Zq,Zp,ev,sput,Zt,Zy,Ya,unK,Zd,Zw,Nat.reduceBEq,Nat.reduceAdd,Int.reduceBEq,Int.reduceBNe,Int.reduceLT,Zu,Zz,tup,tyf])
     clear hD
     try clear D
     exact cov_rounds hH (ih k rfl) s hl hdis hin hne hl16 hsz fun r z' h=>h
theorem growC_all [Tabs prog] {H:Yc} {n b7:Nat} {t:List (List Int)} {sv:Value} {sets:List (Nat×Nat)} (hH:CH H t sv sets b7) : ∀ size,GrowC H t sets n b7 size
 | 0=>growC_step hH fun s h=>by omega
 | k+1=>growC_step hH fun s h=>by
   obtain rfl:k=s:=by omega
   exact growC_all hH k
end Go.Proofs.Tryd.Am.Tf
