/-
  order: read.
  order: how many lines there are: by which sets can come first.
  order: copies, Count, add, slice, Add.
  order: slice, Add.
  Printed by gen.py: the code of some functions, without what no step looks at; held against the program's own by the kernel.
  Plain theory: in how many lines one element stands before another one; heights; fractions; the most even pair.
  order: the reference's count of lines, and its Add.
  order: the reference's Add; how many lines have one element before another one; the most even pair.
  order: the most even pair, of the code and of the reference.
-/
import Derived.Test.YtnjacpfahhjpiaaDoorPk6
import Derived.Test.YtnjacpfahhjpiaaDoorPk4
import Derived.Test.YtnjacpfahhjpiaaDoorPk3
import Derived.Test.YtnjacpfahhjpiaaDoorProg
import Derived.KernelRfl
import Derived.Shelf.Abstract
set_option linter.all false
namespace Go.Proofs.Tryd.Am
open Go.Am Ord
set_option maxRecDepth 100000
set_option maxHeartbeats 1000000
theorem Vz {h h' : Yb} {v:Value} {xs:List Int} (hv:IntSl h v xs) (he:Ext (fun _=>False) h h'):IntSl h' v xs:=hv.same fun b hb=>he.2 b (hv.lt hb) id
def ordN (n:Int):List Value:=[Zx n,.int .i64 0,.int .i64 0,.int .i64 0,.int .i64 0,.int .i64 0,.int .i64 0]
theorem bldN {n:Int} {K:Value→Prop}:Ww prog 77 [(0,Zx n)] K=K (.agg (ordN n).toArray):=by
 simp [Ww,zero_77,fillL,pl_77_0,Va,cellsOf,Yj,ordN]
theorem zeroN:([.int .i64 0,.int .i64 0,.int .i64 0,.int .i64 0,.int .i64 0,.int .i64 0,.int .i64 0]:List Value)=ordN 0:=rfl
theorem copyO {h:Yb} {v:Value} {o:List Int} (hv:IntSl h v o) (h1:1≤o.length∧o.length≤6) {b:Nat} (hb:h[b]? = some (.cells (ordN o.length) 77 false)) {K:Value→Yb→Prop} (hk:K (Zx o.length) (h.set b (.cells (Xt o) 77 false))) :
  copyK prog h 22 (.slice (some ⟨b,1,none⟩) 6 6) v K:=by
 have hne:o≠[]:=by rintro rfl; simp at h1
 have hv':=hv
 rcases hv with ⟨rfl,hx⟩ | ⟨b2,o2,sp,cap,c,e,ro,rfl,hc,hw,hx⟩
 · exact absurd hx hne
 have e6:min (o.length:Int) ((6:Nat):Int)=o.length:=by omega
 simp only [copyK,el_22,Xk,Nat.min_eq_left h1.2,e6]
 refine hv'.cells hne b2 o2 sp o.length cap rfl ?_
 refine ⟨?_,?_⟩
 · rw [List.all_eq_true]; intro x hx
   obtain ⟨y,-,rfl⟩:=List.mem_map.1 hx; rfl
 · simp only [hb]
   refine ⟨by simp [ordN]; omega,?_⟩
   have e1:Yj (ordN o.length) 1 (o.map Zx)=Xt o:=by
    rw [Yj,Xt,ordN,sixs,List.map_append,List.length_map]
    show _::(_++_)=_
    congr 2
    rw [List.map_replicate]
    have:o.length=1∨o.length=2∨o.length=3∨o.length=4∨o.length=5∨o.length=6:=by omega
    rcases this with h | h | h | h | h | h <;> rw [h] <;> rfl
   rw [e1]; exact hk
def rdC (o:List Int):List Value:=if 1≤o.length∧o.length≤6 then Xt o else ordN o.length
def rdV (o:List Int):Value:=.agg (rdC o).toArray
theorem rdC_len (o:List Int):(rdC o).length=7:=by
 unfold rdC; split
 · next h=>exact Xo h.2
 · rfl
theorem rdC_one (o:List Int):(rdC o).all one=true:=by
 unfold rdC; split
 · exact ordC_one o
 · rfl
theorem low_rdV (o:List Int):Low (rdV o):=by
 unfold rdV rdC
 split
 · exact Low.ordV o
 · exact .agg fun x hx=>by
    simp only [ordN,List.mem_cons,List.not_mem_nil,or_false] at hx
    rcases hx with rfl | rfl | rfl | rfl | rfl | rfl | rfl <;> exact .int _ _
theorem read_call [BitTab prog 1] {h:Yb} {v:Value} {o:List Int} (hv:IntSl h v o) (hl:o.length<9223372036854775808) (hx : ∀ x∈o,-9223372036854775808≤x∧x<9223372036854775808):APure prog 64 [v] h (.tuple #[rdV o,.bool (ord o)]):=by
 refine ACall.forget (.pair (low_rdV o) (.bool _)) ?_
 refine s64_call (by simp) ?_
 simp only [s64]
 obtain ⟨tp,tl,tc,rfl⟩ : ∃ p l c,v = .slice p l c:=by
  rcases hv with ⟨rfl,_⟩ | ⟨b,o,sp,cap,c,e,ro,rfl,_⟩
  · exact ⟨_,_,_,rfl⟩
  · exact ⟨_,_,_,rfl⟩
 refine Ud fun N hN=>?_
 simp (maxSteps:=2000000) only [s64,↓Za,↓Zi,↓Zr,↓Ze,↓Zj,↓Zs,↓Zg,↓Zo,↓Zf,↓Zb,↓Zc,↓vdn,vup,Zm,Zk,Zn,Zl,Zh,List.map_cons,List.map_nil,cond_true,cond_false,aop,Zv,Zq,Zp,ev,sput,Zt,Zy,Ya,unK,Zd,Zw,Nat.reduceBEq,Nat.reduceAdd,Int.reduceBEq,Int.reduceBNe,Int.reduceLT,Zu,Zz,tup,tyf,boxK,cellsOf,Option.isSome_some,Xj,We,zeroN]
 refine hN _ _ ?_
 clear hN N
 generalize htv:Value.slice tp tl tc=tv at *
 obtain ⟨H,hH⟩ : ∃ H,H=h++[Blk.cells [tv] 22 false]++[Blk.cells (ordN 0) 77 false]++[Blk.cells [.bool false] 4 false]:=⟨_,rfl⟩
 rw [← hH]
 simp only [List.length_append,List.length_cons,List.length_nil,Nat.zero_add,Nat.add_assoc,Nat.reduceAdd]
 obtain ⟨n,hn⟩ : ∃ n,n=h.length:=⟨_,rfl⟩
 have hHl:H.length=n+3:=by rw [hH,hn]; simp
 have hE0:Ext (fun _=>False) h H:=by rw [hH,List.append_assoc,List.append_assoc]; exact Ext.app _ _ _
 have b1:H[n]? = some (.cells [tv] 22 false):=by rw [hH,hn]; exact Yy (Yy (Yp _ _) _) _
 have b2:H[n+1]? = some (.cells (ordN 0) 77 false):=by
  rw [hH,hn]; have:=Yy (Yp (h++[Blk.cells [tv] 22 false]) (Blk.cells (ordN 0) 77 false)) [Blk.cells [.bool false] 4 false]
  simpa using this
 have b3:H[n+2]? = some (.cells [.bool false] 4 false):=by
  rw [hH,hn]; have:=Yp (h++[Blk.cells [tv] 22 false]++[Blk.cells (ordN 0) 77 false]) (Blk.cells [.bool false] 4 false)
  simpa using this
 have hvH:IntSl H tv o:=Vz hv hE0
 rw [← hn]
 clear hH
 refine Ud fun N hN=>?_
 simp (maxSteps:=2000000) only [s64,↓Za,↓Zi,↓Zr,↓Ze,↓Zj,↓Zs,↓Zg,↓Zo,↓Zf,↓Zb,↓Zc,↓vdn,vup,Zm,Zk,Zn,Zl,Zh,List.map_cons,List.map_nil,cond_true,cond_false,aop,Zv,Zq,Zp,ev,sput,Zt,Zy,Ya,unK,Zd,Zw,Nat.reduceBEq,Nat.reduceAdd,Int.reduceBEq,Int.reduceBNe,Int.reduceLT,Zu,Zz,tup,tyf,Wa b1 Uc,hvH.len,We,Xj,bldN,zeroN]
 rw [storeA (c:=ordN 0) (vs:=ordN o.length) (Yp _ _) (by rw [Yn]; rfl) rfl rfl]
 refine hN _ _ ?_
 clear hN N
 rw [hHl]
 obtain ⟨G,hG⟩ : ∃ G,G=(H++[Blk.cells (ordN 0) 77 false]).set (n+3) (.cells (ordN o.length) 77 false):=⟨_,rfl⟩
 rw [← hG]
 have hGl:G.length=n+4:=by rw [hG]; simp [hHl]
 have oldG : ∀ {k B},H[k]? = some B→G[k]? = some B:=fun {k B} hk=>by
  have:=Yg hk
  rw [hG,List.getElem?_set_ne (by omega)]; exact Yy hk _
 have b4:G[n+3]? = some (.cells (ordN o.length) 77 false):=by rw [hG]; exact Xm (by simp [hHl]) _
 have hEG:Ext (fun _=>False) h G:=⟨by omega,fun i hi _=>by
  rw [hG,List.getElem?_set_ne (by omega),List.getElem?_append_left (by omega)]; exact hE0.2 i hi id⟩
 replace b1:=oldG b1
 replace b2:=oldG b2
 replace b3:=oldG b3
 clear oldG hG
 have hvG:IntSl G tv o:=Vz hv hEG
 clear hvH hE0 hHl
 clear H
 -- what a return does
 have fin : ∀ (hp:Yb) (bb:Bool),Ext (fun i=>i=n+3) G hp→bb=ord o→Ext (fun _=>False) h ((hp.set (n+1) (.cells (rdC o) 77 false)).set (n+2) (.cells [.bool bb] 4 false)) ∧
   ((hp.set (n+1) (.cells (rdC o) 77 false)).set (n+2) (.cells [.bool bb] 4 false))[n+1]? = some (.cells (rdC o) 77 false) ∧
   ((hp.set (n+1) (.cells (rdC o) 77 false)).set (n+2) (.cells [.bool bb] 4 false))[n+2]? = some (.cells [.bool bb] 4 false) ∧
   hp[n+1]? = some (.cells (ordN 0) 77 false)∧(hp.set (n+1) (.cells (rdC o) 77 false))[n+2]? = some (.cells [.bool false] 4 false):=fun hp bb hE hb=>by
  have hl:=hE.1
  have g2:hp[n+1]? = some (.cells (ordN 0) 77 false):=(hE.2 _ (by omega) (by omega)).trans b2
  refine ⟨⟨by simp; omega,fun i hi _=>?_⟩,?_,?_,g2,?_⟩
  · rw [List.getElem?_set_ne (by omega),List.getElem?_set_ne (by omega),hE.2 i (by omega) (by omega)]; exact hEG.2 i hi id
  · rw [List.getElem?_set_ne (by omega)]; exact Xm (by omega) _
  · exact Xm (by simp; omega) _
  · rw [List.getElem?_set_ne (by omega),hE.2 _ (by omega) (by omega)]; exact b3
 refine Ud fun N hN=>?_
 by_cases hlen:1≤o.length∧o.length≤6
 rotate_left
 · have ht:ord o=false:=by
    cases e:ord o with
    | false=>rfl
    | true=>exact absurd (Yz e) hlen
   have hrd:rdC o=ordN o.length:=if_neg hlen
   obtain ⟨f1,f2,f3,f4,f5⟩:=fin G false (Ext.refl _ _) ht.symm
   rw [hrd] at f1 f2 f3 f5
   by_cases h1:(o.length:Int)<1
   · simp (maxSteps:=2000000) only [s64,↓Za,↓Zi,↓Zr,↓Ze,↓Zj,↓Zs,↓Zg,↓Zo,↓Zf,↓Zb,↓Zc,↓vdn,vup,Zm,Zk,Zn,Zl,Zh,List.map_cons,List.map_nil,cond_true,cond_false,aop,Zv,Zq,Zp,ev,sput,Zt,Zy,Ya,unK,Zd,Zw,Nat.reduceBEq,Nat.reduceAdd,Int.reduceBEq,Int.reduceBNe,Int.reduceLT,Zu,Zz,tup,tyf,Wa b1 Uc,hvG.len,h1,loadA b4 (t:=77) (by rw [Yn]; rfl),storeA (vs:=ordN o.length) b2 (t:=77) (by rw [Yn]; rfl) rfl rfl,storeB f5 shp_4,loadA f2 (t:=77) (by rw [Yn]; rfl),Wa f3 shp_4]
     exact ⟨by rw [rdV,hrd,ht],f1⟩
   · have h6:(6:Int)<o.length:=by omega
     simp (maxSteps:=2000000) only [s64,↓Za,↓Zi,↓Zr,↓Ze,↓Zj,↓Zs,↓Zg,↓Zo,↓Zf,↓Zb,↓Zc,↓vdn,vup,Zm,Zk,Zn,Zl,Zh,List.map_cons,List.map_nil,cond_true,cond_false,aop,Zv,Zq,Zp,ev,sput,Zt,Zy,Ya,unK,Zd,Zw,Nat.reduceBEq,Nat.reduceAdd,Int.reduceBEq,Int.reduceBNe,Int.reduceLT,Zu,Zz,tup,tyf,Wa b1 Uc,hvG.len,h1,gt_iff_lt,h6,loadA b4 (t:=77) (by rw [Yn]; rfl),storeA (vs:=ordN o.length) b2 (t:=77) (by rw [Yn]; rfl) rfl rfl,storeB f5 shp_4,loadA f2 (t:=77) (by rw [Yn]; rfl),Wa f3 shp_4]
     exact ⟨by rw [rdV,hrd,ht],f1⟩
 have h1 : ¬ (o.length:Int)<1:=by omega
 have h6 : ¬ (6:Int)<o.length:=by omega
 have hrd:rdC o=Xt o:=if_pos hlen
 simp (maxSteps:=2000000) only [s64,↓Za,↓Zi,↓Zr,↓Ze,↓Zj,↓Zs,↓Zg,↓Zo,↓Zf,↓Zb,↓Zc,↓vdn,vup,Zm,Zk,Zn,Zl,Zh,List.map_cons,List.map_nil,cond_true,cond_false,aop,Zv,Zq,Zp,ev,sput,Zt,Zy,Ya,unK,Zd,Zw,Nat.reduceBEq,Nat.reduceAdd,Int.reduceBEq,Int.reduceBNe,Int.reduceLT,Zu,Zz,tup,tyf,Wa b1 Uc,hvG.len,h1,gt_iff_lt,h6]
 refine hN _ _ ?_
 clear hN N
 refine Ud fun N hN=>?_
 refine Xs [] (by kernel_rfl) (by kernel_rfl) (by kernel_rfl) (by kernel_rfl) ?_
 simp (maxSteps:=2000000) only [s64,↓Za,↓Zi,↓Zr,↓Ze,↓Zj,↓Zs,↓Zg,↓Zo,↓Zf,↓Zb,↓Zc,↓vdn,vup,Zm,Zk,Zn,Zl,Zh,List.map_cons,List.map_nil,cond_true,cond_false,aop,Zv,Zq,Zp,ev,sput,Zt,Zy,Ya,unK,Zd,Zw,Nat.reduceBEq,Nat.reduceAdd,Int.reduceBEq,Int.reduceBNe,Int.reduceLT,Zu,Zz,tup,tyf,fldA Wz esz_75,Vx,Option.isSome_some,Wa b1 Uc]
 refine copyO hvG hlen b4 ?_
 refine hN _ _ ?_
 clear hN N
 obtain ⟨F,hF⟩ : ∃ F,F=G.set (n+3) (.cells (Xt o) 77 false):=⟨_,rfl⟩
 rw [← hF]
 have hEF:Ext (fun i=>i=n+3) G F:=by rw [hF]; exact Ext.set _ rfl
 have hvF:IntSl F tv o:=by
  refine Vz hv ⟨by rw [hF]; simp; omega,fun i hi _=>?_⟩
  rw [hF,List.getElem?_set_ne (by omega)]; exact hEG.2 i hi id
 have c1:F[n]? = some (.cells [tv] 22 false):=(hEF.2 _ (by omega) (by omega)).trans b1
 have c4:F[n+3]? = some (.cells (Xt o) 77 false):=by rw [hF]; exact Xm (by omega) _
 clear hF
 have hp:=pow6I hlen.2
 simp (maxSteps:=2000000) only [s64,↓Za,↓Zi,↓Zr,↓Ze,↓Zj,↓Zs,↓Zg,↓Zo,↓Zf,↓Zb,↓Zc,↓vdn,vup,Zm,Zk,Zn,Zl,Zh,List.map_cons,List.map_nil,cond_true,cond_false,aop,Zv,Zq,Zp,ev,sput,Zt,Zy,Ya,unK,Zd,Zw,Nat.reduceBEq,Nat.reduceAdd,Int.reduceBEq,Int.reduceBNe,Int.reduceLT,Zu,Zz,tup,tyf,Wa c1 Uc,hvF.len,↓aw_loop_eq]
 refine Xf fun Q hQ=>?_
 refine aw_loop (γ:=Nat×Yb) (fun s=>s.1≤o.length∧Ext (fun _=>False) F s.2∧∀ k,k<s.1→okO o k=true)
  (fun s=>([(0,tv),(1,.pointer (some ⟨n,0,none⟩)),(2,.pointer (some ⟨n+1,0,none⟩)),(3,.pointer (some ⟨n+2,0,none⟩)),(4,.pointer (some ⟨n+3,0,none⟩)),(24,tv),(25,Zx o.length),(26,Zx s.1)],s.2)) (fun s=>o.length-s.1) (0,F) ⟨by omega,Ext.refl _ _,fun _ hk=>by simp at hk⟩ (by simp (maxSteps:=2000000) only [↓Za,↓Zi,↓Zr,↓Ze,↓Zj,↓Zs,↓Zg,↓Zo,↓Zf,↓Zb,↓Zc,↓vdn,vup,Zm,Zk,Zn,Zl,Zh,List.map_cons,List.map_nil,cond_true,cond_false,aop,Zv,Zq,Zp,ev,sput,Zt,Zy,Ya,unK,Zd,Zw,Nat.reduceBEq,Nat.reduceAdd,Int.reduceBEq,Int.reduceBNe,Int.reduceLT,Zu,Zz,tup,tyf,Int.natCast_zero]) rfl ?_
 rintro ⟨i,hp0⟩ ⟨hi,hE,hok⟩
 simp only at hi hE hok
 have e1:hp0[n]? = some (.cells [tv] 22 false):=(hE.2 _ (Yg c1) id).trans c1
 have e4:hp0[n+3]? = some (.cells (Xt o) 77 false):=(hE.2 _ (Yg c4) id).trans c4
 have hvE:IntSl hp0 tv o:=Vz hvF hE
 have hGl':=hEF.1
 have hl0:=hE.1
 refine aw_hide fun Q2 hQ2=>?_
 by_cases hin:(i:Int)<o.length
 · have hin' : i<o.length:=by omega
   have hbad:okO o i=false→ord o=false:=fun hb=>by
    have:(List.range o.length).all (okO o)=false:=by
     rw [List.all_eq_false]; exact ⟨i,by simpa using hin',by simp [hb]⟩
    simp [ord,this]
   obtain ⟨hx1,hx2⟩:=hx (o.getD i 0) (by rw [List.getD,List.getElem?_eq_getElem hin']; exact List.getElem_mem hin')
   obtain ⟨m,hm⟩ : ∃ m,m=hp0.length:=⟨_,rfl⟩
   obtain ⟨X,hX⟩ : ∃ X,X=(hp0++[Blk.cells [Value.int .i64 0] 3 false]).set hp0.length (Blk.cells [.int .i64 (o.getD i 0)] 3 false):=⟨_,rfl⟩
   have hlX:X.length=m+1:=by rw [hX,hm]; simp
   have hEX:Ext (fun _=>False) hp0 X:=⟨by omega,fun j hj _=>by rw [hX,List.getElem?_set_ne (by omega),List.getElem?_append_left hj]⟩
   have bX:X[m]? = some (.cells [.int .i64 (o.getD i 0)] 3 false):=by rw [hX,hm]; exact Xm (by simp) _
   have x1:X[n]? = some (.cells [tv] 22 false):=(hEX.2 _ (Yg e1) id).trans e1
   have x4:X[n+3]? = some (.cells (Xt o) 77 false):=(hEX.2 _ (Yg e4) id).trans e4
   have hvX:IntSl X tv o:=Vz hvE hEX
   have hGX:Ext (fun i=>i=n+3) G X:=⟨by omega,fun j hj hjn=>by rw [hEX.2 j (by omega) id,hE.2 j (by omega) id]; exact hEF.2 j hj hjn⟩
   simp only [l64_1]
   refine Ud fun N hN=>?_
   simp (maxSteps:=2000000) only [s64,↓Za,↓Zi,↓Zr,↓Ze,↓Zj,↓Zs,↓Zg,↓Zo,↓Zf,↓Zb,↓Zc,↓vdn,vup,Zm,Zk,Zn,Zl,Zh,List.map_cons,List.map_nil,cond_true,cond_false,aop,Zv,Zq,Zp,ev,sput,Zt,Zy,Ya,unK,Zd,Zw,Nat.reduceBEq,Nat.reduceAdd,Int.reduceBEq,Int.reduceBNe,Int.reduceLT,Zu,Zz,tup,tyf]
   refine hN _ _ ?_
   clear hN N
   refine Ud fun N hN=>?_
   simp (maxSteps:=2000000) only [s64,↓Za,↓Zi,↓Zr,↓Ze,↓Zj,↓Zs,↓Zg,↓Zo,↓Zf,↓Zb,↓Zc,↓vdn,vup,Zm,Zk,Zn,Zl,Zh,List.map_cons,List.map_nil,cond_true,cond_false,aop,Zv,Zq,Zp,ev,sput,Zt,Zy,Ya,unK,Zd,Zw,Nat.reduceBEq,Nat.reduceAdd,Int.reduceBEq,Int.reduceBNe,Int.reduceLT,Zu,Zz,tup,tyf,hin]
   refine hN _ _ ?_
   clear hN N
   refine Ud fun N hN=>?_
   simp only [↓Ze]
   refine Ud fun N2 hN2=>?_
   simp (maxSteps:=2000000) only [s64,↓Za,↓Zi,↓Zr,↓Ze,↓Zj,↓Zs,↓Zg,↓Zo,↓Zf,↓Zb,↓Zc,↓vdn,vup,Zm,Zk,Zn,Zl,Zh,List.map_cons,List.map_nil,cond_true,cond_false,aop,Zv,Zq,Zp,ev,sput,Zt,Zy,Ya,unK,Zd,Zw,Nat.reduceBEq,Nat.reduceAdd,Int.reduceBEq,Int.reduceBNe,Int.reduceLT,Zu,Zz,tup,tyf,hvE.idx el_22 Xk hin',hvE.load Xd hin',We,Xj]
   rw [storeI (v:=.int .i64 0) (e:=3) (Yp _ _) Xd,← hX,← hm]
   refine hN2 _ _ ?_
   clear hN2 N2
   -- what a return inside does
   have back : ∀ (hq:Yb),Ext (fun i=>i=n+3) G hq→hq[n+3]? = some (.cells (Xt o) 77 false)→ord o=false→∀ (e:Env),sget e 2 = .pointer (some ⟨n+1,0,none⟩)→sget e 3 = .pointer (some ⟨n+2,0,none⟩) →
     Q2 .ret e ((hq.set (n+1) (.cells (Xt o) 77 false)).set (n+2) (.cells [.bool false] 4 false)):=fun hq hEq _ ht e g2 g3=>by
    obtain ⟨f1,f2,f3,f4,f5⟩:=fin hq false hEq ht.symm
    rw [hrd] at f1 f2 f3 f5
    refine hQ2 _ _ _ (hQ _ _ _ ?_)
    simp only [Zq,Zv,Zu,Zz,g2,g3]
    rw [loadA f2 (t:=77) (by rw [Yn,Xo hlen.2]),Wa f3 shp_4]
    exact ⟨by rw [rdV,hrd,ht]; rfl,f1⟩
   obtain ⟨f1,f2,f3,f4,f5⟩:_:=fin X (ord o) hGX rfl
   rw [hrd] at f1 f2 f3 f5
   refine Ud fun N2 hN2=>?_
   simp (maxSteps:=2000000) only [s64,↓Za,↓Zi,↓Zr,↓Ze,↓Zj,↓Zs,↓Zg,↓Zo,↓Zf,↓Zb,↓Zc,↓vdn,vup,Zm,Zk,Zn,Zl,Zh,List.map_cons,List.map_nil,cond_true,cond_false,aop,Zv,Zq,Zp,ev,sput,Zt,Zy,Ya,unK,Zd,Zw,Nat.reduceBEq,Nat.reduceAdd,Int.reduceBEq,Int.reduceBNe,Int.reduceLT,Zu,Zz,tup,tyf]
   refine Xs [] (by kernel_rfl) (by kernel_rfl) (by kernel_rfl) (by kernel_rfl) ?_
   by_cases hneg:o.getD i 0<0
   · have hb:=hbad (by rw [okO,decide_eq_false (show ¬ 0≤o.getD i 0 by omega)]; rfl)
     simp (maxSteps:=2000000) only [s64,↓Za,↓Zi,↓Zr,↓Ze,↓Zj,↓Zs,↓Zg,↓Zo,↓Zf,↓Zb,↓Zc,↓vdn,vup,Zm,Zk,Zn,Zl,Zh,List.map_cons,List.map_nil,cond_true,cond_false,aop,Zv,Zq,Zp,ev,sput,Zt,Zy,Ya,unK,Zd,Zw,Nat.reduceBEq,Nat.reduceAdd,Int.reduceBEq,Int.reduceBNe,Int.reduceLT,Zu,Zz,tup,tyf,Wa bX Xd,hneg,loadA x4 (t:=77) (by rw [Yn,Xo hlen.2]),storeA (vs:=Xt o) f4 (t:=77) (by rw [Yn,Xo hlen.2]) (ordC_one o) (by rw [Xo hlen.2]; rfl),storeB f5 shp_4]
     exact back X hGX x4 hb _ rfl rfl
   by_cases hbig:2 ^ o.length≤o.getD i 0
   · have hb:=hbad (by rw [okO,decide_eq_false (show ¬ o.getD i 0<2 ^ o.length from Int.not_lt.2 hbig),Bool.and_false]; rfl)
     simp (maxSteps:=2000000) only [s64,↓Za,↓Zi,↓Zr,↓Ze,↓Zj,↓Zs,↓Zg,↓Zo,↓Zf,↓Zb,↓Zc,↓vdn,vup,Zm,Zk,Zn,Zl,Zh,List.map_cons,List.map_nil,cond_true,cond_false,aop,Zv,Zq,Zp,ev,sput,Zt,Zy,Ya,unK,Zd,Zw,Nat.reduceBEq,Nat.reduceAdd,Int.reduceBEq,Int.reduceBNe,Int.reduceLT,Zu,Zz,tup,tyf,Wa bX Xd,hneg,Wa x1 Uc,hvX.len,shl1 (show o.length≤62 by omega),ge_iff_le,hbig,loadA x4 (t:=77) (by rw [Yn,Xo hlen.2]),storeA (vs:=Xt o) f4 (t:=77) (by rw [Yn,Xo hlen.2]) (ordC_one o) (by rw [Xo hlen.2]; rfl),storeB f5 shp_4]
     exact back X hGX x4 hb _ rfl rfl
   have hs0:0≤o.getD i 0:=by omega
   have hs1:o.getD i 0<9223372036854775808:=by omega
   by_cases hbit:ab o i i=true
   · have hb:=hbad (by rw [okO,hbit,Bool.not_true,Bool.and_false]; rfl)
     simp (maxSteps:=2000000) only [s64,↓Za,↓Zi,↓Zr,↓Ze,↓Zj,↓Zs,↓Zg,↓Zo,↓Zf,↓Zb,↓Zc,↓vdn,vup,Zm,Zk,Zn,Zl,Zh,List.map_cons,List.map_nil,cond_true,cond_false,aop,Zv,Zq,Zp,ev,sput,Zt,Zy,Ya,unK,Zd,Zw,Nat.reduceBEq,Nat.reduceAdd,Int.reduceBEq,Int.reduceBNe,Int.reduceLT,Zu,Zz,tup,tyf,Wa bX Xd,hneg,Wa x1 Uc,hvX.len,shl1 (show o.length≤62 by omega),ge_iff_le,hbig,testA hs0 hs1,hbit,if_true,Int.reduceBEq,loadA x4 (t:=77) (by rw [Yn,Xo hlen.2]),storeA (vs:=Xt o) f4 (t:=77) (by rw [Yn,Xo hlen.2]) (ordC_one o) (by rw [Xo hlen.2]; rfl),storeB f5 shp_4]
     exact back X hGX x4 hb _ rfl rfl
   simp only [Bool.not_eq_true] at hbit
   simp (maxSteps:=2000000) only [s64,↓Za,↓Zi,↓Zr,↓Ze,↓Zj,↓Zs,↓Zg,↓Zo,↓Zf,↓Zb,↓Zc,↓vdn,vup,Zm,Zk,Zn,Zl,Zh,List.map_cons,List.map_nil,cond_true,cond_false,aop,Zv,Zq,Zp,ev,sput,Zt,Zy,Ya,unK,Zd,Zw,Nat.reduceBEq,Nat.reduceAdd,Int.reduceBEq,Int.reduceBNe,Int.reduceLT,Zu,Zz,tup,tyf,Wa bX Xd,hneg,Wa x1 Uc,hvX.len,shl1 (show o.length≤62 by omega),ge_iff_le,hbig,testA hs0 hs1,hbit,if_false,Bool.false_eq_true,Int.reduceBEq]
   refine hN2 _ _ ?_
   clear hN2 N2
   have hset:o.getD i 0=((bt o i:Nat):Int):=(Int.toNat_of_nonneg hs0).symm
   have hsl:bt o i<64:=by have h1:=hp.1; have:o.getD i 0<64:=by omega
                          omega
   simp (maxSteps:=2000000) only [s64,↓Za,↓Zi,↓Zr,↓Ze,↓Zj,↓Zs,↓Zg,↓Zo,↓Zf,↓Zb,↓Zc,↓vdn,vup,Zm,Zk,Zn,Zl,Zh,List.map_cons,List.map_nil,cond_true,cond_false,aop,Zv,Zq,Zp,ev,sput,Zt,Zy,Ya,unK,Zd,Zw,Nat.reduceBEq,Nat.reduceAdd,Int.reduceBEq,Int.reduceBNe,Int.reduceLT,Zu,Zz,tup,tyf,Wa bX Xd,Yr,List.nil_append,List.append_nil,List.toList_toArray,List.cons_append]
   refine elements_call.mono ?_
   rintro _ _ ⟨rfl,rfl⟩
   rw [hset] at bX ⊢
   refine aw_range bitIter (bx:=X.length) (s:=bt o i) (et:=3) rfl (Yp _ _) (by omega) (fun pre hk=>Ext (fun _=>False) X hk∧∀ k∈pre,(Vn .andNot .i64 (o.getD k 0) (o.getD i 0)==0)=true) ⟨?_,fun _ hk=>by cases hk⟩ ?_ ?_
   · refine ⟨by simp,fun j hj _=>?_⟩
     rw [List.getElem?_set_ne (by omega),List.getElem?_append_left hj]
   · rintro pre x hk hpre ⟨hEk,hall⟩
     obtain ⟨hx64,hxb⟩:=Vl.1 (mem_pre hpre)
     have hxn:x<o.length:=by
      rcases Nat.lt_or_ge x o.length with h | h
      · exact h
      · have h2:bt o i<2 ^ o.length:=by
         have h3 : ¬ (2:Int) ^ o.length≤((bt o i:Nat):Int):=by rw [← hset]; exact hbig
         rw [← Vv] at h3
         omega
        rw [Nat.testBit_lt_two_pow (Nat.lt_of_lt_of_le h2 (Nat.pow_le_pow_right (by decide) h))] at hxb; cases hxb
     have k1:hk[n]? = some (.cells [tv] 22 false):=(hEk.2 _ (Yg x1) id).trans x1
     have k4:hk[n+3]? = some (.cells (Xt o) 77 false):=(hEk.2 _ (Yg x4) id).trans x4
     have kX:hk[m]? = some (.cells [.int .i64 ((bt o i:Nat):Int)] 3 false):=(hEk.2 _ (Yg bX) id).trans bX
     have hvk:IntSl hk tv o:=Vz hvX hEk
     have hlk:=hEk.1
     have hGk:Ext (fun i=>i=n+3) G hk:=⟨by omega,fun j hj hjn=>by rw [hEk.2 j (by omega) id]; exact hGX.2 j hj hjn⟩
     simp (maxSteps:=2000000) only [s64,↓Za,↓Zi,↓Zr,↓Ze,↓Zj,↓Zs,↓Zg,↓Zo,↓Zf,↓Zb,↓Zc,↓vdn,vup,Zm,Zk,Zn,Zl,Zh,List.map_cons,List.map_nil,cond_true,cond_false,aop,Zv,Zq,Zp,ev,sput,Zt,Zy,Ya,unK,Zd,Zw,Nat.reduceBEq,Nat.reduceAdd,Int.reduceBEq,Int.reduceBNe,Int.reduceLT,Zu,Zz,tup,tyf,r64_0_a,r64_0_b]
     refine Xs [] (by kernel_rfl) (by kernel_rfl) (by kernel_rfl) (by kernel_rfl) ?_
     cases hlz:(Vn .andNot .i64 (o.getD x 0) ((bt o i:Nat):Int)==0) with
     | true =>
       have hlz' : (Vn .andNot .i64 (o.getD x 0) ((bt o i:Nat):Int) != 0)=false:=by rw [bne,hlz]; rfl
       simp (maxSteps:=2000000) only [s64,↓Za,↓Zi,↓Zr,↓Ze,↓Zj,↓Zs,↓Zg,↓Zo,↓Zf,↓Zb,↓Zc,↓vdn,vup,Zm,Zk,Zn,Zl,Zh,List.map_cons,List.map_nil,cond_true,cond_false,aop,Zv,Zq,Zp,ev,sput,Zt,Zy,Ya,unK,Zd,Zw,Nat.reduceBEq,Nat.reduceAdd,Int.reduceBEq,Int.reduceBNe,Int.reduceLT,Zu,Zz,tup,tyf,Wa k1 Uc,hvk.idx el_22 Xk hxn,hvk.load Xd hxn,Wa kX Xd,hlz']
       refine ⟨hEk,fun k hk'=>?_⟩
       rcases List.mem_append.1 hk' with h | h
       · exact hall k h
       · rw [List.mem_singleton.1 h,hset]; exact hlz
     | false =>
       have hlz' : (Vn .andNot .i64 (o.getD x 0) ((bt o i:Nat):Int) != 0)=true:=by rw [bne,hlz]; rfl
       have hb:=hbad (by
        have:((List.range o.length).all fun j=>!ab o i j || (Vn .andNot .i64 (o.getD j 0) (o.getD i 0)==0))=false:=by
         rw [List.all_eq_false]; exact ⟨x,List.mem_range.2 hxn,by rw [show ab o i x=true from hxb,hset,hlz]; decide⟩
        rw [okO,this,Bool.and_false])
       obtain ⟨g1,g2,g3,g4,g5⟩:=fin hk (ord o) hGk rfl
       rw [hrd] at g1 g2 g3 g5
       simp (maxSteps:=2000000) only [s64,↓Za,↓Zi,↓Zr,↓Ze,↓Zj,↓Zs,↓Zg,↓Zo,↓Zf,↓Zb,↓Zc,↓vdn,vup,Zm,Zk,Zn,Zl,Zh,List.map_cons,List.map_nil,cond_true,cond_false,aop,Zv,Zq,Zp,ev,sput,Zt,Zy,Ya,unK,Zd,Zw,Nat.reduceBEq,Nat.reduceAdd,Int.reduceBEq,Int.reduceBNe,Int.reduceLT,Zu,Zz,tup,tyf,Wa k1 Uc,hvk.idx el_22 Xk hxn,hvk.load Xd hxn,Wa kX Xd,hlz',loadA k4 (t:=77) (by rw [Yn,Xo hlen.2]),storeA (vs:=Xt o) g4 (t:=77) (by rw [Yn,Xo hlen.2]) (ordC_one o) (by rw [Xo hlen.2]; rfl),storeB g5 shp_4,rangeQ]
       exact back hk hGk k4 hb _ rfl rfl
   · rintro hk ⟨hEk,hall⟩
     simp (maxSteps:=2000000) only [s64,↓Za,↓Zi,↓Zr,↓Ze,↓Zj,↓Zs,↓Zg,↓Zo,↓Zf,↓Zb,↓Zc,↓vdn,vup,Zm,Zk,Zn,Zl,Zh,List.map_cons,List.map_nil,cond_true,cond_false,aop,Zv,Zq,Zp,ev,sput,Zt,Zy,Ya,unK,Zd,Zw,Nat.reduceBEq,Nat.reduceAdd,Int.reduceBEq,Int.reduceBNe,Int.reduceLT,Zu,Zz,tup,tyf,rangeQ]
     refine hN _ _ ?_
     simp (maxSteps:=2000000) only [s64,↓Za,↓Zi,↓Zr,↓Ze,↓Zj,↓Zs,↓Zg,↓Zo,↓Zf,↓Zb,↓Zc,↓vdn,vup,Zm,Zk,Zn,Zl,Zh,List.map_cons,List.map_nil,cond_true,cond_false,aop,Zv,Zq,Zp,ev,sput,Zt,Zy,Ya,unK,Zd,Zw,Nat.reduceBEq,Nat.reduceAdd,Int.reduceBEq,Int.reduceBNe,Int.reduceLT,Zu,Zz,tup,tyf,add1 (show i<9223372036854775807 by omega)]
     have hlk:=hEk.1
     refine hQ2 _ _ _ ⟨(i+1,hk),⟨by simp only; omega,⟨by simp only; omega,fun j hj _=>?_⟩,fun k hk'=>?_⟩,by simp only; omega,by simp (maxSteps:=2000000) only [↓Za,↓Zi,↓Zr,↓Ze,↓Zj,↓Zs,↓Zg,↓Zo,↓Zf,↓Zb,↓Zc,↓vdn,vup,Zm,Zk,Zn,Zl,Zh,List.map_cons,List.map_nil,cond_true,cond_false,aop,Zv,Zq,Zp,ev,sput,Zt,Zy,Ya,unK,Zd,Zw,Nat.reduceBEq,Nat.reduceAdd,Int.reduceBEq,Int.reduceBNe,Int.reduceLT,Zu,Zz,tup,tyf],rfl⟩
     · show hk[j]? = F[j]?
       rw [hEk.2 j (by omega) id,hEX.2 j (by omega) id]; exact hE.2 j hj id
     · simp only at hk'
       by_cases hki:k=i
       · subst hki
         have hle:bt o k<2 ^ o.length:=by
          have h3 : ¬ (2:Int) ^ o.length≤((bt o k:Nat):Int):=by rw [← hset]; exact hbig
          rw [← Vv] at h3
          omega
         have:((List.range o.length).all fun j=>!ab o k j || (Vn .andNot .i64 (o.getD j 0) (o.getD k 0)==0))=true:=by
          rw [List.all_eq_true]
          intro j hj
          cases hkj:ab o k j with
          | false=>rfl
          | true=>rw [hall j (Vl.2 ⟨by have:=List.mem_range.1 hj; omega,hkj⟩)]; rfl
         rw [okO,decide_eq_true hs0,decide_eq_true (Int.not_le.1 hbig),hbit,this]; rfl
       · exact hok k (by omega)
 · obtain rfl:i=o.length:=by omega
   have ht:ord o=true:=by simp only [ord,Bool.and_eq_true,decide_eq_true_eq,List.all_eq_true,List.mem_range]; exact ⟨hlen,hok⟩
   obtain ⟨f1,f2,f3,f4,f5⟩:=fin hp0 true ⟨by omega,fun j hj hjn=>by rw [hE.2 j (by omega) id]; exact hEF.2 j hj hjn⟩ ht.symm
   rw [hrd] at f1 f2 f3 f5
   simp (maxSteps:=2000000) only [s64,↓Za,↓Zi,↓Zr,↓Ze,↓Zj,↓Zs,↓Zg,↓Zo,↓Zf,↓Zb,↓Zc,↓vdn,vup,Zm,Zk,Zn,Zl,Zh,List.map_cons,List.map_nil,cond_true,cond_false,aop,Zv,Zq,Zp,ev,sput,Zt,Zy,Ya,unK,Zd,Zw,Nat.reduceBEq,Nat.reduceAdd,Int.reduceBEq,Int.reduceBNe,Int.reduceLT,Zu,Zz,tup,tyf,l64_1,Int.lt_irrefl]
   refine hQ2 _ _ _ (hQ _ _ _ ?_)
   simp (maxSteps:=2000000) only [s64,↓Za,↓Zi,↓Zr,↓Ze,↓Zj,↓Zs,↓Zg,↓Zo,↓Zf,↓Zb,↓Zc,↓vdn,vup,Zm,Zk,Zn,Zl,Zh,List.map_cons,List.map_nil,cond_true,cond_false,aop,Zv,Zq,Zp,ev,sput,Zt,Zy,Ya,unK,Zd,Zw,Nat.reduceBEq,Nat.reduceAdd,Int.reduceBEq,Int.reduceBNe,Int.reduceLT,Zu,Zz,tup,tyf,if_true,loadA e4 (t:=77) (by rw [Yn,Xo hlen.2]),storeA (vs:=Xt o) f4 (t:=77) (by rw [Yn,Xo hlen.2]) (ordC_one o) (by rw [Xo hlen.2]; rfl),storeB f5 shp_4,loadA f2 (t:=77) (by rw [Yn,Xo hlen.2]),Wa f3 shp_4]
   exact ⟨by rw [rdV,hrd,ht],f1⟩
end Go.Proofs.Tryd.Am
namespace Go.Proofs.Tryd.Am
open Go.Am Ord
set_option maxRecDepth 100000
set_option maxHeartbeats 1000000
section
variable {P:Program} {h:Yb} {t e:TypeId} {b o n c k:Nat} {xs:List Int} {ro:Bool}
theorem idxS {K:Value→Prop} (he:elemOf' P t=some e) (hs:esz P e=some 1) (hk:k<n):Yq P t (.slice (some ⟨b,0,none⟩) n c) (Zx (k:Nat)) K=K (.pointer (some ⟨b,k,none⟩)):=by
 simp only [Yq,he,hs,Int.natCast_nonneg,Int.toNat_natCast,Nat.mul_one,Nat.zero_add,true_and,Int.ofNat_lt.2 hk]
theorem loadX {K:Value→Prop} (hb:h[b]? = some (.ints xs e ro)) (hs:shp P t=some none) (ho:o<xs.length):Xw P h t (.pointer (some ⟨b,o,none⟩)) K=K (Zx (xs.getD o 0)):=by
 simp only [Xw,hs,cellK,hb,ho,true_and]
theorem storeX {K:Yb→Prop} {x:Int} (hb:h[b]? = some (.ints xs e false)) (hs:shp P t=some none) (ho:o<xs.length):Xv P h t (.pointer (some ⟨b,o,none⟩)) (Zx x) K=K (h.set b (.ints (xs.set o x) e false)):=by
 simp only [Xv,hs,hb,ho,true_and]
end
def WS (o:List Int) (s:Nat):List Int:=(List.range (2 ^ o.length)).map fun k=>if k<s then ((W o k:Nat):Int) else 0
theorem WS_len {o:List Int} {s:Nat}:(WS o s).length=2 ^ o.length:=by simp [WS]
theorem WS_get {o:List Int} {s k:Nat} (hk:k<s) (hs:s≤2 ^ o.length):(WS o s).getD k 0=((W o k:Nat):Int):=by
 rw [WS,getD_map,if_pos (by omega),if_pos hk]
theorem WS_one {o:List Int}:(List.replicate (2 ^ o.length) (0:Int)).set 0 1=WS o 1:=by
 have hp:=Nat.two_pow_pos o.length
 refine List.ext_getElem (by simp [WS_len]) fun i h1 h2=>?_
 rw [List.getElem_set]
 by_cases hi:0=i
 · subst hi; simp [WS,W_zero]
 · rw [if_neg hi]; simp [WS]; omega
theorem WS_set {o:List Int} {s:Nat}:(WS o s).set s ((W o s:Nat):Int)=WS o (s+1):=by
 refine List.ext_getElem (by simp [WS_len]) fun i h1 h2=>?_
 rw [List.getElem_set]
 by_cases hi:s=i
 · subst hi; simp [WS]
 · rw [if_neg hi]
   simp only [WS,List.getElem_map,List.getElem_range]
   by_cases hlt:i<s
   · rw [if_pos hlt,if_pos (by omega)]
   · rw [if_neg hlt,if_neg (by omega)]
theorem WS_zero {o:List Int} {s:Nat} (hs:s<2 ^ o.length):(WS o s).set s 0=WS o s:=by
 refine List.ext_getElem (by simp) fun i h1 h2=>?_
 rw [List.getElem_set]
 by_cases hi:s=i
 · subst hi; simp [WS]
 · rw [if_neg hi]
def ps (o:List Int) (s:Nat) (pre:List Nat):Nat:=((pre.filter (okLast o s)).map fun i=>W o (Wx s (2 ^ i))).sum
theorem ps_snoc {o:List Int} {s:Nat} {pre:List Nat} {x:Nat}:ps o s (pre++[x])=if okLast o s x=true then ps o s pre+W o (Wx s (2 ^ x)) else ps o s pre:=by
 unfold ps
 rw [List.filter_append,List.map_append,List.sum_append,List.filter_cons]
 split <;> simp
theorem ps_le {o:List Int} {s:Nat} (hs:s<64) : ∀ pre:List Nat,ps o s pre≤pre.length*46656:=by
 intro pre
 unfold ps
 induction pre with
 | nil=>simp
 | cons x pre ih =>
   rw [List.filter_cons,List.length_cons,Nat.succ_mul]
   split
   · rw [List.map_cons,List.sum_cons]
     have:=W_le (o:=o) (s:=Wx s (2 ^ x)) (less_lt (n:=6) hs)
     omega
   · omega
theorem eq0 (n:Nat):(((n:Nat):Int)==0)=decide (n=0):=by
 by_cases h:n=0
 · subst h; rfl
 · rw [decide_eq_false h]
   have:((n:Nat):Int)≠0:=by omega
   simpa using this
theorem Wh [BitTab prog 1] {h:Yb} {o:List Int} (ho:ord o=true):APure prog 65 [ordV o] h (Zx (cn o:Nat)):=by
 have hlen:=Yz ho
 have hpw:=pow6 hlen.2
 refine ACall.forget (Low.int _ _) ?_
 refine s65_call (by simp) ?_
 simp only [s65]
 refine Ud fun N hN=>?_
 simp (maxSteps:=2000000) only [s65,↓Za,↓Zi,↓Zr,↓Ze,↓Zj,↓Zs,↓Zg,↓Zo,↓Zf,↓Zb,↓Zc,↓vdn,vup,Zm,Zk,Zn,Zl,Zh,List.map_cons,List.map_nil,cond_true,cond_false,aop,Zv,Zq,Zp,ev,sput,Zt,Zy,Ya,unK,Zd,Zw,Nat.reduceBEq,Nat.reduceAdd,Int.reduceBEq,Int.reduceBNe,Int.reduceLT,Zu,Zz,tup,tyf,boxO esz_77,Xj]
 refine hN _ _ ?_
 clear hN N
 obtain ⟨n,hn⟩ : ∃ n,n=h.length:=⟨_,rfl⟩
 rw [← hn]
 have hadd:addV .i64 ((2 ^ o.length-1:Nat):Int) 1=((2 ^ o.length:Nat):Int):=by rw [addV_id (by omega) (by omega)]; omega
 have hm0:(0:Int)≤((2 ^ o.length:Nat):Int):=Int.natCast_nonneg _
 have hm1:((2 ^ o.length:Nat):Int)≤35184372088832:=by omega
 have c0:(h++[Blk.cells (Xt o) 77 false])[n]? = some (.cells (Xt o) 77 false):=by rw [hn]; exact Yp _ _
 refine Ud fun N hN=>?_
 simp (maxSteps:=2000000) only [s65,↓Za,↓Zi,↓Zr,↓Ze,↓Zj,↓Zs,↓Zg,↓Zo,↓Zf,↓Zb,↓Zc,↓vdn,vup,Zm,Zk,Zn,Zl,Zh,List.map_cons,List.map_nil,cond_true,cond_false,aop,Zv,Zq,Zp,ev,sput,Zt,Zy,Ya,unK,Zd,Zw,Nat.reduceBEq,Nat.reduceAdd,Int.reduceBEq,Int.reduceBNe,Int.reduceLT,Zu,Zz,tup,tyf,Xy c0 Yn hlen.2,Yr,List.nil_append,List.append_nil,List.toList_toArray,List.cons_append]
 refine (all_call hlen.2).mono ?_
 rintro _ _ ⟨rfl,rfl⟩
 simp (maxSteps:=2000000) only [s65,↓Za,↓Zi,↓Zr,↓Ze,↓Zj,↓Zs,↓Zg,↓Zo,↓Zf,↓Zb,↓Zc,↓vdn,vup,Zm,Zk,Zn,Zl,Zh,List.map_cons,List.map_nil,cond_true,cond_false,aop,Zv,Zq,Zp,ev,sput,Zt,Zy,Ya,unK,Zd,Zw,Nat.reduceBEq,Nat.reduceAdd,Int.reduceBEq,Int.reduceBNe,Int.reduceLT,Zu,Zz,tup,tyf,hadd,makeI el_22 zero_3 info_3 hm0 hm1,Int.toNat_natCast,We,Xj]
 obtain ⟨N0,hN0⟩ : ∃ N0,N0=2 ^ o.length:=⟨_,rfl⟩
 obtain ⟨S,hS⟩ : ∃ S:Value,S = .slice (some ⟨n+1,0,none⟩) N0 N0:=⟨_,rfl⟩
 simp only [zero_22,List.length_append,List.length_cons,List.length_nil,Nat.zero_add,Nat.add_assoc,Nat.reduceAdd,← hn,← hN0,← hS]
 have hone:one S=true:=by rw [hS]; rfl
 have c2:(h++[Blk.cells (Xt o) 77 false]++[Blk.ints (List.replicate N0 0) 3 false]++[Blk.cells [.slice none 0 0] 22 false])[n+2]? = some (.cells [.slice none 0 0] 22 false):=by
  have:=Yp (h++[Blk.cells (Xt o) 77 false]++[Blk.ints (List.replicate N0 0) 3 false]) (Blk.cells [.slice none 0 0] 22 false)
  simpa [hn] using this
 rw [store1 c2 Uc hone]
 obtain ⟨H,hH⟩ : ∃ H,H=(h++[Blk.cells (Xt o) 77 false]++[Blk.ints (List.replicate N0 0) 3 false]++[Blk.cells [.slice none 0 0] 22 false]).set (n+2) (.cells [S] 22 false):=⟨_,rfl⟩
 rw [← hH]
 have hHl:H.length=n+3:=by rw [hH,hn]; simp
 have b0:H[n]? = some (.cells (Xt o) 77 false):=by rw [hH,List.getElem?_set_ne (by omega)]; exact Yy (Yy c0 _) _
 have b1:H[n+1]? = some (.ints (List.replicate N0 0) 3 false):=by
  rw [hH,List.getElem?_set_ne (by omega)]
  have:=Yp (h++[Blk.cells (Xt o) 77 false]) (Blk.ints (List.replicate N0 0) 3 false)
  simp only [List.length_append,List.length_singleton,← hn] at this
  exact Yy this _
 have b2:H[n+2]? = some (.cells [S] 22 false):=by rw [hH]; exact Xm (by rw [hn]; simp) _
 have hE0:Ext (fun _=>False) h H:=⟨by omega,fun i hi _=>by
  rw [hH,List.getElem?_set_ne (by omega),List.append_assoc,List.append_assoc,List.getElem?_append_left hi]⟩
 clear c2 hH
 refine hN _ _ ?_
 clear hN N
 -- ways[0] = 1
 refine Ud fun N hN=>?_
 have hidx : ∀ {k:Nat} {K:Value→Prop},k<N0→Yq prog 22 S (Zx (k:Nat)) K=K (.pointer (some ⟨n+1,k,none⟩)):=fun {k K} hk=>by rw [hS]; exact idxS el_22 Xk hk
 have hidx0 : ∀ {K:Value→Prop},Yq prog 22 S (.int .i64 0) K=K (.pointer (some ⟨n+1,0,none⟩)):=fun {K}=>hidx (k:=0) (by omega)
 simp (maxSteps:=2000000) only [s65,↓Za,↓Zi,↓Zr,↓Ze,↓Zj,↓Zs,↓Zg,↓Zo,↓Zf,↓Zb,↓Zc,↓vdn,vup,Zm,Zk,Zn,Zl,Zh,List.map_cons,List.map_nil,cond_true,cond_false,aop,Zv,Zq,Zp,ev,sput,Zt,Zy,Ya,unK,Zd,Zw,Nat.reduceBEq,Nat.reduceAdd,Int.reduceBEq,Int.reduceBNe,Int.reduceLT,Zu,Zz,tup,tyf,Wa b2 Uc,hidx0]
 rw [storeX (x:=1) b1 Xd (by simp; omega)]
 refine hN _ _ ?_
 clear hN N
 obtain ⟨G,hG⟩ : ∃ G,G=H.set (n+1) (.ints ((List.replicate N0 0).set 0 1) 3 false):=⟨_,rfl⟩
 rw [← hG]
 rw [hN0,WS_one] at hG
 have hGl:G.length=n+3:=by rw [hG]; simp [hHl]
 have g0:G[n]? = some (.cells (Xt o) 77 false):=by rw [hG,List.getElem?_set_ne (by omega)]; exact b0
 have g1:G[n+1]? = some (.ints (WS o 1) 3 false):=by rw [hG]; exact Xm (by omega) _
 have g2:G[n+2]? = some (.cells [S] 22 false):=by rw [hG,List.getElem?_set_ne (by omega)]; exact b2
 have hEG:Ext (fun _=>False) h G:=⟨by omega,fun i hi _=>by rw [hG,List.getElem?_set_ne (by omega)]; exact hE0.2 i hi id⟩
 clear b0 b1 b2 hG hE0 hHl
 clear H
 -- the sets
 simp (maxSteps:=2000000) only [s65,↓Za,↓Zi,↓Zr,↓Ze,↓Zj,↓Zs,↓Zg,↓Zo,↓Zf,↓Zb,↓Zc,↓vdn,vup,Zm,Zk,Zn,Zl,Zh,List.map_cons,List.map_nil,cond_true,cond_false,aop,Zv,Zq,Zp,ev,sput,Zt,Zy,Ya,unK,Zd,Zw,Nat.reduceBEq,Nat.reduceAdd,Int.reduceBEq,Int.reduceBNe,Int.reduceLT,Zu,Zz,tup,tyf,We,Xj]
 rw [storeI (v:=.int .i64 0) (e:=3) (Yp _ _) Xd,hGl]
 obtain ⟨F,hF⟩ : ∃ F,F=(G++[Blk.cells [.int .i64 0] 3 false]).set (n+3) (.cells [.int .i64 1] 3 false):=⟨_,rfl⟩
 rw [← hF]
 have hFl:F.length=n+4:=by rw [hF]; simp [hGl]
 have oldF : ∀ {k B},G[k]? = some B→F[k]? = some B:=fun {k B} hk=>by
  have:=Yg hk
  rw [hF,List.getElem?_set_ne (by omega)]; exact Yy hk _
 have f3:F[n+3]? = some (.cells [.int .i64 1] 3 false):=by rw [hF]; exact Xm (by simp [hGl]) _
 have hEF:Ext (fun _=>False) h F:=⟨by omega,fun i hi _=>by rw [hF,List.getElem?_set_ne (by omega),List.getElem?_append_left (by omega)]; exact hEG.2 i hi id⟩
 have f0:=oldF g0
 have f1:=oldF g1
 have f2:=oldF g2
 clear g0 g1 g2 oldF hEG hF hGl
 clear G
 simp only [↓aw_loop_eq]
 refine Xf fun Q hQ=>?_
 refine aw_loop (γ:=Nat×Nat×Yb) (fun s=>1≤s.1∧s.1≤N0∧n+3≤s.2.1∧s.2.2[n]? = some (.cells (Xt o) 77 false)∧s.2.2[n+1]? = some (.ints (WS o s.1) 3 false)∧s.2.2[n+2]? = some (.cells [S] 22 false)∧s.2.2[s.2.1]? = some (.cells [Zx (s.1:Nat)] 3 false)∧Ext (fun _=>False) h s.2.2)
  (fun s=>([(0,ordV o),(1,.pointer (some ⟨n,0,none⟩)),(2,.int .i64 0),(3,.pointer (some ⟨n+2,0,none⟩)),(4,.pointer (some ⟨s.2.1,0,none⟩))],s.2.2)) (fun s=>N0-s.1) (1,n+3,F) ⟨Nat.le_refl _,by omega,Nat.le_refl _,f0,f1,f2,f3,hEF⟩ (by simp (maxSteps:=2000000) only [↓Za,↓Zi,↓Zr,↓Ze,↓Zj,↓Zs,↓Zg,↓Zo,↓Zf,↓Zb,↓Zc,↓vdn,vup,Zm,Zk,Zn,Zl,Zh,List.map_cons,List.map_nil,cond_true,cond_false,aop,Zv,Zq,Zp,ev,sput,Zt,Zy,Ya,unK,Zd,Zw,Nat.reduceBEq,Nat.reduceAdd,Int.reduceBEq,Int.reduceBNe,Int.reduceLT,Zu,Zz,tup,tyf,Int.natCast_one]) rfl ?_
 rintro ⟨s,b,hp⟩ ⟨hs1,hsN,hb,e0,e1,e2,e3,hE⟩
 simp only at hs1 hsN hb e0 e1 e2 e3 hE
 refine aw_hide fun Q2 hQ2=>?_
 have hbl:=Yg e3
 have hlE:=hE.1
 simp only [l65_1]
 simp (maxSteps:=2000000) only [s65,↓Za,↓Zi,↓Zr,↓Ze,↓Zj,↓Zs,↓Zg,↓Zo,↓Zf,↓Zb,↓Zc,↓vdn,vup,Zm,Zk,Zn,Zl,Zh,List.map_cons,List.map_nil,cond_true,cond_false,aop,Zv,Zq,Zp,ev,sput,Zt,Zy,Ya,unK,Zd,Zw,Nat.reduceBEq,Nat.reduceAdd,Int.reduceBEq,Int.reduceBNe,Int.reduceLT,Zu,Zz,tup,tyf]
 refine Xs [(2,1)] (by kernel_rfl) (by kernel_rfl) (by kernel_rfl) (by kernel_rfl) ?_
 simp (maxSteps:=2000000) only [s65,↓Za,↓Zi,↓Zr,↓Ze,↓Zj,↓Zs,↓Zg,↓Zo,↓Zf,↓Zb,↓Zc,↓vdn,vup,Zm,Zk,Zn,Zl,Zh,List.map_cons,List.map_nil,cond_true,cond_false,aop,Zv,Zq,Zp,ev,sput,Zt,Zy,Ya,unK,Zd,Zw,Nat.reduceBEq,Nat.reduceAdd,Int.reduceBEq,Int.reduceBNe,Int.reduceLT,Zu,Zz,tup,tyf,Wa e3 Xd,Xy e0 Yn hlen.2,Yr,List.nil_append,List.append_nil,List.toList_toArray,List.cons_append]
 refine ⟨_,_,all_call hlen.2,rfl,?_⟩
 by_cases hlast:s=N0
 · have hle : ¬ (s:Int)≤((2 ^ o.length-1:Nat):Int):=by omega
   simp (maxSteps:=2000000) only [s65,↓Za,↓Zi,↓Zr,↓Ze,↓Zj,↓Zs,↓Zg,↓Zo,↓Zf,↓Zb,↓Zc,↓vdn,vup,Zm,Zk,Zn,Zl,Zh,List.map_cons,List.map_nil,cond_true,cond_false,aop,Zv,Zq,Zp,ev,sput,Zt,Zy,Ya,unK,Zd,Zw,Nat.reduceBEq,Nat.reduceAdd,Int.reduceBEq,Int.reduceBNe,Int.reduceLT,Zu,Zz,tup,tyf,hle]
   refine hQ2 _ _ _ (hQ _ _ _ ?_)
   simp (maxSteps:=2000000) only [s65,↓Za,↓Zi,↓Zr,↓Ze,↓Zj,↓Zs,↓Zg,↓Zo,↓Zf,↓Zb,↓Zc,↓vdn,vup,Zm,Zk,Zn,Zl,Zh,List.map_cons,List.map_nil,cond_true,cond_false,aop,Zv,Zq,Zp,ev,sput,Zt,Zy,Ya,unK,Zd,Zw,Nat.reduceBEq,Nat.reduceAdd,Int.reduceBEq,Int.reduceBNe,Int.reduceLT,Zu,Zz,tup,tyf]
   refine Xs [(2,1)] (by kernel_rfl) (by kernel_rfl) (by kernel_rfl) (by kernel_rfl) ?_
   simp (maxSteps:=2000000) only [s65,↓Za,↓Zi,↓Zr,↓Ze,↓Zj,↓Zs,↓Zg,↓Zo,↓Zf,↓Zb,↓Zc,↓vdn,vup,Zm,Zk,Zn,Zl,Zh,List.map_cons,List.map_nil,cond_true,cond_false,aop,Zv,Zq,Zp,ev,sput,Zt,Zy,Ya,unK,Zd,Zw,Nat.reduceBEq,Nat.reduceAdd,Int.reduceBEq,Int.reduceBNe,Int.reduceLT,Zu,Zz,tup,tyf,Wa e2 Uc,Xy e0 Yn hlen.2,Yr,List.nil_append,List.append_nil,List.toList_toArray,List.cons_append]
   refine ⟨_,_,all_call hlen.2,rfl,?_⟩
   have hk:2 ^ o.length-1<N0:=by omega
   have hk2:2 ^ o.length-1<(WS o s).length:=by rw [WS_len]; omega
   have hget:(WS o s).getD (2 ^ o.length-1) 0=((cn o:Nat):Int):=by rw [WS_get (by omega) (by omega),cn_len ho]
   simp (maxSteps:=2000000) only [s65,↓Za,↓Zi,↓Zr,↓Ze,↓Zj,↓Zs,↓Zg,↓Zo,↓Zf,↓Zb,↓Zc,↓vdn,vup,Zm,Zk,Zn,Zl,Zh,List.map_cons,List.map_nil,cond_true,cond_false,aop,Zv,Zq,Zp,ev,sput,Zt,Zy,Ya,unK,Zd,Zw,Nat.reduceBEq,Nat.reduceAdd,Int.reduceBEq,Int.reduceBNe,Int.reduceLT,Zu,Zz,tup,tyf,hidx hk,loadX e1 Xd hk2,hget]
   exact hE
 have hs:s<64:=by omega
 have hle:(s:Int)≤((2 ^ o.length-1:Nat):Int):=by omega
 simp (maxSteps:=2000000) only [s65,↓Za,↓Zi,↓Zr,↓Ze,↓Zj,↓Zs,↓Zg,↓Zo,↓Zf,↓Zb,↓Zc,↓vdn,vup,Zm,Zk,Zn,Zl,Zh,List.map_cons,List.map_nil,cond_true,cond_false,aop,Zv,Zq,Zp,ev,sput,Zt,Zy,Ya,unK,Zd,Zw,Nat.reduceBEq,Nat.reduceAdd,Int.reduceBEq,Int.reduceBNe,Int.reduceLT,Zu,Zz,tup,tyf,hle,Wa e3 Xd,Yr,List.nil_append,List.append_nil,List.toList_toArray,List.cons_append]
 refine elements_call.mono ?_
 rintro _ _ ⟨rfl,rfl⟩
 have hWl:(WS o s).length=N0:=by rw [WS_len,hN0]
 refine aw_range bitIter (bx:=hp.length) (s:=s) (et:=3) rfl (Yp _ _) (by omega) (fun pre hk=>hk[n]? = some (.cells (Xt o) 77 false)∧hk[n+1]? = some (.ints ((WS o s).set s ((ps o s pre:Nat):Int)) 3 false)∧hk[n+2]? = some (.cells [S] 22 false)∧hk[b]? = some (.cells [Zx (s:Nat)] 3 false)∧Ext (fun i=>i=n+1) hp hk∧Ext (fun _=>False) h hk) ?_ ?_ ?_
 · have old : ∀ {k B},hp[k]? = some B→((hp++[Blk.cells [Zx (s:Nat)] 3 false]).set hp.length .dead)[k]? = some B:=fun {k B} hk=>by
    have:=Yg hk
    rw [List.getElem?_set_ne (by omega)]; exact Yy hk _
   refine ⟨old e0,?_,old e2,old e3,⟨by simp,fun j hj _=>?_⟩,⟨by simp; omega,fun j hj _=>?_⟩⟩
   · rw [show ps o s []=0 from rfl,Int.natCast_zero,WS_zero (by omega)]; exact old e1
   · rw [List.getElem?_set_ne (by omega),List.getElem?_append_left hj]
   · rw [List.getElem?_set_ne (by omega),List.getElem?_append_left (by omega)]; exact hE.2 j hj id
 · rintro pre x hk hpre ⟨k0,k1,k2,k3,hEk,hEh⟩
   obtain ⟨hx64,hxb⟩:=Vl.1 (mem_pre hpre)
   have hx6:x<o.length:=by
    rcases Nat.lt_or_ge x o.length with h | h
    · exact h
    · rw [Nat.testBit_lt_two_pow (Nat.lt_of_lt_of_le (show s<2 ^ o.length by omega) (Nat.pow_le_pow_right (by decide) h))] at hxb; cases hxb
   have hpl:pre.length≤64:=by
    obtain ⟨t,ht⟩:=hpre
    have h1:=bits_len6 hs
    have h2:=congrArg List.length ht
    simp only [List.length_append,List.length_singleton] at h2
    omega
   have hps:=ps_le (o:=o) hs pre
   have hdl:=dn_lt (o:=o) (i:=x)
   have hxn:=ord_nat ho hx6
   have hand1:=bitsV_andNot (a:=dn o x) (b:=s) (by omega) (by omega)
   have hand2:Vn .and .i64 (o.getD x 0) (s:Int)=((bt o x &&& s:Nat):Int):=by rw [hxn.1]; exact bitsV_and (by omega) (by omega)
   simp (maxSteps:=2000000) only [s65,↓Za,↓Zi,↓Zr,↓Ze,↓Zj,↓Zs,↓Zg,↓Zo,↓Zf,↓Zb,↓Zc,↓vdn,vup,Zm,Zk,Zn,Zl,Zh,List.map_cons,List.map_nil,cond_true,cond_false,aop,Zv,Zq,Zp,ev,sput,Zt,Zy,Ya,unK,Zd,Zw,Nat.reduceBEq,Nat.reduceAdd,Int.reduceBEq,Int.reduceBNe,Int.reduceLT,Zu,Zz,tup,tyf,r65_0_a,r65_0_b]
   refine Xs [(2,1)] (by kernel_rfl) (by kernel_rfl) (by kernel_rfl) (by kernel_rfl) ?_
   simp (maxSteps:=2000000) only [s65,↓Za,↓Zi,↓Zr,↓Ze,↓Zj,↓Zs,↓Zg,↓Zo,↓Zf,↓Zb,↓Zc,↓vdn,vup,Zm,Zk,Zn,Zl,Zh,List.map_cons,List.map_nil,cond_true,cond_false,aop,Zv,Zq,Zp,ev,sput,Zt,Zy,Ya,unK,Zd,Zw,Nat.reduceBEq,Nat.reduceAdd,Int.reduceBEq,Int.reduceBNe,Int.reduceLT,Zu,Zz,tup,tyf,Xy k0 Yn hlen.2,Yr,List.nil_append,List.append_nil,List.toList_toArray,List.cons_append]
   refine ⟨_,_,below_call ho,rfl,?_⟩
   by_cases hd1:Wx (dn o x) s=0
   · by_cases hd2:bt o x &&& s=0
     · have hok:okLast o s x=true:=by simp [okLast,hd1,hd2]
       have hlt:=less_bit_lt hxb
       have h2x:2 ^ x≤32:=Nat.pow_le_pow_right (n:=2) (j:=5) (by decide) (by omega)
       have hshl:shlV .i64 1 x=2 ^ x:=shl1 (by omega)
       have hand3:Vn .andNot .i64 (s:Int) (2 ^ x)=((Wx s (2 ^ x):Nat):Int):=by
        have:=bitsV_andNot (a:=s) (b:=2 ^ x) (by omega) (by omega)
        rw [Vv] at this; exact this
       have hi1:s<N0:=by omega
       have hi2:Wx s (2 ^ x)<N0:=by omega
       have hsl:s<((WS o s).set s ((ps o s pre:Nat):Int)).length:=by rw [List.length_set]; omega
       have hsl2:Wx s (2 ^ x)<((WS o s).set s ((ps o s pre:Nat):Int)).length:=by rw [List.length_set]; omega
       have hg1:((WS o s).set s ((ps o s pre:Nat):Int)).getD s 0=((ps o s pre:Nat):Int):=by
        rw [List.getD,List.getElem?_set_self (by omega)]; rfl
       have hg2:((WS o s).set s ((ps o s pre:Nat):Int)).getD (Wx s (2 ^ x)) 0=((W o (Wx s (2 ^ x)):Nat):Int):=by
        rw [List.getD,List.getElem?_set_ne (by omega)]; exact WS_get hlt (by omega)
       have hW:=W_le (o:=o) (s:=Wx s (2 ^ x)) (by omega)
       have hsum:addV .i64 ((ps o s pre:Nat):Int) ((W o (Wx s (2 ^ x)):Nat):Int)=((ps o s (pre++[x]):Nat):Int):=by
        rw [ps_snoc,if_pos hok,addV_id (by omega) (by omega)]; omega
       have hone2:(0:Nat)<1:=by decide
       simp (maxSteps:=2000000) only [s65,↓Za,↓Zi,↓Zr,↓Ze,↓Zj,↓Zs,↓Zg,↓Zo,↓Zf,↓Zb,↓Zc,↓vdn,vup,Zm,Zk,Zn,Zl,Zh,List.map_cons,List.map_nil,cond_true,cond_false,aop,Zv,Zq,Zp,ev,sput,Zt,Zy,Ya,unK,Zd,Zw,Nat.reduceBEq,Nat.reduceAdd,Int.reduceBEq,Int.reduceBNe,Int.reduceLT,Zu,Zz,tup,tyf,Wa k3 Xd,hand1,hd1,Int.natCast_zero,fldA Wz esz_75,idxA und_75 Xk (show x<6 by omega),loadI k0 Xd hlen.2 (show x<6 by omega),hand2,hd2]
       refine Xs [] (by kernel_rfl) (by kernel_rfl) (by kernel_rfl) (by kernel_rfl) ?_
       simp (maxSteps:=2000000) only [s65,↓Za,↓Zi,↓Zr,↓Ze,↓Zj,↓Zs,↓Zg,↓Zo,↓Zf,↓Zb,↓Zc,↓vdn,vup,Zm,Zk,Zn,Zl,Zh,List.map_cons,List.map_nil,cond_true,cond_false,aop,Zv,Zq,Zp,ev,sput,Zt,Zy,Ya,unK,Zd,Zw,Nat.reduceBEq,Nat.reduceAdd,Int.reduceBEq,Int.reduceBNe,Int.reduceLT,Zu,Zz,tup,tyf,Wa k2 Uc,Wa k3 Xd,hidx hi1,loadX k1 Xd hsl,hg1,hshl,hand3,hidx hi2,loadX k1 Xd hsl2,hg2,hsum,storeX k1 Xd hsl,List.set_set,rangeQ]
       have hlk:=Yg k1
       refine ⟨?_,Xm hlk _,?_,?_,?_,?_⟩
       · rw [List.getElem?_set_ne (by omega)]; exact k0
       · rw [List.getElem?_set_ne (by omega)]; exact k2
       · rw [List.getElem?_set_ne (by omega)]; exact k3
       · exact hEk.trans (Ext.set _ rfl)
       · exact ⟨by simp; exact hEh.1,fun j hj _=>by rw [List.getElem?_set_ne (by omega)]; exact hEh.2 j hj id⟩
     · have hok:okLast o s x=false:=by simp [okLast,hd2]
       have hne:(((bt o x &&& s:Nat):Int)==0)=false:=by rw [eq0,decide_eq_false hd2]
       simp (maxSteps:=2000000) only [s65,↓Za,↓Zi,↓Zr,↓Ze,↓Zj,↓Zs,↓Zg,↓Zo,↓Zf,↓Zb,↓Zc,↓vdn,vup,Zm,Zk,Zn,Zl,Zh,List.map_cons,List.map_nil,cond_true,cond_false,aop,Zv,Zq,Zp,ev,sput,Zt,Zy,Ya,unK,Zd,Zw,Nat.reduceBEq,Nat.reduceAdd,Int.reduceBEq,Int.reduceBNe,Int.reduceLT,Zu,Zz,tup,tyf,Wa k3 Xd,hand1,hd1,Int.natCast_zero,fldA Wz esz_75,idxA und_75 Xk (show x<6 by omega),loadI k0 Xd hlen.2 (show x<6 by omega),hand2,hne,rangeQ]
       refine ⟨k0,?_,k2,k3,hEk,hEh⟩
       rw [ps_snoc,if_neg (by rw [hok]; decide)]; exact k1
   · have hok:okLast o s x=false:=by simp [okLast,hd1]
     have hne:(((Wx (dn o x) s:Nat):Int)==0)=false:=by rw [eq0,decide_eq_false hd1]
     simp (maxSteps:=2000000) only [s65,↓Za,↓Zi,↓Zr,↓Ze,↓Zj,↓Zs,↓Zg,↓Zo,↓Zf,↓Zb,↓Zc,↓vdn,vup,Zm,Zk,Zn,Zl,Zh,List.map_cons,List.map_nil,cond_true,cond_false,aop,Zv,Zq,Zp,ev,sput,Zt,Zy,Ya,unK,Zd,Zw,Nat.reduceBEq,Nat.reduceAdd,Int.reduceBEq,Int.reduceBNe,Int.reduceLT,Zu,Zz,tup,tyf,Wa k3 Xd,hand1,hne,rangeQ]
     refine ⟨k0,?_,k2,k3,hEk,hEh⟩
     rw [ps_snoc,if_neg (by rw [hok]; decide)]; exact k1
 · rintro hk ⟨k0,k1,k2,k3,hEk,hEh⟩
   have hW:ps o s (Am.bits s)=W o s:=by rw [W_step (by omega) (by omega)]; rfl
   rw [hW,WS_set] at k1
   have hlk:=hEk.1
   simp (maxSteps:=2000000) only [s65,↓Za,↓Zi,↓Zr,↓Ze,↓Zj,↓Zs,↓Zg,↓Zo,↓Zf,↓Zb,↓Zc,↓vdn,vup,Zm,Zk,Zn,Zl,Zh,List.map_cons,List.map_nil,cond_true,cond_false,aop,Zv,Zq,Zp,ev,sput,Zt,Zy,Ya,unK,Zd,Zw,Nat.reduceBEq,Nat.reduceAdd,Int.reduceBEq,Int.reduceBNe,Int.reduceLT,Zu,Zz,tup,tyf,Wa k3 Xd,We,Xj]
   rw [storeI (v:=.int .i64 0) (e:=3) (Yp _ _) Xd]
   have j3:((hk++[Blk.cells [Value.int .i64 0] 3 false]).set hk.length (Blk.cells [.int .i64 (s:Int)] 3 false))[hk.length]? = some (Blk.cells [.int .i64 (s:Int)] 3 false):=Xm (by simp) _
   simp (maxSteps:=2000000) only [s65,↓Za,↓Zi,↓Zr,↓Ze,↓Zj,↓Zs,↓Zg,↓Zo,↓Zf,↓Zb,↓Zc,↓vdn,vup,Zm,Zk,Zn,Zl,Zh,List.map_cons,List.map_nil,cond_true,cond_false,aop,Zv,Zq,Zp,ev,sput,Zt,Zy,Ya,unK,Zd,Zw,Nat.reduceBEq,Nat.reduceAdd,Int.reduceBEq,Int.reduceBNe,Int.reduceLT,Zu,Zz,tup,tyf,Wa j3 Xd,add1 (show s<9223372036854775807 by omega),storeI j3 Xd,List.set_set]
   have old : ∀ {k B},hk[k]? = some B→((hk++[Blk.cells [Value.int .i64 0] 3 false]).set hk.length (Blk.cells [.int .i64 ((s+1:Nat):Int)] 3 false))[k]? = some B:=fun {k B} hk'=>by
    have:=Yg hk'
    rw [List.getElem?_set_ne (by omega)]; exact Yy hk' _
   refine hQ2 _ _ _ ⟨(s+1,hk.length,_),⟨by simp only; omega,by simp only; omega,by simp only; omega,old k0,old k1,old k2,Xm (by simp) _,⟨by simp; omega,fun j hj _=>?_⟩⟩,by simp only; omega,by simp (maxSteps:=2000000) only [↓Za,↓Zi,↓Zr,↓Ze,↓Zj,↓Zs,↓Zg,↓Zo,↓Zf,↓Zb,↓Zc,↓vdn,vup,Zm,Zk,Zn,Zl,Zh,List.map_cons,List.map_nil,cond_true,cond_false,aop,Zv,Zq,Zp,ev,sput,Zt,Zy,Ya,unK,Zd,Zw,Nat.reduceBEq,Nat.reduceAdd,Int.reduceBEq,Int.reduceBNe,Int.reduceLT,Zu,Zz,tup,tyf],rfl⟩
   have hEl:=hEh.1
   rw [List.getElem?_set_ne (by omega),List.getElem?_append_left (by omega)]; exact hEh.2 j hj id
end Go.Proofs.Tryd.Am
namespace Go.Proofs.Tryd.Am
open Go.Am Ord
set_option maxRecDepth 100000
set_option maxHeartbeats 1000000
theorem clone_call [Tabs prog] {h:Yb} {v:Value} {xs:List Int} (hv:IntSl h v xs) (hl:xs.length<1099511627776):ACall prog 66 [v] h fun r h'=>IntSl h' r xs∧∃ g,h' = h++g:=by
 refine s66_call (by simp) ?_
 have hv':=hv
 rcases hv with ⟨rfl,rfl⟩ | ⟨b,o,sp,cap,c,e,ro,rfl,hc,hb,hx⟩
 · simp (maxSteps:=2000000) only [s66,↓Za,↓Zi,↓Zr,↓Ze,↓Zj,↓Zs,↓Zg,↓Zo,↓Zf,↓Zb,↓Zc,↓vdn,vup,Zm,Zk,Zn,Zl,Zh,List.map_cons,List.map_nil,cond_true,cond_false,aop,Zv,Zq,Zp,ev,sput,Zt,Zy,Ya,unK,Zd,Zw,Nat.reduceBEq,Nat.reduceAdd,Int.reduceBEq,Int.reduceBNe,Int.reduceLT,Zu,Zz,tup,tyf,Option.isSome_some]
   exact ⟨.inl ⟨rfl,rfl⟩,[],by rw [List.append_nil]⟩
 · simp (maxSteps:=2000000) only [s66,↓Za,↓Zi,↓Zr,↓Ze,↓Zj,↓Zs,↓Zg,↓Zo,↓Zf,↓Zb,↓Zc,↓vdn,vup,Zm,Zk,Zn,Zl,Zh,List.map_cons,List.map_nil,cond_true,cond_false,aop,Zv,Zq,Zp,ev,sput,Zt,Zy,Ya,unK,Zd,Zw,Nat.reduceBEq,Nat.reduceAdd,Int.reduceBEq,Int.reduceBNe,Int.reduceLT,Zu,Zz,tup,tyf,Option.isSome_some]
   simp only [Xi,el_22,zero_3,Xk,reps,fillL,mkb,Ys]
   refine And.intro rfl (And.intro Nat.zero_lt_one (And.intro (Nat.zero_le _) ?_))
   refine (hv'.grow [.ints [] 3 false]).copy app_22_22 hl (by rw [List.getElem?_append_right (Nat.le_refl _)]; simp) ?_
   intro r g hr _
   exact ⟨hr,_,List.append_assoc _ _ _⟩
theorem min9 (n:Nat):(if (9:Int)<n then 9 else (n:Int))=((min n 9:Nat):Int):=by split <;> omega
theorem list_call [Tabs prog] {h:Yb} {v:Value} {xs:List Int} (hv:IntSl h v xs) (hl:xs.length<9223372036854775808):ACall prog 18 [v] h fun r h'=>IntSl h' r (xs.take 9)∧∃ g,h' = h++g:=by
 refine s18_call (by simp) ?_
 simp (maxSteps:=2000000) only [s18,↓Za,↓Zi,↓Zr,↓Ze,↓Zj,↓Zs,↓Zg,↓Zo,↓Zf,↓Zb,↓Zc,↓vdn,vup,Zm,Zk,Zn,Zl,Zh,List.map_cons,List.map_nil,cond_true,cond_false,aop,Zv,Zq,Zp,ev,sput,Zt,Zy,Ya,unK,Zd,Zw,Nat.reduceBEq,Nat.reduceAdd,Int.reduceBEq,Int.reduceBNe,Int.reduceLT,Zu,Zz,tup,tyf,hv.len,mmK,Bool.false_eq_true,if_false,gt_iff_lt,min9,Option.map_none,Option.map_some]
 refine hv.pre el_22 Xk (Nat.min_le_left _ _) ?_
 intro v' hv'
 have e:xs.take (min xs.length 9)=xs.take 9:=by
  by_cases h:xs.length≤9
  · rw [Nat.min_eq_left h,List.take_length,List.take_of_length_le h]
  · rw [Nat.min_eq_right (by omega)]
 rw [e] at hv'
 simp (maxSteps:=2000000) only [↓Za,↓Zi,↓Zr,↓Ze,↓Zj,↓Zs,↓Zg,↓Zo,↓Zf,↓Zb,↓Zc,↓vdn,vup,Zm,Zk,Zn,Zl,Zh,List.map_cons,List.map_nil,cond_true,cond_false,aop,Zv,Zq,Zp,ev,sput,Zt,Zy,Ya,unK,Zd,Zw,Nat.reduceBEq,Nat.reduceAdd,Int.reduceBEq,Int.reduceBNe,Int.reduceLT,Zu,Zz,tup,tyf,Yr,List.nil_append,List.append_nil]
 exact clone_call hv' (by simp; omega)
theorem ord_take {o:List Int}:ord (o.take 9)=ord o:=by
 by_cases h:o.length≤9
 · rw [List.take_of_length_le h]
 · have h1:ord o=false:=by simp [ord]; omega
   have h2:ord (o.take 9)=false:=by simp [ord]; omega
   rw [h1,h2]
theorem ord_take_eq {o:List Int} (h:ord o=true):o.take 9=o:=List.take_of_length_le (by have:=Yz h; omega)
theorem storeRd {h:Yb} {o:List Int} {K:Yb→Prop}:Xv prog (h++[Blk.cells (ordN 0) 77 false]) 77 (.pointer (some ⟨h.length,0,none⟩)) (rdV o) K=K ((h++[Blk.cells (ordN 0) 77 false]).set h.length (.cells (rdC o) 77 false)) :=
 storeA (c:=ordN 0) (Yp _ _) (by rw [Yn,rdC_len]) (rdC_one o) (by rw [rdC_len]; rfl)
theorem rdBox (h:Yb) (o:List Int):Ext (fun _=>False) h ((h++[Blk.cells (ordN 0) 77 false]).set h.length (.cells (rdC o) 77 false))∧((h++[Blk.cells (ordN 0) 77 false]).set h.length (.cells (rdC o) 77 false))[h.length]? = some (.cells (rdC o) 77 false) :=
 ⟨⟨by simp,fun i hi _=>by rw [List.getElem?_set_ne (by omega),List.getElem?_append_left hi]⟩,Xm (by simp) _⟩
def countV (o:List Int):Value:=if ord o=true then .tuple #[Zx (cn o:Nat),.int .i64 0] else .tuple #[.int .i64 0,.int .i64 2]
theorem count_call [BitTab prog 1] {h:Yb} {v:Value} {o:List Int} (hv:IntSl h v o) (hl:o.length<9223372036854775808) (hx : ∀ x∈o,-9223372036854775808≤x∧x<9223372036854775808):APure prog 17 [v] h (countV o):=by
 have hlow:Low (countV o):=by unfold countV; split <;> exact .pair (.int _ _) (.int _ _)
 refine ACall.forget hlow ?_
 refine s17_call (by simp) ?_
 simp only [s17]
 simp (maxSteps:=2000000) only [s17,↓Za,↓Zi,↓Zr,↓Ze,↓Zj,↓Zs,↓Zg,↓Zo,↓Zf,↓Zb,↓Zc,↓vdn,vup,Zm,Zk,Zn,Zl,Zh,List.map_cons,List.map_nil,cond_true,cond_false,aop,Zv,Zq,Zp,ev,sput,Zt,Zy,Ya,unK,Zd,Zw,Nat.reduceBEq,Nat.reduceAdd,Int.reduceBEq,Int.reduceBNe,Int.reduceLT,Zu,Zz,tup,tyf,Yr,List.nil_append,List.append_nil,List.toList_toArray,List.cons_append]
 refine (read_call hv hl hx).mono ?_
 rintro _ g ⟨rfl,rfl⟩
 simp (maxSteps:=2000000) only [s17,↓Za,↓Zi,↓Zr,↓Ze,↓Zj,↓Zs,↓Zg,↓Zo,↓Zf,↓Zb,↓Zc,↓vdn,vup,Zm,Zk,Zn,Zl,Zh,List.map_cons,List.map_nil,cond_true,cond_false,aop,Zv,Zq,Zp,ev,sput,Zt,Zy,Ya,unK,Zd,Zw,Nat.reduceBEq,Nat.reduceAdd,Int.reduceBEq,Int.reduceBNe,Int.reduceLT,Zu,Zz,tup,tyf,We,Xj,zeroN,zero_77]
 rw [storeRd]
 obtain ⟨hE,hb⟩:=rdBox g o
 generalize hgl:g.length=gl at hE hb ⊢
 generalize (g++[Blk.cells (ordN 0) 77 false]).set gl (.cells (rdC o) 77 false)=G at hE hb ⊢
 cases ho:ord o with
 | false =>
   simp (maxSteps:=2000000) only [s17,↓Za,↓Zi,↓Zr,↓Ze,↓Zj,↓Zs,↓Zg,↓Zo,↓Zf,↓Zb,↓Zc,↓vdn,vup,Zm,Zk,Zn,Zl,Zh,List.map_cons,List.map_nil,cond_true,cond_false,aop,Zv,Zq,Zp,ev,sput,Zt,Zy,Ya,unK,Zd,Zw,Nat.reduceBEq,Nat.reduceAdd,Int.reduceBEq,Int.reduceBNe,Int.reduceLT,Zu,Zz,tup,tyf,ho]
   rw [countV,ho]
   exact ⟨rfl,hE⟩
 | true =>
   have hrd:rdC o=Xt o:=if_pos (Yz ho)
   rw [hrd] at hb
   simp (maxSteps:=2000000) only [s17,↓Za,↓Zi,↓Zr,↓Ze,↓Zj,↓Zs,↓Zg,↓Zo,↓Zf,↓Zb,↓Zc,↓vdn,vup,Zm,Zk,Zn,Zl,Zh,List.map_cons,List.map_nil,cond_true,cond_false,aop,Zv,Zq,Zp,ev,sput,Zt,Zy,Ya,unK,Zd,Zw,Nat.reduceBEq,Nat.reduceAdd,Int.reduceBEq,Int.reduceBNe,Int.reduceLT,Zu,Zz,tup,tyf,ho,Xy hb Yn (Yz ho).2,Yr,List.nil_append,List.append_nil,List.toList_toArray,List.cons_append]
   refine (Wh ho).mono ?_
   rintro _ _ ⟨rfl,rfl⟩
   rw [countV,ho]
   exact ⟨rfl,hE⟩
theorem lit2 {h:Yb} {x y:Int} (K:Value→Yb→Prop):Xi prog h 22 2 [(0,Zx x),(1,Zx y)] K=K (.slice (some ⟨h.length,0,none⟩) 2 2) (h++[.ints [x,y] 3 false]):=by
 simp only [Xi,el_22,zero_3,Xk,reps,fillL,mkb,Ys,Va,cellsOf,List.length_singleton,Nat.mul_one,Nat.zero_mul,Nat.zero_add]
 exact propext ⟨fun h=>h.2.2.2,fun h=>⟨trivial,Nat.zero_lt_one,by decide,h⟩⟩
theorem litSl {h:Yb} {xs:List Int}:IntSl (h++[.ints xs 3 false]) (.slice (some ⟨h.length,0,none⟩) xs.length xs.length) xs :=
 .inr ⟨h.length,0,none,xs.length,xs.map Zx,3,false,rfl,Nat.le_refl _,by simp [view,Blk.view],fun i hi=>by simp [List.getD,hi]⟩
theorem awake_call [BitTab prog 1] {h:Yb}:APure prog 20 [] h (.bool true):=by
 have hc:countV [0,0] = .tuple #[Zx 2,.int .i64 0]:=by
  have h1:ord [0,0]=true:=by decide
  have h2:cn [0,0]=2:=by decide
  rw [countV,h1,if_pos rfl,h2]; rfl
 refine ACall.forget (Low.bool _) ?_
 refine s20_call (by simp) ?_
 simp (maxSteps:=2000000) only [s20,↓Za,↓Zi,↓Zr,↓Ze,↓Zj,↓Zs,↓Zg,↓Zo,↓Zf,↓Zb,↓Zc,↓vdn,vup,Zm,Zk,Zn,Zl,Zh,List.map_cons,List.map_nil,cond_true,cond_false,aop,Zv,Zq,Zp,ev,sput,Zt,Zy,Ya,unK,Zd,Zw,Nat.reduceBEq,Nat.reduceAdd,Int.reduceBEq,Int.reduceBNe,Int.reduceLT,Zu,Zz,tup,tyf,lit2,Yr,List.nil_append,List.append_nil,List.toList_toArray,List.cons_append]
 refine (count_call (o:=[0,0]) litSl (by decide) (by decide)).mono ?_
 rintro _ _ ⟨rfl,rfl⟩
 rw [hc]
 simp (maxSteps:=2000000) only [s20,↓Za,↓Zi,↓Zr,↓Ze,↓Zj,↓Zs,↓Zg,↓Zo,↓Zf,↓Zb,↓Zc,↓vdn,vup,Zm,Zk,Zn,Zl,Zh,List.map_cons,List.map_nil,cond_true,cond_false,aop,Zv,Zq,Zp,ev,sput,Zt,Zy,Ya,unK,Zd,Zw,Nat.reduceBEq,Nat.reduceAdd,Int.reduceBEq,Int.reduceBNe,Int.reduceLT,Zu,Zz,tup,tyf]
 exact Ext.app _ _ _
def growL (o:List Int) (u:Nat) (pre:List Nat):List Int:=(List.range o.length).map fun k=>if k∈pre then ((bt o k ||| u:Nat):Int) else o.getD k 0
theorem growL_len {o:List Int} {u:Nat} {pre:List Nat}:(growL o u pre).length=o.length:=by simp [growL]
theorem growL_nil {o:List Int} {u:Nat}:growL o u []=o:=by
 refine List.ext_getElem (by simp [growL]) fun i h1 h2=>?_
 simp [growL,List.getD,h2]
theorem growL_snoc {o:List Int} {u x:Nat} {pre:List Nat} (hx:x<o.length):(growL o u pre).set x ((bt o x ||| u:Nat):Int)=growL o u (pre++[x]):=by
 refine List.ext_getElem (by simp [growL]) fun i h1 h2=>?_
 rw [List.getElem_set]
 by_cases hi:x=i
 · subst hi; simp [growL]
 · rw [if_neg hi]
   simp [growL,Ne.symm hi]
theorem growL_get {o:List Int} {u x:Nat} {pre:List Nat} (hx:x<o.length) (hn:x ∉ pre):(growL o u pre).getD x 0=o.getD x 0:=by
 rw [growL,getD_map,if_pos hx,if_neg hn]
theorem growL_add {o:List Int} (ho:ord o=true) {i j:Nat} (hi:i<o.length):growL o (bt o j ||| 2 ^ j) (Am.bits (dn o i ||| 2 ^ i))=Wp o i j:=by
 rw [growL,Wp]
 refine List.map_congr_left fun k hk=>?_
 have hk':=List.mem_range.1 hk
 have hl:=Yz ho
 have:k∈Am.bits (dn o i ||| 2 ^ i)↔(k=i∨ab o k i=true):=by
  rw [Vl,Nat.testBit_or,Nat.testBit_two_pow,dn_bit' ho,Bool.or_eq_true,decide_eq_true_eq]
  constructor
  · rintro ⟨_,h | h⟩
    · exact .inr h
    · exact .inl h.symm
  · rintro (h | h)
    · exact ⟨by omega,.inr h.symm⟩
    · exact ⟨by omega,.inl h⟩
 by_cases h:k=i∨ab o k i=true
 · rw [if_pos h,if_pos (this.2 h)]
 · rw [if_neg h,if_neg (fun h'=>h (this.1 h'))]
theorem add_call [BitTab prog 1] {h:Yb} {o:List Int} (ho:ord o=true) {i j:Nat} (hi:i<o.length) (hj:j<o.length):APure prog 69 [ordV o,Zx i,Zx j] h (ordV (Wp o i j)):=by
 have hl:=Yz ho
 have hpw:=pow6 hl.2
 obtain ⟨hjn,hjl⟩:=ord_nat ho hj
 have h2j:2 ^ j<2 ^ o.length:=Nat.pow_lt_pow_right (by decide) hj
 have h2i:2 ^ i<2 ^ o.length:=Nat.pow_lt_pow_right (by decide) hi
 have hul:=Nat.or_lt_two_pow hjl h2j
 obtain ⟨u,hu⟩ : ∃ u,u=bt o j ||| 2 ^ j:=⟨_,rfl⟩
 rw [← hu] at hul
 have hor:Vn .or .i64 (o.getD j 0) (2 ^ j)=((u:Nat):Int):=by
  have:=bitsV_or (a:=bt o j) (b:=2 ^ j) (by omega) (by omega)
  rw [← hjn,Vv,← hu] at this; exact this
 refine ACall.forget (Low.ordV _) ?_
 refine s69_call (by simp) ?_
 simp only [s69]
 refine Ud fun N hN=>?_
 simp (maxSteps:=2000000) only [s69,↓Za,↓Zi,↓Zr,↓Ze,↓Zj,↓Zs,↓Zg,↓Zo,↓Zf,↓Zb,↓Zc,↓vdn,vup,Zm,Zk,Zn,Zl,Zh,List.map_cons,List.map_nil,cond_true,cond_false,aop,Zv,Zq,Zp,ev,sput,Zt,Zy,Ya,unK,Zd,Zw,Nat.reduceBEq,Nat.reduceAdd,Int.reduceBEq,Int.reduceBNe,Int.reduceLT,Zu,Zz,tup,tyf,boxO esz_77,Xj,We,zeroN]
 refine hN _ _ ?_
 clear hN N
 obtain ⟨n,hn⟩ : ∃ n,n=h.length:=⟨_,rfl⟩
 obtain ⟨H,hH⟩ : ∃ H,H=h++[Blk.cells (Xt o) 77 false]++[Blk.cells (ordN 0) 77 false]:=⟨_,rfl⟩
 rw [← hH]
 simp only [List.length_append,List.length_cons,List.length_nil,Nat.zero_add,← hn]
 have hHl:H.length=n+2:=by rw [hH,hn]; simp
 have b0:H[n]? = some (.cells (Xt o) 77 false):=by rw [hH,hn]; exact Yy (Yp _ _) _
 have b1:H[n+1]? = some (.cells (ordN 0) 77 false):=by
  rw [hH,hn]; have:=Yp (h++[Blk.cells (Xt o) 77 false]) (Blk.cells (ordN 0) 77 false)
  simpa using this
 have hE0:Ext (fun _=>False) h H:=by rw [hH,List.append_assoc]; exact Ext.app _ _ _
 clear hH
 refine Ud fun N hN=>?_
 refine aw_drawR (fun hp=>hp[n]? = some (.cells (Xt o) 77 false)) [(3,5)] (by kernel_rfl) (by kernel_rfl) (by kernel_rfl) (by kernel_rfl) b0 ?_
 simp (maxSteps:=2000000) only [s69,↓Za,↓Zi,↓Zr,↓Ze,↓Zj,↓Zs,↓Zg,↓Zo,↓Zf,↓Zb,↓Zc,↓vdn,vup,Zm,Zk,Zn,Zl,Zh,List.map_cons,List.map_nil,cond_true,cond_false,aop,Zv,Zq,Zp,ev,sput,Zt,Zy,Ya,unK,Zd,Zw,Nat.reduceBEq,Nat.reduceAdd,Int.reduceBEq,Int.reduceBNe,Int.reduceLT,Zu,Zz,tup,tyf,fldA Wz esz_75,idxA und_75 Xk (show j<6 by omega),shl1 (show j≤62 by omega),We,Xj]
 refine ⟨Zx (o.getD j 0),fun h0 hk=>?_,?_⟩
 · rw [loadI hk Xd hl.2 (show j<6 by omega)]
 simp (maxSteps:=2000000) only [s69,↓Za,↓Zi,↓Zr,↓Ze,↓Zj,↓Zs,↓Zg,↓Zo,↓Zf,↓Zb,↓Zc,↓vdn,vup,Zm,Zk,Zn,Zl,Zh,List.map_cons,List.map_nil,cond_true,cond_false,aop,Zv,Zq,Zp,ev,sput,Zt,Zy,Ya,unK,Zd,Zw,Nat.reduceBEq,Nat.reduceAdd,Int.reduceBEq,Int.reduceBNe,Int.reduceLT,Zu,Zz,tup,tyf,hor]
 refine ⟨Yy b0 _,?_⟩
 rw [storeI (v:=.int .i64 0) (e:=3) (Yp _ _) Xd,hHl]
 obtain ⟨G,hG⟩ : ∃ G,G=(H++[Blk.cells [Value.int .i64 0] 3 false]).set (n+2) (.cells [.int .i64 ((u:Nat):Int)] 3 false):=⟨_,rfl⟩
 rw [← hG]
 have hGl:G.length=n+3:=by rw [hG]; simp [hHl]
 have g0:G[n]? = some (.cells (Xt o) 77 false):=by rw [hG,List.getElem?_set_ne (by omega)]; exact Yy b0 _
 have g1:G[n+1]? = some (.cells (ordN 0) 77 false):=by rw [hG,List.getElem?_set_ne (by omega)]; exact Yy b1 _
 have g2:G[n+2]? = some (.cells [Zx (u:Nat)] 3 false):=by rw [hG]; exact Xm (by simp [hHl]) _
 have hEG:Ext (fun _=>False) h G:=⟨by omega,fun k hk _=>by rw [hG,List.getElem?_set_ne (by omega),List.getElem?_append_left (by omega)]; exact hE0.2 k hk id⟩
 clear hG b0 b1 hE0 hHl
 clear H
 refine ⟨g0,?_⟩
 refine hN _ _ ?_
 clear hN N
 have hdl:=dn_lt (o:=o) (i:=i)
 have hor2:Vn .or .i64 ((dn o i:Nat):Int) (2 ^ i)=((dn o i ||| 2 ^ i:Nat):Int):=by
  rw [← Vv]; exact bitsV_or (by omega) (by omega)
 simp (maxSteps:=2000000) only [s69,↓Za,↓Zi,↓Zr,↓Ze,↓Zj,↓Zs,↓Zg,↓Zo,↓Zf,↓Zb,↓Zc,↓vdn,vup,Zm,Zk,Zn,Zl,Zh,List.map_cons,List.map_nil,cond_true,cond_false,aop,Zv,Zq,Zp,ev,sput,Zt,Zy,Ya,unK,Zd,Zw,Nat.reduceBEq,Nat.reduceAdd,Int.reduceBEq,Int.reduceBNe,Int.reduceLT,Zu,Zz,tup,tyf]
 refine Xs [(2,1)] (by kernel_rfl) (by kernel_rfl) (by kernel_rfl) (by kernel_rfl) ?_
 simp (maxSteps:=2000000) only [s69,↓Za,↓Zi,↓Zr,↓Ze,↓Zj,↓Zs,↓Zg,↓Zo,↓Zf,↓Zb,↓Zc,↓vdn,vup,Zm,Zk,Zn,Zl,Zh,List.map_cons,List.map_nil,cond_true,cond_false,aop,Zv,Zq,Zp,ev,sput,Zt,Zy,Ya,unK,Zd,Zw,Nat.reduceBEq,Nat.reduceAdd,Int.reduceBEq,Int.reduceBNe,Int.reduceLT,Zu,Zz,tup,tyf,Xy g0 Yn hl.2,Yr,List.nil_append,List.append_nil,List.toList_toArray,List.cons_append]
 refine ⟨_,_,below_call ho,rfl,?_⟩
 simp (maxSteps:=2000000) only [s69,↓Za,↓Zi,↓Zr,↓Ze,↓Zj,↓Zs,↓Zg,↓Zo,↓Zf,↓Zb,↓Zc,↓vdn,vup,Zm,Zk,Zn,Zl,Zh,List.map_cons,List.map_nil,cond_true,cond_false,aop,Zv,Zq,Zp,ev,sput,Zt,Zy,Ya,unK,Zd,Zw,Nat.reduceBEq,Nat.reduceAdd,Int.reduceBEq,Int.reduceBNe,Int.reduceLT,Zu,Zz,tup,tyf,shl1 (show i≤62 by omega),hor2,Yr,List.nil_append,List.append_nil,List.toList_toArray,List.cons_append]
 refine ⟨_,_,elements_call,?_⟩
 have hsl:=Nat.or_lt_two_pow hdl h2i
 refine aw_range bitIter (bx:=G.length) (s:=dn o i ||| 2 ^ i) (et:=3) rfl (Yp _ _) (by omega) (fun pre hk=>hk[n]? = some (.cells (Xt (growL o u pre)) 77 false)∧hk[n+1]? = some (.cells (ordN 0) 77 false)∧hk[n+2]? = some (.cells [Zx (u:Nat)] 3 false)∧Ext (fun _=>False) h hk) ?_ ?_ ?_
 · have old : ∀ {k B},G[k]? = some B→((G++[Blk.cells [Zx ((dn o i ||| 2 ^ i:Nat):Int)] 3 false]).set G.length .dead)[k]? = some B:=fun {k B} hk=>by
    have:=Yg hk
    rw [List.getElem?_set_ne (by omega)]; exact Yy hk _
   refine ⟨by rw [growL_nil]; exact old g0,old g1,old g2,⟨by simp; omega,fun k hk _=>?_⟩⟩
   rw [List.getElem?_set_ne (by omega),List.getElem?_append_left (by omega)]; exact hEG.2 k hk id
 · rintro pre x hk hpre ⟨k0,k1,k2,hEk⟩
   obtain ⟨hx64,hxb⟩:=Vl.1 (mem_pre hpre)
   have hxn:x<o.length:=by
    rcases Nat.lt_or_ge x o.length with h | h
    · exact h
    · rw [Nat.testBit_lt_two_pow (Nat.lt_of_lt_of_le hsl (Nat.pow_le_pow_right (by decide) h))] at hxb; cases hxb
   have hnp:x ∉ pre:=fun hx=>by
    obtain ⟨t,ht⟩:=hpre
    have hnd:=bits_nodup (dn o i ||| 2 ^ i)
    rw [← ht] at hnd
    have:=(List.nodup_append.1 (List.nodup_append.1 hnd).1).2.2 x hx x (by simp)
    exact this rfl
   have hgl:(growL o u pre).length≤6:=by rw [growL_len]; exact hl.2
   obtain ⟨hxv,hxl⟩:=ord_nat ho hxn
   have hor3:Vn .or .i64 ((growL o u pre).getD x 0) ((u:Nat):Int)=((bt o x ||| u:Nat):Int):=by
    rw [growL_get hxn hnp,hxv]; exact bitsV_or (by omega) (by omega)
   simp (maxSteps:=2000000) only [s69,↓Za,↓Zi,↓Zr,↓Ze,↓Zj,↓Zs,↓Zg,↓Zo,↓Zf,↓Zb,↓Zc,↓vdn,vup,Zm,Zk,Zn,Zl,Zh,List.map_cons,List.map_nil,cond_true,cond_false,aop,Zv,Zq,Zp,ev,sput,Zt,Zy,Ya,unK,Zd,Zw,Nat.reduceBEq,Nat.reduceAdd,Int.reduceBEq,Int.reduceBNe,Int.reduceLT,Zu,Zz,tup,tyf,r69_0_a,r69_0_b]
   refine Xs [] (by kernel_rfl) (by kernel_rfl) (by kernel_rfl) (by kernel_rfl) ?_
   simp (maxSteps:=2000000) only [s69,↓Za,↓Zi,↓Zr,↓Ze,↓Zj,↓Zs,↓Zg,↓Zo,↓Zf,↓Zb,↓Zc,↓vdn,vup,Zm,Zk,Zn,Zl,Zh,List.map_cons,List.map_nil,cond_true,cond_false,aop,Zv,Zq,Zp,ev,sput,Zt,Zy,Ya,unK,Zd,Zw,Nat.reduceBEq,Nat.reduceAdd,Int.reduceBEq,Int.reduceBNe,Int.reduceLT,Zu,Zz,tup,tyf,fldA Wz esz_75,idxA und_75 Xk (show x<6 by omega),loadI k0 Xd hgl (show x<6 by omega),Wa k2 Xd,hor3]
   rw [storeN k0 Xd hgl (by rw [growL_len]; exact hxn),growL_snoc hxn]
   have hlk:=Yg k0
   refine ⟨Xm hlk _,?_,?_,⟨by simp; exact hEk.1,fun k hk' _=>?_⟩⟩
   · rw [List.getElem?_set_ne (by omega)]; exact k1
   · rw [List.getElem?_set_ne (by omega)]; exact k2
   · rw [List.getElem?_set_ne (by omega)]; exact hEk.2 k hk' id
 · rintro hk ⟨k0,k1,k2,hEk⟩
   rw [hu,growL_add ho hi] at k0
   have hal:(Wp o i j).length≤6:=by rw [Xh]; exact hl.2
   have hlk:=Yg k1
   have k1' : (hk.set (n+1) (.cells (Xt (Wp o i j)) 77 false))[n+1]? = some (.cells (Xt (Wp o i j)) 77 false):=Xm hlk _
   simp (maxSteps:=2000000) only [s69,↓Za,↓Zi,↓Zr,↓Ze,↓Zj,↓Zs,↓Zg,↓Zo,↓Zf,↓Zb,↓Zc,↓vdn,vup,Zm,Zk,Zn,Zl,Zh,List.map_cons,List.map_nil,cond_true,cond_false,aop,Zv,Zq,Zp,ev,sput,Zt,Zy,Ya,unK,Zd,Zw,Nat.reduceBEq,Nat.reduceAdd,Int.reduceBEq,Int.reduceBNe,Int.reduceLT,Zu,Zz,tup,tyf,Xy k0 Yn hal]
   rw [storeO k1 rfl Yn hal]
   simp (maxSteps:=2000000) only [s69,↓Za,↓Zi,↓Zr,↓Ze,↓Zj,↓Zs,↓Zg,↓Zo,↓Zf,↓Zb,↓Zc,↓vdn,vup,Zm,Zk,Zn,Zl,Zh,List.map_cons,List.map_nil,cond_true,cond_false,aop,Zv,Zq,Zp,ev,sput,Zt,Zy,Ya,unK,Zd,Zw,Nat.reduceBEq,Nat.reduceAdd,Int.reduceBEq,Int.reduceBNe,Int.reduceLT,Zu,Zz,tup,tyf,Xy k1' Yn hal]
   exact ⟨by simp; exact hEk.1,fun k hk' _=>by rw [List.getElem?_set_ne (by omega)]; exact hEk.2 k hk' id⟩
end Go.Proofs.Tryd.Am
namespace Go.Proofs.Tryd.Am
open Go.Am Ord
set_option maxRecDepth 100000
set_option maxHeartbeats 1000000
theorem clone_new [Tabs prog] {h:Yb} {v:Value} {xs:List Int} (hv:IntSl h v xs) (hx:xs≠[]) (hl:xs.length<1099511627776):ACall prog 66 [v] h fun r h'=>IntSl h' r xs∧(∃ g,h' = h++g)∧∀ b,Ye r=some b→h.length≤b:=by
 refine s66_call (by simp) ?_
 have hv':=hv
 rcases hv with ⟨rfl,rfl⟩ | ⟨b,o,sp,cap,c,e,ro,rfl,hc,hb,_⟩
 · exact absurd rfl hx
 · simp (maxSteps:=2000000) only [s66,↓Za,↓Zi,↓Zr,↓Ze,↓Zj,↓Zs,↓Zg,↓Zo,↓Zf,↓Zb,↓Zc,↓vdn,vup,Zm,Zk,Zn,Zl,Zh,List.map_cons,List.map_nil,cond_true,cond_false,aop,Zv,Zq,Zp,ev,sput,Zt,Zy,Ya,unK,Zd,Zw,Nat.reduceBEq,Nat.reduceAdd,Int.reduceBEq,Int.reduceBNe,Int.reduceLT,Zu,Zz,tup,tyf,Option.isSome_some]
   simp only [Xi,el_22,zero_3,Xk,reps,fillL,mkb,Ys]
   refine And.intro rfl (And.intro Nat.zero_lt_one (And.intro (Nat.zero_le _) ?_))
   refine (hv'.grow [.ints [] 3 false]).copyOwn hx app_22_22 hl (by rw [List.getElem?_append_right (Nat.le_refl _)]; simp) ?_
   refine ⟨.inr ⟨_,0,some 0,_,_,3,false,rfl,Nat.le_refl _,by simp only [view,Yp]; rfl,fun i hi=>?_⟩,⟨_,List.append_assoc _ _ _⟩,fun b hb=>?_⟩
   · simp [List.getD,hi]
   · cases hb; simp
theorem slice_new [Tabs prog] {h:Yb} {o:List Int} (hl:o.length≤6) (h1:1≤o.length):ACall prog 70 [ordV o] h fun r h'=>IntSl h' r o∧Ext (fun _=>False) h h'∧∀ b,Ye r=some b→h.length≤b:=by
 refine s70_call (by simp) ?_
 simp only [s70]
 refine Ud fun N hN=>?_
 simp (maxSteps:=2000000) only [s70,↓Za,↓Zi,↓Zr,↓Ze,↓Zj,↓Zs,↓Zg,↓Zo,↓Zf,↓Zb,↓Zc,↓vdn,vup,Zm,Zk,Zn,Zl,Zh,List.map_cons,List.map_nil,cond_true,cond_false,aop,Zv,Zq,Zp,ev,sput,Zt,Zy,Ya,unK,Zd,Zw,Nat.reduceBEq,Nat.reduceAdd,Int.reduceBEq,Int.reduceBNe,Int.reduceLT,Zu,Zz,tup,tyf,boxO esz_77,Xj]
 refine hN _ _ ?_
 clear hN N
 have b0:=Yp h (Blk.cells (Xt o) 77 false)
 have hv:IntSl (h++[Blk.cells (Xt o) 77 false]) (.slice (some ⟨h.length,1,none⟩) o.length 6) o :=
  .inr ⟨h.length,1,none,6,Xt o,77,false,rfl,hl,by simp [view,Blk.view],fun i hi=>ordC_get hl (by omega)⟩
 have hsl : ∀ {K:Value→Prop},K (.slice (some ⟨h.length,1,none⟩) o.length 6)→Xq prog 75 (.pointer (some ⟨h.length,1,none⟩)) none (some (Zx (o.length:Nat))) none K:=fun {K} hk=>by
  simp only [Xq,und_75,Xk,bnd]
  refine ⟨Int.le_refl _,by omega,by omega,?_⟩
  have e1 : ¬ (((6:Nat):Int)=((0:Nat):Int)):=by decide
  rw [if_neg e1]
  simpa using hk
 simp (maxSteps:=2000000) only [s70,↓Za,↓Zi,↓Zr,↓Ze,↓Zj,↓Zs,↓Zg,↓Zo,↓Zf,↓Zb,↓Zc,↓vdn,vup,Zm,Zk,Zn,Zl,Zh,List.map_cons,List.map_nil,cond_true,cond_false,aop,Zv,Zq,Zp,ev,sput,Zt,Zy,Ya,unK,Zd,Zw,Nat.reduceBEq,Nat.reduceAdd,Int.reduceBEq,Int.reduceBNe,Int.reduceLT,Zu,Zz,tup,tyf,fldA Wz esz_75,fldA fld_77_0 Xk,loadN b0 Xd,Option.map_none,Option.map_some]
 refine hsl ?_
 simp (maxSteps:=2000000) only [s70,↓Za,↓Zi,↓Zr,↓Ze,↓Zj,↓Zs,↓Zg,↓Zo,↓Zf,↓Zb,↓Zc,↓vdn,vup,Zm,Zk,Zn,Zl,Zh,List.map_cons,List.map_nil,cond_true,cond_false,aop,Zv,Zq,Zp,ev,sput,Zt,Zy,Ya,unK,Zd,Zw,Nat.reduceBEq,Nat.reduceAdd,Int.reduceBEq,Int.reduceBNe,Int.reduceLT,Zu,Zz,tup,tyf,Yr,List.nil_append,List.append_nil,List.toList_toArray,List.cons_append]
 refine (clone_new hv (fun he=>by rw [he] at h1; simp at h1) (by omega)).mono ?_
 rintro r _ ⟨hr,⟨g,rfl⟩,hb⟩
 exact ⟨hr,by rw [List.append_assoc]; exact Ext.app _ _ _,fun b h1=>by have:=hb b h1; simp at this; omega⟩
def elI (o:List Int) (i:Int):Bool:=decide (0≤i)&&decide (i<o.length)
def AddR (o:List Int) (i j:Int) (s:Value) (e:Int) (h:Yb):Prop :=
 if ord o=true∧elI o i=true∧elI o j=true then (if fr o i.toNat j.toNat=true then e=0∧IntSl h s (Wp o i.toNat j.toNat) else e=5∧s = .slice none 0 0) else e=2∧s = .slice none 0 0
theorem add21_new [BitTab prog 1] {h:Yb} {v:Value} {o:List Int} {i j:Int} (hv:IntSl h v o) (hl:o.length<9223372036854775808) (hx : ∀ x∈o,-9223372036854775808≤x∧x<9223372036854775808) :
  ACall prog 21 [v,Zx i,Zx j] h fun r h'=>Ext (fun _=>False) h h'∧∃ s e,r = .tuple #[s,.int .i64 e]∧AddR o i j s e h'∧∀ b,Ye s=some b→h.length≤b:=by
 refine s21_call (by simp) ?_
 simp (maxSteps:=2000000) only [s21,↓Za,↓Zi,↓Zr,↓Ze,↓Zj,↓Zs,↓Zg,↓Zo,↓Zf,↓Zb,↓Zc,↓vdn,vup,Zm,Zk,Zn,Zl,Zh,List.map_cons,List.map_nil,cond_true,cond_false,aop,Zv,Zq,Zp,ev,sput,Zt,Zy,Ya,unK,Zd,Zw,Nat.reduceBEq,Nat.reduceAdd,Int.reduceBEq,Int.reduceBNe,Int.reduceLT,Zu,Zz,tup,tyf,Yr,List.nil_append,List.append_nil,List.toList_toArray,List.cons_append]
 refine (read_call hv hl hx).mono ?_
 rintro _ g ⟨rfl,rfl⟩
 simp (maxSteps:=2000000) only [s21,↓Za,↓Zi,↓Zr,↓Ze,↓Zj,↓Zs,↓Zg,↓Zo,↓Zf,↓Zb,↓Zc,↓vdn,vup,Zm,Zk,Zn,Zl,Zh,List.map_cons,List.map_nil,cond_true,cond_false,aop,Zv,Zq,Zp,ev,sput,Zt,Zy,Ya,unK,Zd,Zw,Nat.reduceBEq,Nat.reduceAdd,Int.reduceBEq,Int.reduceBNe,Int.reduceLT,Zu,Zz,tup,tyf,We,Xj,zeroN,zero_77]
 rw [storeRd]
 obtain ⟨hE,hb⟩:=rdBox g o
 generalize hgl:g.length=gl at hE hb ⊢
 generalize (g++[Blk.cells (ordN 0) 77 false]).set gl (.cells (rdC o) 77 false)=G at hE hb ⊢
 cases ho:ord o with
 | false =>
   simp (maxSteps:=2000000) only [s21,↓Za,↓Zi,↓Zr,↓Ze,↓Zj,↓Zs,↓Zg,↓Zo,↓Zf,↓Zb,↓Zc,↓vdn,vup,Zm,Zk,Zn,Zl,Zh,List.map_cons,List.map_nil,cond_true,cond_false,aop,Zv,Zq,Zp,ev,sput,Zt,Zy,Ya,unK,Zd,Zw,Nat.reduceBEq,Nat.reduceAdd,Int.reduceBEq,Int.reduceBNe,Int.reduceLT,Zu,Zz,tup,tyf,ho]
   refine ⟨hE,_,_,rfl,?_,fun b hb=>by cases hb⟩
   simp [AddR,ho]
 | true =>
   have hrd:rdC o=Xt o:=if_pos (Yz ho)
   have hlen:=Yz ho
   rw [hrd] at hb
   simp (maxSteps:=2000000) only [s21,↓Za,↓Zi,↓Zr,↓Ze,↓Zj,↓Zs,↓Zg,↓Zo,↓Zf,↓Zb,↓Zc,↓vdn,vup,Zm,Zk,Zn,Zl,Zh,List.map_cons,List.map_nil,cond_true,cond_false,aop,Zv,Zq,Zp,ev,sput,Zt,Zy,Ya,unK,Zd,Zw,Nat.reduceBEq,Nat.reduceAdd,Int.reduceBEq,Int.reduceBNe,Int.reduceLT,Zu,Zz,tup,tyf,ho,Xy hb Yn hlen.2,Yr,List.nil_append,List.append_nil,List.toList_toArray,List.cons_append]
   refine element_call.mono ?_
   rintro _ _ ⟨rfl,rfl⟩
   cases hi:(decide (0≤i)&&decide (i<o.length)) with
   | false =>
     simp (maxSteps:=2000000) only [s21,↓Za,↓Zi,↓Zr,↓Ze,↓Zj,↓Zs,↓Zg,↓Zo,↓Zf,↓Zb,↓Zc,↓vdn,vup,Zm,Zk,Zn,Zl,Zh,List.map_cons,List.map_nil,cond_true,cond_false,aop,Zv,Zq,Zp,ev,sput,Zt,Zy,Ya,unK,Zd,Zw,Nat.reduceBEq,Nat.reduceAdd,Int.reduceBEq,Int.reduceBNe,Int.reduceLT,Zu,Zz,tup,tyf,hi]
     refine ⟨hE,_,_,rfl,?_,fun b hb=>by cases hb⟩
     simp [AddR,ho,elI,hi]
   | true =>
     simp (maxSteps:=2000000) only [s21,↓Za,↓Zi,↓Zr,↓Ze,↓Zj,↓Zs,↓Zg,↓Zo,↓Zf,↓Zb,↓Zc,↓vdn,vup,Zm,Zk,Zn,Zl,Zh,List.map_cons,List.map_nil,cond_true,cond_false,aop,Zv,Zq,Zp,ev,sput,Zt,Zy,Ya,unK,Zd,Zw,Nat.reduceBEq,Nat.reduceAdd,Int.reduceBEq,Int.reduceBNe,Int.reduceLT,Zu,Zz,tup,tyf,hi,Xy hb Yn hlen.2,Yr,List.nil_append,List.append_nil,List.toList_toArray,List.cons_append]
     refine element_call.mono ?_
     rintro _ _ ⟨rfl,rfl⟩
     cases hj:(decide (0≤j)&&decide (j<o.length)) with
     | false =>
       simp (maxSteps:=2000000) only [s21,↓Za,↓Zi,↓Zr,↓Ze,↓Zj,↓Zs,↓Zg,↓Zo,↓Zf,↓Zb,↓Zc,↓vdn,vup,Zm,Zk,Zn,Zl,Zh,List.map_cons,List.map_nil,cond_true,cond_false,aop,Zv,Zq,Zp,ev,sput,Zt,Zy,Ya,unK,Zd,Zw,Nat.reduceBEq,Nat.reduceAdd,Int.reduceBEq,Int.reduceBNe,Int.reduceLT,Zu,Zz,tup,tyf,hj]
       refine ⟨hE,_,_,rfl,?_,fun b hb=>by cases hb⟩
       simp [AddR,ho,elI,hj]
     | true =>
       have hi':=hi
       have hj':=hj
       simp only [Bool.and_eq_true,decide_eq_true_eq] at hi' hj'
       obtain ⟨i,rfl⟩ : ∃ k:Nat,i=k:=⟨i.toNat,by omega⟩
       obtain ⟨j,rfl⟩ : ∃ k:Nat,j=k:=⟨j.toNat,by omega⟩
       simp (maxSteps:=2000000) only [s21,↓Za,↓Zi,↓Zr,↓Ze,↓Zj,↓Zs,↓Zg,↓Zo,↓Zf,↓Zb,↓Zc,↓vdn,vup,Zm,Zk,Zn,Zl,Zh,List.map_cons,List.map_nil,cond_true,cond_false,aop,Zv,Zq,Zp,ev,sput,Zt,Zy,Ya,unK,Zd,Zw,Nat.reduceBEq,Nat.reduceAdd,Int.reduceBEq,Int.reduceBNe,Int.reduceLT,Zu,Zz,tup,tyf,hj,Xy hb Yn hlen.2,Yr,List.nil_append,List.append_nil,List.toList_toArray,List.cons_append]
       refine (free_call ho (by omega) (by omega)).mono ?_
       rintro _ _ ⟨rfl,rfl⟩
       cases hf:fr o i j with
       | false =>
         simp (maxSteps:=2000000) only [s21,↓Za,↓Zi,↓Zr,↓Ze,↓Zj,↓Zs,↓Zg,↓Zo,↓Zf,↓Zb,↓Zc,↓vdn,vup,Zm,Zk,Zn,Zl,Zh,List.map_cons,List.map_nil,cond_true,cond_false,aop,Zv,Zq,Zp,ev,sput,Zt,Zy,Ya,unK,Zd,Zw,Nat.reduceBEq,Nat.reduceAdd,Int.reduceBEq,Int.reduceBNe,Int.reduceLT,Zu,Zz,tup,tyf,hf]
         refine ⟨hE,_,_,rfl,?_,fun b hb=>by cases hb⟩
         simp [AddR,ho,elI,hi',hj',hf]
       | true =>
         simp (maxSteps:=2000000) only [s21,↓Za,↓Zi,↓Zr,↓Ze,↓Zj,↓Zs,↓Zg,↓Zo,↓Zf,↓Zb,↓Zc,↓vdn,vup,Zm,Zk,Zn,Zl,Zh,List.map_cons,List.map_nil,cond_true,cond_false,aop,Zv,Zq,Zp,ev,sput,Zt,Zy,Ya,unK,Zd,Zw,Nat.reduceBEq,Nat.reduceAdd,Int.reduceBEq,Int.reduceBNe,Int.reduceLT,Zu,Zz,tup,tyf,hf,Xy hb Yn hlen.2,Yr,List.nil_append,List.append_nil,List.toList_toArray,List.cons_append]
         refine (add_call ho (by omega) (by omega)).mono ?_
         rintro _ _ ⟨rfl,rfl⟩
         refine (slice_new (by rw [Xh]; exact hlen.2) (by rw [Xh]; exact hlen.1)).mono ?_
         rintro r h3 ⟨hr,hE3,hb3⟩
         refine ⟨hE.trans hE3,_,_,rfl,?_,fun b h1=>by have:=hb3 b h1; have:=hE.1; omega⟩
         simp [AddR,ho,elI,hi',hj',hf,hr]
theorem add21_call [BitTab prog 1] {h:Yb} {v:Value} {o:List Int} {i j:Int} (hv:IntSl h v o) (hl:o.length<9223372036854775808) (hx : ∀ x∈o,-9223372036854775808≤x∧x<9223372036854775808) :
  ACall prog 21 [v,Zx i,Zx j] h fun r h'=>Ext (fun _=>False) h h'∧∃ s e,r = .tuple #[s,.int .i64 e]∧AddR o i j s e h' :=
 (add21_new hv hl hx).mono fun _ _ ⟨h1,s,e,h2,h3,_⟩=>⟨h1,s,e,h2,h3⟩
end Go.Proofs.Tryd.Am
namespace Go.Proofs.Tryd.Am
open Go.Am
set_option maxRecDepth 100000
/-! 3: planchet planchetlaw07.OrderCounts -/
@[reducible] def q3_0:SCode:=.region [⟨some 6,.assign (.const (.bool false)),none⟩]
@[reducible] def q3_1:SCode:=.region [⟨some 27,.move (.tmp 0),none⟩,
  ⟨some 28,.call { callee:=.value (.func 18),args:=#[.tmp 27],argTypes:=#[22] },none⟩,
  ⟨some 29,.call { callee:=.value (.func 17),args:=#[.tmp 28],argTypes:=#[22] },none⟩,
  ⟨some 26,.move (.tmp 29),none⟩,
  ⟨some 30,.extract (.tmp 26) 0,none⟩,
  ⟨some 31,.extract (.tmp 26) 1,none⟩,
  ⟨some 7,.assign (.tmp 30),none⟩,
  ⟨some 8,.assign (.tmp 31),none⟩]
@[reducible] def q3_2:SCode:=.region [⟨some 32,.move (.tmp 8),none⟩,
  ⟨some 33,.binOp .neq 23 (.tmp 32) (.const (.int .i64 0)) 23,none⟩,
  ⟨some 34,.move (.tmp 33),none⟩,
  ⟨some 35,.move (.tmp 0),some (34,false)⟩,
  ⟨some 36,.call { callee:=.value (.func 19),args:=#[.tmp 35],argTypes:=#[22] },some (34,false)⟩,
  ⟨some 37,.unOp .not 4 (.tmp 36),some (34,false)⟩,
  ⟨some 38,.pick (.tmp 34) (.const (.bool true)) (.tmp 37),none⟩]
@[reducible] def q3_3:SCode:=.region [⟨some 39,.move (.tmp 8),none⟩,
  ⟨some 40,.binOp .eql 23 (.tmp 39) (.const (.int .i64 2)) 23,none⟩,
  ⟨some 41,.move (.tmp 40),none⟩,
  ⟨some 42,.call { callee:=.value (.func 20),args:=#[],argTypes:=#[] },some (41,true)⟩,
  ⟨some 43,.pick (.tmp 41) (.tmp 42) (.const (.bool false)),none⟩,
  ⟨some 6,.assign (.tmp 43),none⟩]
@[reducible] def q3_4:SCode:=.region [⟨some 9,.assign (.const (.int .i64 0)),none⟩]
@[reducible] def q3_5:SCode:=.region [⟨some 44,.move (.tmp 0),none⟩,
  ⟨some 45,.call { callee:=.builtin .len,args:=#[.tmp 44],argTypes:=#[22] },none⟩,
  ⟨some 46,.move (.const (.int .i64 0)),none⟩]
@[reducible] def q3_6:SCode:=.region [⟨some 47,.binOp .lss 3 (.tmp 46) (.tmp 45) 3,none⟩]
@[reducible] def q3_7:SCode:=.region [⟨some 48,.move (.tmp 46),none⟩,
  ⟨some 10,.assign (.tmp 48),none⟩]
@[reducible] def q3_8:SCode:=.region [⟨some 11,.assign (.const (.bool true)),none⟩]
@[reducible] def q3_9:SCode:=.region [⟨some 49,.move (.tmp 0),none⟩,
  ⟨some 50,.call { callee:=.builtin .len,args:=#[.tmp 49],argTypes:=#[22] },none⟩,
  ⟨some 51,.move (.const (.int .i64 0)),none⟩]
@[reducible] def q3_10:SCode:=.region [⟨some 52,.binOp .lss 3 (.tmp 51) (.tmp 50) 3,none⟩]
@[reducible] def q3_11:SCode:=.region [⟨some 53,.indexAddr 22 (.tmp 49) (.tmp 51),none⟩,
  ⟨some 54,.load 3 (.tmp 53),none⟩,
  ⟨some 13,.assign (.tmp 54),none⟩]
@[reducible] def q3_12:SCode:=.region [⟨some 55,.move (.tmp 11),none⟩,
  ⟨some 56,.move (.tmp 55),none⟩,
  ⟨some 57,.move (.tmp 13),some (56,true)⟩,
  ⟨some 58,.move (.tmp 10),some (56,true)⟩,
  ⟨some 59,.binOp .shr 3 (.tmp 57) (.tmp 58) 3,some (56,true)⟩,
  ⟨some 60,.binOp .and 3 (.tmp 59) (.const (.int .i64 1)) 3,some (56,true)⟩,
  ⟨some 61,.binOp .eql 3 (.tmp 60) (.const (.int .i64 0)) 3,some (56,true)⟩,
  ⟨some 62,.pick (.tmp 56) (.tmp 61) (.const (.bool false)),none⟩,
  ⟨some 11,.assign (.tmp 62),none⟩]
@[reducible] def q3_13:SCode:=.region [⟨some 63,.binOp .add 3 (.tmp 51) (.const (.int .i64 1)) 3,none⟩,
  ⟨some 51,.move (.tmp 63),none⟩]
def l3_0:SCode:=(.seq q3_10 (.seq (.cond (.tmp 52) .skip (.exit 2)) (.seq (.block 3 (.seq q3_11 q3_12)) q3_13)))
@[reducible] def q3_14:SCode:=.region [⟨some 64,.move (.tmp 11),none⟩,
  ⟨some 65,.unOp .not 4 (.tmp 64),none⟩]
@[reducible] def q3_15:SCode:=.region [⟨some 66,.move (.tmp 0),none⟩,
  ⟨some 67,.call { callee:=.builtin .len,args:=#[.tmp 66],argTypes:=#[22] },none⟩,
  ⟨some 68,.binOp .eql 3 (.tmp 67) (.const (.int .i64 1)) 3,none⟩]
@[reducible] def q3_16:SCode:=.region [⟨some 69,.move (.tmp 9),none⟩,
  ⟨some 70,.binOp .add 3 (.tmp 69) (.const (.int .i64 1)) 3,none⟩,
  ⟨some 9,.assign (.tmp 70),none⟩]
@[reducible] def q3_17:SCode:=.region [⟨some 14,.assign (.const (.slice none 0 0)),none⟩]
@[reducible] def q3_18:SCode:=.region [⟨some 71,.move (.tmp 0),none⟩,
  ⟨some 72,.call { callee:=.builtin .len,args:=#[.tmp 71],argTypes:=#[22] },none⟩,
  ⟨some 73,.move (.const (.int .i64 0)),none⟩]
@[reducible] def q3_19:SCode:=.region [⟨some 74,.binOp .lss 3 (.tmp 73) (.tmp 72) 3,none⟩]
@[reducible] def q3_20:SCode:=.region [⟨some 75,.move (.tmp 73),none⟩,
  ⟨some 76,.indexAddr 22 (.tmp 71) (.tmp 73),none⟩,
  ⟨some 77,.load 3 (.tmp 76),none⟩,
  ⟨some 15,.assign (.tmp 75),none⟩,
  ⟨some 16,.assign (.tmp 77),none⟩]
@[reducible] def q3_21:SCode:=.region [⟨some 78,.move (.tmp 15),none⟩,
  ⟨some 79,.move (.tmp 10),none⟩,
  ⟨some 80,.binOp .neq 3 (.tmp 78) (.tmp 79) 3,none⟩]
def q3_22:SCode:=.draw [⟨some 81,.move (.tmp 14),none⟩,
    ⟨some 82,.move (.tmp 16),none⟩,
    ⟨some 83,.move (.tmp 10),none⟩,
    ⟨some 84,.binOp .shl 3 (.const (.int .i64 1)) (.tmp 83) 3,none⟩,
    ⟨some 85,.binOp .sub 3 (.tmp 84) (.const (.int .i64 1)) 3,none⟩,
    ⟨some 86,.binOp .and 3 (.tmp 82) (.tmp 85) 3,none⟩,
    ⟨some 87,.move (.tmp 16),none⟩,
    ⟨some 88,.move (.tmp 10),none⟩,
    ⟨some 89,.binOp .add 3 (.tmp 88) (.const (.int .i64 1)) 3,none⟩,
    ⟨some 90,.binOp .shr 3 (.tmp 87) (.tmp 89) 3,none⟩,
    ⟨some 91,.move (.tmp 10),none⟩,
    ⟨some 92,.binOp .shl 3 (.tmp 90) (.tmp 91) 3,none⟩,
    ⟨some 93,.binOp .or 3 (.tmp 86) (.tmp 92) 3,none⟩,
    ⟨some 94,.buildSlice 22 1 #[(0,.tmp 93)],none⟩,
    ⟨some 95,.call { callee:=.builtin .append,args:=#[.tmp 81,.tmp 94],argTypes:=#[22,22] },none⟩,
    ⟨some 14,.assign (.tmp 95),none⟩]
  [[],[],[],[2],[3],[1,4],[],[],[7],[6,8],[],[9,10],[5,11],[12],[0,13],[14,14,0,1,2,3,4,5,6,7,8,9,10,11,12,13,14]]
@[reducible] def q3_23:SCode:=.region [⟨some 96,.binOp .add 3 (.tmp 73) (.const (.int .i64 1)) 3,none⟩,
  ⟨some 73,.move (.tmp 96),none⟩]
def l3_1:SCode:=(.seq q3_19 (.seq (.cond (.tmp 74) .skip (.exit 4)) (.seq (.block 5 (.seq q3_20 (.seq q3_21 (.cond (.tmp 80) q3_22 .skip)))) q3_23)))
@[reducible] def q3_24:SCode:=.region [⟨some 98,.move (.tmp 14),none⟩,
  ⟨some 99,.call { callee:=.value (.func 17),args:=#[.tmp 98],argTypes:=#[22] },none⟩,
  ⟨some 97,.move (.tmp 99),none⟩,
  ⟨some 100,.extract (.tmp 97) 0,none⟩,
  ⟨some 101,.extract (.tmp 97) 1,none⟩,
  ⟨some 17,.assign (.tmp 100),none⟩,
  ⟨some 18,.assign (.tmp 101),none⟩]
@[reducible] def q3_25:SCode:=.region [⟨some 102,.move (.tmp 18),none⟩,
  ⟨some 103,.binOp .neq 23 (.tmp 102) (.const (.int .i64 0)) 23,none⟩]
@[reducible] def q3_26:SCode:=.region [⟨some 6,.assign (.const (.bool false)),none⟩]
@[reducible] def q3_27:SCode:=.region [⟨some 104,.move (.tmp 9),none⟩,
  ⟨some 105,.move (.tmp 17),none⟩,
  ⟨some 106,.binOp .add 3 (.tmp 104) (.tmp 105) 3,none⟩,
  ⟨some 9,.assign (.tmp 106),none⟩]
@[reducible] def q3_28:SCode:=.region [⟨some 107,.binOp .add 3 (.tmp 46) (.const (.int .i64 1)) 3,none⟩,
  ⟨some 46,.move (.tmp 107),none⟩]
def l3_2:SCode:=(.seq q3_6 (.seq (.cond (.tmp 47) .skip (.exit 0)) (.seq (.block 1 (.seq q3_7 (.seq q3_8 (.seq (.seq q3_9 (.block 2 (.loop l3_0))) (.seq (.seq q3_14 (.cond (.tmp 65) (.exit 1) .skip)) (.seq (.seq q3_15 (.cond (.tmp 68) (.seq q3_16 (.exit 1)) .skip)) (.seq q3_17 (.seq (.seq q3_18 (.block 4 (.loop l3_1))) (.seq q3_24 (.seq (.seq q3_25 (.cond (.tmp 103) (.seq q3_26 .ret) .skip)) q3_27)))))))))) q3_28)))
@[reducible] def q3_29:SCode:=.region [⟨some 108,.move (.tmp 9),none⟩,
  ⟨some 109,.move (.tmp 7),none⟩,
  ⟨some 110,.binOp .neq 3 (.tmp 108) (.tmp 109) 3,none⟩]
@[reducible] def q3_30:SCode:=.region [⟨some 6,.assign (.const (.bool false)),none⟩]
def q3_31:SCode:=.draw [⟨some 111,.move (.tmp 1),none⟩,
    ⟨some 112,.convert 3 29 (.tmp 111),none⟩,
    ⟨some 113,.move (.tmp 0),none⟩,
    ⟨some 114,.call { callee:=.builtin .len,args:=#[.tmp 113],argTypes:=#[22] },none⟩,
    ⟨some 115,.convert 3 29 (.tmp 114),none⟩,
    ⟨some 116,.binOp .rem 29 (.tmp 112) (.tmp 115) 29,none⟩,
    ⟨some 117,.convert 29 3 (.tmp 116),none⟩,
    ⟨some 118,.move (.tmp 2),none⟩,
    ⟨some 119,.convert 3 29 (.tmp 118),none⟩,
    ⟨some 120,.move (.tmp 0),none⟩,
    ⟨some 121,.call { callee:=.builtin .len,args:=#[.tmp 120],argTypes:=#[22] },none⟩,
    ⟨some 122,.convert 3 29 (.tmp 121),none⟩,
    ⟨some 123,.binOp .rem 29 (.tmp 119) (.tmp 122) 29,none⟩,
    ⟨some 124,.convert 29 3 (.tmp 123),none⟩,
    ⟨some 1,.assign (.tmp 117),none⟩,
    ⟨some 2,.assign (.tmp 124),none⟩]
  [[],[0],[],[2],[3],[1,4],[5],[],[7],[],[9],[10],[8,11],[12],[6,0,1,2,3,4,5,6],[13,14,0,1,2,3,4,5,6,7,8,9,10,11,12,13,14]]
@[reducible] def q3_32:SCode:=.region [⟨some 126,.move (.tmp 0),none⟩,
  ⟨some 127,.call { callee:=.value (.func 18),args:=#[.tmp 126],argTypes:=#[22] },none⟩,
  ⟨some 128,.move (.tmp 1),none⟩,
  ⟨some 129,.move (.tmp 2),none⟩,
  ⟨some 130,.call { callee:=.value (.func 21),args:=#[.tmp 127,.tmp 128,.tmp 129],argTypes:=#[22,3,3] },none⟩,
  ⟨some 125,.move (.tmp 130),none⟩,
  ⟨some 131,.extract (.tmp 125) 0,none⟩,
  ⟨some 132,.extract (.tmp 125) 1,none⟩,
  ⟨some 19,.assign (.tmp 131),none⟩,
  ⟨some 8,.assign (.tmp 132),none⟩]
@[reducible] def q3_33:SCode:=.region [⟨some 134,.move (.tmp 0),none⟩,
  ⟨some 135,.call { callee:=.value (.func 18),args:=#[.tmp 134],argTypes:=#[22] },none⟩,
  ⟨some 136,.move (.tmp 2),none⟩,
  ⟨some 137,.move (.tmp 1),none⟩,
  ⟨some 138,.call { callee:=.value (.func 21),args:=#[.tmp 135,.tmp 136,.tmp 137],argTypes:=#[22,3,3] },none⟩,
  ⟨some 133,.move (.tmp 138),none⟩,
  ⟨some 139,.extract (.tmp 133) 0,none⟩,
  ⟨some 140,.extract (.tmp 133) 1,none⟩,
  ⟨some 20,.assign (.tmp 139),none⟩,
  ⟨some 21,.assign (.tmp 140),none⟩]
@[reducible] def q3_34:SCode:=.region [⟨some 141,.move (.tmp 8),none⟩,
  ⟨some 142,.binOp .neq 23 (.tmp 141) (.const (.int .i64 0)) 23,none⟩]
@[reducible] def q3_35:SCode:=.region [⟨some 143,.move (.tmp 8),none⟩,
  ⟨some 144,.binOp .eql 23 (.tmp 143) (.const (.int .i64 5)) 23,none⟩,
  ⟨some 145,.move (.tmp 144),none⟩,
  ⟨some 146,.move (.tmp 21),some (145,true)⟩,
  ⟨some 147,.move (.tmp 8),some (145,true)⟩,
  ⟨some 148,.binOp .eql 23 (.tmp 146) (.tmp 147) 23,some (145,true)⟩,
  ⟨some 149,.pick (.tmp 145) (.tmp 148) (.const (.bool false)),none⟩,
  ⟨some 150,.move (.tmp 149),none⟩,
  ⟨some 151,.move (.tmp 0),some (150,true)⟩,
  ⟨some 152,.move (.tmp 1),some (150,true)⟩,
  ⟨some 153,.move (.tmp 2),some (150,true)⟩,
  ⟨some 154,.call { callee:=.value (.func 22),args:=#[.tmp 151,.tmp 152,.tmp 153],argTypes:=#[22,3,3] },some (150,true)⟩,
  ⟨some 155,.unOp .not 4 (.tmp 154),some (150,true)⟩,
  ⟨some 156,.pick (.tmp 150) (.tmp 155) (.const (.bool false)),none⟩,
  ⟨some 157,.move (.tmp 156),none⟩,
  ⟨some 158,.call { callee:=.value (.func 20),args:=#[],argTypes:=#[] },some (157,true)⟩,
  ⟨some 159,.pick (.tmp 157) (.tmp 158) (.const (.bool false)),none⟩,
  ⟨some 6,.assign (.tmp 159),none⟩]
@[reducible] def q3_36:SCode:=.region [⟨some 161,.move (.tmp 19),none⟩,
  ⟨some 162,.call { callee:=.value (.func 17),args:=#[.tmp 161],argTypes:=#[22] },none⟩,
  ⟨some 160,.move (.tmp 162),none⟩,
  ⟨some 163,.extract (.tmp 160) 0,none⟩,
  ⟨some 164,.extract (.tmp 160) 1,none⟩,
  ⟨some 22,.assign (.tmp 163),none⟩,
  ⟨some 23,.assign (.tmp 164),none⟩]
@[reducible] def q3_37:SCode:=.region [⟨some 166,.move (.tmp 20),none⟩,
  ⟨some 167,.call { callee:=.value (.func 17),args:=#[.tmp 166],argTypes:=#[22] },none⟩,
  ⟨some 165,.move (.tmp 167),none⟩,
  ⟨some 168,.extract (.tmp 165) 0,none⟩,
  ⟨some 169,.extract (.tmp 165) 1,none⟩,
  ⟨some 24,.assign (.tmp 168),none⟩,
  ⟨some 25,.assign (.tmp 169),none⟩]
@[reducible] def q3_38:SCode:=.region [⟨some 170,.move (.tmp 21),none⟩,
  ⟨some 171,.binOp .eql 23 (.tmp 170) (.const (.int .i64 0)) 23,none⟩,
  ⟨some 172,.move (.tmp 171),none⟩,
  ⟨some 173,.move (.tmp 23),some (172,true)⟩,
  ⟨some 174,.binOp .eql 23 (.tmp 173) (.const (.int .i64 0)) 23,some (172,true)⟩,
  ⟨some 175,.pick (.tmp 172) (.tmp 174) (.const (.bool false)),none⟩,
  ⟨some 176,.move (.tmp 175),none⟩,
  ⟨some 177,.move (.tmp 25),some (176,true)⟩,
  ⟨some 178,.binOp .eql 23 (.tmp 177) (.const (.int .i64 0)) 23,some (176,true)⟩,
  ⟨some 179,.pick (.tmp 176) (.tmp 178) (.const (.bool false)),none⟩,
  ⟨some 180,.move (.tmp 179),none⟩,
  ⟨some 181,.move (.tmp 22),some (180,true)⟩,
  ⟨some 182,.move (.tmp 24),some (180,true)⟩,
  ⟨some 183,.binOp .add 3 (.tmp 181) (.tmp 182) 3,some (180,true)⟩,
  ⟨some 184,.move (.tmp 7),some (180,true)⟩,
  ⟨some 185,.binOp .eql 3 (.tmp 183) (.tmp 184) 3,some (180,true)⟩,
  ⟨some 186,.pick (.tmp 180) (.tmp 185) (.const (.bool false)),none⟩,
  ⟨some 187,.move (.tmp 186),none⟩,
  ⟨some 188,.move (.tmp 22),some (187,true)⟩,
  ⟨some 189,.binOp .gtr 3 (.tmp 188) (.const (.int .i64 0)) 3,some (187,true)⟩,
  ⟨some 190,.pick (.tmp 187) (.tmp 189) (.const (.bool false)),none⟩,
  ⟨some 191,.move (.tmp 190),none⟩,
  ⟨some 192,.move (.tmp 24),some (191,true)⟩,
  ⟨some 193,.binOp .gtr 3 (.tmp 192) (.const (.int .i64 0)) 3,some (191,true)⟩,
  ⟨some 194,.pick (.tmp 191) (.tmp 193) (.const (.bool false)),none⟩,
  ⟨some 195,.move (.tmp 194),none⟩,
  ⟨some 196,.call { callee:=.value (.func 20),args:=#[],argTypes:=#[] },some (195,true)⟩,
  ⟨some 197,.pick (.tmp 195) (.tmp 196) (.const (.bool false)),none⟩,
  ⟨some 6,.assign (.tmp 197),none⟩]
def s3:SCode:=(.seq q3_0 (.seq q3_1 (.seq (.seq q3_2 (.cond (.tmp 38) (.seq q3_3 .ret) .skip)) (.seq q3_4 (.seq (.seq q3_5 (.block 0 (.loop l3_2))) (.seq (.seq q3_29 (.cond (.tmp 110) (.seq q3_30 .ret) .skip)) (.seq q3_31 (.seq q3_32 (.seq q3_33 (.seq (.seq q3_34 (.cond (.tmp 142) (.seq q3_35 .ret) .skip)) (.seq q3_36 (.seq q3_37 (.seq q3_38 .ret)))))))))))))
/-! 4: planchet planchetlaw07.OrderEven -/
@[reducible] def q4_0:SCode:=.region [⟨some 2,.assign (.const (.bool false)),none⟩]
@[reducible] def q4_1:SCode:=.region [⟨some 8,.move (.tmp 0),none⟩,
  ⟨some 9,.call { callee:=.value (.func 18),args:=#[.tmp 8],argTypes:=#[22] },none⟩,
  ⟨some 10,.call { callee:=.value (.func 23),args:=#[.tmp 9],argTypes:=#[22] },none⟩,
  ⟨some 7,.move (.tmp 10),none⟩,
  ⟨some 11,.extract (.tmp 7) 0,none⟩,
  ⟨some 12,.extract (.tmp 7) 1,none⟩,
  ⟨some 3,.alloc 33,none⟩,
  ⟨none,.store 33 (.tmp 3) (.tmp 11),none⟩,
  ⟨some 4,.assign (.tmp 12),none⟩]
@[reducible] def q4_2:SCode:=.region [⟨some 13,.move (.tmp 0),none⟩,
  ⟨some 14,.call { callee:=.value (.func 19),args:=#[.tmp 13],argTypes:=#[22] },none⟩,
  ⟨some 15,.unOp .not 4 (.tmp 14),none⟩]
@[reducible] def q4_3:SCode:=.region [⟨some 16,.load 33 (.tmp 3),none⟩,
  ⟨some 17,.build 33 #[],none⟩,
  ⟨some 18,.binOp .eql 33 (.tmp 16) (.tmp 17) 33,none⟩,
  ⟨some 19,.move (.tmp 18),none⟩,
  ⟨some 20,.move (.tmp 4),some (19,true)⟩,
  ⟨some 21,.binOp .eql 23 (.tmp 20) (.const (.int .i64 2)) 23,some (19,true)⟩,
  ⟨some 22,.pick (.tmp 19) (.tmp 21) (.const (.bool false)),none⟩,
  ⟨some 23,.move (.tmp 22),none⟩,
  ⟨some 24,.call { callee:=.value (.func 20),args:=#[],argTypes:=#[] },some (23,true)⟩,
  ⟨some 25,.pick (.tmp 23) (.tmp 24) (.const (.bool false)),none⟩,
  ⟨some 2,.assign (.tmp 25),none⟩]
@[reducible] def q4_4:SCode:=.region [⟨some 27,.move (.tmp 0),none⟩,
  ⟨some 28,.call { callee:=.value (.func 24),args:=#[.tmp 27],argTypes:=#[22] },none⟩,
  ⟨some 26,.move (.tmp 28),none⟩,
  ⟨some 29,.extract (.tmp 26) 0,none⟩,
  ⟨some 30,.extract (.tmp 26) 1,none⟩,
  ⟨some 5,.alloc 33,none⟩,
  ⟨none,.store 33 (.tmp 5) (.tmp 29),none⟩,
  ⟨some 6,.assign (.tmp 30),none⟩]
@[reducible] def q4_5:SCode:=.region [⟨some 31,.load 33 (.tmp 3),none⟩,
  ⟨some 32,.load 33 (.tmp 5),none⟩,
  ⟨some 33,.binOp .eql 33 (.tmp 31) (.tmp 32) 33,none⟩,
  ⟨some 34,.move (.tmp 33),none⟩,
  ⟨some 35,.move (.tmp 4),some (34,true)⟩,
  ⟨some 36,.move (.tmp 6),some (34,true)⟩,
  ⟨some 37,.binOp .eql 23 (.tmp 35) (.tmp 36) 23,some (34,true)⟩,
  ⟨some 38,.pick (.tmp 34) (.tmp 37) (.const (.bool false)),none⟩,
  ⟨some 39,.move (.tmp 38),none⟩,
  ⟨some 40,.call { callee:=.value (.func 20),args:=#[],argTypes:=#[] },some (39,true)⟩,
  ⟨some 41,.pick (.tmp 39) (.tmp 40) (.const (.bool false)),none⟩,
  ⟨some 2,.assign (.tmp 41),none⟩]
def s4:SCode:=(.seq q4_0 (.seq q4_1 (.seq (.seq q4_2 (.cond (.tmp 15) (.seq q4_3 .ret) .skip)) (.seq q4_4 (.seq q4_5 .ret)))))
/-! 72: (planchet order.order).before -/
@[reducible] def q72_0:SCode:=.region [⟨some 3,.box 77 (.tmp 0),none⟩,
  ⟨some 6,.assign (.const (.int .i64 0)),none⟩]
@[reducible] def q72_1:SCode:=.region [⟨some 8,.move (.tmp 1),none⟩,
  ⟨some 9,.fieldAddr 77 (.tmp 3) 1,none⟩,
  ⟨some 10,.indexAddr 75 (.tmp 9) (.tmp 8),none⟩,
  ⟨some 11,.load 3 (.tmp 10),none⟩,
  ⟨some 12,.move (.tmp 2),none⟩,
  ⟨some 13,.binOp .shr 3 (.tmp 11) (.tmp 12) 3,none⟩,
  ⟨some 14,.binOp .and 3 (.tmp 13) (.const (.int .i64 1)) 3,none⟩,
  ⟨some 15,.binOp .eql 3 (.tmp 14) (.const (.int .i64 1)) 3,none⟩,
  ⟨some 7,.assign (.tmp 15),none⟩]
@[reducible] def q72_2:SCode:=.region [⟨some 16,.load 77 (.tmp 3),none⟩,
  ⟨some 17,.call { callee:=.value (.func 65),args:=#[.tmp 16],argTypes:=#[77] },none⟩,
  ⟨some 6,.assign (.tmp 17),none⟩]
@[reducible] def q72_3:SCode:=.region [⟨some 19,.load 77 (.tmp 3),none⟩,
  ⟨some 20,.move (.tmp 1),none⟩,
  ⟨some 21,.move (.tmp 2),none⟩,
  ⟨some 22,.call { callee:=.value (.func 68),args:=#[.tmp 19,.tmp 20,.tmp 21],argTypes:=#[77,3,3] },none⟩,
  ⟨some 23,.unOp .not 4 (.tmp 22),none⟩,
  ⟨some 18,.assign (.tmp 23),none⟩]
@[reducible] def q72_4:SCode:=.region [⟨some 6,.assign (.const (.int .i64 0)),none⟩]
@[reducible] def q72_5:SCode:=.region [⟨some 24,.load 77 (.tmp 3),none⟩,
  ⟨some 25,.move (.tmp 1),none⟩,
  ⟨some 26,.move (.tmp 2),none⟩,
  ⟨some 27,.call { callee:=.value (.func 69),args:=#[.tmp 24,.tmp 25,.tmp 26],argTypes:=#[77,3,3] },none⟩,
  ⟨some 28,.call { callee:=.value (.func 65),args:=#[.tmp 27],argTypes:=#[77] },none⟩,
  ⟨some 6,.assign (.tmp 28),none⟩]
def s72:SCode:=(.seq q72_0 (.seq (.block 0 (.seq q72_1 (.cond (.tmp 7) (.seq q72_2 .ret) (.seq q72_3 (.cond (.tmp 18) (.seq q72_4 .ret) .skip))))) (.seq q72_5 .ret)))
theorem s72_strip:Yh (Yi Tryd.f72)=s72:=by kernel_rfl
theorem s72_ok:Yx 29 (Yi Tryd.f72)=true:=by kernel_rfl
theorem s72_call [Tabs Tryd.prog] {args:List Value} {h:Yb} {Q:Value→Yb→Prop} (hsz:args.length≤29) (hk:aw Tryd.prog 29 s72 (Zu Tryd.prog [.tmp 6] Q) (Zp 0 args) h):ACall Tryd.prog 72 args h Q :=
 Wy Tryd.func72 rfl (enters_of Tryd.func72 (by kernel_rfl) rfl) rfl rfl (by decide) s72_strip s72_ok hsz hk
end Go.Proofs.Tryd.Am
namespace Ord
open Go.Am
def befN (o:List Int) (i j:Nat):Nat:=if ab o i j=true then cn o else if fr o i j=true then cn (Wp o i j) else 0
def Ws (o:List Int):List (List Nat):=lines (ab o) o.length (List.range o.length)
theorem allLines_len (o:List Int):(Ws o).length=cn o:=by rw [Ws,cnt_len]; rfl
theorem mem_all {o:List Int} (h:ord o=true) {l:List Nat}:l∈Ws o↔l.Perm (List.range o.length)∧l.Pairwise fun a b=>ab o b a=false:=by
 rw [Ws,Vm (ord_po h).irr (by simp)]
theorem befN_eq {o:List Int} (h:ord o=true) {i j:Nat} (hi:i<o.length) (hj:j<o.length) (hn:i≠j):befN o i j=((Ws o).filter fun l=>bef l i j).length:=by
 have hmem : ∀ l,l∈Ws o→l.Nodup∧i∈l∧j∈l∧∀ a∈l,∀ b∈l,bef l a b=true→ab o b a=false:=fun l hl=>by
  obtain ⟨hp,hw⟩:=(mem_all h).1 hl
  have hnd:l.Nodup:=hp.nodup_iff.2 List.nodup_range
  exact ⟨hnd,hp.mem_iff.2 (List.mem_range.2 hi),hp.mem_iff.2 (List.mem_range.2 hj),(bef_pw hnd).1 hw⟩
 rw [befN]
 split
 · next hij =>
   rw [List.filter_eq_self.2,allLines_len]
   intro l hl
   obtain ⟨h1,h2,h3,h4⟩:=hmem l hl
   cases e:bef l i j with
   | true=>rfl
   | false =>
     have:=h4 j h3 i h2 (by rw [bef_not h2 h3 hn,e]; rfl)
     rw [hij] at this; cases this
 · next hij =>
   split
   · next hf =>
     simp only [fr,Bool.and_eq_true,decide_eq_true_eq,Bool.not_eq_true'] at hf
     rw [cn,Xh,addL_ab hi h]
     have:=cnt_add (ord_po h) hn hf.2 (S:=List.range o.length) List.nodup_range (List.mem_range.2 hi) (List.mem_range.2 hj)
     rw [List.length_range] at this
     exact this
   · next hf =>
     have hji:ab o j i=true:=by
      cases e:ab o j i with
      | true=>rfl
      | false =>
        simp only [Bool.not_eq_true] at hij
        exact absurd (by simp [fr,hn,hij,e]) hf
     rw [eq_comm,List.length_eq_zero_iff,List.filter_eq_nil_iff]
     intro l hl hb
     obtain ⟨h1,h2,h3,h4⟩:=hmem l hl
     have:=h4 i h2 j h3 hb
     rw [hji] at this; cases this
theorem befN_two {o:List Int} (h:ord o=true) {i j:Nat} (hi:i<o.length) (hj:j<o.length) (hn:i≠j):befN o i j+befN o j i=cn o:=by
 rw [befN_eq h hi hj hn,befN_eq h hj hi (Ne.symm hn),← allLines_len]
 have e:((Ws o).filter fun l=>bef l j i)=(Ws o).filter fun l=>!bef l i j:=by
  refine List.filter_congr fun l hl=>?_
  obtain ⟨hp,-⟩:=(mem_all h).1 hl
  exact bef_not (hp.mem_iff.2 (List.mem_range.2 hi)) (hp.mem_iff.2 (List.mem_range.2 hj)) hn
 rw [e]
 generalize Ws o=L
 clear e
 induction L with
 | nil=>rfl
 | cons x L ih =>
   simp only [List.filter_cons,List.length_cons]
   cases bef x i j <;> simp <;> omega
def hsum (o:List Int) (i:Nat):Nat:=(((List.range o.length).filter fun j=>decide (j≠i)).map fun j=>befN o j i).sum
end Ord
namespace Go.Proofs.Tryd.Am
open Go.Am Ord
set_option maxRecDepth 100000
set_option maxHeartbeats 1000000
def rest (n there:Nat):List Nat:=(List.range n).filter fun i=>!there.testBit i
end Go.Proofs.Tryd.Am
namespace Go.Proofs.Tryd.Am
open Go.Am Ord
set_option maxRecDepth 100000
set_option maxHeartbeats 1000000
theorem before_call [BitTab prog 1] {h:Yb} {o:List Int} (ho:ord o=true) {i j:Nat} (hi:i<o.length) (hj:j<o.length):APure prog 72 [ordV o,Zx i,Zx j] h (Zx (befN o i j:Nat)):=by
 have hl:=Yz ho
 refine ACall.forget (Low.int _ _) ?_
 refine s72_call (by simp) ?_
 simp only [s72]
 refine Ud fun N hN=>?_
 simp (maxSteps:=2000000) only [s72,↓Za,↓Zi,↓Zr,↓Ze,↓Zj,↓Zs,↓Zg,↓Zo,↓Zf,↓Zb,↓Zc,↓vdn,vup,Zm,Zk,Zn,Zl,Zh,List.map_cons,List.map_nil,cond_true,cond_false,aop,Zv,Zq,Zp,ev,sput,Zt,Zy,Ya,unK,Zd,Zw,Nat.reduceBEq,Nat.reduceAdd,Int.reduceBEq,Int.reduceBNe,Int.reduceLT,Zu,Zz,tup,tyf,boxO esz_77,Xj]
 refine hN _ _ ?_
 clear hN N
 have b0:=Yp h (Blk.cells (Xt o) 77 false)
 have hE:Ext (fun _=>False) h (h++[Blk.cells (Xt o) 77 false]):=Ext.app _ _ _
 generalize h++[Blk.cells (Xt o) 77 false]=H at b0 hE ⊢
 cases hab:ab o i j with
 | true =>
   have hb:befN o i j=cn o:=by rw [befN,if_pos hab]
   simp (maxSteps:=2000000) only [s72,↓Za,↓Zi,↓Zr,↓Ze,↓Zj,↓Zs,↓Zg,↓Zo,↓Zf,↓Zb,↓Zc,↓vdn,vup,Zm,Zk,Zn,Zl,Zh,List.map_cons,List.map_nil,cond_true,cond_false,aop,Zv,Zq,Zp,ev,sput,Zt,Zy,Ya,unK,Zd,Zw,Nat.reduceBEq,Nat.reduceAdd,Int.reduceBEq,Int.reduceBNe,Int.reduceLT,Zu,Zz,tup,tyf,fldA Wz esz_75,idxA und_75 Xk (show i<6 by omega),loadI b0 Xd hl.2 (show i<6 by omega),testO ho hi,hab,if_true,if_false,Bool.false_eq_true,Int.reduceBEq,Xy b0 Yn hl.2,Yr,List.nil_append,List.append_nil,List.toList_toArray,List.cons_append]
   refine (Wh ho).mono ?_
   rintro _ _ ⟨rfl,rfl⟩
   exact ⟨by rw [hb],hE⟩
 | false =>
   simp (maxSteps:=2000000) only [s72,↓Za,↓Zi,↓Zr,↓Ze,↓Zj,↓Zs,↓Zg,↓Zo,↓Zf,↓Zb,↓Zc,↓vdn,vup,Zm,Zk,Zn,Zl,Zh,List.map_cons,List.map_nil,cond_true,cond_false,aop,Zv,Zq,Zp,ev,sput,Zt,Zy,Ya,unK,Zd,Zw,Nat.reduceBEq,Nat.reduceAdd,Int.reduceBEq,Int.reduceBNe,Int.reduceLT,Zu,Zz,tup,tyf,fldA Wz esz_75,idxA und_75 Xk (show i<6 by omega),loadI b0 Xd hl.2 (show i<6 by omega),testO ho hi,hab,if_true,if_false,Bool.false_eq_true,Int.reduceBEq,Xy b0 Yn hl.2,Yr,List.nil_append,List.append_nil,List.toList_toArray,List.cons_append]
   refine (free_call ho hi hj).mono ?_
   rintro _ _ ⟨rfl,rfl⟩
   cases hf:fr o i j with
   | false =>
     have hb:befN o i j=0:=by rw [befN,if_neg (by rw [hab]; decide),if_neg (by rw [hf]; decide)]
     simp (maxSteps:=2000000) only [s72,↓Za,↓Zi,↓Zr,↓Ze,↓Zj,↓Zs,↓Zg,↓Zo,↓Zf,↓Zb,↓Zc,↓vdn,vup,Zm,Zk,Zn,Zl,Zh,List.map_cons,List.map_nil,cond_true,cond_false,aop,Zv,Zq,Zp,ev,sput,Zt,Zy,Ya,unK,Zd,Zw,Nat.reduceBEq,Nat.reduceAdd,Int.reduceBEq,Int.reduceBNe,Int.reduceLT,Zu,Zz,tup,tyf,hf,hb,Int.natCast_zero]
     exact hE
   | true =>
     have hb:befN o i j=cn (Wp o i j):=by rw [befN,if_neg (by rw [hab]; decide),if_pos hf]
     have hff:=hf
     simp only [fr,Bool.and_eq_true,decide_eq_true_eq,Bool.not_eq_true'] at hff
     simp (maxSteps:=2000000) only [s72,↓Za,↓Zi,↓Zr,↓Ze,↓Zj,↓Zs,↓Zg,↓Zo,↓Zf,↓Zb,↓Zc,↓vdn,vup,Zm,Zk,Zn,Zl,Zh,List.map_cons,List.map_nil,cond_true,cond_false,aop,Zv,Zq,Zp,ev,sput,Zt,Zy,Ya,unK,Zd,Zw,Nat.reduceBEq,Nat.reduceAdd,Int.reduceBEq,Int.reduceBNe,Int.reduceLT,Zu,Zz,tup,tyf,hf,Xy b0 Yn hl.2,Yr,List.nil_append,List.append_nil,List.toList_toArray,List.cons_append]
     refine (add_call ho hi hj).mono ?_
     rintro _ _ ⟨rfl,rfl⟩
     refine (Wh (Xu ho hi hj hff.1.1 hff.2)).mono ?_
     rintro _ _ ⟨rfl,rfl⟩
     exact ⟨by rw [hb],hE⟩
end Go.Proofs.Tryd.Am
namespace Go.Proofs.Tryd.Am
open Go.Am Ord
set_option maxRecDepth 100000
set_option maxHeartbeats 1000000
theorem bld2 {a b:Nat} {K:Value→Prop}:Ww prog 33 [(0,Zx (a:Nat)),(1,Zx (b:Nat))] K=K (.agg #[Zx (a:Nat),Zx (b:Nat)]):=by
 simp [Ww,zero_33,fillL,pl_33_0,pl_33_1,Va,cellsOf,Yj]
end Go.Proofs.Tryd.Am
