/-
  top: the law of fooling sets.
-/
import Derived.Test.YtmjpngmoankpkaaDoorPk13
set_option linter.all false
namespace Go.Proofs.Tryd.Am.Tf
open Go.Proofs.Tryd.Am
open Go.Am
set_option maxRecDepth 100000
set_option maxHeartbeats 4000000
theorem law_entries [Tabs prog] {h:Yc} {v:Value} {t:List (List Int)} {x:Int} (hv:TabS h v t) (ht:Tab t) {N:Env→Yc→Prop} {Q0:Exit→Env→Yc→Prop} (hN0 : ∀ e h' av,EN 28 h h' av (entL t x)→ELe e [(0,v),(1,Zx x),(5,av)]→N e h') :
  AWS prog 198 (.seq q3_4 (.block 0 (.loop l3_1))) (Zv N Q0) [(0,v),(1,Zx x),(5,.slice none 0 0)] h:=by
 have hn4:=ht.n4
 refine Yb fun N1 hN1=>?_
 simp (maxSteps:=2000000) only [s3,↓Za,↓Zk,↓Zr,↓Ze,↓Zm,↓Zs,↓Zf,↓Zh,↓Zg,↓Zc,↓Zb,↓vdn,vup,Zn,Zl,Zo,Zi,Zj,List.map_cons,List.map_nil,cond_true,cond_false,aop,Zv,Zq,Zp,ev,sput,Zt,Zy,Ya,unK,Zd,Zw,Nat.reduceBEq,Nat.reduceAdd,Int.reduceBEq,Int.reduceBNe,Int.reduceLT,Zu,Zz,tup,tyf,hv.len]
 refine hN1 [(0,v),(1,Zx x),(5,.slice none 0 0),(32,v),(33,Zx t.length),(34,.int .i64 0)] _ _ ?_ (by simp (maxSteps:=2000000) only [↓Za,↓Zk,↓Zr,↓Ze,↓Zm,↓Zs,↓Zf,↓Zh,↓Zg,↓Zc,↓Zb,↓vdn,vup,Zn,Zl,Zo,Zi,Zj,List.map_cons,List.map_nil,cond_true,cond_false,aop,Zv,Zq,Zp,ev,sput,Zt,Zy,Ya,unK,Zd,Zw,Nat.reduceBEq,Nat.reduceAdd,Int.reduceBEq,Int.reduceBNe,Int.reduceLT,Zu,Zz,tup,tyf])
 clear hN1
 try clear N1
 refine Yh ?_
 refine Yf fun Q hQ=>?_
 refine Xh (γ:=Nat×Value×Yc) (fun s=>s.1≤t.length∧EN 28 h s.2.2 s.2.1 (ents x t s.1))
  (fun s=>([(0,v),(1,Zx x),(5,s.2.1),(32,v),(33,Zx t.length),(34,Zx (s.1:Nat))],s.2.2)) (fun s=>t.length-s.1) (0,.slice none 0 0,h) ⟨Nat.zero_le _,EN.nil 28 h⟩ (by simp (maxSteps:=2000000) only [↓Za,↓Zk,↓Zr,↓Ze,↓Zm,↓Zs,↓Zf,↓Zh,↓Zg,↓Zc,↓Zb,↓vdn,vup,Zn,Zl,Zo,Zi,Zj,List.map_cons,List.map_nil,cond_true,cond_false,aop,Zv,Zq,Zp,ev,sput,Zt,Zy,Ya,unK,Zd,Zw,Nat.reduceBEq,Nat.reduceAdd,Int.reduceBEq,Int.reduceBNe,Int.reduceLT,Zu,Zz,tup,tyf,Int.natCast_zero]) rfl ?_
 rintro ⟨i,ov,hp⟩ ⟨hi,s⟩
 simp only at hi s
 refine Yf fun Q2 hQ2=>?_
 simp only [l3_1]
 by_cases hin:(i:Int)<t.length
 · have hi' : i<t.length:=by omega
   obtain ⟨w,hw,ld⟩:=hv.load2 (P:=prog) Wb hi'
   have hn:=ents_len ht x i
   have hr4:=ht.wid i
   have hes:ents x t (i+1)=ents x t i++erow i x (t.getD i []) (t.getD i []).length:=rfl
   generalize t.getD i []=r at hw hr4 hes
   refine Yb fun N2 hN2=>?_
   simp (maxSteps:=2000000) only [s3,↓Za,↓Zk,↓Zr,↓Ze,↓Zm,↓Zs,↓Zf,↓Zh,↓Zg,↓Zc,↓Zb,↓vdn,vup,Zn,Zl,Zo,Zi,Zj,List.map_cons,List.map_nil,cond_true,cond_false,aop,Zv,Zq,Zp,ev,sput,Zt,Zy,Ya,unK,Zd,Zw,Nat.reduceBEq,Nat.reduceAdd,Int.reduceBEq,Int.reduceBNe,Int.reduceLT,Zu,Zz,tup,tyf,hin]
   refine hN2 [(0,v),(1,Zx x),(5,ov),(32,v),(33,Zx t.length),(34,Zx (i:Nat)),(35,.bool true)] _ _ ?_ (by simp (maxSteps:=2000000) only [↓Za,↓Zk,↓Zr,↓Ze,↓Zm,↓Zs,↓Zf,↓Zh,↓Zg,↓Zc,↓Zb,↓vdn,vup,Zn,Zl,Zo,Zi,Zj,List.map_cons,List.map_nil,cond_true,cond_false,aop,Zv,Zq,Zp,ev,sput,Zt,Zy,Ya,unK,Zd,Zw,Nat.reduceBEq,Nat.reduceAdd,Int.reduceBEq,Int.reduceBNe,Int.reduceLT,Zu,Zz,tup,tyf])
   clear hN2
   try clear N2
   refine Yb fun N3 hN3=>?_
   simp (maxSteps:=2000000) only [s3,↓Za,↓Zk,↓Zr,↓Ze,↓Zm,↓Zs,↓Zf,↓Zh,↓Zg,↓Zc,↓Zb,↓vdn,vup,Zn,Zl,Zo,Zi,Zj,List.map_cons,List.map_nil,cond_true,cond_false,aop,Zv,Zq,Zp,ev,sput,Zt,Zy,Ya,unK,Zd,Zw,Nat.reduceBEq,Nat.reduceAdd,Int.reduceBEq,Int.reduceBNe,Int.reduceLT,Zu,Zz,tup,tyf]
   refine hN3 [(0,v),(1,Zx x),(5,ov),(32,v),(33,Zx t.length),(34,Zx (i:Nat))] _ _ ?_ (by simp (maxSteps:=2000000) only [↓Za,↓Zk,↓Zr,↓Ze,↓Zm,↓Zs,↓Zf,↓Zh,↓Zg,↓Zc,↓Zb,↓vdn,vup,Zn,Zl,Zo,Zi,Zj,List.map_cons,List.map_nil,cond_true,cond_false,aop,Zv,Zq,Zp,ev,sput,Zt,Zy,Ya,unK,Zd,Zw,Nat.reduceBEq,Nat.reduceAdd,Int.reduceBEq,Int.reduceBNe,Int.reduceLT,Zu,Zz,tup,tyf])
   clear hN3
   try clear N3
   refine Ye fun B hB=>?_
   refine Yh ?_
   refine Yb fun N4 hN4=>?_
   simp (maxSteps:=2000000) only [s3,↓Za,↓Zk,↓Zr,↓Ze,↓Zm,↓Zs,↓Zf,↓Zh,↓Zg,↓Zc,↓Zb,↓vdn,vup,Zn,Zl,Zo,Zi,Zj,List.map_cons,List.map_nil,cond_true,cond_false,aop,Zv,Zq,Zp,ev,sput,Zt,Zy,Ya,unK,Zd,Zw,Nat.reduceBEq,Nat.reduceAdd,Int.reduceBEq,Int.reduceBNe,Int.reduceLT,Zu,Zz,tup,tyf,(hv.ext s.ext).idx el_22 Vb hi',ld _ s.ext]
   refine hN4 [(0,v),(1,Zx x),(5,ov),(6,Zx (i:Nat)),(7,w),(32,v),(33,Zx t.length),(34,Zx (i:Nat))] _ _ ?_ (by simp (maxSteps:=2000000) only [↓Za,↓Zk,↓Zr,↓Ze,↓Zm,↓Zs,↓Zf,↓Zh,↓Zg,↓Zc,↓Zb,↓vdn,vup,Zn,Zl,Zo,Zi,Zj,List.map_cons,List.map_nil,cond_true,cond_false,aop,Zv,Zq,Zp,ev,sput,Zt,Zy,Ya,unK,Zd,Zw,Nat.reduceBEq,Nat.reduceAdd,Int.reduceBEq,Int.reduceBNe,Int.reduceLT,Zu,Zz,tup,tyf])
   clear hN4
   try clear N4
   refine Yb fun N5 hN5=>?_
   simp (maxSteps:=2000000) only [s3,↓Za,↓Zk,↓Zr,↓Ze,↓Zm,↓Zs,↓Zf,↓Zh,↓Zg,↓Zc,↓Zb,↓vdn,vup,Zn,Zl,Zo,Zi,Zj,List.map_cons,List.map_nil,cond_true,cond_false,aop,Zv,Zq,Zp,ev,sput,Zt,Zy,Ya,unK,Zd,Zw,Nat.reduceBEq,Nat.reduceAdd,Int.reduceBEq,Int.reduceBNe,Int.reduceLT,Zu,Zz,tup,tyf,hw.len]
   refine hN5 [(0,v),(1,Zx x),(5,ov),(6,Zx (i:Nat)),(7,w),(32,v),(33,Zx t.length),(34,Zx (i:Nat)),(39,w),(40,Zx r.length),(41,.int .i64 0)] _ _ ?_ (by simp (maxSteps:=2000000) only [↓Za,↓Zk,↓Zr,↓Ze,↓Zm,↓Zs,↓Zf,↓Zh,↓Zg,↓Zc,↓Zb,↓vdn,vup,Zn,Zl,Zo,Zi,Zj,List.map_cons,List.map_nil,cond_true,cond_false,aop,Zv,Zq,Zp,ev,sput,Zt,Zy,Ya,unK,Zd,Zw,Nat.reduceBEq,Nat.reduceAdd,Int.reduceBEq,Int.reduceBNe,Int.reduceLT,Zu,Zz,tup,tyf])
   clear hN5
   try clear N5
   refine Yh ?_
   refine Yf fun Q3 hQ3=>?_
   refine Xh (γ:=Nat×Value×Yc) (fun s=>s.1≤r.length∧EN 28 h s.2.2 s.2.1 (ents x t i++erow i x r s.1))
    (fun s=>([(0,v),(1,Zx x),(5,s.2.1),(6,Zx (i:Nat)),(7,w),(32,v),(33,Zx t.length),(34,Zx (i:Nat)),(39,w),(40,Zx r.length),(41,Zx (s.1:Nat))],s.2.2)) (fun s=>r.length-s.1) (0,ov,hp) ⟨Nat.zero_le _,by simpa [erow] using s⟩ (by simp (maxSteps:=2000000) only [↓Za,↓Zk,↓Zr,↓Ze,↓Zm,↓Zs,↓Zf,↓Zh,↓Zg,↓Zc,↓Zb,↓vdn,vup,Zn,Zl,Zo,Zi,Zj,List.map_cons,List.map_nil,cond_true,cond_false,aop,Zv,Zq,Zp,ev,sput,Zt,Zy,Ya,unK,Zd,Zw,Nat.reduceBEq,Nat.reduceAdd,Int.reduceBEq,Int.reduceBNe,Int.reduceLT,Zu,Zz,tup,tyf,Int.natCast_zero]) rfl ?_
   rintro ⟨j,ov2,hq⟩ ⟨hj,s2⟩
   simp only at hj s2
   refine Yf fun Q4 hQ4=>?_
   simp only [l3_0]
   by_cases hjn:(j:Int)<r.length
   · have hj' : j<r.length:=by omega
     have hwq:=intExt hw s2.ext
     have hel:=erow_len i x r j
     have hej:erow i x r (j+1)=if r.getD j 0=x then erow i x r j++[((i:Int),(j:Int))] else erow i x r j:=rfl
     refine Yb fun N6 hN6=>?_
     simp (maxSteps:=2000000) only [s3,↓Za,↓Zk,↓Zr,↓Ze,↓Zm,↓Zs,↓Zf,↓Zh,↓Zg,↓Zc,↓Zb,↓vdn,vup,Zn,Zl,Zo,Zi,Zj,List.map_cons,List.map_nil,cond_true,cond_false,aop,Zv,Zq,Zp,ev,sput,Zt,Zy,Ya,unK,Zd,Zw,Nat.reduceBEq,Nat.reduceAdd,Int.reduceBEq,Int.reduceBNe,Int.reduceLT,Zu,Zz,tup,tyf,hjn]
     refine hN6 [(0,v),(1,Zx x),(5,ov2),(6,Zx (i:Nat)),(7,w),(32,v),(33,Zx t.length),(34,Zx (i:Nat)),(39,w),(40,Zx r.length),(41,Zx (j:Nat)),(42,.bool true)] _ _ ?_ (by simp (maxSteps:=2000000) only [↓Za,↓Zk,↓Zr,↓Ze,↓Zm,↓Zs,↓Zf,↓Zh,↓Zg,↓Zc,↓Zb,↓vdn,vup,Zn,Zl,Zo,Zi,Zj,List.map_cons,List.map_nil,cond_true,cond_false,aop,Zv,Zq,Zp,ev,sput,Zt,Zy,Ya,unK,Zd,Zw,Nat.reduceBEq,Nat.reduceAdd,Int.reduceBEq,Int.reduceBNe,Int.reduceLT,Zu,Zz,tup,tyf])
     clear hN6
     try clear N6
     refine Yb fun N7 hN7=>?_
     simp (maxSteps:=2000000) only [s3,↓Za,↓Zk,↓Zr,↓Ze,↓Zm,↓Zs,↓Zf,↓Zh,↓Zg,↓Zc,↓Zb,↓vdn,vup,Zn,Zl,Zo,Zi,Zj,List.map_cons,List.map_nil,cond_true,cond_false,aop,Zv,Zq,Zp,ev,sput,Zt,Zy,Ya,unK,Zd,Zw,Nat.reduceBEq,Nat.reduceAdd,Int.reduceBEq,Int.reduceBNe,Int.reduceLT,Zu,Zz,tup,tyf]
     refine hN7 [(0,v),(1,Zx x),(5,ov2),(6,Zx (i:Nat)),(7,w),(32,v),(33,Zx t.length),(34,Zx (i:Nat)),(39,w),(40,Zx r.length),(41,Zx (j:Nat))] _ _ ?_ (by simp (maxSteps:=2000000) only [↓Za,↓Zk,↓Zr,↓Ze,↓Zm,↓Zs,↓Zf,↓Zh,↓Zg,↓Zc,↓Zb,↓vdn,vup,Zn,Zl,Zo,Zi,Zj,List.map_cons,List.map_nil,cond_true,cond_false,aop,Zv,Zq,Zp,ev,sput,Zt,Zy,Ya,unK,Zd,Zw,Nat.reduceBEq,Nat.reduceAdd,Int.reduceBEq,Int.reduceBNe,Int.reduceLT,Zu,Zz,tup,tyf])
     clear hN7
     try clear N7
     refine Ye fun C hC=>?_
     refine Yh ?_
     refine Yb fun N8 hN8=>?_
     simp (maxSteps:=2000000) only [s3,↓Za,↓Zk,↓Zr,↓Ze,↓Zm,↓Zs,↓Zf,↓Zh,↓Zg,↓Zc,↓Zb,↓vdn,vup,Zn,Zl,Zo,Zi,Zj,List.map_cons,List.map_nil,cond_true,cond_false,aop,Zv,Zq,Zp,ev,sput,Zt,Zy,Ya,unK,Zd,Zw,Nat.reduceBEq,Nat.reduceAdd,Int.reduceBEq,Int.reduceBNe,Int.reduceLT,Zu,Zz,tup,tyf,hwq.idx Wp Xk hj',hwq.load Yw hj']
     refine hN8 [(0,v),(1,Zx x),(5,ov2),(6,Zx (i:Nat)),(7,w),(8,Zx (j:Nat)),(9,Zx (r.getD j 0)),(32,v),(33,Zx t.length),(34,Zx (i:Nat)),(39,w),(40,Zx r.length),(41,Zx (j:Nat))] _ _ ?_ (by simp (maxSteps:=2000000) only [↓Za,↓Zk,↓Zr,↓Ze,↓Zm,↓Zs,↓Zf,↓Zh,↓Zg,↓Zc,↓Zb,↓vdn,vup,Zn,Zl,Zo,Zi,Zj,List.map_cons,List.map_nil,cond_true,cond_false,aop,Zv,Zq,Zp,ev,sput,Zt,Zy,Ya,unK,Zd,Zw,Nat.reduceBEq,Nat.reduceAdd,Int.reduceBEq,Int.reduceBNe,Int.reduceLT,Zu,Zz,tup,tyf])
     clear hN8
     try clear N8
     by_cases hx:r.getD j 0=x
     · have hxb:(r.getD j 0==x)=true:=by rw [hx]; exact beq_self_eq_true x
       refine Yb fun N9 hN9=>?_
       simp (maxSteps:=2000000) only [s3,↓Za,↓Zk,↓Zr,↓Ze,↓Zm,↓Zs,↓Zf,↓Zh,↓Zg,↓Zc,↓Zb,↓vdn,vup,Zn,Zl,Zo,Zi,Zj,List.map_cons,List.map_nil,cond_true,cond_false,aop,Zv,Zq,Zp,ev,sput,Zt,Zy,Ya,unK,Zd,Zw,Nat.reduceBEq,Nat.reduceAdd,Int.reduceBEq,Int.reduceBNe,Int.reduceLT,Zu,Zz,tup,tyf,hxb]
       refine hN9 [(0,v),(1,Zx x),(5,ov2),(6,Zx (i:Nat)),(7,w),(8,Zx (j:Nat)),(9,Zx (r.getD j 0)),(32,v),(33,Zx t.length),(34,Zx (i:Nat)),(39,w),(40,Zx r.length),(41,Zx (j:Nat)),(48,.bool true)] _ _ ?_ (by simp (maxSteps:=2000000) only [↓Za,↓Zk,↓Zr,↓Ze,↓Zm,↓Zs,↓Zf,↓Zh,↓Zg,↓Zc,↓Zb,↓vdn,vup,Zn,Zl,Zo,Zi,Zj,List.map_cons,List.map_nil,cond_true,cond_false,aop,Zv,Zq,Zp,ev,sput,Zt,Zy,Ya,unK,Zd,Zw,Nat.reduceBEq,Nat.reduceAdd,Int.reduceBEq,Int.reduceBNe,Int.reduceLT,Zu,Zz,tup,tyf])
       clear hN9
       try clear N9
       refine Xe rfl ?_
       refine Yd ?_
       simp (maxSteps:=2000000) only [s3,↓Za,↓Zk,↓Zr,↓Ze,↓Zm,↓Zs,↓Zf,↓Zh,↓Zg,↓Zc,↓Zb,↓vdn,vup,Zn,Zl,Zo,Zi,Zj,List.map_cons,List.map_nil,cond_true,cond_false,aop,Zv,Zq,Zp,ev,sput,Zt,Zy,Ya,unK,Zd,Zw,Nat.reduceBEq,Nat.reduceAdd,Int.reduceBEq,Int.reduceBNe,Int.reduceLT,Zu,Zz,tup,tyf,bldP,litP]
       refine (s2.own.ext (Ext.app _ _ _)).append app_26_26 (by rw [List.length_append]; omega) (Yj _ _) ?_
       intro w' h' ho hE hb
       refine hC [(0,v),(1,Zx x),(5,w'),(6,Zx (i:Nat)),(7,w),(32,v),(33,Zx t.length),(34,Zx (i:Nat)),(39,w),(40,Zx r.length),(41,Zx (j:Nat))] _ _ ?_ (by simp (maxSteps:=2000000) only [↓Za,↓Zk,↓Zr,↓Ze,↓Zm,↓Zs,↓Zf,↓Zh,↓Zg,↓Zc,↓Zb,↓vdn,vup,Zn,Zl,Zo,Zi,Zj,List.map_cons,List.map_nil,cond_true,cond_false,aop,Zv,Zq,Zp,ev,sput,Zt,Zy,Ya,unK,Zd,Zw,Nat.reduceBEq,Nat.reduceAdd,Int.reduceBEq,Int.reduceBNe,Int.reduceLT,Zu,Zz,tup,tyf])
       clear hC
       try clear C
       refine Yd ?_
       simp (maxSteps:=2000000) only [s3,↓Za,↓Zk,↓Zr,↓Ze,↓Zm,↓Zs,↓Zf,↓Zh,↓Zg,↓Zc,↓Zb,↓vdn,vup,Zn,Zl,Zo,Zi,Zj,List.map_cons,List.map_nil,cond_true,cond_false,aop,Zv,Zq,Zp,ev,sput,Zt,Zy,Ya,unK,Zd,Zw,Nat.reduceBEq,Nat.reduceAdd,Int.reduceBEq,Int.reduceBNe,Int.reduceLT,Zu,Zz,tup,tyf,Vd (show j<9223372036854775807 by omega)]
       exact hQ4 _ _ _ ⟨(j+1,w',h'),⟨hj',by rw [hej,if_pos hx,← List.append_assoc]; exact s2.step ho hE hb⟩,by simp only; omega,by simp (maxSteps:=2000000) only [↓Za,↓Zk,↓Zr,↓Ze,↓Zm,↓Zs,↓Zf,↓Zh,↓Zg,↓Zc,↓Zb,↓vdn,vup,Zn,Zl,Zo,Zi,Zj,List.map_cons,List.map_nil,cond_true,cond_false,aop,Zv,Zq,Zp,ev,sput,Zt,Zy,Ya,unK,Zd,Zw,Nat.reduceBEq,Nat.reduceAdd,Int.reduceBEq,Int.reduceBNe,Int.reduceLT,Zu,Zz,tup,tyf],rfl⟩
     · have hxb:(r.getD j 0==x)=false:=by rw [beq_eq_false_iff_ne]; exact hx
       refine Yb fun N10 hN10=>?_
       simp (maxSteps:=2000000) only [s3,↓Za,↓Zk,↓Zr,↓Ze,↓Zm,↓Zs,↓Zf,↓Zh,↓Zg,↓Zc,↓Zb,↓vdn,vup,Zn,Zl,Zo,Zi,Zj,List.map_cons,List.map_nil,cond_true,cond_false,aop,Zv,Zq,Zp,ev,sput,Zt,Zy,Ya,unK,Zd,Zw,Nat.reduceBEq,Nat.reduceAdd,Int.reduceBEq,Int.reduceBNe,Int.reduceLT,Zu,Zz,tup,tyf,hxb]
       refine hN10 [(0,v),(1,Zx x),(5,ov2),(6,Zx (i:Nat)),(7,w),(8,Zx (j:Nat)),(9,Zx (r.getD j 0)),(32,v),(33,Zx t.length),(34,Zx (i:Nat)),(39,w),(40,Zx r.length),(41,Zx (j:Nat)),(48,.bool false)] _ _ ?_ (by simp (maxSteps:=2000000) only [↓Za,↓Zk,↓Zr,↓Ze,↓Zm,↓Zs,↓Zf,↓Zh,↓Zg,↓Zc,↓Zb,↓vdn,vup,Zn,Zl,Zo,Zi,Zj,List.map_cons,List.map_nil,cond_true,cond_false,aop,Zv,Zq,Zp,ev,sput,Zt,Zy,Ya,unK,Zd,Zw,Nat.reduceBEq,Nat.reduceAdd,Int.reduceBEq,Int.reduceBNe,Int.reduceLT,Zu,Zz,tup,tyf])
       clear hN10
       try clear N10
       refine Yq rfl ?_
       refine Yd ?_
       simp (maxSteps:=2000000) only [s3,↓Za,↓Zk,↓Zr,↓Ze,↓Zm,↓Zs,↓Zf,↓Zh,↓Zg,↓Zc,↓Zb,↓vdn,vup,Zn,Zl,Zo,Zi,Zj,List.map_cons,List.map_nil,cond_true,cond_false,aop,Zv,Zq,Zp,ev,sput,Zt,Zy,Ya,unK,Zd,Zw,Nat.reduceBEq,Nat.reduceAdd,Int.reduceBEq,Int.reduceBNe,Int.reduceLT,Zu,Zz,tup,tyf]
       refine hC [(0,v),(1,Zx x),(5,ov2),(6,Zx (i:Nat)),(7,w),(32,v),(33,Zx t.length),(34,Zx (i:Nat)),(39,w),(40,Zx r.length),(41,Zx (j:Nat))] _ _ ?_ (by simp (maxSteps:=2000000) only [↓Za,↓Zk,↓Zr,↓Ze,↓Zm,↓Zs,↓Zf,↓Zh,↓Zg,↓Zc,↓Zb,↓vdn,vup,Zn,Zl,Zo,Zi,Zj,List.map_cons,List.map_nil,cond_true,cond_false,aop,Zv,Zq,Zp,ev,sput,Zt,Zy,Ya,unK,Zd,Zw,Nat.reduceBEq,Nat.reduceAdd,Int.reduceBEq,Int.reduceBNe,Int.reduceLT,Zu,Zz,tup,tyf])
       clear hC
       try clear C
       refine Yd ?_
       simp (maxSteps:=2000000) only [s3,↓Za,↓Zk,↓Zr,↓Ze,↓Zm,↓Zs,↓Zf,↓Zh,↓Zg,↓Zc,↓Zb,↓vdn,vup,Zn,Zl,Zo,Zi,Zj,List.map_cons,List.map_nil,cond_true,cond_false,aop,Zv,Zq,Zp,ev,sput,Zt,Zy,Ya,unK,Zd,Zw,Nat.reduceBEq,Nat.reduceAdd,Int.reduceBEq,Int.reduceBNe,Int.reduceLT,Zu,Zz,tup,tyf,Vd (show j<9223372036854775807 by omega)]
       exact hQ4 _ _ _ ⟨(j+1,ov2,hq),⟨hj',by rw [hej,if_neg hx]; exact s2⟩,by simp only; omega,by simp (maxSteps:=2000000) only [↓Za,↓Zk,↓Zr,↓Ze,↓Zm,↓Zs,↓Zf,↓Zh,↓Zg,↓Zc,↓Zb,↓vdn,vup,Zn,Zl,Zo,Zi,Zj,List.map_cons,List.map_nil,cond_true,cond_false,aop,Zv,Zq,Zp,ev,sput,Zt,Zy,Ya,unK,Zd,Zw,Nat.reduceBEq,Nat.reduceAdd,Int.reduceBEq,Int.reduceBNe,Int.reduceLT,Zu,Zz,tup,tyf],rfl⟩
   · obtain rfl:j=r.length:=by omega
     refine Yb fun N11 hN11=>?_
     simp (maxSteps:=2000000) only [s3,↓Za,↓Zk,↓Zr,↓Ze,↓Zm,↓Zs,↓Zf,↓Zh,↓Zg,↓Zc,↓Zb,↓vdn,vup,Zn,Zl,Zo,Zi,Zj,List.map_cons,List.map_nil,cond_true,cond_false,aop,Zv,Zq,Zp,ev,sput,Zt,Zy,Ya,unK,Zd,Zw,Nat.reduceBEq,Nat.reduceAdd,Int.reduceBEq,Int.reduceBNe,Int.reduceLT,Zu,Zz,tup,tyf,hjn]
     refine hN11 [(0,v),(1,Zx x),(5,ov2),(6,Zx (i:Nat)),(7,w),(32,v),(33,Zx t.length),(34,Zx (i:Nat)),(39,w),(40,Zx r.length),(41,Zx r.length),(42,.bool false)] _ _ ?_ (by simp (maxSteps:=2000000) only [↓Za,↓Zk,↓Zr,↓Ze,↓Zm,↓Zs,↓Zf,↓Zh,↓Zg,↓Zc,↓Zb,↓vdn,vup,Zn,Zl,Zo,Zi,Zj,List.map_cons,List.map_nil,cond_true,cond_false,aop,Zv,Zq,Zp,ev,sput,Zt,Zy,Ya,unK,Zd,Zw,Nat.reduceBEq,Nat.reduceAdd,Int.reduceBEq,Int.reduceBNe,Int.reduceLT,Zu,Zz,tup,tyf])
     clear hN11
     try clear N11
     refine Yb fun N12 hN12=>?_
     simp (maxSteps:=2000000) only [s3,↓Za,↓Zk,↓Zr,↓Ze,↓Zm,↓Zs,↓Zf,↓Zh,↓Zg,↓Zc,↓Zb,↓vdn,vup,Zn,Zl,Zo,Zi,Zj,List.map_cons,List.map_nil,cond_true,cond_false,aop,Zv,Zq,Zp,ev,sput,Zt,Zy,Ya,unK,Zd,Zw,Nat.reduceBEq,Nat.reduceAdd,Int.reduceBEq,Int.reduceBNe,Int.reduceLT,Zu,Zz,tup,tyf]
     refine hQ4 _ _ _ (hQ3 _ _ _ ?_)
     simp (maxSteps:=2000000) only [s3,↓Za,↓Zk,↓Zr,↓Ze,↓Zm,↓Zs,↓Zf,↓Zh,↓Zg,↓Zc,↓Zb,↓vdn,vup,Zn,Zl,Zo,Zi,Zj,List.map_cons,List.map_nil,cond_true,cond_false,aop,Zv,Zq,Zp,ev,sput,Zt,Zy,Ya,unK,Zd,Zw,Nat.reduceBEq,Nat.reduceAdd,Int.reduceBEq,Int.reduceBNe,Int.reduceLT,Zu,Zz,tup,tyf,if_true]
     refine hB [(0,v),(1,Zx x),(5,ov2),(32,v),(33,Zx t.length),(34,Zx (i:Nat)),(42,.bool false)] _ _ ?_ (by simp (maxSteps:=2000000) only [↓Za,↓Zk,↓Zr,↓Ze,↓Zm,↓Zs,↓Zf,↓Zh,↓Zg,↓Zc,↓Zb,↓vdn,vup,Zn,Zl,Zo,Zi,Zj,List.map_cons,List.map_nil,cond_true,cond_false,aop,Zv,Zq,Zp,ev,sput,Zt,Zy,Ya,unK,Zd,Zw,Nat.reduceBEq,Nat.reduceAdd,Int.reduceBEq,Int.reduceBNe,Int.reduceLT,Zu,Zz,tup,tyf])
     clear hB
     try clear B
     refine Yd ?_
     simp (maxSteps:=2000000) only [s3,↓Za,↓Zk,↓Zr,↓Ze,↓Zm,↓Zs,↓Zf,↓Zh,↓Zg,↓Zc,↓Zb,↓vdn,vup,Zn,Zl,Zo,Zi,Zj,List.map_cons,List.map_nil,cond_true,cond_false,aop,Zv,Zq,Zp,ev,sput,Zt,Zy,Ya,unK,Zd,Zw,Nat.reduceBEq,Nat.reduceAdd,Int.reduceBEq,Int.reduceBNe,Int.reduceLT,Zu,Zz,tup,tyf,Vd (show i<9223372036854775807 by omega)]
     exact hQ2 _ _ _ ⟨(i+1,ov2,hq),⟨hi',by rw [hes]; exact s2⟩,by simp only; omega,by simp (maxSteps:=2000000) only [↓Za,↓Zk,↓Zr,↓Ze,↓Zm,↓Zs,↓Zf,↓Zh,↓Zg,↓Zc,↓Zb,↓vdn,vup,Zn,Zl,Zo,Zi,Zj,List.map_cons,List.map_nil,cond_true,cond_false,aop,Zv,Zq,Zp,ev,sput,Zt,Zy,Ya,unK,Zd,Zw,Nat.reduceBEq,Nat.reduceAdd,Int.reduceBEq,Int.reduceBNe,Int.reduceLT,Zu,Zz,tup,tyf],rfl⟩
 · obtain rfl:i=t.length:=by omega
   refine Yb fun N13 hN13=>?_
   simp (maxSteps:=2000000) only [s3,↓Za,↓Zk,↓Zr,↓Ze,↓Zm,↓Zs,↓Zf,↓Zh,↓Zg,↓Zc,↓Zb,↓vdn,vup,Zn,Zl,Zo,Zi,Zj,List.map_cons,List.map_nil,cond_true,cond_false,aop,Zv,Zq,Zp,ev,sput,Zt,Zy,Ya,unK,Zd,Zw,Nat.reduceBEq,Nat.reduceAdd,Int.reduceBEq,Int.reduceBNe,Int.reduceLT,Zu,Zz,tup,tyf,hin]
   refine hN13 [(0,v),(1,Zx x),(5,ov),(32,v),(33,Zx t.length),(34,Zx t.length),(35,.bool false)] _ _ ?_ (by simp (maxSteps:=2000000) only [↓Za,↓Zk,↓Zr,↓Ze,↓Zm,↓Zs,↓Zf,↓Zh,↓Zg,↓Zc,↓Zb,↓vdn,vup,Zn,Zl,Zo,Zi,Zj,List.map_cons,List.map_nil,cond_true,cond_false,aop,Zv,Zq,Zp,ev,sput,Zt,Zy,Ya,unK,Zd,Zw,Nat.reduceBEq,Nat.reduceAdd,Int.reduceBEq,Int.reduceBNe,Int.reduceLT,Zu,Zz,tup,tyf])
   clear hN13
   try clear N13
   refine Yb fun N14 hN14=>?_
   simp (maxSteps:=2000000) only [s3,↓Za,↓Zk,↓Zr,↓Ze,↓Zm,↓Zs,↓Zf,↓Zh,↓Zg,↓Zc,↓Zb,↓vdn,vup,Zn,Zl,Zo,Zi,Zj,List.map_cons,List.map_nil,cond_true,cond_false,aop,Zv,Zq,Zp,ev,sput,Zt,Zy,Ya,unK,Zd,Zw,Nat.reduceBEq,Nat.reduceAdd,Int.reduceBEq,Int.reduceBNe,Int.reduceLT,Zu,Zz,tup,tyf]
   refine hQ2 _ _ _ (hQ _ _ _ ?_)
   simp (maxSteps:=2000000) only [s3,↓Za,↓Zk,↓Zr,↓Ze,↓Zm,↓Zs,↓Zf,↓Zh,↓Zg,↓Zc,↓Zb,↓vdn,vup,Zn,Zl,Zo,Zi,Zj,List.map_cons,List.map_nil,cond_true,cond_false,aop,Zv,Zq,Zp,ev,sput,Zt,Zy,Ya,unK,Zd,Zw,Nat.reduceBEq,Nat.reduceAdd,Int.reduceBEq,Int.reduceBNe,Int.reduceLT,Zu,Zz,tup,tyf,if_true]
   exact hN0 _ _ ov s (by simp (maxSteps:=2000000) only [↓Za,↓Zk,↓Zr,↓Ze,↓Zm,↓Zs,↓Zf,↓Zh,↓Zg,↓Zc,↓Zb,↓vdn,vup,Zn,Zl,Zo,Zi,Zj,List.map_cons,List.map_nil,cond_true,cond_false,aop,Zv,Zq,Zp,ev,sput,Zt,Zy,Ya,unK,Zd,Zw,Nat.reduceBEq,Nat.reduceAdd,Int.reduceBEq,Int.reduceBNe,Int.reduceLT,Zu,Zz,tup,tyf])
theorem near_rng {t:List (List Int)} {x:Int} {al:List (Int×Int)} (h1:1≤al.length) (h6:al.length≤6) : ∀ y∈Ww t x al,-9223372036854775808≤y∧y<9223372036854775808:=by
 intro y hy
 obtain ⟨i,hi,rfl⟩:=List.mem_iff_getElem.1 hy
 have g:=((nearT_gs h1 h6).2.2 i hi).1
 rw [List.getD,List.getElem?_eq_getElem hi,Option.getD_some] at g
 have hl:(Ww t x al).length=al.length:=Wn _ _
 have h2:2 ^ (Ww t x al).length≤2 ^ 6:=Nat.pow_le_pow_right (by decide) (by omega)
 have h3:((2 ^ (Ww t x al).length:Nat):Int)=2 ^ (Ww t x al).length:=by simp
 omega
theorem law_codes [BitTab prog 0] {z:Yc} {av fv gv:Value} {t:List (List Int)} {x:Int} {al:List (Int×Int)} {cs:List (Nat×Nat)} {b14:Nat} (ha:PairSl z av al) (hf:PairSl z fv (gl (Wy t x) al [] [])) (hg:PairSl z gv (cs.map pI)) (h1:1≤al.length) (h6:al.length≤6) (hcov:Su.cov (Ww t x al)≤cs.length) (hb:z[b14]? = some (.ints (Ww t x al) 3 false)) {Q:Value→Yc→Prop} (hQ : ∀ h',Q (.bool true) h') :
  AWS prog 198 (.seq q3_31 (.seq q3_32 (.seq (.seq q3_33 (.cond (.tmp 169) (.seq q3_34 .ret) .skip)) (.seq (.seq q3_35 (.block 8 (.loop l3_4))) (.seq q3_41 .ret))))) (Zu prog [.tmp 4] Q) [(5,av),(10,fv),(12,gv),(14,.slice (some ⟨b14,0,none⟩) al.length al.length)] z:=by
 have hl:(Ww t x al).length=al.length:=Wn _ _
 have hnv:=intSl_blk hb
 rw [hl] at hnv
 have hgs:=nearT_gs (t:=t) (x:=x) h1 h6
 have hfc:=fool_code (t:=t) (x:=x) h1 h6
 change gl (Wy t x) al [] []=(Sr.codeL (Sr.nearL (Ww t x al) 1)).map fun i=>al.getD i (0,0) at hfc
 have hw:Sr.wn (Ww t x al) 1=al.length:=by rw [Sr.wn,hl,Nat.pow_one]
 have gr:=Sr.nearL_gr hgs (k:=1) (by rw [hw]; omega)
 have hnl:(Sr.nearL (Ww t x al) 1).length=al.length:=by rw [Sr.nearL_len,hw]
 have hcl:=gl_code gr
 rw [hnl] at hcl
 have hsub : ∀ c∈Sr.codeL (Sr.nearL (Ww t x al) 1),c<al.length:=fun c hc=>by
  rw [← hcl] at hc
  rcases gl_sub _ _ _ _ _ hc with h | h | h
  · exact List.mem_range.1 h
  · cases h
  · cases h
 have hcle:(Sr.codeL (Sr.nearL (Ww t x al) 1)).length≤6:=by
  have:=gl_le (Sr.ok (Sr.nearL (Ww t x al) 1)) (List.range al.length) [] []
  rw [hcl] at this
  simp at this; omega
 have hrng:=near_rng (t:=t) (x:=x) h1 h6
 have hgrs:=Su.grs_iff.2 hgs
 rw [hfc] at hf
 refine Yb fun N15 hN15=>?_
 simp only [q3_31]
 refine Yl 2 fun N1 hN1=>?_
 simp (maxSteps:=2000000) only [s3,↓Za,↓Zk,↓Zr,↓Ze,↓Zm,↓Zs,↓Zf,↓Zh,↓Zg,↓Zc,↓Zb,↓vdn,vup,Zn,Zl,Zo,Zi,Zj,List.map_cons,List.map_nil,cond_true,cond_false,aop,Zv,Zq,Zp,ev,sput,Zt,Zy,Ya,unK,Zd,Zw,Nat.reduceBEq,Nat.reduceAdd,Int.reduceBEq,Int.reduceBNe,Int.reduceLT,Zu,Zz,tup,tyf,Yz,List.nil_append,List.append_nil,List.toList_toArray,List.cons_append,List.take_succ_cons,List.take_zero]
 refine (Or.clone_call hnv (by omega)).mono ?_
 rintro cw h1 ⟨hcw,g,rfl⟩
 refine hN1 _ _ ?_
 clear hN1 N1
 simp only [List.drop_succ_cons,List.drop_zero]
 refine Yl 1 fun N1 hN1=>?_
 simp (maxSteps:=2000000) only [s3,↓Za,↓Zk,↓Zr,↓Ze,↓Zm,↓Zs,↓Zf,↓Zh,↓Zg,↓Zc,↓Zb,↓vdn,vup,Zn,Zl,Zo,Zi,Zj,List.map_cons,List.map_nil,cond_true,cond_false,aop,Zv,Zq,Zp,ev,sput,Zt,Zy,Ya,unK,Zd,Zw,Nat.reduceBEq,Nat.reduceAdd,Int.reduceBEq,Int.reduceBNe,Int.reduceLT,Zu,Zz,tup,tyf,Yz,List.nil_append,List.append_nil,List.toList_toArray,List.cons_append,List.take_succ_cons,List.take_zero]
 refine (Su.code_call hcw (by omega) hrng (k:=1)).mono ?_
 rintro r h2 ⟨hE2,hr⟩
 refine hN1 _ _ ?_
 clear hN1 N1
 simp only [List.drop_succ_cons,List.drop_zero]
 rw [Su.codeR,if_pos ⟨hgrs,by decide,by decide⟩,if_pos (by rw [show (1:Int).toNat=1 from rfl,hw]; omega)] at hr
 obtain ⟨cv,rfl,hcv⟩:=hr
 rw [show (1:Int).toNat=1 from rfl] at hcv
 simp (maxSteps:=2000000) only [s3,↓Za,↓Zk,↓Zr,↓Ze,↓Zm,↓Zs,↓Zf,↓Zh,↓Zg,↓Zc,↓Zb,↓vdn,vup,Zn,Zl,Zo,Zi,Zj,List.map_cons,List.map_nil,cond_true,cond_false,aop,Zv,Zq,Zp,ev,sput,Zt,Zy,Ya,unK,Zd,Zw,Nat.reduceBEq,Nat.reduceAdd,Int.reduceBEq,Int.reduceBNe,Int.reduceLT,Zu,Zz,tup,tyf]
 refine hN15 [(5,av),(10,fv),(11,.int .i64 0),(12,gv),(14,.slice (some ⟨b14,0,none⟩) al.length al.length),(19,cv)] _ _ ?_ (by simp (maxSteps:=2000000) only [↓Za,↓Zk,↓Zr,↓Ze,↓Zm,↓Zs,↓Zf,↓Zh,↓Zg,↓Zc,↓Zb,↓vdn,vup,Zn,Zl,Zo,Zi,Zj,List.map_cons,List.map_nil,cond_true,cond_false,aop,Zv,Zq,Zp,ev,sput,Zt,Zy,Ya,unK,Zd,Zw,Nat.reduceBEq,Nat.reduceAdd,Int.reduceBEq,Int.reduceBNe,Int.reduceLT,Zu,Zz,tup,tyf])
 clear hN15
 try clear N15
 have hE02:Ext (fun _=>False) z h2:=(Ext.app _ _ _).trans hE2
 have hnv2:=intExt hnv hE02
 refine Yb fun N16 hN16=>?_
 simp only [q3_32]
 refine Yl 2 fun N1 hN1=>?_
 simp (maxSteps:=2000000) only [s3,↓Za,↓Zk,↓Zr,↓Ze,↓Zm,↓Zs,↓Zf,↓Zh,↓Zg,↓Zc,↓Zb,↓vdn,vup,Zn,Zl,Zo,Zi,Zj,List.map_cons,List.map_nil,cond_true,cond_false,aop,Zv,Zq,Zp,ev,sput,Zt,Zy,Ya,unK,Zd,Zw,Nat.reduceBEq,Nat.reduceAdd,Int.reduceBEq,Int.reduceBNe,Int.reduceLT,Zu,Zz,tup,tyf,Yz,List.nil_append,List.append_nil,List.toList_toArray,List.cons_append,List.take_succ_cons,List.take_zero]
 refine (Su.cover_call hnv2 (by omega) hrng).mono ?_
 rintro r h3 ⟨hE3,rfl⟩
 refine hN1 _ _ ?_
 clear hN1 N1
 simp only [List.drop_succ_cons,List.drop_zero]
 rw [if_pos hgrs]
 simp (maxSteps:=2000000) only [s3,↓Za,↓Zk,↓Zr,↓Ze,↓Zm,↓Zs,↓Zf,↓Zh,↓Zg,↓Zc,↓Zb,↓vdn,vup,Zn,Zl,Zo,Zi,Zj,List.map_cons,List.map_nil,cond_true,cond_false,aop,Zv,Zq,Zp,ev,sput,Zt,Zy,Ya,unK,Zd,Zw,Nat.reduceBEq,Nat.reduceAdd,Int.reduceBEq,Int.reduceBNe,Int.reduceLT,Zu,Zz,tup,tyf]
 refine hN16 [(5,av),(10,fv),(11,.int .i64 0),(12,gv),(13,.int .i64 0),(14,.slice (some ⟨b14,0,none⟩) al.length al.length),(19,cv),(20,Zx (Su.cov (Ww t x al):Nat))] _ _ ?_ (by simp (maxSteps:=2000000) only [↓Za,↓Zk,↓Zr,↓Ze,↓Zm,↓Zs,↓Zf,↓Zh,↓Zg,↓Zc,↓Zb,↓vdn,vup,Zn,Zl,Zo,Zi,Zj,List.map_cons,List.map_nil,cond_true,cond_false,aop,Zv,Zq,Zp,ev,sput,Zt,Zy,Ya,unK,Zd,Zw,Nat.reduceBEq,Nat.reduceAdd,Int.reduceBEq,Int.reduceBNe,Int.reduceLT,Zu,Zz,tup,tyf])
 clear hN16
 try clear N16
 have hE03:=hE02.trans hE3
 have hci:=intExt hcv.int hE3
 have hf3:=hf.ext hE03
 have hg3:=hg.ext hE03
 have ha3:=ha.ext hE03
 have e1:(((Sr.codeL (Sr.nearL (Ww t x al) 1)).map Int.ofNat).length:Int)=((Sr.codeL (Sr.nearL (Ww t x al) 1)).length:Int):=by rw [List.length_map]
 have e2:((((Sr.codeL (Sr.nearL (Ww t x al) 1)).map fun i=>al.getD i (0,0))).length:Int)=((Sr.codeL (Sr.nearL (Ww t x al) 1)).length:Int):=by rw [List.length_map]
 have e3:(((Sr.codeL (Sr.nearL (Ww t x al) 1)).length:Int) != ((Sr.codeL (Sr.nearL (Ww t x al) 1)).length:Int))=false:=by simp
 have e4:decide (((cs.map pI).length:Int)<(Su.cov (Ww t x al):Nat))=false:=decide_eq_false (by rw [List.length_map]; omega)
 refine Ye fun M hM=>?_
 refine Yb fun N17 hN17=>?_
 simp only [q3_33]
 refine Yl 6 fun N1 hN1=>?_
 simp (maxSteps:=2000000) only [s3,↓Za,↓Zk,↓Zr,↓Ze,↓Zm,↓Zs,↓Zf,↓Zh,↓Zg,↓Zc,↓Zb,↓vdn,vup,Zn,Zl,Zo,Zi,Zj,List.map_cons,List.map_nil,cond_true,cond_false,aop,Zv,Zq,Zp,ev,sput,Zt,Zy,Ya,unK,Zd,Zw,Nat.reduceBEq,Nat.reduceAdd,Int.reduceBEq,Int.reduceBNe,Int.reduceLT,Zu,Zz,tup,tyf,List.take_succ_cons,List.take_zero]
 refine hN1 _ _ ?_
 clear hN1 N1
 simp only [List.drop_succ_cons,List.drop_zero]
 refine Yl 7 fun N1 hN1=>?_
 simp (maxSteps:=2000000) only [s3,↓Za,↓Zk,↓Zr,↓Ze,↓Zm,↓Zs,↓Zf,↓Zh,↓Zg,↓Zc,↓Zb,↓vdn,vup,Zn,Zl,Zo,Zi,Zj,List.map_cons,List.map_nil,cond_true,cond_false,aop,Zv,Zq,Zp,ev,sput,Zt,Zy,Ya,unK,Zd,Zw,Nat.reduceBEq,Nat.reduceAdd,Int.reduceBEq,Int.reduceBNe,Int.reduceLT,Zu,Zz,tup,tyf,List.take_succ_cons,List.take_zero,hci.len,hf3.len,e1,e2,e3]
 refine hN1 _ _ ?_
 clear hN1 N1
 simp only [List.drop_succ_cons,List.drop_zero]
 simp (maxSteps:=2000000) only [s3,↓Za,↓Zk,↓Zr,↓Ze,↓Zm,↓Zs,↓Zf,↓Zh,↓Zg,↓Zc,↓Zb,↓vdn,vup,Zn,Zl,Zo,Zi,Zj,List.map_cons,List.map_nil,cond_true,cond_false,aop,Zv,Zq,Zp,ev,sput,Zt,Zy,Ya,unK,Zd,Zw,Nat.reduceBEq,Nat.reduceAdd,Int.reduceBEq,Int.reduceBNe,Int.reduceLT,Zu,Zz,tup,tyf,hg3.len,e4]
 refine hN17 [(5,av),(10,fv),(11,.int .i64 0),(12,gv),(13,.int .i64 0),(14,.slice (some ⟨b14,0,none⟩) al.length al.length),(19,cv),(20,Zx (Su.cov (Ww t x al):Nat)),(169,.bool false)] _ _ ?_ (by simp (maxSteps:=2000000) only [↓Za,↓Zk,↓Zr,↓Ze,↓Zm,↓Zs,↓Zf,↓Zh,↓Zg,↓Zc,↓Zb,↓vdn,vup,Zn,Zl,Zo,Zi,Zj,List.map_cons,List.map_nil,cond_true,cond_false,aop,Zv,Zq,Zp,ev,sput,Zt,Zy,Ya,unK,Zd,Zw,Nat.reduceBEq,Nat.reduceAdd,Int.reduceBEq,Int.reduceBNe,Int.reduceLT,Zu,Zz,tup,tyf])
 clear hN17
 try clear N17
 refine Yq rfl ?_
 refine Yd ?_
 simp (maxSteps:=2000000) only [s3,↓Za,↓Zk,↓Zr,↓Ze,↓Zm,↓Zs,↓Zf,↓Zh,↓Zg,↓Zc,↓Zb,↓vdn,vup,Zn,Zl,Zo,Zi,Zj,List.map_cons,List.map_nil,cond_true,cond_false,aop,Zv,Zq,Zp,ev,sput,Zt,Zy,Ya,unK,Zd,Zw,Nat.reduceBEq,Nat.reduceAdd,Int.reduceBEq,Int.reduceBNe,Int.reduceLT,Zu,Zz,tup,tyf]
 refine hM [(5,av),(10,fv),(19,cv)] _ _ ?_ (by simp (maxSteps:=2000000) only [↓Za,↓Zk,↓Zr,↓Ze,↓Zm,↓Zs,↓Zf,↓Zh,↓Zg,↓Zc,↓Zb,↓vdn,vup,Zn,Zl,Zo,Zi,Zj,List.map_cons,List.map_nil,cond_true,cond_false,aop,Zv,Zq,Zp,ev,sput,Zt,Zy,Ya,unK,Zd,Zw,Nat.reduceBEq,Nat.reduceAdd,Int.reduceBEq,Int.reduceBNe,Int.reduceLT,Zu,Zz,tup,tyf])
 clear hM
 try clear M
 exact compare_loop hci ha3 hf3 h6 hcle hsub hQ
theorem law_table [BitTab prog 0] {h:Yc} {v:Value} {t:List (List Int)} {x:Int} (hv:TabS h v t) (ht:Tab t) (hx:x=0∨x=1) {Q:Value→Yc→Prop} (hQ : ∀ h',Q (.bool true) h') :
  AWS prog 198 (.seq q3_3 (.seq (.seq q3_4 (.block 0 (.loop l3_1))) (.seq q3_14 (.seq q3_15 (.seq (.seq q3_16 (.cond (.tmp 74) (.seq q3_17 .ret) .skip)) (.seq (.seq q3_18 (.cond (.tmp 82) (.seq q3_19 .ret) .skip)) (.seq q3_20 (.seq (.seq q3_21 (.block 4 (.loop l3_3))) (.seq q3_31 (.seq q3_32 (.seq (.seq q3_33 (.cond (.tmp 169) (.seq q3_34 .ret) .skip)) (.seq (.seq q3_35 (.block 8 (.loop l3_4))) (.seq q3_41 .ret))))))))))))) (Zu prog [.tmp 4] Q) [(0,v),(1,Zx x)] h:=by
 refine Yb fun N18 hN18=>?_
 simp (maxSteps:=2000000) only [s3,↓Za,↓Zk,↓Zr,↓Ze,↓Zm,↓Zs,↓Zf,↓Zh,↓Zg,↓Zc,↓Zb,↓vdn,vup,Zn,Zl,Zo,Zi,Zj,List.map_cons,List.map_nil,cond_true,cond_false,aop,Zv,Zq,Zp,ev,sput,Zt,Zy,Ya,unK,Zd,Zw,Nat.reduceBEq,Nat.reduceAdd,Int.reduceBEq,Int.reduceBNe,Int.reduceLT,Zu,Zz,tup,tyf]
 refine hN18 [(0,v),(1,Zx x),(5,.slice none 0 0)] _ _ ?_ (by simp (maxSteps:=2000000) only [↓Za,↓Zk,↓Zr,↓Ze,↓Zm,↓Zs,↓Zf,↓Zh,↓Zg,↓Zc,↓Zb,↓vdn,vup,Zn,Zl,Zo,Zi,Zj,List.map_cons,List.map_nil,cond_true,cond_false,aop,Zv,Zq,Zp,ev,sput,Zt,Zy,Ya,unK,Zd,Zw,Nat.reduceBEq,Nat.reduceAdd,Int.reduceBEq,Int.reduceBNe,Int.reduceLT,Zu,Zz,tup,tyf])
 clear hN18
 try clear N18
 refine Ye fun M hM=>?_
 refine law_entries hv ht fun e h1 av s he=>hM [(0,v),(1,Zx x),(5,av)] _ _ ?_ he
 clear hM
 have hin : ∀ p∈entL t x,InT t p:=fun p hp=>(entL_in ht hp).1
 have hlen:(entL t x).length≤16:=by
  have:=ents_len ht x t.length
  have:=ht.n4
  unfold entL; omega
 refine Yb fun N19 hN19=>?_
 simp (maxSteps:=2000000) only [s3,↓Za,↓Zk,↓Zr,↓Ze,↓Zm,↓Zs,↓Zf,↓Zh,↓Zg,↓Zc,↓Zb,↓vdn,vup,Zn,Zl,Zo,Zi,Zj,List.map_cons,List.map_nil,cond_true,cond_false,aop,Zv,Zq,Zp,ev,sput,Zt,Zy,Ya,unK,Zd,Zw,Nat.reduceBEq,Nat.reduceAdd,Int.reduceBEq,Int.reduceBNe,Int.reduceLT,Zu,Zz,tup,tyf,Yz,List.nil_append,List.append_nil,List.toList_toArray,List.cons_append]
 refine (fool_call (hv.ext s.ext) ht hx).mono ?_
 rintro r h2 ⟨fv,rfl,hof,hE2⟩
 simp (maxSteps:=2000000) only [s3,↓Za,↓Zk,↓Zr,↓Ze,↓Zm,↓Zs,↓Zf,↓Zh,↓Zg,↓Zc,↓Zb,↓vdn,vup,Zn,Zl,Zo,Zi,Zj,List.map_cons,List.map_nil,cond_true,cond_false,aop,Zv,Zq,Zp,ev,sput,Zt,Zy,Ya,unK,Zd,Zw,Nat.reduceBEq,Nat.reduceAdd,Int.reduceBEq,Int.reduceBNe,Int.reduceLT,Zu,Zz,tup,tyf]
 refine hN19 [(0,v),(1,Zx x),(5,av),(10,fv),(11,.int .i64 0)] _ _ ?_ (by simp (maxSteps:=2000000) only [↓Za,↓Zk,↓Zr,↓Ze,↓Zm,↓Zs,↓Zf,↓Zh,↓Zg,↓Zc,↓Zb,↓vdn,vup,Zn,Zl,Zo,Zi,Zj,List.map_cons,List.map_nil,cond_true,cond_false,aop,Zv,Zq,Zp,ev,sput,Zt,Zy,Ya,unK,Zd,Zw,Nat.reduceBEq,Nat.reduceAdd,Int.reduceBEq,Int.reduceBNe,Int.reduceLT,Zu,Zz,tup,tyf])
 clear hN19
 try clear N19
 refine Yb fun N20 hN20=>?_
 simp (maxSteps:=2000000) only [s3,↓Za,↓Zk,↓Zr,↓Ze,↓Zm,↓Zs,↓Zf,↓Zh,↓Zg,↓Zc,↓Zb,↓vdn,vup,Zn,Zl,Zo,Zi,Zj,List.map_cons,List.map_nil,cond_true,cond_false,aop,Zv,Zq,Zp,ev,sput,Zt,Zy,Ya,unK,Zd,Zw,Nat.reduceBEq,Nat.reduceAdd,Int.reduceBEq,Int.reduceBNe,Int.reduceLT,Zu,Zz,tup,tyf,Yz,List.nil_append,List.append_nil,List.toList_toArray,List.cons_append]
 refine (coverT_call ((hv.ext s.ext).ext hE2) ht hx).mono ?_
 rintro r h3 ⟨gv,cs,rfl,hog,hgm,hgc,hE3⟩
 simp (maxSteps:=2000000) only [s3,↓Za,↓Zk,↓Zr,↓Ze,↓Zm,↓Zs,↓Zf,↓Zh,↓Zg,↓Zc,↓Zb,↓vdn,vup,Zn,Zl,Zo,Zi,Zj,List.map_cons,List.map_nil,cond_true,cond_false,aop,Zv,Zq,Zp,ev,sput,Zt,Zy,Ya,unK,Zd,Zw,Nat.reduceBEq,Nat.reduceAdd,Int.reduceBEq,Int.reduceBNe,Int.reduceLT,Zu,Zz,tup,tyf]
 refine hN20 [(0,v),(1,Zx x),(5,av),(10,fv),(11,.int .i64 0),(12,gv),(13,.int .i64 0)] _ _ ?_ (by simp (maxSteps:=2000000) only [↓Za,↓Zk,↓Zr,↓Ze,↓Zm,↓Zs,↓Zf,↓Zh,↓Zg,↓Zc,↓Zb,↓vdn,vup,Zn,Zl,Zo,Zi,Zj,List.map_cons,List.map_nil,cond_true,cond_false,aop,Zv,Zq,Zp,ev,sput,Zt,Zy,Ya,unK,Zd,Zw,Nat.reduceBEq,Nat.reduceAdd,Int.reduceBEq,Int.reduceBNe,Int.reduceLT,Zu,Zz,tup,tyf])
 clear hN20
 try clear N20
 refine Ye fun A hA=>?_
 refine Yb fun N21 hN21=>?_
 simp (maxSteps:=2000000) only [s3,↓Za,↓Zk,↓Zr,↓Ze,↓Zm,↓Zs,↓Zf,↓Zh,↓Zg,↓Zc,↓Zb,↓vdn,vup,Zn,Zl,Zo,Zi,Zj,List.map_cons,List.map_nil,cond_true,cond_false,aop,Zv,Zq,Zp,ev,sput,Zt,Zy,Ya,unK,Zd,Zw,Nat.reduceBEq,Nat.reduceAdd,Int.reduceBEq,Int.reduceBNe,Int.reduceLT,Zu,Zz,tup,tyf]
 refine hN21 [(0,v),(1,Zx x),(5,av),(10,fv),(11,.int .i64 0),(12,gv),(13,.int .i64 0),(74,.bool false)] _ _ ?_ (by simp (maxSteps:=2000000) only [↓Za,↓Zk,↓Zr,↓Ze,↓Zm,↓Zs,↓Zf,↓Zh,↓Zg,↓Zc,↓Zb,↓vdn,vup,Zn,Zl,Zo,Zi,Zj,List.map_cons,List.map_nil,cond_true,cond_false,aop,Zv,Zq,Zp,ev,sput,Zt,Zy,Ya,unK,Zd,Zw,Nat.reduceBEq,Nat.reduceAdd,Int.reduceBEq,Int.reduceBNe,Int.reduceLT,Zu,Zz,tup,tyf])
 clear hN21
 try clear N21
 refine Yq rfl ?_
 refine Yd ?_
 simp (maxSteps:=2000000) only [s3,↓Za,↓Zk,↓Zr,↓Ze,↓Zm,↓Zs,↓Zf,↓Zh,↓Zg,↓Zc,↓Zb,↓vdn,vup,Zn,Zl,Zo,Zi,Zj,List.map_cons,List.map_nil,cond_true,cond_false,aop,Zv,Zq,Zp,ev,sput,Zt,Zy,Ya,unK,Zd,Zw,Nat.reduceBEq,Nat.reduceAdd,Int.reduceBEq,Int.reduceBNe,Int.reduceLT,Zu,Zz,tup,tyf]
 refine hA [(0,v),(1,Zx x),(5,av),(10,fv),(12,gv)] _ _ ?_ (by simp (maxSteps:=2000000) only [↓Za,↓Zk,↓Zr,↓Ze,↓Zm,↓Zs,↓Zf,↓Zh,↓Zg,↓Zc,↓Zb,↓vdn,vup,Zn,Zl,Zo,Zi,Zj,List.map_cons,List.map_nil,cond_true,cond_false,aop,Zv,Zq,Zp,ev,sput,Zt,Zy,Ya,unK,Zd,Zw,Nat.reduceBEq,Nat.reduceAdd,Int.reduceBEq,Int.reduceBNe,Int.reduceLT,Zu,Zz,tup,tyf])
 clear hA
 try clear A
 have hE23:=hE2.trans hE3
 have hav:=s.own.pair.ext hE23
 have hv3:=(hv.ext s.ext).ext hE23
 have hfv:=hof.pair.ext hE3
 have hgv:=hog.pair
 refine Ye fun B hB=>?_
 by_cases h1:(entL t x).length<1
 · have g1:decide (((entL t x).length:Int)<1)=true:=decide_eq_true (by omega)
   refine Yb fun N22 hN22=>?_
   simp (maxSteps:=2000000) only [s3,↓Za,↓Zk,↓Zr,↓Ze,↓Zm,↓Zs,↓Zf,↓Zh,↓Zg,↓Zc,↓Zb,↓vdn,vup,Zn,Zl,Zo,Zi,Zj,List.map_cons,List.map_nil,cond_true,cond_false,aop,Zv,Zq,Zp,ev,sput,Zt,Zy,Ya,unK,Zd,Zw,Nat.reduceBEq,Nat.reduceAdd,Int.reduceBEq,Int.reduceBNe,Int.reduceLT,Zu,Zz,tup,tyf,hav.len,g1]
   refine hN22 [(0,v),(1,Zx x),(5,av),(10,fv),(12,gv),(82,.bool true)] _ _ ?_ (by simp (maxSteps:=2000000) only [↓Za,↓Zk,↓Zr,↓Ze,↓Zm,↓Zs,↓Zf,↓Zh,↓Zg,↓Zc,↓Zb,↓vdn,vup,Zn,Zl,Zo,Zi,Zj,List.map_cons,List.map_nil,cond_true,cond_false,aop,Zv,Zq,Zp,ev,sput,Zt,Zy,Ya,unK,Zd,Zw,Nat.reduceBEq,Nat.reduceAdd,Int.reduceBEq,Int.reduceBNe,Int.reduceLT,Zu,Zz,tup,tyf])
   clear hN22
   try clear N22
   refine Xe rfl ?_
   refine Yb fun N23 hN23=>?_
   simp (maxSteps:=2000000) only [s3,↓Za,↓Zk,↓Zr,↓Ze,↓Zm,↓Zs,↓Zf,↓Zh,↓Zg,↓Zc,↓Zb,↓vdn,vup,Zn,Zl,Zo,Zi,Zj,List.map_cons,List.map_nil,cond_true,cond_false,aop,Zv,Zq,Zp,ev,sput,Zt,Zy,Ya,unK,Zd,Zw,Nat.reduceBEq,Nat.reduceAdd,Int.reduceBEq,Int.reduceBNe,Int.reduceLT,Zu,Zz,tup,tyf,Yz,List.nil_append,List.append_nil,List.toList_toArray,List.cons_append]
   refine (Su.awake_call).mono ?_
   rintro _ h4 ⟨rfl,hE4⟩
   refine hN23 [(0,v),(1,Zx x),(4,.bool true),(5,av),(10,fv),(12,gv),(82,.bool true)] _ _ ?_ (by simp (maxSteps:=2000000) only [↓Za,↓Zk,↓Zr,↓Ze,↓Zm,↓Zs,↓Zf,↓Zh,↓Zg,↓Zc,↓Zb,↓vdn,vup,Zn,Zl,Zo,Zi,Zj,List.map_cons,List.map_nil,cond_true,cond_false,aop,Zv,Zq,Zp,ev,sput,Zt,Zy,Ya,unK,Zd,Zw,Nat.reduceBEq,Nat.reduceAdd,Int.reduceBEq,Int.reduceBNe,Int.reduceLT,Zu,Zz,tup,tyf])
   clear hN23
   try clear N23
   refine Yd ?_
   simp (maxSteps:=2000000) only [s3,↓Za,↓Zk,↓Zr,↓Ze,↓Zm,↓Zs,↓Zf,↓Zh,↓Zg,↓Zc,↓Zb,↓vdn,vup,Zn,Zl,Zo,Zi,Zj,List.map_cons,List.map_nil,cond_true,cond_false,aop,Zv,Zq,Zp,ev,sput,Zt,Zy,Ya,unK,Zd,Zw,Nat.reduceBEq,Nat.reduceAdd,Int.reduceBEq,Int.reduceBNe,Int.reduceLT,Zu,Zz,tup,tyf]
   exact hQ _
 · have g1:decide (((entL t x).length:Int)<1)=false:=decide_eq_false (by omega)
   by_cases h6:6<(entL t x).length
   · have g2:decide (((entL t x).length:Int) > 6)=true:=decide_eq_true (by omega)
     refine Yb fun N24 hN24=>?_
     simp (maxSteps:=2000000) only [s3,↓Za,↓Zk,↓Zr,↓Ze,↓Zm,↓Zs,↓Zf,↓Zh,↓Zg,↓Zc,↓Zb,↓vdn,vup,Zn,Zl,Zo,Zi,Zj,List.map_cons,List.map_nil,cond_true,cond_false,aop,Zv,Zq,Zp,ev,sput,Zt,Zy,Ya,unK,Zd,Zw,Nat.reduceBEq,Nat.reduceAdd,Int.reduceBEq,Int.reduceBNe,Int.reduceLT,Zu,Zz,tup,tyf,hav.len,g1,g2]
     refine hN24 [(0,v),(1,Zx x),(5,av),(10,fv),(12,gv),(82,.bool true)] _ _ ?_ (by simp (maxSteps:=2000000) only [↓Za,↓Zk,↓Zr,↓Ze,↓Zm,↓Zs,↓Zf,↓Zh,↓Zg,↓Zc,↓Zb,↓vdn,vup,Zn,Zl,Zo,Zi,Zj,List.map_cons,List.map_nil,cond_true,cond_false,aop,Zv,Zq,Zp,ev,sput,Zt,Zy,Ya,unK,Zd,Zw,Nat.reduceBEq,Nat.reduceAdd,Int.reduceBEq,Int.reduceBNe,Int.reduceLT,Zu,Zz,tup,tyf])
     clear hN24
     try clear N24
     refine Xe rfl ?_
     refine Yb fun N25 hN25=>?_
     simp (maxSteps:=2000000) only [s3,↓Za,↓Zk,↓Zr,↓Ze,↓Zm,↓Zs,↓Zf,↓Zh,↓Zg,↓Zc,↓Zb,↓vdn,vup,Zn,Zl,Zo,Zi,Zj,List.map_cons,List.map_nil,cond_true,cond_false,aop,Zv,Zq,Zp,ev,sput,Zt,Zy,Ya,unK,Zd,Zw,Nat.reduceBEq,Nat.reduceAdd,Int.reduceBEq,Int.reduceBNe,Int.reduceLT,Zu,Zz,tup,tyf,Yz,List.nil_append,List.append_nil,List.toList_toArray,List.cons_append]
     refine (Su.awake_call).mono ?_
     rintro _ h4 ⟨rfl,hE4⟩
     refine hN25 [(0,v),(1,Zx x),(4,.bool true),(5,av),(10,fv),(12,gv),(82,.bool true)] _ _ ?_ (by simp (maxSteps:=2000000) only [↓Za,↓Zk,↓Zr,↓Ze,↓Zm,↓Zs,↓Zf,↓Zh,↓Zg,↓Zc,↓Zb,↓vdn,vup,Zn,Zl,Zo,Zi,Zj,List.map_cons,List.map_nil,cond_true,cond_false,aop,Zv,Zq,Zp,ev,sput,Zt,Zy,Ya,unK,Zd,Zw,Nat.reduceBEq,Nat.reduceAdd,Int.reduceBEq,Int.reduceBNe,Int.reduceLT,Zu,Zz,tup,tyf])
     clear hN25
     try clear N25
     refine Yd ?_
     simp (maxSteps:=2000000) only [s3,↓Za,↓Zk,↓Zr,↓Ze,↓Zm,↓Zs,↓Zf,↓Zh,↓Zg,↓Zc,↓Zb,↓vdn,vup,Zn,Zl,Zo,Zi,Zj,List.map_cons,List.map_nil,cond_true,cond_false,aop,Zv,Zq,Zp,ev,sput,Zt,Zy,Ya,unK,Zd,Zw,Nat.reduceBEq,Nat.reduceAdd,Int.reduceBEq,Int.reduceBNe,Int.reduceLT,Zu,Zz,tup,tyf]
     exact hQ _
   · have g2:decide (((entL t x).length:Int) > 6)=false:=decide_eq_false (by omega)
     refine Yb fun N26 hN26=>?_
     simp (maxSteps:=2000000) only [s3,↓Za,↓Zk,↓Zr,↓Ze,↓Zm,↓Zs,↓Zf,↓Zh,↓Zg,↓Zc,↓Zb,↓vdn,vup,Zn,Zl,Zo,Zi,Zj,List.map_cons,List.map_nil,cond_true,cond_false,aop,Zv,Zq,Zp,ev,sput,Zt,Zy,Ya,unK,Zd,Zw,Nat.reduceBEq,Nat.reduceAdd,Int.reduceBEq,Int.reduceBNe,Int.reduceLT,Zu,Zz,tup,tyf,hav.len,g1,g2]
     refine hN26 [(0,v),(1,Zx x),(5,av),(10,fv),(12,gv),(82,.bool false)] _ _ ?_ (by simp (maxSteps:=2000000) only [↓Za,↓Zk,↓Zr,↓Ze,↓Zm,↓Zs,↓Zf,↓Zh,↓Zg,↓Zc,↓Zb,↓vdn,vup,Zn,Zl,Zo,Zi,Zj,List.map_cons,List.map_nil,cond_true,cond_false,aop,Zv,Zq,Zp,ev,sput,Zt,Zy,Ya,unK,Zd,Zw,Nat.reduceBEq,Nat.reduceAdd,Int.reduceBEq,Int.reduceBNe,Int.reduceLT,Zu,Zz,tup,tyf])
     clear hN26
     try clear N26
     refine Yq rfl ?_
     refine Yd ?_
     simp (maxSteps:=2000000) only [s3,↓Za,↓Zk,↓Zr,↓Ze,↓Zm,↓Zs,↓Zf,↓Zh,↓Zg,↓Zc,↓Zb,↓vdn,vup,Zn,Zl,Zo,Zi,Zj,List.map_cons,List.map_nil,cond_true,cond_false,aop,Zv,Zq,Zp,ev,sput,Zt,Zy,Ya,unK,Zd,Zw,Nat.reduceBEq,Nat.reduceAdd,Int.reduceBEq,Int.reduceBNe,Int.reduceLT,Zu,Zz,tup,tyf]
     refine hB [(0,v),(1,Zx x),(5,av),(10,fv),(12,gv)] _ _ ?_ (by simp (maxSteps:=2000000) only [↓Za,↓Zk,↓Zr,↓Ze,↓Zm,↓Zs,↓Zf,↓Zh,↓Zg,↓Zc,↓Zb,↓vdn,vup,Zn,Zl,Zo,Zi,Zj,List.map_cons,List.map_nil,cond_true,cond_false,aop,Zv,Zq,Zp,ev,sput,Zt,Zy,Ya,unK,Zd,Zw,Nat.reduceBEq,Nat.reduceAdd,Int.reduceBEq,Int.reduceBNe,Int.reduceLT,Zu,Zz,tup,tyf])
     clear hB
     try clear B
     have hmk : ∀ K:Value→Yc→Prop,makeK prog h3 27 (Zx (entL t x).length) (Zx (entL t x).length) K=K (.slice (some ⟨h3.length,0,none⟩) (entL t x).length (entL t x).length) (h3++[.ints (List.replicate (entL t x).length 0) 3 false]):=fun K=>by
      rw [makeI Wp zero_3 (by kernel_rfl) (by omega) (by omega),Int.toNat_natCast]
     refine Yb fun N27 hN27=>?_
     simp (maxSteps:=2000000) only [s3,↓Za,↓Zk,↓Zr,↓Ze,↓Zm,↓Zs,↓Zf,↓Zh,↓Zg,↓Zc,↓Zb,↓vdn,vup,Zn,Zl,Zo,Zi,Zj,List.map_cons,List.map_nil,cond_true,cond_false,aop,Zv,Zq,Zp,ev,sput,Zt,Zy,Ya,unK,Zd,Zw,Nat.reduceBEq,Nat.reduceAdd,Int.reduceBEq,Int.reduceBNe,Int.reduceLT,Zu,Zz,tup,tyf,hav.len,hmk]
     have hEm:Ext (fun _=>False) h3 (h3++[Blk.ints (List.replicate (entL t x).length 0) 3 false]):=Ext.app _ _ _
     have hbm:=Yj h3 (Blk.ints (List.replicate (entL t x).length 0) 3 false)
     generalize h3++[Blk.ints (List.replicate (entL t x).length 0) 3 false]=z at hEm hbm ⊢
     refine hN27 [(0,v),(1,Zx x),(5,av),(10,fv),(12,gv),(14,.slice (some ⟨h3.length,0,none⟩) (entL t x).length (entL t x).length)] _ _ ?_ (by simp (maxSteps:=2000000) only [↓Za,↓Zk,↓Zr,↓Ze,↓Zm,↓Zs,↓Zf,↓Zh,↓Zg,↓Zc,↓Zb,↓vdn,vup,Zn,Zl,Zo,Zi,Zj,List.map_cons,List.map_nil,cond_true,cond_false,aop,Zv,Zq,Zp,ev,sput,Zt,Zy,Ya,unK,Zd,Zw,Nat.reduceBEq,Nat.reduceAdd,Int.reduceBEq,Int.reduceBNe,Int.reduceLT,Zu,Zz,tup,tyf])
     clear hN27
     try clear N27
     refine Ye fun C hC=>?_
     refine near_loops hv3 ht hav hin (by omega) hEm (Nat.le_refl _) hbm fun e z1 hb1 hE1 he=>hC [(5,av),(10,fv),(12,gv),(14,.slice (some ⟨h3.length,0,none⟩) (entL t x).length (entL t x).length)] _ _ ?_ he
     clear hC
     refine law_codes (hav.ext hE1) (hfv.ext hE1) (hgv.ext hE1) (by omega) (by omega) ?_ hb1 hQ
     exact cover_bound (by omega) (by omega) hin cs (fun r hr i j hi hj hh=>(grR_mem ht (hgm r hr)).2.2.1 i j hi hj hh) hgc
theorem s3_callW [Tabs Tryd.prog] {args:List Value} {h:Yc} {Q:Value→Yc→Prop} (hsz:args.length≤198) (hk:AWS Tryd.prog 198 s3 (Zu Tryd.prog [.tmp 4] Q) (Zp 0 args) h):ACall Tryd.prog 3 args h Q :=
 Xg Tryd.func3 rfl (enters_of Tryd.func3 (by kernel_rfl) rfl) rfl rfl (by decide) s3_strip s3_ok hsz hk
theorem law_fooling [BitTab prog 0] {h:Yc} {v:Value} {t:List (List Int)} (hv:Tab0 h v t) (x:Int):ACall prog 3 [v,Zx x] h fun r _=>r = .bool true:=by
 refine s3_callW (by simp) ?_
 simp only [s3]
 refine Yb fun N28 hN28=>?_
 simp (maxSteps:=2000000) only [s3,↓Za,↓Zk,↓Zr,↓Ze,↓Zm,↓Zs,↓Zf,↓Zh,↓Zg,↓Zc,↓Zb,↓vdn,vup,Zn,Zl,Zo,Zi,Zj,List.map_cons,List.map_nil,cond_true,cond_false,aop,Zv,Zq,Zp,ev,sput,Zt,Zy,Ya,unK,Zd,Zw,Nat.reduceBEq,Nat.reduceAdd,Int.reduceBEq,Int.reduceBNe,Int.reduceLT,Zu,Zz,tup,tyf]
 refine hN28 [(0,v),(1,Zx x),(4,.bool false)] _ _ ?_ (by simp (maxSteps:=2000000) only [↓Za,↓Zk,↓Zr,↓Ze,↓Zm,↓Zs,↓Zf,↓Zh,↓Zg,↓Zc,↓Zb,↓vdn,vup,Zn,Zl,Zo,Zi,Zj,List.map_cons,List.map_nil,cond_true,cond_false,aop,Zv,Zq,Zp,ev,sput,Zt,Zy,Ya,unK,Zd,Zw,Nat.reduceBEq,Nat.reduceAdd,Int.reduceBEq,Int.reduceBNe,Int.reduceLT,Zu,Zz,tup,tyf])
 clear hN28
 try clear N28
 refine Ye fun M hM=>?_
 refine Yb fun N29 hN29=>?_
 simp only [q3_1]
 refine Yl 2 fun N1 hN1=>?_
 simp (maxSteps:=2000000) only [s3,↓Za,↓Zk,↓Zr,↓Ze,↓Zm,↓Zs,↓Zf,↓Zh,↓Zg,↓Zc,↓Zb,↓vdn,vup,Zn,Zl,Zo,Zi,Zj,List.map_cons,List.map_nil,cond_true,cond_false,aop,Zv,Zq,Zp,ev,sput,Zt,Zy,Ya,unK,Zd,Zw,Nat.reduceBEq,Nat.reduceAdd,Int.reduceBEq,Int.reduceBNe,Int.reduceLT,Zu,Zz,tup,tyf,Yz,List.nil_append,List.append_nil,List.toList_toArray,List.cons_append,List.take_succ_cons,List.take_zero]
 refine (table_call hv).mono ?_
 rintro r h ⟨rfl,hr⟩
 refine hN1 _ _ ?_
 clear hN1 N1
 simp only [List.drop_succ_cons,List.drop_zero]
 rcases hr with ⟨rfl,ht⟩ | ⟨rfl,ht⟩
 · refine Yl 3 fun N1 hN1=>?_
   simp (maxSteps:=2000000) only [s3,↓Za,↓Zk,↓Zr,↓Ze,↓Zm,↓Zs,↓Zf,↓Zh,↓Zg,↓Zc,↓Zb,↓vdn,vup,Zn,Zl,Zo,Zi,Zj,List.map_cons,List.map_nil,cond_true,cond_false,aop,Zv,Zq,Zp,ev,sput,Zt,Zy,Ya,unK,Zd,Zw,Nat.reduceBEq,Nat.reduceAdd,Int.reduceBEq,Int.reduceBNe,Int.reduceLT,Zu,Zz,tup,tyf,List.take_succ_cons,List.take_zero]
   refine hN1 _ _ ?_
   clear hN1 N1
   simp only [List.drop_succ_cons,List.drop_zero]
   refine Yl 1 fun N1 hN1=>?_
   simp (maxSteps:=2000000) only [s3,↓Za,↓Zk,↓Zr,↓Ze,↓Zm,↓Zs,↓Zf,↓Zh,↓Zg,↓Zc,↓Zb,↓vdn,vup,Zn,Zl,Zo,Zi,Zj,List.map_cons,List.map_nil,cond_true,cond_false,aop,Zv,Zq,Zp,ev,sput,Zt,Zy,Ya,unK,Zd,Zw,Nat.reduceBEq,Nat.reduceAdd,Int.reduceBEq,Int.reduceBNe,Int.reduceLT,Zu,Zz,tup,tyf,Yz,List.nil_append,List.append_nil,List.toList_toArray,List.cons_append,List.take_succ_cons,List.take_zero]
   refine (value_call).mono ?_
   rintro _ h ⟨rfl,rfl⟩
   refine hN1 _ _ ?_
   clear hN1 N1
   simp only [List.drop_succ_cons,List.drop_zero]
   cases hb:bitB x with
   | true =>
     simp (maxSteps:=2000000) only [s3,↓Za,↓Zk,↓Zr,↓Ze,↓Zm,↓Zs,↓Zf,↓Zh,↓Zg,↓Zc,↓Zb,↓vdn,vup,Zn,Zl,Zo,Zi,Zj,List.map_cons,List.map_nil,cond_true,cond_false,aop,Zv,Zq,Zp,ev,sput,Zt,Zy,Ya,unK,Zd,Zw,Nat.reduceBEq,Nat.reduceAdd,Int.reduceBEq,Int.reduceBNe,Int.reduceLT,Zu,Zz,tup,tyf,hb]
     refine hN29 [(0,v),(1,Zx x),(4,.bool false),(30,.bool false)] _ _ ?_ (by simp (maxSteps:=2000000) only [↓Za,↓Zk,↓Zr,↓Ze,↓Zm,↓Zs,↓Zf,↓Zh,↓Zg,↓Zc,↓Zb,↓vdn,vup,Zn,Zl,Zo,Zi,Zj,List.map_cons,List.map_nil,cond_true,cond_false,aop,Zv,Zq,Zp,ev,sput,Zt,Zy,Ya,unK,Zd,Zw,Nat.reduceBEq,Nat.reduceAdd,Int.reduceBEq,Int.reduceBNe,Int.reduceLT,Zu,Zz,tup,tyf])
     clear hN29
     try clear N29
     refine Yq rfl ?_
     refine Yd ?_
     simp (maxSteps:=2000000) only [s3,↓Za,↓Zk,↓Zr,↓Ze,↓Zm,↓Zs,↓Zf,↓Zh,↓Zg,↓Zc,↓Zb,↓vdn,vup,Zn,Zl,Zo,Zi,Zj,List.map_cons,List.map_nil,cond_true,cond_false,aop,Zv,Zq,Zp,ev,sput,Zt,Zy,Ya,unK,Zd,Zw,Nat.reduceBEq,Nat.reduceAdd,Int.reduceBEq,Int.reduceBNe,Int.reduceLT,Zu,Zz,tup,tyf]
     refine hM [(0,v),(1,Zx x)] _ _ ?_ (by simp (maxSteps:=2000000) only [↓Za,↓Zk,↓Zr,↓Ze,↓Zm,↓Zs,↓Zf,↓Zh,↓Zg,↓Zc,↓Zb,↓vdn,vup,Zn,Zl,Zo,Zi,Zj,List.map_cons,List.map_nil,cond_true,cond_false,aop,Zv,Zq,Zp,ev,sput,Zt,Zy,Ya,unK,Zd,Zw,Nat.reduceBEq,Nat.reduceAdd,Int.reduceBEq,Int.reduceBNe,Int.reduceLT,Zu,Zz,tup,tyf])
     clear hM
     try clear M
     exact law_table (hv.full fun r hr=>by rw [(ht.row r hr).1]; exact ht.w1) ht (bitB_iff.1 hb) fun _=>rfl
   | false =>
     simp (maxSteps:=2000000) only [s3,↓Za,↓Zk,↓Zr,↓Ze,↓Zm,↓Zs,↓Zf,↓Zh,↓Zg,↓Zc,↓Zb,↓vdn,vup,Zn,Zl,Zo,Zi,Zj,List.map_cons,List.map_nil,cond_true,cond_false,aop,Zv,Zq,Zp,ev,sput,Zt,Zy,Ya,unK,Zd,Zw,Nat.reduceBEq,Nat.reduceAdd,Int.reduceBEq,Int.reduceBNe,Int.reduceLT,Zu,Zz,tup,tyf,hb]
     refine hN29 [(0,v),(1,Zx x),(4,.bool false),(30,.bool true)] _ _ ?_ (by simp (maxSteps:=2000000) only [↓Za,↓Zk,↓Zr,↓Ze,↓Zm,↓Zs,↓Zf,↓Zh,↓Zg,↓Zc,↓Zb,↓vdn,vup,Zn,Zl,Zo,Zi,Zj,List.map_cons,List.map_nil,cond_true,cond_false,aop,Zv,Zq,Zp,ev,sput,Zt,Zy,Ya,unK,Zd,Zw,Nat.reduceBEq,Nat.reduceAdd,Int.reduceBEq,Int.reduceBNe,Int.reduceLT,Zu,Zz,tup,tyf])
     clear hN29
     try clear N29
     refine Xe rfl ?_
     refine Yb fun N30 hN30=>?_
     simp (maxSteps:=2000000) only [s3,↓Za,↓Zk,↓Zr,↓Ze,↓Zm,↓Zs,↓Zf,↓Zh,↓Zg,↓Zc,↓Zb,↓vdn,vup,Zn,Zl,Zo,Zi,Zj,List.map_cons,List.map_nil,cond_true,cond_false,aop,Zv,Zq,Zp,ev,sput,Zt,Zy,Ya,unK,Zd,Zw,Nat.reduceBEq,Nat.reduceAdd,Int.reduceBEq,Int.reduceBNe,Int.reduceLT,Zu,Zz,tup,tyf,Yz,List.nil_append,List.append_nil,List.toList_toArray,List.cons_append]
     refine (Su.awake_call).mono ?_
     rintro _ h4 ⟨rfl,hE4⟩
     refine hN30 [(0,v),(1,Zx x),(4,.bool true),(30,.bool true)] _ _ ?_ (by simp (maxSteps:=2000000) only [↓Za,↓Zk,↓Zr,↓Ze,↓Zm,↓Zs,↓Zf,↓Zh,↓Zg,↓Zc,↓Zb,↓vdn,vup,Zn,Zl,Zo,Zi,Zj,List.map_cons,List.map_nil,cond_true,cond_false,aop,Zv,Zq,Zp,ev,sput,Zt,Zy,Ya,unK,Zd,Zw,Nat.reduceBEq,Nat.reduceAdd,Int.reduceBEq,Int.reduceBNe,Int.reduceLT,Zu,Zz,tup,tyf])
     clear hN30
     try clear N30
     refine Yd ?_
     simp (maxSteps:=2000000) only [s3,↓Za,↓Zk,↓Zr,↓Ze,↓Zm,↓Zs,↓Zf,↓Zh,↓Zg,↓Zc,↓Zb,↓vdn,vup,Zn,Zl,Zo,Zi,Zj,List.map_cons,List.map_nil,cond_true,cond_false,aop,Zv,Zq,Zp,ev,sput,Zt,Zy,Ya,unK,Zd,Zw,Nat.reduceBEq,Nat.reduceAdd,Int.reduceBEq,Int.reduceBNe,Int.reduceLT,Zu,Zz,tup,tyf]
 · simp (maxSteps:=2000000) only [s3,↓Za,↓Zk,↓Zr,↓Ze,↓Zm,↓Zs,↓Zf,↓Zh,↓Zg,↓Zc,↓Zb,↓vdn,vup,Zn,Zl,Zo,Zi,Zj,List.map_cons,List.map_nil,cond_true,cond_false,aop,Zv,Zq,Zp,ev,sput,Zt,Zy,Ya,unK,Zd,Zw,Nat.reduceBEq,Nat.reduceAdd,Int.reduceBEq,Int.reduceBNe,Int.reduceLT,Zu,Zz,tup,tyf]
   refine hN29 [(0,v),(1,Zx x),(4,.bool false),(30,.bool true)] _ _ ?_ (by simp (maxSteps:=2000000) only [↓Za,↓Zk,↓Zr,↓Ze,↓Zm,↓Zs,↓Zf,↓Zh,↓Zg,↓Zc,↓Zb,↓vdn,vup,Zn,Zl,Zo,Zi,Zj,List.map_cons,List.map_nil,cond_true,cond_false,aop,Zv,Zq,Zp,ev,sput,Zt,Zy,Ya,unK,Zd,Zw,Nat.reduceBEq,Nat.reduceAdd,Int.reduceBEq,Int.reduceBNe,Int.reduceLT,Zu,Zz,tup,tyf])
   clear hN29
   try clear N29
   refine Xe rfl ?_
   refine Yb fun N31 hN31=>?_
   simp (maxSteps:=2000000) only [s3,↓Za,↓Zk,↓Zr,↓Ze,↓Zm,↓Zs,↓Zf,↓Zh,↓Zg,↓Zc,↓Zb,↓vdn,vup,Zn,Zl,Zo,Zi,Zj,List.map_cons,List.map_nil,cond_true,cond_false,aop,Zv,Zq,Zp,ev,sput,Zt,Zy,Ya,unK,Zd,Zw,Nat.reduceBEq,Nat.reduceAdd,Int.reduceBEq,Int.reduceBNe,Int.reduceLT,Zu,Zz,tup,tyf,Yz,List.nil_append,List.append_nil,List.toList_toArray,List.cons_append]
   refine (Su.awake_call).mono ?_
   rintro _ h4 ⟨rfl,hE4⟩
   refine hN31 [(0,v),(1,Zx x),(4,.bool true),(30,.bool true)] _ _ ?_ (by simp (maxSteps:=2000000) only [↓Za,↓Zk,↓Zr,↓Ze,↓Zm,↓Zs,↓Zf,↓Zh,↓Zg,↓Zc,↓Zb,↓vdn,vup,Zn,Zl,Zo,Zi,Zj,List.map_cons,List.map_nil,cond_true,cond_false,aop,Zv,Zq,Zp,ev,sput,Zt,Zy,Ya,unK,Zd,Zw,Nat.reduceBEq,Nat.reduceAdd,Int.reduceBEq,Int.reduceBNe,Int.reduceLT,Zu,Zz,tup,tyf])
   clear hN31
   try clear N31
   refine Yd ?_
   simp (maxSteps:=2000000) only [s3,↓Za,↓Zk,↓Zr,↓Ze,↓Zm,↓Zs,↓Zf,↓Zh,↓Zg,↓Zc,↓Zb,↓vdn,vup,Zn,Zl,Zo,Zi,Zj,List.map_cons,List.map_nil,cond_true,cond_false,aop,Zv,Zq,Zp,ev,sput,Zt,Zy,Ya,unK,Zd,Zw,Nat.reduceBEq,Nat.reduceAdd,Int.reduceBEq,Int.reduceBNe,Int.reduceLT,Zu,Zz,tup,tyf]
#print axioms law_fooling
end Go.Proofs.Tryd.Am.Tf
