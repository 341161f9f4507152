/-
  top: a cover has at least the rectangles that the signals need, plain.
  top: the reference's Table and Value.
  sure: whether words are a code, by the reference; what the statements call awake.
  top: the law of fooling sets: its loops.
  top: the law of fooling sets: who is near to whom.
-/
import Derived.Test.YtmjpngmoankpkaaDoorPk11
import Derived.Test.YtmjpngmoankpkaaDoorPk12
import Derived.Test.YtmjpngmoankpkaaDoorPk9
import Derived.Test.YtmjpngmoankpkaaDoorPk7
import Derived.Test.YtmjpngmoankpkaaDoorPk4
set_option linter.all false
namespace Go.Proofs.Tryd.Am.Tf
open Go.Proofs.Tryd.Am
open Go.Am Sr
def setOf (al:List (Int×Int)) (r:Nat×Nat):Nat:=mk (fun i=>hasB r.1 r.2 (al.getD i (0,0)).1.toNat (al.getD i (0,0)).2.toNat) al.length
def Ww (t:List (List Int)) (x:Int) (al:List (Int×Int)):List Int:=nearOf (fun i j=>Wy t x (al.getD i (0,0)) (al.getD j (0,0))) al.length
theorem nearT_gs {t:List (List Int)} {x:Int} {al:List (Int×Int)} (h1:1≤al.length) (h6:al.length≤6):Gs (Ww t x al):=nearOf_gs (fun i j=>foolB_comm _ _ _ _) h1 h6
theorem rect_near {t:List (List Int)} {x:Int} {p q:Int×Int} {a b:Nat} (hp:InT t p) (hq:InT t q) (hc : ∀ i j,i<t.length→j<wd t→hasB a b i j=true→celN t i j=x) (h1:hasB a b p.1.toNat p.2.toNat=true) (h2:hasB a b q.1.toNat q.2.toNat=true):Wy t x p q=false:=by
 obtain ⟨i,j,rfl,hi,hj⟩:=hp
 obtain ⟨k,l,rfl,hk,hl⟩:=hq
 simp only [Int.toNat_natCast,hasB,Bool.and_eq_true] at h1 h2
 have e1:=hc i l hi hl (by rw [hasB,h1.1,h2.2]; rfl)
 have e2:=hc k j hk hj (by rw [hasB,h2.1,h1.2]; rfl)
 have f1:cel t (i:Int) (l:Int)=celN t i l:=by simp [cel,celN]
 have f2:cel t (k:Int) (j:Int)=celN t k j:=by simp [cel,celN]
 rw [Wy,f1,f2,e1,e2]; simp
theorem rect_clq {t:List (List Int)} {x:Int} {al:List (Int×Int)} {r:Nat×Nat} (h1:1≤al.length) (h6:al.length≤6) (hal : ∀ p∈al,InT t p) (hc : ∀ i j,i<t.length→j<wd t→hasB r.1 r.2 i j=true→celN t i j=x) (h0:0<setOf al r):setOf al r∈Su.clq (Ww t x al):=by
 have hln:(Ww t x al).length=al.length:=Wn _ _
 have hget : ∀ k,k<al.length→al.getD k (0,0)∈al:=fun k hk=>by rw [List.getD,List.getElem?_eq_getElem hk]; exact List.getElem_mem hk
 rw [Su.mem_clq (nearT_gs h1 h6),hln]
 refine ⟨mk_lt _ _,h0,fun i hi hb j hne hj=>?_⟩
 rw [setOf,mk_bit,Bool.and_eq_true,decide_eq_true_eq] at hb hj
 rw [Ww,nearOf_gb hi hj.1,rect_near (hal _ (hget i hi)) (hal _ (hget j hj.1)) hc hb.2 hj.2]
 simp [Ne.symm hne]
theorem cover_bound {t:List (List Int)} {x:Int} {al:List (Int×Int)} (h1:1≤al.length) (h6:al.length≤6) (hal : ∀ p∈al,InT t p) (L:List (Nat×Nat))
  (hc : ∀ r∈L,∀ i j,i<t.length→j<wd t→hasB r.1 r.2 i j=true→celN t i j=x) (hall : ∀ p∈al,∃ r∈L,hasB r.1 r.2 p.1.toNat p.2.toNat=true):Su.cov (Ww t x al)≤L.length:=by
 have hln:(Ww t x al).length=al.length:=Wn _ _
 have hget : ∀ k,k<al.length→al.getD k (0,0)∈al:=fun k hk=>by rw [List.getD,List.getElem?_eq_getElem hk]; exact List.getElem_mem hk
 have hpos:=Nat.two_pow_pos (Ww t x al).length
 rw [Su.cov_cvV]
 refine Nat.le_trans (Su.cov_le (nearT_gs h1 h6) ((L.map (setOf al)).filter fun c=>decide (0<c)) _ (by omega) (fun c hcm=>?_) fun i hi=>?_) ?_
 · rw [List.mem_filter,List.mem_map,decide_eq_true_eq] at hcm
   obtain ⟨⟨r,hr,rfl⟩,h0⟩:=hcm
   exact rect_clq h1 h6 hal (hc r hr) h0
 · rw [Nat.testBit_two_pow_sub_one,decide_eq_true_eq,hln] at hi
   obtain ⟨r,hr,hh⟩:=hall _ (hget i hi)
   have hb:(setOf al r).testBit i=true:=by rw [setOf,mk_bit,decide_eq_true hi,hh]; rfl
   refine ⟨setOf al r,?_,hb⟩
   rw [List.mem_filter,List.mem_map,decide_eq_true_eq]
   refine ⟨⟨r,hr,rfl⟩,Nat.pos_of_ne_zero fun hz=>?_⟩
   rw [hz,Nat.zero_testBit] at hb; cases hb
 · refine Nat.le_trans (List.length_filter_le _ _) ?_
   rw [List.length_map]; exact Nat.le_refl _
end Go.Proofs.Tryd.Am.Tf
namespace Go.Proofs.Tryd.Am.Tf
open Go.Proofs.Tryd.Am
open Go.Am
set_option maxRecDepth 100000
set_option maxHeartbeats 2000000
def bitB (x:Int):Bool:=x==0 || x==1
theorem bitB_iff {x:Int}:bitB x=true↔x=0∨x=1:=by simp [bitB]
theorem s35_callW [Tabs Tryd.prog] {args:List Value} {h:Yc} {Q:Value→Yc→Prop} (hsz:args.length≤9) (hk:AWS Tryd.prog 9 s35 (Zu Tryd.prog [.tmp 2] Q) (Zp 0 args) h):ACall Tryd.prog 35 args h Q :=
 Xg Tryd.func35 rfl (enters_of Tryd.func35 (by kernel_rfl) rfl) rfl rfl (by decide) s35_strip s35_ok hsz hk
theorem bit_call [Tabs prog] {h:Yc} {x:Int}:APure prog 35 [Zx x] h (.bool (bitB x)):=by
 refine s35_callW (by simp) ?_
 simp only [s35]
 refine Yb fun N1 hN1=>?_
 simp (maxSteps:=2000000) only [s35,↓Za,↓Zk,↓Zr,↓Ze,↓Zm,↓Zs,↓Zf,↓Zh,↓Zg,↓Zc,↓Zb,↓vdn,vup,Zn,Zl,Zo,Zi,Zj,List.map_cons,List.map_nil,cond_true,cond_false,aop,Zv,Zq,Zp,ev,sput,Zt,Zy,Ya,unK,Zd,Zw,Nat.reduceBEq,Nat.reduceAdd,Int.reduceBEq,Int.reduceBNe,Int.reduceLT,Zu,Zz,tup,tyf]
 refine hN1 [(0,Zx x),(2,.bool false)] _ _ ?_ (by simp (maxSteps:=2000000) only [↓Za,↓Zk,↓Zr,↓Ze,↓Zm,↓Zs,↓Zf,↓Zh,↓Zg,↓Zc,↓Zb,↓vdn,vup,Zn,Zl,Zo,Zi,Zj,List.map_cons,List.map_nil,cond_true,cond_false,aop,Zv,Zq,Zp,ev,sput,Zt,Zy,Ya,unK,Zd,Zw,Nat.reduceBEq,Nat.reduceAdd,Int.reduceBEq,Int.reduceBNe,Int.reduceLT,Zu,Zz,tup,tyf])
 clear hN1
 try clear N1
 refine Yd ?_
 cases h0:x==0 with
 | true =>
   simp (maxSteps:=2000000) only [s35,↓Za,↓Zk,↓Zr,↓Ze,↓Zm,↓Zs,↓Zf,↓Zh,↓Zg,↓Zc,↓Zb,↓vdn,vup,Zn,Zl,Zo,Zi,Zj,List.map_cons,List.map_nil,cond_true,cond_false,aop,Zv,Zq,Zp,ev,sput,Zt,Zy,Ya,unK,Zd,Zw,Nat.reduceBEq,Nat.reduceAdd,Int.reduceBEq,Int.reduceBNe,Int.reduceLT,Zu,Zz,tup,tyf,h0]
   rw [bitB,h0]; rfl
 | false =>
   simp (maxSteps:=2000000) only [s35,↓Za,↓Zk,↓Zr,↓Ze,↓Zm,↓Zs,↓Zf,↓Zh,↓Zg,↓Zc,↓Zb,↓vdn,vup,Zn,Zl,Zo,Zi,Zj,List.map_cons,List.map_nil,cond_true,cond_false,aop,Zv,Zq,Zp,ev,sput,Zt,Zy,Ya,unK,Zd,Zw,Nat.reduceBEq,Nat.reduceAdd,Int.reduceBEq,Int.reduceBNe,Int.reduceLT,Zu,Zz,tup,tyf,h0]
   rw [bitB,h0]; rfl
theorem s8_callW [Tabs Tryd.prog] {args:List Value} {h:Yc} {Q:Value→Yc→Prop} (hsz:args.length≤5) (hk:AWS Tryd.prog 5 s8 (Zu Tryd.prog [.tmp 2] Q) (Zp 0 args) h):ACall Tryd.prog 8 args h Q :=
 Xg Tryd.func8 rfl (enters_of Tryd.func8 (by kernel_rfl) rfl) rfl rfl (by decide) s8_strip s8_ok hsz hk
theorem value_call [Tabs prog] {h:Yc} {x:Int}:APure prog 8 [Zx x] h (.bool (bitB x)):=by
 refine s8_callW (by simp) ?_
 simp only [s8]
 refine Yb fun N2 hN2=>?_
 simp (maxSteps:=2000000) only [s8,↓Za,↓Zk,↓Zr,↓Ze,↓Zm,↓Zs,↓Zf,↓Zh,↓Zg,↓Zc,↓Zb,↓vdn,vup,Zn,Zl,Zo,Zi,Zj,List.map_cons,List.map_nil,cond_true,cond_false,aop,Zv,Zq,Zp,ev,sput,Zt,Zy,Ya,unK,Zd,Zw,Nat.reduceBEq,Nat.reduceAdd,Int.reduceBEq,Int.reduceBNe,Int.reduceLT,Zu,Zz,tup,tyf]
 refine hN2 [(0,Zx x),(2,.bool false)] _ _ ?_ (by simp (maxSteps:=2000000) only [↓Za,↓Zk,↓Zr,↓Ze,↓Zm,↓Zs,↓Zf,↓Zh,↓Zg,↓Zc,↓Zb,↓vdn,vup,Zn,Zl,Zo,Zi,Zj,List.map_cons,List.map_nil,cond_true,cond_false,aop,Zv,Zq,Zp,ev,sput,Zt,Zy,Ya,unK,Zd,Zw,Nat.reduceBEq,Nat.reduceAdd,Int.reduceBEq,Int.reduceBNe,Int.reduceLT,Zu,Zz,tup,tyf])
 clear hN2
 try clear N2
 refine Yd ?_
 simp (maxSteps:=2000000) only [s8,↓Za,↓Zk,↓Zr,↓Ze,↓Zm,↓Zs,↓Zf,↓Zh,↓Zg,↓Zc,↓Zb,↓vdn,vup,Zn,Zl,Zo,Zi,Zj,List.map_cons,List.map_nil,cond_true,cond_false,aop,Zv,Zq,Zp,ev,sput,Zt,Zy,Ya,unK,Zd,Zw,Nat.reduceBEq,Nat.reduceAdd,Int.reduceBEq,Int.reduceBNe,Int.reduceLT,Zu,Zz,tup,tyf,Yz,List.nil_append,List.append_nil,List.toList_toArray,List.cons_append]
 refine (bit_call).mono ?_
 rintro _ h ⟨rfl,rfl⟩
 simp (maxSteps:=2000000) only [s8,↓Za,↓Zk,↓Zr,↓Ze,↓Zm,↓Zs,↓Zf,↓Zh,↓Zg,↓Zc,↓Zb,↓vdn,vup,Zn,Zl,Zo,Zi,Zj,List.map_cons,List.map_nil,cond_true,cond_false,aop,Zv,Zq,Zp,ev,sput,Zt,Zy,Ya,unK,Zd,Zw,Nat.reduceBEq,Nat.reduceAdd,Int.reduceBEq,Int.reduceBNe,Int.reduceLT,Zu,Zz,tup,tyf]
def RowOK (t:List (List Int)) (i:Nat):Prop:=∀ k,k<i→(t.getD k []).length=wd t∧∀ x∈t.getD k [],x=0∨x=1
theorem tab_of {t:List (List Int)} (h1:1≤t.length) (h4:t.length≤4) (w1:1≤wd t) (w4:wd t≤4) (h:RowOK t t.length):Tab t:=⟨h1,h4,w1,w4,fun r hr=>by
 obtain ⟨k,hk,rfl⟩:=List.mem_iff_getElem.1 hr
 have:=h k hk
 rw [List.getD,List.getElem?_eq_getElem hk,Option.getD_some] at this
 exact this⟩
def TabR (t:List (List Int)) (h:Yc) (r:Value) (h' : Yc):Prop:=h' = h∧((r = .bool true∧Tab t)∨(r = .bool false∧¬ Tab t))
theorem table_rows [Tabs prog] {h:Yc} {v:Value} {t:List (List Int)} (hv:Tab0 h v t) (h1:1≤t.length) (h4:t.length≤4) (w1:1≤wd t) (w4:wd t≤4) :
  AWS prog 53 (.seq (.seq q7_3 (.block 0 (.loop l7_1))) (.seq q7_15 .ret)) (Zu prog [.tmp 2] (TabR t h)) [(0,v),(2,.bool false)] h:=by
 refine Ye fun M hM=>?_
 refine Yb fun N3 hN3=>?_
 simp (maxSteps:=2000000) only [s7,↓Za,↓Zk,↓Zr,↓Ze,↓Zm,↓Zs,↓Zf,↓Zh,↓Zg,↓Zc,↓Zb,↓vdn,vup,Zn,Zl,Zo,Zi,Zj,List.map_cons,List.map_nil,cond_true,cond_false,aop,Zv,Zq,Zp,ev,sput,Zt,Zy,Ya,unK,Zd,Zw,Nat.reduceBEq,Nat.reduceAdd,Int.reduceBEq,Int.reduceBNe,Int.reduceLT,Zu,Zz,tup,tyf,hv.len]
 refine hN3 [(0,v),(2,.bool false),(29,v),(30,Zx t.length),(31,.int .i64 0)] _ _ ?_ (by simp (maxSteps:=2000000) only [↓Za,↓Zk,↓Zr,↓Ze,↓Zm,↓Zs,↓Zf,↓Zh,↓Zg,↓Zc,↓Zb,↓vdn,vup,Zn,Zl,Zo,Zi,Zj,List.map_cons,List.map_nil,cond_true,cond_false,aop,Zv,Zq,Zp,ev,sput,Zt,Zy,Ya,unK,Zd,Zw,Nat.reduceBEq,Nat.reduceAdd,Int.reduceBEq,Int.reduceBNe,Int.reduceLT,Zu,Zz,tup,tyf])
 clear hN3
 try clear N3
 refine Yh ?_
 refine Yf fun Q hQ=>?_
 refine Xh (γ:=Nat) (fun s=>s≤t.length∧RowOK t s)
  (fun s=>([(0,v),(2,.bool false),(29,v),(30,Zx t.length),(31,Zx (s:Nat))],h)) (fun s=>t.length-s) 0 ⟨Nat.zero_le _,fun k hk=>by omega⟩ (by simp (maxSteps:=2000000) only [↓Za,↓Zk,↓Zr,↓Ze,↓Zm,↓Zs,↓Zf,↓Zh,↓Zg,↓Zc,↓Zb,↓vdn,vup,Zn,Zl,Zo,Zi,Zj,List.map_cons,List.map_nil,cond_true,cond_false,aop,Zv,Zq,Zp,ev,sput,Zt,Zy,Ya,unK,Zd,Zw,Nat.reduceBEq,Nat.reduceAdd,Int.reduceBEq,Int.reduceBNe,Int.reduceLT,Zu,Zz,tup,tyf,Int.natCast_zero]) rfl ?_
 rintro i ⟨hi,hok⟩
 refine Yf fun Q2 hQ2=>?_
 simp only [l7_1]
 obtain ⟨w0,hw0,ld0⟩:=hv.load (P:=prog) Wb (i:=0) h1
 have hi0:=hv.idx (P:=prog) el_70 Vb (k:=.i64) (i:=0) h1
 have hi1:=fun K=>hv.idx (P:=prog) el_22 Vb (k:=.i64) (i:=0) h1 K
 rw [Int.natCast_zero] at hi0
 by_cases hin:(i:Int)<t.length
 · have hi' : i<t.length:=by omega
   obtain ⟨w,hw,ld⟩:=hv.load (P:=prog) Wb hi'
   have hmem:t.getD i []∈t:=by rw [List.getD,List.getElem?_eq_getElem hi']; exact List.getElem_mem hi'
   refine Yb fun N4 hN4=>?_
   simp (maxSteps:=2000000) only [s7,↓Za,↓Zk,↓Zr,↓Ze,↓Zm,↓Zs,↓Zf,↓Zh,↓Zg,↓Zc,↓Zb,↓vdn,vup,Zn,Zl,Zo,Zi,Zj,List.map_cons,List.map_nil,cond_true,cond_false,aop,Zv,Zq,Zp,ev,sput,Zt,Zy,Ya,unK,Zd,Zw,Nat.reduceBEq,Nat.reduceAdd,Int.reduceBEq,Int.reduceBNe,Int.reduceLT,Zu,Zz,tup,tyf,hin]
   refine hN4 [(0,v),(2,.bool false),(29,v),(30,Zx t.length),(31,Zx (i:Nat)),(32,.bool true)] _ _ ?_ (by simp (maxSteps:=2000000) only [↓Za,↓Zk,↓Zr,↓Ze,↓Zm,↓Zs,↓Zf,↓Zh,↓Zg,↓Zc,↓Zb,↓vdn,vup,Zn,Zl,Zo,Zi,Zj,List.map_cons,List.map_nil,cond_true,cond_false,aop,Zv,Zq,Zp,ev,sput,Zt,Zy,Ya,unK,Zd,Zw,Nat.reduceBEq,Nat.reduceAdd,Int.reduceBEq,Int.reduceBNe,Int.reduceLT,Zu,Zz,tup,tyf])
   clear hN4
   try clear N4
   refine Yb fun N5 hN5=>?_
   simp (maxSteps:=2000000) only [s7,↓Za,↓Zk,↓Zr,↓Ze,↓Zm,↓Zs,↓Zf,↓Zh,↓Zg,↓Zc,↓Zb,↓vdn,vup,Zn,Zl,Zo,Zi,Zj,List.map_cons,List.map_nil,cond_true,cond_false,aop,Zv,Zq,Zp,ev,sput,Zt,Zy,Ya,unK,Zd,Zw,Nat.reduceBEq,Nat.reduceAdd,Int.reduceBEq,Int.reduceBNe,Int.reduceLT,Zu,Zz,tup,tyf]
   refine hN5 [(0,v),(2,.bool false),(29,v),(30,Zx t.length),(31,Zx (i:Nat))] _ _ ?_ (by simp (maxSteps:=2000000) only [↓Za,↓Zk,↓Zr,↓Ze,↓Zm,↓Zs,↓Zf,↓Zh,↓Zg,↓Zc,↓Zb,↓vdn,vup,Zn,Zl,Zo,Zi,Zj,List.map_cons,List.map_nil,cond_true,cond_false,aop,Zv,Zq,Zp,ev,sput,Zt,Zy,Ya,unK,Zd,Zw,Nat.reduceBEq,Nat.reduceAdd,Int.reduceBEq,Int.reduceBNe,Int.reduceLT,Zu,Zz,tup,tyf])
   clear hN5
   try clear N5
   refine Ye fun B hB=>?_
   refine Yh ?_
   refine Yb fun N6 hN6=>?_
   simp (maxSteps:=2000000) only [s7,↓Za,↓Zk,↓Zr,↓Ze,↓Zm,↓Zs,↓Zf,↓Zh,↓Zg,↓Zc,↓Zb,↓vdn,vup,Zn,Zl,Zo,Zi,Zj,List.map_cons,List.map_nil,cond_true,cond_false,aop,Zv,Zq,Zp,ev,sput,Zt,Zy,Ya,unK,Zd,Zw,Nat.reduceBEq,Nat.reduceAdd,Int.reduceBEq,Int.reduceBNe,Int.reduceLT,Zu,Zz,tup,tyf,hv.idx el_22 Vb hi',ld]
   refine hN6 [(0,v),(2,.bool false),(4,w),(29,v),(30,Zx t.length),(31,Zx (i:Nat))] _ _ ?_ (by simp (maxSteps:=2000000) only [↓Za,↓Zk,↓Zr,↓Ze,↓Zm,↓Zs,↓Zf,↓Zh,↓Zg,↓Zc,↓Zb,↓vdn,vup,Zn,Zl,Zo,Zi,Zj,List.map_cons,List.map_nil,cond_true,cond_false,aop,Zv,Zq,Zp,ev,sput,Zt,Zy,Ya,unK,Zd,Zw,Nat.reduceBEq,Nat.reduceAdd,Int.reduceBEq,Int.reduceBNe,Int.reduceLT,Zu,Zz,tup,tyf])
   clear hN6
   try clear N6
   have hi2:=fun K=>hv.idx (P:=prog) el_22 Vb (k:=.i64) (i:=0) h1 K
   rw [Int.natCast_zero] at hi2
   refine Ye fun C hC=>?_
   by_cases hl:(t.getD i []).length=wd t
   · have g:(((t.getD i []).length:Int) != ((t.getD 0 []).length:Int))=false:=by rw [hl]; simp [wd]
     refine Yb fun N7 hN7=>?_
     simp (maxSteps:=2000000) only [s7,↓Za,↓Zk,↓Zr,↓Ze,↓Zm,↓Zs,↓Zf,↓Zh,↓Zg,↓Zc,↓Zb,↓vdn,vup,Zn,Zl,Zo,Zi,Zj,List.map_cons,List.map_nil,cond_true,cond_false,aop,Zv,Zq,Zp,ev,sput,Zt,Zy,Ya,unK,Zd,Zw,Nat.reduceBEq,Nat.reduceAdd,Int.reduceBEq,Int.reduceBNe,Int.reduceLT,Zu,Zz,tup,tyf,hw.len,hi2,ld0,hw0.len,g]
     refine hN7 [(0,v),(2,.bool false),(4,w),(29,v),(30,Zx t.length),(31,Zx (i:Nat)),(41,.bool false)] _ _ ?_ (by simp (maxSteps:=2000000) only [↓Za,↓Zk,↓Zr,↓Ze,↓Zm,↓Zs,↓Zf,↓Zh,↓Zg,↓Zc,↓Zb,↓vdn,vup,Zn,Zl,Zo,Zi,Zj,List.map_cons,List.map_nil,cond_true,cond_false,aop,Zv,Zq,Zp,ev,sput,Zt,Zy,Ya,unK,Zd,Zw,Nat.reduceBEq,Nat.reduceAdd,Int.reduceBEq,Int.reduceBNe,Int.reduceLT,Zu,Zz,tup,tyf])
     clear hN7
     try clear N7
     refine Yq rfl ?_
     refine Yd ?_
     simp (maxSteps:=2000000) only [s7,↓Za,↓Zk,↓Zr,↓Ze,↓Zm,↓Zs,↓Zf,↓Zh,↓Zg,↓Zc,↓Zb,↓vdn,vup,Zn,Zl,Zo,Zi,Zj,List.map_cons,List.map_nil,cond_true,cond_false,aop,Zv,Zq,Zp,ev,sput,Zt,Zy,Ya,unK,Zd,Zw,Nat.reduceBEq,Nat.reduceAdd,Int.reduceBEq,Int.reduceBNe,Int.reduceLT,Zu,Zz,tup,tyf]
     refine hC [(0,v),(2,.bool false),(4,w),(29,v),(30,Zx t.length),(31,Zx (i:Nat))] _ _ ?_ (by simp (maxSteps:=2000000) only [↓Za,↓Zk,↓Zr,↓Ze,↓Zm,↓Zs,↓Zf,↓Zh,↓Zg,↓Zc,↓Zb,↓vdn,vup,Zn,Zl,Zo,Zi,Zj,List.map_cons,List.map_nil,cond_true,cond_false,aop,Zv,Zq,Zp,ev,sput,Zt,Zy,Ya,unK,Zd,Zw,Nat.reduceBEq,Nat.reduceAdd,Int.reduceBEq,Int.reduceBNe,Int.reduceLT,Zu,Zz,tup,tyf])
     clear hC
     try clear C
     generalize hre:t.getD i []=r at hw hl hmem
     refine Yb fun N8 hN8=>?_
     simp (maxSteps:=2000000) only [s7,↓Za,↓Zk,↓Zr,↓Ze,↓Zm,↓Zs,↓Zf,↓Zh,↓Zg,↓Zc,↓Zb,↓vdn,vup,Zn,Zl,Zo,Zi,Zj,List.map_cons,List.map_nil,cond_true,cond_false,aop,Zv,Zq,Zp,ev,sput,Zt,Zy,Ya,unK,Zd,Zw,Nat.reduceBEq,Nat.reduceAdd,Int.reduceBEq,Int.reduceBNe,Int.reduceLT,Zu,Zz,tup,tyf,hw.len]
     refine hN8 [(0,v),(2,.bool false),(4,w),(29,v),(30,Zx t.length),(31,Zx (i:Nat)),(42,w),(43,Zx r.length),(44,.int .i64 0)] _ _ ?_ (by simp (maxSteps:=2000000) only [↓Za,↓Zk,↓Zr,↓Ze,↓Zm,↓Zs,↓Zf,↓Zh,↓Zg,↓Zc,↓Zb,↓vdn,vup,Zn,Zl,Zo,Zi,Zj,List.map_cons,List.map_nil,cond_true,cond_false,aop,Zv,Zq,Zp,ev,sput,Zt,Zy,Ya,unK,Zd,Zw,Nat.reduceBEq,Nat.reduceAdd,Int.reduceBEq,Int.reduceBNe,Int.reduceLT,Zu,Zz,tup,tyf])
     clear hN8
     try clear N8
     refine Yh ?_
     refine Yf fun Q3 hQ3=>?_
     refine Xh (γ:=Nat) (fun s=>s≤r.length∧∀ k,k<s→r.getD k 0=0∨r.getD k 0=1)
      (fun s=>([(0,v),(2,.bool false),(4,w),(29,v),(30,Zx t.length),(31,Zx (i:Nat)),(42,w),(43,Zx r.length),(44,Zx (s:Nat))],h)) (fun s=>r.length-s) 0 ⟨Nat.zero_le _,fun k hk=>by omega⟩ (by simp (maxSteps:=2000000) only [↓Za,↓Zk,↓Zr,↓Ze,↓Zm,↓Zs,↓Zf,↓Zh,↓Zg,↓Zc,↓Zb,↓vdn,vup,Zn,Zl,Zo,Zi,Zj,List.map_cons,List.map_nil,cond_true,cond_false,aop,Zv,Zq,Zp,ev,sput,Zt,Zy,Ya,unK,Zd,Zw,Nat.reduceBEq,Nat.reduceAdd,Int.reduceBEq,Int.reduceBNe,Int.reduceLT,Zu,Zz,tup,tyf,Int.natCast_zero]) rfl ?_
     rintro j ⟨hj,hjo⟩
     refine Yf fun Q4 hQ4=>?_
     simp only [l7_0]
     by_cases hjn:(j:Int)<r.length
     · have hj' : j<r.length:=by omega
       refine Yb fun N9 hN9=>?_
       simp (maxSteps:=2000000) only [s7,↓Za,↓Zk,↓Zr,↓Ze,↓Zm,↓Zs,↓Zf,↓Zh,↓Zg,↓Zc,↓Zb,↓vdn,vup,Zn,Zl,Zo,Zi,Zj,List.map_cons,List.map_nil,cond_true,cond_false,aop,Zv,Zq,Zp,ev,sput,Zt,Zy,Ya,unK,Zd,Zw,Nat.reduceBEq,Nat.reduceAdd,Int.reduceBEq,Int.reduceBNe,Int.reduceLT,Zu,Zz,tup,tyf,hjn]
       refine hN9 [(0,v),(2,.bool false),(4,w),(29,v),(30,Zx t.length),(31,Zx (i:Nat)),(42,w),(43,Zx r.length),(44,Zx (j:Nat)),(45,.bool true)] _ _ ?_ (by simp (maxSteps:=2000000) only [↓Za,↓Zk,↓Zr,↓Ze,↓Zm,↓Zs,↓Zf,↓Zh,↓Zg,↓Zc,↓Zb,↓vdn,vup,Zn,Zl,Zo,Zi,Zj,List.map_cons,List.map_nil,cond_true,cond_false,aop,Zv,Zq,Zp,ev,sput,Zt,Zy,Ya,unK,Zd,Zw,Nat.reduceBEq,Nat.reduceAdd,Int.reduceBEq,Int.reduceBNe,Int.reduceLT,Zu,Zz,tup,tyf])
       clear hN9
       try clear N9
       refine Yb fun N10 hN10=>?_
       simp (maxSteps:=2000000) only [s7,↓Za,↓Zk,↓Zr,↓Ze,↓Zm,↓Zs,↓Zf,↓Zh,↓Zg,↓Zc,↓Zb,↓vdn,vup,Zn,Zl,Zo,Zi,Zj,List.map_cons,List.map_nil,cond_true,cond_false,aop,Zv,Zq,Zp,ev,sput,Zt,Zy,Ya,unK,Zd,Zw,Nat.reduceBEq,Nat.reduceAdd,Int.reduceBEq,Int.reduceBNe,Int.reduceLT,Zu,Zz,tup,tyf]
       refine hN10 [(0,v),(2,.bool false),(4,w),(29,v),(30,Zx t.length),(31,Zx (i:Nat)),(42,w),(43,Zx r.length),(44,Zx (j:Nat))] _ _ ?_ (by simp (maxSteps:=2000000) only [↓Za,↓Zk,↓Zr,↓Ze,↓Zm,↓Zs,↓Zf,↓Zh,↓Zg,↓Zc,↓Zb,↓vdn,vup,Zn,Zl,Zo,Zi,Zj,List.map_cons,List.map_nil,cond_true,cond_false,aop,Zv,Zq,Zp,ev,sput,Zt,Zy,Ya,unK,Zd,Zw,Nat.reduceBEq,Nat.reduceAdd,Int.reduceBEq,Int.reduceBNe,Int.reduceLT,Zu,Zz,tup,tyf])
       clear hN10
       try clear N10
       refine Ye fun D hD=>?_
       refine Yh ?_
       refine Yb fun N11 hN11=>?_
       simp (maxSteps:=2000000) only [s7,↓Za,↓Zk,↓Zr,↓Ze,↓Zm,↓Zs,↓Zf,↓Zh,↓Zg,↓Zc,↓Zb,↓vdn,vup,Zn,Zl,Zo,Zi,Zj,List.map_cons,List.map_nil,cond_true,cond_false,aop,Zv,Zq,Zp,ev,sput,Zt,Zy,Ya,unK,Zd,Zw,Nat.reduceBEq,Nat.reduceAdd,Int.reduceBEq,Int.reduceBNe,Int.reduceLT,Zu,Zz,tup,tyf,hw.idx Wp Xk hj',hw.load Yw hj']
       refine hN11 [(0,v),(2,.bool false),(4,w),(6,Zx (r.getD j 0)),(29,v),(30,Zx t.length),(31,Zx (i:Nat)),(42,w),(43,Zx r.length),(44,Zx (j:Nat))] _ _ ?_ (by simp (maxSteps:=2000000) only [↓Za,↓Zk,↓Zr,↓Ze,↓Zm,↓Zs,↓Zf,↓Zh,↓Zg,↓Zc,↓Zb,↓vdn,vup,Zn,Zl,Zo,Zi,Zj,List.map_cons,List.map_nil,cond_true,cond_false,aop,Zv,Zq,Zp,ev,sput,Zt,Zy,Ya,unK,Zd,Zw,Nat.reduceBEq,Nat.reduceAdd,Int.reduceBEq,Int.reduceBNe,Int.reduceLT,Zu,Zz,tup,tyf])
       clear hN11
       try clear N11
       refine Yb fun N12 hN12=>?_
       simp (maxSteps:=2000000) only [s7,↓Za,↓Zk,↓Zr,↓Ze,↓Zm,↓Zs,↓Zf,↓Zh,↓Zg,↓Zc,↓Zb,↓vdn,vup,Zn,Zl,Zo,Zi,Zj,List.map_cons,List.map_nil,cond_true,cond_false,aop,Zv,Zq,Zp,ev,sput,Zt,Zy,Ya,unK,Zd,Zw,Nat.reduceBEq,Nat.reduceAdd,Int.reduceBEq,Int.reduceBNe,Int.reduceLT,Zu,Zz,tup,tyf,Yz,List.nil_append,List.append_nil,List.toList_toArray,List.cons_append]
       refine (bit_call).mono ?_
       rintro _ h ⟨rfl,rfl⟩
       simp (maxSteps:=2000000) only [s7,↓Za,↓Zk,↓Zr,↓Ze,↓Zm,↓Zs,↓Zf,↓Zh,↓Zg,↓Zc,↓Zb,↓vdn,vup,Zn,Zl,Zo,Zi,Zj,List.map_cons,List.map_nil,cond_true,cond_false,aop,Zv,Zq,Zp,ev,sput,Zt,Zy,Ya,unK,Zd,Zw,Nat.reduceBEq,Nat.reduceAdd,Int.reduceBEq,Int.reduceBNe,Int.reduceLT,Zu,Zz,tup,tyf]
       cases hb:bitB (r.getD j 0) with
       | true =>
         refine hN12 [(0,v),(2,.bool false),(4,w),(6,Zx (r.getD j 0)),(29,v),(30,Zx t.length),(31,Zx (i:Nat)),(42,w),(43,Zx r.length),(44,Zx (j:Nat)),(50,.bool false)] _ _ ?_ (by simp (maxSteps:=2000000) only [↓Za,↓Zk,↓Zr,↓Ze,↓Zm,↓Zs,↓Zf,↓Zh,↓Zg,↓Zc,↓Zb,↓vdn,vup,Zn,Zl,Zo,Zi,Zj,List.map_cons,List.map_nil,cond_true,cond_false,aop,Zv,Zq,Zp,ev,sput,Zt,Zy,Ya,unK,Zd,Zw,Nat.reduceBEq,Nat.reduceAdd,Int.reduceBEq,Int.reduceBNe,Int.reduceLT,Zu,Zz,tup,tyf])
         clear hN12
         try clear N12
         refine Yq rfl ?_
         refine Yd ?_
         simp (maxSteps:=2000000) only [s7,↓Za,↓Zk,↓Zr,↓Ze,↓Zm,↓Zs,↓Zf,↓Zh,↓Zg,↓Zc,↓Zb,↓vdn,vup,Zn,Zl,Zo,Zi,Zj,List.map_cons,List.map_nil,cond_true,cond_false,aop,Zv,Zq,Zp,ev,sput,Zt,Zy,Ya,unK,Zd,Zw,Nat.reduceBEq,Nat.reduceAdd,Int.reduceBEq,Int.reduceBNe,Int.reduceLT,Zu,Zz,tup,tyf]
         refine hD [(0,v),(2,.bool false),(4,w),(29,v),(30,Zx t.length),(31,Zx (i:Nat)),(42,w),(43,Zx r.length),(44,Zx (j:Nat))] _ _ ?_ (by simp (maxSteps:=2000000) only [↓Za,↓Zk,↓Zr,↓Ze,↓Zm,↓Zs,↓Zf,↓Zh,↓Zg,↓Zc,↓Zb,↓vdn,vup,Zn,Zl,Zo,Zi,Zj,List.map_cons,List.map_nil,cond_true,cond_false,aop,Zv,Zq,Zp,ev,sput,Zt,Zy,Ya,unK,Zd,Zw,Nat.reduceBEq,Nat.reduceAdd,Int.reduceBEq,Int.reduceBNe,Int.reduceLT,Zu,Zz,tup,tyf])
         clear hD
         try clear D
         refine Yd ?_
         simp (maxSteps:=2000000) only [s7,↓Za,↓Zk,↓Zr,↓Ze,↓Zm,↓Zs,↓Zf,↓Zh,↓Zg,↓Zc,↓Zb,↓vdn,vup,Zn,Zl,Zo,Zi,Zj,List.map_cons,List.map_nil,cond_true,cond_false,aop,Zv,Zq,Zp,ev,sput,Zt,Zy,Ya,unK,Zd,Zw,Nat.reduceBEq,Nat.reduceAdd,Int.reduceBEq,Int.reduceBNe,Int.reduceLT,Zu,Zz,tup,tyf,Vd (show j<9223372036854775807 by omega)]
         exact hQ4 _ _ _ ⟨j+1,⟨hj',fun k hk=>if hkj:k<j then hjo k hkj else (show j=k by omega)▸bitB_iff.1 hb⟩,by omega,by simp (maxSteps:=2000000) only [↓Za,↓Zk,↓Zr,↓Ze,↓Zm,↓Zs,↓Zf,↓Zh,↓Zg,↓Zc,↓Zb,↓vdn,vup,Zn,Zl,Zo,Zi,Zj,List.map_cons,List.map_nil,cond_true,cond_false,aop,Zv,Zq,Zp,ev,sput,Zt,Zy,Ya,unK,Zd,Zw,Nat.reduceBEq,Nat.reduceAdd,Int.reduceBEq,Int.reduceBNe,Int.reduceLT,Zu,Zz,tup,tyf],rfl⟩
       | false =>
         refine hN12 [(0,v),(2,.bool false),(4,w),(6,Zx (r.getD j 0)),(29,v),(30,Zx t.length),(31,Zx (i:Nat)),(42,w),(43,Zx r.length),(44,Zx (j:Nat)),(50,.bool true)] _ _ ?_ (by simp (maxSteps:=2000000) only [↓Za,↓Zk,↓Zr,↓Ze,↓Zm,↓Zs,↓Zf,↓Zh,↓Zg,↓Zc,↓Zb,↓vdn,vup,Zn,Zl,Zo,Zi,Zj,List.map_cons,List.map_nil,cond_true,cond_false,aop,Zv,Zq,Zp,ev,sput,Zt,Zy,Ya,unK,Zd,Zw,Nat.reduceBEq,Nat.reduceAdd,Int.reduceBEq,Int.reduceBNe,Int.reduceLT,Zu,Zz,tup,tyf])
         clear hN12
         try clear N12
         refine Xe rfl ?_
         refine Yd ?_
         simp (maxSteps:=2000000) only [s7,↓Za,↓Zk,↓Zr,↓Ze,↓Zm,↓Zs,↓Zf,↓Zh,↓Zg,↓Zc,↓Zb,↓vdn,vup,Zn,Zl,Zo,Zi,Zj,List.map_cons,List.map_nil,cond_true,cond_false,aop,Zv,Zq,Zp,ev,sput,Zt,Zy,Ya,unK,Zd,Zw,Nat.reduceBEq,Nat.reduceAdd,Int.reduceBEq,Int.reduceBNe,Int.reduceLT,Zu,Zz,tup,tyf]
         refine hQ4 _ _ _ (hQ3 _ _ _ ?_)
         try simp (maxSteps:=2000000) only [s7,↓Za,↓Zk,↓Zr,↓Ze,↓Zm,↓Zs,↓Zf,↓Zh,↓Zg,↓Zc,↓Zb,↓vdn,vup,Zn,Zl,Zo,Zi,Zj,List.map_cons,List.map_nil,cond_true,cond_false,aop,Zv,Zq,Zp,ev,sput,Zt,Zy,Ya,unK,Zd,Zw,Nat.reduceBEq,Nat.reduceAdd,Int.reduceBEq,Int.reduceBNe,Int.reduceLT,Zu,Zz,tup,tyf]
         refine hQ2 _ _ _ (hQ _ _ _ ?_)
         try simp (maxSteps:=2000000) only [s7,↓Za,↓Zk,↓Zr,↓Ze,↓Zm,↓Zs,↓Zf,↓Zh,↓Zg,↓Zc,↓Zb,↓vdn,vup,Zn,Zl,Zo,Zi,Zj,List.map_cons,List.map_nil,cond_true,cond_false,aop,Zv,Zq,Zp,ev,sput,Zt,Zy,Ya,unK,Zd,Zw,Nat.reduceBEq,Nat.reduceAdd,Int.reduceBEq,Int.reduceBNe,Int.reduceLT,Zu,Zz,tup,tyf]
         refine ⟨rfl,.inr ⟨rfl,fun tab=>?_⟩⟩
         have:=(tab.row _ hmem).2 (r.getD j 0) (by rw [List.getD,List.getElem?_eq_getElem hj']; exact List.getElem_mem hj')
         rw [bitB_iff.2 this] at hb; cases hb
     · obtain rfl:j=r.length:=by omega
       refine Yb fun N13 hN13=>?_
       simp (maxSteps:=2000000) only [s7,↓Za,↓Zk,↓Zr,↓Ze,↓Zm,↓Zs,↓Zf,↓Zh,↓Zg,↓Zc,↓Zb,↓vdn,vup,Zn,Zl,Zo,Zi,Zj,List.map_cons,List.map_nil,cond_true,cond_false,aop,Zv,Zq,Zp,ev,sput,Zt,Zy,Ya,unK,Zd,Zw,Nat.reduceBEq,Nat.reduceAdd,Int.reduceBEq,Int.reduceBNe,Int.reduceLT,Zu,Zz,tup,tyf,hjn]
       refine hN13 [(0,v),(2,.bool false),(4,w),(29,v),(30,Zx t.length),(31,Zx (i:Nat)),(42,w),(43,Zx r.length),(44,Zx r.length),(45,.bool false)] _ _ ?_ (by simp (maxSteps:=2000000) only [↓Za,↓Zk,↓Zr,↓Ze,↓Zm,↓Zs,↓Zf,↓Zh,↓Zg,↓Zc,↓Zb,↓vdn,vup,Zn,Zl,Zo,Zi,Zj,List.map_cons,List.map_nil,cond_true,cond_false,aop,Zv,Zq,Zp,ev,sput,Zt,Zy,Ya,unK,Zd,Zw,Nat.reduceBEq,Nat.reduceAdd,Int.reduceBEq,Int.reduceBNe,Int.reduceLT,Zu,Zz,tup,tyf])
       clear hN13
       try clear N13
       refine Yb fun N14 hN14=>?_
       simp (maxSteps:=2000000) only [s7,↓Za,↓Zk,↓Zr,↓Ze,↓Zm,↓Zs,↓Zf,↓Zh,↓Zg,↓Zc,↓Zb,↓vdn,vup,Zn,Zl,Zo,Zi,Zj,List.map_cons,List.map_nil,cond_true,cond_false,aop,Zv,Zq,Zp,ev,sput,Zt,Zy,Ya,unK,Zd,Zw,Nat.reduceBEq,Nat.reduceAdd,Int.reduceBEq,Int.reduceBNe,Int.reduceLT,Zu,Zz,tup,tyf]
       refine hQ4 _ _ _ (hQ3 _ _ _ ?_)
       simp (maxSteps:=2000000) only [s7,↓Za,↓Zk,↓Zr,↓Ze,↓Zm,↓Zs,↓Zf,↓Zh,↓Zg,↓Zc,↓Zb,↓vdn,vup,Zn,Zl,Zo,Zi,Zj,List.map_cons,List.map_nil,cond_true,cond_false,aop,Zv,Zq,Zp,ev,sput,Zt,Zy,Ya,unK,Zd,Zw,Nat.reduceBEq,Nat.reduceAdd,Int.reduceBEq,Int.reduceBNe,Int.reduceLT,Zu,Zz,tup,tyf,if_true]
       refine hB [(0,v),(2,.bool false),(29,v),(30,Zx t.length),(31,Zx (i:Nat)),(45,.bool false)] _ _ ?_ (by simp (maxSteps:=2000000) only [↓Za,↓Zk,↓Zr,↓Ze,↓Zm,↓Zs,↓Zf,↓Zh,↓Zg,↓Zc,↓Zb,↓vdn,vup,Zn,Zl,Zo,Zi,Zj,List.map_cons,List.map_nil,cond_true,cond_false,aop,Zv,Zq,Zp,ev,sput,Zt,Zy,Ya,unK,Zd,Zw,Nat.reduceBEq,Nat.reduceAdd,Int.reduceBEq,Int.reduceBNe,Int.reduceLT,Zu,Zz,tup,tyf])
       clear hB
       try clear B
       refine Yd ?_
       simp (maxSteps:=2000000) only [s7,↓Za,↓Zk,↓Zr,↓Ze,↓Zm,↓Zs,↓Zf,↓Zh,↓Zg,↓Zc,↓Zb,↓vdn,vup,Zn,Zl,Zo,Zi,Zj,List.map_cons,List.map_nil,cond_true,cond_false,aop,Zv,Zq,Zp,ev,sput,Zt,Zy,Ya,unK,Zd,Zw,Nat.reduceBEq,Nat.reduceAdd,Int.reduceBEq,Int.reduceBNe,Int.reduceLT,Zu,Zz,tup,tyf,Vd (show i<9223372036854775807 by omega)]
       refine hQ2 _ _ _ ⟨i+1,⟨hi',fun k hk=>?_⟩,by omega,by simp (maxSteps:=2000000) only [↓Za,↓Zk,↓Zr,↓Ze,↓Zm,↓Zs,↓Zf,↓Zh,↓Zg,↓Zc,↓Zb,↓vdn,vup,Zn,Zl,Zo,Zi,Zj,List.map_cons,List.map_nil,cond_true,cond_false,aop,Zv,Zq,Zp,ev,sput,Zt,Zy,Ya,unK,Zd,Zw,Nat.reduceBEq,Nat.reduceAdd,Int.reduceBEq,Int.reduceBNe,Int.reduceLT,Zu,Zz,tup,tyf],rfl⟩
       by_cases hki:k<i
       · exact hok k hki
       · obtain rfl:k=i:=by omega
         rw [hre]
         refine ⟨hl,fun x hx=>?_⟩
         obtain ⟨q,hq,rfl⟩:=List.mem_iff_getElem.1 hx
         have:=hjo q hq
         rw [List.getD,List.getElem?_eq_getElem hq] at this
         exact this
   · have g:(((t.getD i []).length:Int) != ((t.getD 0 []).length:Int))=true:=by
      rw [bne_iff_ne]; unfold wd at hl; omega
     refine Yb fun N15 hN15=>?_
     simp (maxSteps:=2000000) only [s7,↓Za,↓Zk,↓Zr,↓Ze,↓Zm,↓Zs,↓Zf,↓Zh,↓Zg,↓Zc,↓Zb,↓vdn,vup,Zn,Zl,Zo,Zi,Zj,List.map_cons,List.map_nil,cond_true,cond_false,aop,Zv,Zq,Zp,ev,sput,Zt,Zy,Ya,unK,Zd,Zw,Nat.reduceBEq,Nat.reduceAdd,Int.reduceBEq,Int.reduceBNe,Int.reduceLT,Zu,Zz,tup,tyf,hw.len,hi2,ld0,hw0.len,g]
     refine hN15 [(0,v),(2,.bool false),(4,w),(29,v),(30,Zx t.length),(31,Zx (i:Nat)),(41,.bool true)] _ _ ?_ (by simp (maxSteps:=2000000) only [↓Za,↓Zk,↓Zr,↓Ze,↓Zm,↓Zs,↓Zf,↓Zh,↓Zg,↓Zc,↓Zb,↓vdn,vup,Zn,Zl,Zo,Zi,Zj,List.map_cons,List.map_nil,cond_true,cond_false,aop,Zv,Zq,Zp,ev,sput,Zt,Zy,Ya,unK,Zd,Zw,Nat.reduceBEq,Nat.reduceAdd,Int.reduceBEq,Int.reduceBNe,Int.reduceLT,Zu,Zz,tup,tyf])
     clear hN15
     try clear N15
     refine Xe rfl ?_
     refine Yd ?_
     simp (maxSteps:=2000000) only [s7,↓Za,↓Zk,↓Zr,↓Ze,↓Zm,↓Zs,↓Zf,↓Zh,↓Zg,↓Zc,↓Zb,↓vdn,vup,Zn,Zl,Zo,Zi,Zj,List.map_cons,List.map_nil,cond_true,cond_false,aop,Zv,Zq,Zp,ev,sput,Zt,Zy,Ya,unK,Zd,Zw,Nat.reduceBEq,Nat.reduceAdd,Int.reduceBEq,Int.reduceBNe,Int.reduceLT,Zu,Zz,tup,tyf]
     refine hQ2 _ _ _ (hQ _ _ _ ?_)
     try simp (maxSteps:=2000000) only [s7,↓Za,↓Zk,↓Zr,↓Ze,↓Zm,↓Zs,↓Zf,↓Zh,↓Zg,↓Zc,↓Zb,↓vdn,vup,Zn,Zl,Zo,Zi,Zj,List.map_cons,List.map_nil,cond_true,cond_false,aop,Zv,Zq,Zp,ev,sput,Zt,Zy,Ya,unK,Zd,Zw,Nat.reduceBEq,Nat.reduceAdd,Int.reduceBEq,Int.reduceBNe,Int.reduceLT,Zu,Zz,tup,tyf]
     exact ⟨rfl,.inr ⟨rfl,fun tab=>hl (tab.row _ hmem).1⟩⟩
 · obtain rfl:i=t.length:=by omega
   refine Yb fun N16 hN16=>?_
   simp (maxSteps:=2000000) only [s7,↓Za,↓Zk,↓Zr,↓Ze,↓Zm,↓Zs,↓Zf,↓Zh,↓Zg,↓Zc,↓Zb,↓vdn,vup,Zn,Zl,Zo,Zi,Zj,List.map_cons,List.map_nil,cond_true,cond_false,aop,Zv,Zq,Zp,ev,sput,Zt,Zy,Ya,unK,Zd,Zw,Nat.reduceBEq,Nat.reduceAdd,Int.reduceBEq,Int.reduceBNe,Int.reduceLT,Zu,Zz,tup,tyf,hin]
   refine hN16 [(0,v),(2,.bool false),(29,v),(30,Zx t.length),(31,Zx t.length),(32,.bool false)] _ _ ?_ (by simp (maxSteps:=2000000) only [↓Za,↓Zk,↓Zr,↓Ze,↓Zm,↓Zs,↓Zf,↓Zh,↓Zg,↓Zc,↓Zb,↓vdn,vup,Zn,Zl,Zo,Zi,Zj,List.map_cons,List.map_nil,cond_true,cond_false,aop,Zv,Zq,Zp,ev,sput,Zt,Zy,Ya,unK,Zd,Zw,Nat.reduceBEq,Nat.reduceAdd,Int.reduceBEq,Int.reduceBNe,Int.reduceLT,Zu,Zz,tup,tyf])
   clear hN16
   try clear N16
   refine Yb fun N17 hN17=>?_
   simp (maxSteps:=2000000) only [s7,↓Za,↓Zk,↓Zr,↓Ze,↓Zm,↓Zs,↓Zf,↓Zh,↓Zg,↓Zc,↓Zb,↓vdn,vup,Zn,Zl,Zo,Zi,Zj,List.map_cons,List.map_nil,cond_true,cond_false,aop,Zv,Zq,Zp,ev,sput,Zt,Zy,Ya,unK,Zd,Zw,Nat.reduceBEq,Nat.reduceAdd,Int.reduceBEq,Int.reduceBNe,Int.reduceLT,Zu,Zz,tup,tyf]
   refine hQ2 _ _ _ (hQ _ _ _ ?_)
   simp (maxSteps:=2000000) only [s7,↓Za,↓Zk,↓Zr,↓Ze,↓Zm,↓Zs,↓Zf,↓Zh,↓Zg,↓Zc,↓Zb,↓vdn,vup,Zn,Zl,Zo,Zi,Zj,List.map_cons,List.map_nil,cond_true,cond_false,aop,Zv,Zq,Zp,ev,sput,Zt,Zy,Ya,unK,Zd,Zw,Nat.reduceBEq,Nat.reduceAdd,Int.reduceBEq,Int.reduceBNe,Int.reduceLT,Zu,Zz,tup,tyf,if_true]
   refine hM [(0,v),(2,.bool false),(32,.bool false)] _ _ ?_ (by simp (maxSteps:=2000000) only [↓Za,↓Zk,↓Zr,↓Ze,↓Zm,↓Zs,↓Zf,↓Zh,↓Zg,↓Zc,↓Zb,↓vdn,vup,Zn,Zl,Zo,Zi,Zj,List.map_cons,List.map_nil,cond_true,cond_false,aop,Zv,Zq,Zp,ev,sput,Zt,Zy,Ya,unK,Zd,Zw,Nat.reduceBEq,Nat.reduceAdd,Int.reduceBEq,Int.reduceBNe,Int.reduceLT,Zu,Zz,tup,tyf])
   clear hM
   try clear M
   refine Yd ?_
   simp (maxSteps:=2000000) only [s7,↓Za,↓Zk,↓Zr,↓Ze,↓Zm,↓Zs,↓Zf,↓Zh,↓Zg,↓Zc,↓Zb,↓vdn,vup,Zn,Zl,Zo,Zi,Zj,List.map_cons,List.map_nil,cond_true,cond_false,aop,Zv,Zq,Zp,ev,sput,Zt,Zy,Ya,unK,Zd,Zw,Nat.reduceBEq,Nat.reduceAdd,Int.reduceBEq,Int.reduceBNe,Int.reduceLT,Zu,Zz,tup,tyf]
   exact ⟨rfl,.inl ⟨rfl,tab_of h1 h4 w1 w4 hok⟩⟩
theorem s7_callW [Tabs Tryd.prog] {args:List Value} {h:Yc} {Q:Value→Yc→Prop} (hsz:args.length≤53) (hk:AWS Tryd.prog 53 s7 (Zu Tryd.prog [.tmp 2] Q) (Zp 0 args) h):ACall Tryd.prog 7 args h Q :=
 Xg Tryd.func7 rfl (enters_of Tryd.func7 (by kernel_rfl) rfl) rfl rfl (by decide) s7_strip s7_ok hsz hk
theorem table_call [Tabs prog] {h:Yc} {v:Value} {t:List (List Int)} (hv:Tab0 h v t):ACall prog 7 [v] h (TabR t h):=by
 refine s7_callW (by simp) ?_
 simp only [s7]
 refine Yb fun N18 hN18=>?_
 simp (maxSteps:=2000000) only [s7,↓Za,↓Zk,↓Zr,↓Ze,↓Zm,↓Zs,↓Zf,↓Zh,↓Zg,↓Zc,↓Zb,↓vdn,vup,Zn,Zl,Zo,Zi,Zj,List.map_cons,List.map_nil,cond_true,cond_false,aop,Zv,Zq,Zp,ev,sput,Zt,Zy,Ya,unK,Zd,Zw,Nat.reduceBEq,Nat.reduceAdd,Int.reduceBEq,Int.reduceBNe,Int.reduceLT,Zu,Zz,tup,tyf]
 refine hN18 [(0,v),(2,.bool false)] _ _ ?_ (by simp (maxSteps:=2000000) only [↓Za,↓Zk,↓Zr,↓Ze,↓Zm,↓Zs,↓Zf,↓Zh,↓Zg,↓Zc,↓Zb,↓vdn,vup,Zn,Zl,Zo,Zi,Zj,List.map_cons,List.map_nil,cond_true,cond_false,aop,Zv,Zq,Zp,ev,sput,Zt,Zy,Ya,unK,Zd,Zw,Nat.reduceBEq,Nat.reduceAdd,Int.reduceBEq,Int.reduceBNe,Int.reduceLT,Zu,Zz,tup,tyf])
 clear hN18
 try clear N18
 refine Ye fun M hM=>?_
 refine Yb fun N19 hN19=>?_
 simp only [q7_1]
 by_cases a1:t.length<1
 · have g1:((t.length:Int)<1):=by omega
   refine Yl 4 fun N1 hN1=>?_
   simp (maxSteps:=2000000) only [s7,↓Za,↓Zk,↓Zr,↓Ze,↓Zm,↓Zs,↓Zf,↓Zh,↓Zg,↓Zc,↓Zb,↓vdn,vup,Zn,Zl,Zo,Zi,Zj,List.map_cons,List.map_nil,cond_true,cond_false,aop,Zv,Zq,Zp,ev,sput,Zt,Zy,Ya,unK,Zd,Zw,Nat.reduceBEq,Nat.reduceAdd,Int.reduceBEq,Int.reduceBNe,Int.reduceLT,Zu,Zz,tup,tyf,List.take_succ_cons,List.take_zero,hv.len,g1,decide_true]
   refine hN1 _ _ ?_
   clear hN1 N1
   simp only [List.drop_succ_cons,List.drop_zero]
   refine Yl 4 fun N1 hN1=>?_
   simp (maxSteps:=2000000) only [s7,↓Za,↓Zk,↓Zr,↓Ze,↓Zm,↓Zs,↓Zf,↓Zh,↓Zg,↓Zc,↓Zb,↓vdn,vup,Zn,Zl,Zo,Zi,Zj,List.map_cons,List.map_nil,cond_true,cond_false,aop,Zv,Zq,Zp,ev,sput,Zt,Zy,Ya,unK,Zd,Zw,Nat.reduceBEq,Nat.reduceAdd,Int.reduceBEq,Int.reduceBNe,Int.reduceLT,Zu,Zz,tup,tyf,List.take_succ_cons,List.take_zero]
   refine hN1 _ _ ?_
   clear hN1 N1
   simp only [List.drop_succ_cons,List.drop_zero]
   refine Yl 4 fun N1 hN1=>?_
   simp (maxSteps:=2000000) only [s7,↓Za,↓Zk,↓Zr,↓Ze,↓Zm,↓Zs,↓Zf,↓Zh,↓Zg,↓Zc,↓Zb,↓vdn,vup,Zn,Zl,Zo,Zi,Zj,List.map_cons,List.map_nil,cond_true,cond_false,aop,Zv,Zq,Zp,ev,sput,Zt,Zy,Ya,unK,Zd,Zw,Nat.reduceBEq,Nat.reduceAdd,Int.reduceBEq,Int.reduceBNe,Int.reduceLT,Zu,Zz,tup,tyf,List.take_succ_cons,List.take_zero]
   refine hN1 _ _ ?_
   clear hN1 N1
   simp only [List.drop_succ_cons,List.drop_zero]
   refine Yl 3 fun N1 hN1=>?_
   simp (maxSteps:=2000000) only [s7,↓Za,↓Zk,↓Zr,↓Ze,↓Zm,↓Zs,↓Zf,↓Zh,↓Zg,↓Zc,↓Zb,↓vdn,vup,Zn,Zl,Zo,Zi,Zj,List.map_cons,List.map_nil,cond_true,cond_false,aop,Zv,Zq,Zp,ev,sput,Zt,Zy,Ya,unK,Zd,Zw,Nat.reduceBEq,Nat.reduceAdd,Int.reduceBEq,Int.reduceBNe,Int.reduceLT,Zu,Zz,tup,tyf,List.take_succ_cons,List.take_zero]
   refine hN1 _ _ ?_
   clear hN1 N1
   simp only [List.drop_succ_cons,List.drop_zero]
   refine Yl 4 fun N1 hN1=>?_
   simp (maxSteps:=2000000) only [s7,↓Za,↓Zk,↓Zr,↓Ze,↓Zm,↓Zs,↓Zf,↓Zh,↓Zg,↓Zc,↓Zb,↓vdn,vup,Zn,Zl,Zo,Zi,Zj,List.map_cons,List.map_nil,cond_true,cond_false,aop,Zv,Zq,Zp,ev,sput,Zt,Zy,Ya,unK,Zd,Zw,Nat.reduceBEq,Nat.reduceAdd,Int.reduceBEq,Int.reduceBNe,Int.reduceLT,Zu,Zz,tup,tyf,List.take_succ_cons,List.take_zero]
   refine hN1 _ _ ?_
   clear hN1 N1
   simp only [List.drop_succ_cons,List.drop_zero]
   simp (maxSteps:=2000000) only [s7,↓Za,↓Zk,↓Zr,↓Ze,↓Zm,↓Zs,↓Zf,↓Zh,↓Zg,↓Zc,↓Zb,↓vdn,vup,Zn,Zl,Zo,Zi,Zj,List.map_cons,List.map_nil,cond_true,cond_false,aop,Zv,Zq,Zp,ev,sput,Zt,Zy,Ya,unK,Zd,Zw,Nat.reduceBEq,Nat.reduceAdd,Int.reduceBEq,Int.reduceBNe,Int.reduceLT,Zu,Zz,tup,tyf]
   refine hN19 [(0,v),(2,.bool false),(28,.bool true)] _ _ ?_ (by simp (maxSteps:=2000000) only [↓Za,↓Zk,↓Zr,↓Ze,↓Zm,↓Zs,↓Zf,↓Zh,↓Zg,↓Zc,↓Zb,↓vdn,vup,Zn,Zl,Zo,Zi,Zj,List.map_cons,List.map_nil,cond_true,cond_false,aop,Zv,Zq,Zp,ev,sput,Zt,Zy,Ya,unK,Zd,Zw,Nat.reduceBEq,Nat.reduceAdd,Int.reduceBEq,Int.reduceBNe,Int.reduceLT,Zu,Zz,tup,tyf])
   clear hN19
   try clear N19
   refine Xe rfl ?_
   refine Yd ?_
   simp (maxSteps:=2000000) only [s7,↓Za,↓Zk,↓Zr,↓Ze,↓Zm,↓Zs,↓Zf,↓Zh,↓Zg,↓Zc,↓Zb,↓vdn,vup,Zn,Zl,Zo,Zi,Zj,List.map_cons,List.map_nil,cond_true,cond_false,aop,Zv,Zq,Zp,ev,sput,Zt,Zy,Ya,unK,Zd,Zw,Nat.reduceBEq,Nat.reduceAdd,Int.reduceBEq,Int.reduceBNe,Int.reduceLT,Zu,Zz,tup,tyf]
   exact ⟨rfl,.inr ⟨rfl,fun tab=>by have:=tab.n1; omega⟩⟩
 have g1 : ¬ ((t.length:Int)<1):=by omega
 by_cases a2:4<t.length
 · have g2:((4:Int)<(t.length:Int)):=by omega
   refine Yl 4 fun N1 hN1=>?_
   simp (maxSteps:=2000000) only [s7,↓Za,↓Zk,↓Zr,↓Ze,↓Zm,↓Zs,↓Zf,↓Zh,↓Zg,↓Zc,↓Zb,↓vdn,vup,Zn,Zl,Zo,Zi,Zj,List.map_cons,List.map_nil,cond_true,cond_false,aop,Zv,Zq,Zp,ev,sput,Zt,Zy,Ya,unK,Zd,Zw,Nat.reduceBEq,Nat.reduceAdd,Int.reduceBEq,Int.reduceBNe,Int.reduceLT,Zu,Zz,tup,tyf,List.take_succ_cons,List.take_zero,hv.len,g1,decide_false]
   refine hN1 _ _ ?_
   clear hN1 N1
   simp only [List.drop_succ_cons,List.drop_zero]
   refine Yl 4 fun N1 hN1=>?_
   simp (maxSteps:=2000000) only [s7,↓Za,↓Zk,↓Zr,↓Ze,↓Zm,↓Zs,↓Zf,↓Zh,↓Zg,↓Zc,↓Zb,↓vdn,vup,Zn,Zl,Zo,Zi,Zj,List.map_cons,List.map_nil,cond_true,cond_false,aop,Zv,Zq,Zp,ev,sput,Zt,Zy,Ya,unK,Zd,Zw,Nat.reduceBEq,Nat.reduceAdd,Int.reduceBEq,Int.reduceBNe,Int.reduceLT,Zu,Zz,tup,tyf,List.take_succ_cons,List.take_zero,hv.len,gt_iff_lt,g2,decide_true]
   refine hN1 _ _ ?_
   clear hN1 N1
   simp only [List.drop_succ_cons,List.drop_zero]
   refine Yl 4 fun N1 hN1=>?_
   simp (maxSteps:=2000000) only [s7,↓Za,↓Zk,↓Zr,↓Ze,↓Zm,↓Zs,↓Zf,↓Zh,↓Zg,↓Zc,↓Zb,↓vdn,vup,Zn,Zl,Zo,Zi,Zj,List.map_cons,List.map_nil,cond_true,cond_false,aop,Zv,Zq,Zp,ev,sput,Zt,Zy,Ya,unK,Zd,Zw,Nat.reduceBEq,Nat.reduceAdd,Int.reduceBEq,Int.reduceBNe,Int.reduceLT,Zu,Zz,tup,tyf,List.take_succ_cons,List.take_zero]
   refine hN1 _ _ ?_
   clear hN1 N1
   simp only [List.drop_succ_cons,List.drop_zero]
   refine Yl 3 fun N1 hN1=>?_
   simp (maxSteps:=2000000) only [s7,↓Za,↓Zk,↓Zr,↓Ze,↓Zm,↓Zs,↓Zf,↓Zh,↓Zg,↓Zc,↓Zb,↓vdn,vup,Zn,Zl,Zo,Zi,Zj,List.map_cons,List.map_nil,cond_true,cond_false,aop,Zv,Zq,Zp,ev,sput,Zt,Zy,Ya,unK,Zd,Zw,Nat.reduceBEq,Nat.reduceAdd,Int.reduceBEq,Int.reduceBNe,Int.reduceLT,Zu,Zz,tup,tyf,List.take_succ_cons,List.take_zero]
   refine hN1 _ _ ?_
   clear hN1 N1
   simp only [List.drop_succ_cons,List.drop_zero]
   refine Yl 4 fun N1 hN1=>?_
   simp (maxSteps:=2000000) only [s7,↓Za,↓Zk,↓Zr,↓Ze,↓Zm,↓Zs,↓Zf,↓Zh,↓Zg,↓Zc,↓Zb,↓vdn,vup,Zn,Zl,Zo,Zi,Zj,List.map_cons,List.map_nil,cond_true,cond_false,aop,Zv,Zq,Zp,ev,sput,Zt,Zy,Ya,unK,Zd,Zw,Nat.reduceBEq,Nat.reduceAdd,Int.reduceBEq,Int.reduceBNe,Int.reduceLT,Zu,Zz,tup,tyf,List.take_succ_cons,List.take_zero]
   refine hN1 _ _ ?_
   clear hN1 N1
   simp only [List.drop_succ_cons,List.drop_zero]
   simp (maxSteps:=2000000) only [s7,↓Za,↓Zk,↓Zr,↓Ze,↓Zm,↓Zs,↓Zf,↓Zh,↓Zg,↓Zc,↓Zb,↓vdn,vup,Zn,Zl,Zo,Zi,Zj,List.map_cons,List.map_nil,cond_true,cond_false,aop,Zv,Zq,Zp,ev,sput,Zt,Zy,Ya,unK,Zd,Zw,Nat.reduceBEq,Nat.reduceAdd,Int.reduceBEq,Int.reduceBNe,Int.reduceLT,Zu,Zz,tup,tyf]
   refine hN19 [(0,v),(2,.bool false),(28,.bool true)] _ _ ?_ (by simp (maxSteps:=2000000) only [↓Za,↓Zk,↓Zr,↓Ze,↓Zm,↓Zs,↓Zf,↓Zh,↓Zg,↓Zc,↓Zb,↓vdn,vup,Zn,Zl,Zo,Zi,Zj,List.map_cons,List.map_nil,cond_true,cond_false,aop,Zv,Zq,Zp,ev,sput,Zt,Zy,Ya,unK,Zd,Zw,Nat.reduceBEq,Nat.reduceAdd,Int.reduceBEq,Int.reduceBNe,Int.reduceLT,Zu,Zz,tup,tyf])
   clear hN19
   try clear N19
   refine Xe rfl ?_
   refine Yd ?_
   simp (maxSteps:=2000000) only [s7,↓Za,↓Zk,↓Zr,↓Ze,↓Zm,↓Zs,↓Zf,↓Zh,↓Zg,↓Zc,↓Zb,↓vdn,vup,Zn,Zl,Zo,Zi,Zj,List.map_cons,List.map_nil,cond_true,cond_false,aop,Zv,Zq,Zp,ev,sput,Zt,Zy,Ya,unK,Zd,Zw,Nat.reduceBEq,Nat.reduceAdd,Int.reduceBEq,Int.reduceBNe,Int.reduceLT,Zu,Zz,tup,tyf]
   exact ⟨rfl,.inr ⟨rfl,fun tab=>by have:=tab.n4; omega⟩⟩
 have g2 : ¬ ((4:Int)<(t.length:Int)):=by omega
 obtain ⟨w0,hw0,ld0⟩:=hv.load (P:=prog) Wb (i:=0) (by omega)
 have hi2:=fun K=>hv.idx (P:=prog) el_22 Vb (k:=.i64) (i:=0) (by omega) K
 rw [Int.natCast_zero] at hi2
 have hw1 : ∀ K,lenK w0 K=K (Zx (wd t:Nat)):=hw0.len
 by_cases a3:wd t<1
 · have g3:((wd t:Nat):Int)<1:=by omega
   refine Yl 4 fun N1 hN1=>?_
   simp (maxSteps:=2000000) only [s7,↓Za,↓Zk,↓Zr,↓Ze,↓Zm,↓Zs,↓Zf,↓Zh,↓Zg,↓Zc,↓Zb,↓vdn,vup,Zn,Zl,Zo,Zi,Zj,List.map_cons,List.map_nil,cond_true,cond_false,aop,Zv,Zq,Zp,ev,sput,Zt,Zy,Ya,unK,Zd,Zw,Nat.reduceBEq,Nat.reduceAdd,Int.reduceBEq,Int.reduceBNe,Int.reduceLT,Zu,Zz,tup,tyf,List.take_succ_cons,List.take_zero,hv.len,g1,decide_false]
   refine hN1 _ _ ?_
   clear hN1 N1
   simp only [List.drop_succ_cons,List.drop_zero]
   refine Yl 4 fun N1 hN1=>?_
   simp (maxSteps:=2000000) only [s7,↓Za,↓Zk,↓Zr,↓Ze,↓Zm,↓Zs,↓Zf,↓Zh,↓Zg,↓Zc,↓Zb,↓vdn,vup,Zn,Zl,Zo,Zi,Zj,List.map_cons,List.map_nil,cond_true,cond_false,aop,Zv,Zq,Zp,ev,sput,Zt,Zy,Ya,unK,Zd,Zw,Nat.reduceBEq,Nat.reduceAdd,Int.reduceBEq,Int.reduceBNe,Int.reduceLT,Zu,Zz,tup,tyf,List.take_succ_cons,List.take_zero,hv.len,gt_iff_lt,g2,decide_false]
   refine hN1 _ _ ?_
   clear hN1 N1
   simp only [List.drop_succ_cons,List.drop_zero]
   refine Yl 7 fun N1 hN1=>?_
   simp (maxSteps:=2000000) only [s7,↓Za,↓Zk,↓Zr,↓Ze,↓Zm,↓Zs,↓Zf,↓Zh,↓Zg,↓Zc,↓Zb,↓vdn,vup,Zn,Zl,Zo,Zi,Zj,List.map_cons,List.map_nil,cond_true,cond_false,aop,Zv,Zq,Zp,ev,sput,Zt,Zy,Ya,unK,Zd,Zw,Nat.reduceBEq,Nat.reduceAdd,Int.reduceBEq,Int.reduceBNe,Int.reduceLT,Zu,Zz,tup,tyf,List.take_succ_cons,List.take_zero,hi2,ld0,hw1,g3,decide_true]
   refine hN1 _ _ ?_
   clear hN1 N1
   simp only [List.drop_succ_cons,List.drop_zero]
   refine Yl 4 fun N1 hN1=>?_
   simp (maxSteps:=2000000) only [s7,↓Za,↓Zk,↓Zr,↓Ze,↓Zm,↓Zs,↓Zf,↓Zh,↓Zg,↓Zc,↓Zb,↓vdn,vup,Zn,Zl,Zo,Zi,Zj,List.map_cons,List.map_nil,cond_true,cond_false,aop,Zv,Zq,Zp,ev,sput,Zt,Zy,Ya,unK,Zd,Zw,Nat.reduceBEq,Nat.reduceAdd,Int.reduceBEq,Int.reduceBNe,Int.reduceLT,Zu,Zz,tup,tyf,List.take_succ_cons,List.take_zero]
   refine hN1 _ _ ?_
   clear hN1 N1
   simp only [List.drop_succ_cons,List.drop_zero]
   simp (maxSteps:=2000000) only [s7,↓Za,↓Zk,↓Zr,↓Ze,↓Zm,↓Zs,↓Zf,↓Zh,↓Zg,↓Zc,↓Zb,↓vdn,vup,Zn,Zl,Zo,Zi,Zj,List.map_cons,List.map_nil,cond_true,cond_false,aop,Zv,Zq,Zp,ev,sput,Zt,Zy,Ya,unK,Zd,Zw,Nat.reduceBEq,Nat.reduceAdd,Int.reduceBEq,Int.reduceBNe,Int.reduceLT,Zu,Zz,tup,tyf]
   refine hN19 [(0,v),(2,.bool false),(28,.bool true)] _ _ ?_ (by simp (maxSteps:=2000000) only [↓Za,↓Zk,↓Zr,↓Ze,↓Zm,↓Zs,↓Zf,↓Zh,↓Zg,↓Zc,↓Zb,↓vdn,vup,Zn,Zl,Zo,Zi,Zj,List.map_cons,List.map_nil,cond_true,cond_false,aop,Zv,Zq,Zp,ev,sput,Zt,Zy,Ya,unK,Zd,Zw,Nat.reduceBEq,Nat.reduceAdd,Int.reduceBEq,Int.reduceBNe,Int.reduceLT,Zu,Zz,tup,tyf])
   clear hN19
   try clear N19
   refine Xe rfl ?_
   refine Yd ?_
   simp (maxSteps:=2000000) only [s7,↓Za,↓Zk,↓Zr,↓Ze,↓Zm,↓Zs,↓Zf,↓Zh,↓Zg,↓Zc,↓Zb,↓vdn,vup,Zn,Zl,Zo,Zi,Zj,List.map_cons,List.map_nil,cond_true,cond_false,aop,Zv,Zq,Zp,ev,sput,Zt,Zy,Ya,unK,Zd,Zw,Nat.reduceBEq,Nat.reduceAdd,Int.reduceBEq,Int.reduceBNe,Int.reduceLT,Zu,Zz,tup,tyf]
   exact ⟨rfl,.inr ⟨rfl,fun tab=>by have:=tab.w1; omega⟩⟩
 have g3 : ¬ ((wd t:Nat):Int)<1:=by omega
 by_cases a4:4<wd t
 · have g4:(4:Int)<((wd t:Nat):Int):=by omega
   refine Yl 4 fun N1 hN1=>?_
   simp (maxSteps:=2000000) only [s7,↓Za,↓Zk,↓Zr,↓Ze,↓Zm,↓Zs,↓Zf,↓Zh,↓Zg,↓Zc,↓Zb,↓vdn,vup,Zn,Zl,Zo,Zi,Zj,List.map_cons,List.map_nil,cond_true,cond_false,aop,Zv,Zq,Zp,ev,sput,Zt,Zy,Ya,unK,Zd,Zw,Nat.reduceBEq,Nat.reduceAdd,Int.reduceBEq,Int.reduceBNe,Int.reduceLT,Zu,Zz,tup,tyf,List.take_succ_cons,List.take_zero,hv.len,g1,decide_false]
   refine hN1 _ _ ?_
   clear hN1 N1
   simp only [List.drop_succ_cons,List.drop_zero]
   refine Yl 4 fun N1 hN1=>?_
   simp (maxSteps:=2000000) only [s7,↓Za,↓Zk,↓Zr,↓Ze,↓Zm,↓Zs,↓Zf,↓Zh,↓Zg,↓Zc,↓Zb,↓vdn,vup,Zn,Zl,Zo,Zi,Zj,List.map_cons,List.map_nil,cond_true,cond_false,aop,Zv,Zq,Zp,ev,sput,Zt,Zy,Ya,unK,Zd,Zw,Nat.reduceBEq,Nat.reduceAdd,Int.reduceBEq,Int.reduceBNe,Int.reduceLT,Zu,Zz,tup,tyf,List.take_succ_cons,List.take_zero,hv.len,gt_iff_lt,g2,decide_false]
   refine hN1 _ _ ?_
   clear hN1 N1
   simp only [List.drop_succ_cons,List.drop_zero]
   refine Yl 7 fun N1 hN1=>?_
   simp (maxSteps:=2000000) only [s7,↓Za,↓Zk,↓Zr,↓Ze,↓Zm,↓Zs,↓Zf,↓Zh,↓Zg,↓Zc,↓Zb,↓vdn,vup,Zn,Zl,Zo,Zi,Zj,List.map_cons,List.map_nil,cond_true,cond_false,aop,Zv,Zq,Zp,ev,sput,Zt,Zy,Ya,unK,Zd,Zw,Nat.reduceBEq,Nat.reduceAdd,Int.reduceBEq,Int.reduceBNe,Int.reduceLT,Zu,Zz,tup,tyf,List.take_succ_cons,List.take_zero,hi2,ld0,hw1,g3,decide_false]
   refine hN1 _ _ ?_
   clear hN1 N1
   simp only [List.drop_succ_cons,List.drop_zero]
   simp (maxSteps:=2000000) only [s7,↓Za,↓Zk,↓Zr,↓Ze,↓Zm,↓Zs,↓Zf,↓Zh,↓Zg,↓Zc,↓Zb,↓vdn,vup,Zn,Zl,Zo,Zi,Zj,List.map_cons,List.map_nil,cond_true,cond_false,aop,Zv,Zq,Zp,ev,sput,Zt,Zy,Ya,unK,Zd,Zw,Nat.reduceBEq,Nat.reduceAdd,Int.reduceBEq,Int.reduceBNe,Int.reduceLT,Zu,Zz,tup,tyf,hi2,ld0,hw1,gt_iff_lt,g4,decide_true]
   refine hN19 [(0,v),(2,.bool false),(28,.bool true)] _ _ ?_ (by simp (maxSteps:=2000000) only [↓Za,↓Zk,↓Zr,↓Ze,↓Zm,↓Zs,↓Zf,↓Zh,↓Zg,↓Zc,↓Zb,↓vdn,vup,Zn,Zl,Zo,Zi,Zj,List.map_cons,List.map_nil,cond_true,cond_false,aop,Zv,Zq,Zp,ev,sput,Zt,Zy,Ya,unK,Zd,Zw,Nat.reduceBEq,Nat.reduceAdd,Int.reduceBEq,Int.reduceBNe,Int.reduceLT,Zu,Zz,tup,tyf])
   clear hN19
   try clear N19
   refine Xe rfl ?_
   refine Yd ?_
   simp (maxSteps:=2000000) only [s7,↓Za,↓Zk,↓Zr,↓Ze,↓Zm,↓Zs,↓Zf,↓Zh,↓Zg,↓Zc,↓Zb,↓vdn,vup,Zn,Zl,Zo,Zi,Zj,List.map_cons,List.map_nil,cond_true,cond_false,aop,Zv,Zq,Zp,ev,sput,Zt,Zy,Ya,unK,Zd,Zw,Nat.reduceBEq,Nat.reduceAdd,Int.reduceBEq,Int.reduceBNe,Int.reduceLT,Zu,Zz,tup,tyf]
   exact ⟨rfl,.inr ⟨rfl,fun tab=>by have:=tab.w4; omega⟩⟩
 have g4 : ¬ (4:Int)<((wd t:Nat):Int):=by omega
 refine Yl 4 fun N1 hN1=>?_
 simp (maxSteps:=2000000) only [s7,↓Za,↓Zk,↓Zr,↓Ze,↓Zm,↓Zs,↓Zf,↓Zh,↓Zg,↓Zc,↓Zb,↓vdn,vup,Zn,Zl,Zo,Zi,Zj,List.map_cons,List.map_nil,cond_true,cond_false,aop,Zv,Zq,Zp,ev,sput,Zt,Zy,Ya,unK,Zd,Zw,Nat.reduceBEq,Nat.reduceAdd,Int.reduceBEq,Int.reduceBNe,Int.reduceLT,Zu,Zz,tup,tyf,List.take_succ_cons,List.take_zero,hv.len,g1,decide_false]
 refine hN1 _ _ ?_
 clear hN1 N1
 simp only [List.drop_succ_cons,List.drop_zero]
 refine Yl 4 fun N1 hN1=>?_
 simp (maxSteps:=2000000) only [s7,↓Za,↓Zk,↓Zr,↓Ze,↓Zm,↓Zs,↓Zf,↓Zh,↓Zg,↓Zc,↓Zb,↓vdn,vup,Zn,Zl,Zo,Zi,Zj,List.map_cons,List.map_nil,cond_true,cond_false,aop,Zv,Zq,Zp,ev,sput,Zt,Zy,Ya,unK,Zd,Zw,Nat.reduceBEq,Nat.reduceAdd,Int.reduceBEq,Int.reduceBNe,Int.reduceLT,Zu,Zz,tup,tyf,List.take_succ_cons,List.take_zero,hv.len,gt_iff_lt,g2,decide_false]
 refine hN1 _ _ ?_
 clear hN1 N1
 simp only [List.drop_succ_cons,List.drop_zero]
 refine Yl 7 fun N1 hN1=>?_
 simp (maxSteps:=2000000) only [s7,↓Za,↓Zk,↓Zr,↓Ze,↓Zm,↓Zs,↓Zf,↓Zh,↓Zg,↓Zc,↓Zb,↓vdn,vup,Zn,Zl,Zo,Zi,Zj,List.map_cons,List.map_nil,cond_true,cond_false,aop,Zv,Zq,Zp,ev,sput,Zt,Zy,Ya,unK,Zd,Zw,Nat.reduceBEq,Nat.reduceAdd,Int.reduceBEq,Int.reduceBNe,Int.reduceLT,Zu,Zz,tup,tyf,List.take_succ_cons,List.take_zero,hi2,ld0,hw1,g3,decide_false]
 refine hN1 _ _ ?_
 clear hN1 N1
 simp only [List.drop_succ_cons,List.drop_zero]
 simp (maxSteps:=2000000) only [s7,↓Za,↓Zk,↓Zr,↓Ze,↓Zm,↓Zs,↓Zf,↓Zh,↓Zg,↓Zc,↓Zb,↓vdn,vup,Zn,Zl,Zo,Zi,Zj,List.map_cons,List.map_nil,cond_true,cond_false,aop,Zv,Zq,Zp,ev,sput,Zt,Zy,Ya,unK,Zd,Zw,Nat.reduceBEq,Nat.reduceAdd,Int.reduceBEq,Int.reduceBNe,Int.reduceLT,Zu,Zz,tup,tyf,hi2,ld0,hw1,gt_iff_lt,g4,decide_false]
 refine hN19 [(0,v),(2,.bool false),(28,.bool false)] _ _ ?_ (by simp (maxSteps:=2000000) only [↓Za,↓Zk,↓Zr,↓Ze,↓Zm,↓Zs,↓Zf,↓Zh,↓Zg,↓Zc,↓Zb,↓vdn,vup,Zn,Zl,Zo,Zi,Zj,List.map_cons,List.map_nil,cond_true,cond_false,aop,Zv,Zq,Zp,ev,sput,Zt,Zy,Ya,unK,Zd,Zw,Nat.reduceBEq,Nat.reduceAdd,Int.reduceBEq,Int.reduceBNe,Int.reduceLT,Zu,Zz,tup,tyf])
 clear hN19
 try clear N19
 refine Yq rfl ?_
 refine Yd ?_
 simp (maxSteps:=2000000) only [s7,↓Za,↓Zk,↓Zr,↓Ze,↓Zm,↓Zs,↓Zf,↓Zh,↓Zg,↓Zc,↓Zb,↓vdn,vup,Zn,Zl,Zo,Zi,Zj,List.map_cons,List.map_nil,cond_true,cond_false,aop,Zv,Zq,Zp,ev,sput,Zt,Zy,Ya,unK,Zd,Zw,Nat.reduceBEq,Nat.reduceAdd,Int.reduceBEq,Int.reduceBNe,Int.reduceLT,Zu,Zz,tup,tyf]
 refine hM [(0,v),(2,.bool false)] _ _ ?_ (by simp (maxSteps:=2000000) only [↓Za,↓Zk,↓Zr,↓Ze,↓Zm,↓Zs,↓Zf,↓Zh,↓Zg,↓Zc,↓Zb,↓vdn,vup,Zn,Zl,Zo,Zi,Zj,List.map_cons,List.map_nil,cond_true,cond_false,aop,Zv,Zq,Zp,ev,sput,Zt,Zy,Ya,unK,Zd,Zw,Nat.reduceBEq,Nat.reduceAdd,Int.reduceBEq,Int.reduceBNe,Int.reduceLT,Zu,Zz,tup,tyf])
 clear hM
 try clear M
 exact table_rows hv (by omega) (by omega) (by omega) (by omega)
end Go.Proofs.Tryd.Am.Tf
namespace Go.Proofs.Tryd.Am.Su
open Go.Proofs.Tryd.Am
open Go.Am Sr
set_option maxRecDepth 100000
set_option maxHeartbeats 1000000
theorem IntSl_new (h:Yc) (xs:List Int) (e:TypeId):IntSl (h++[.ints xs e false]) (.slice (some ⟨h.length,0,none⟩) xs.length xs.length) xs :=
 .inr ⟨h.length,0,none,xs.length,xs.map Zx,e,false,rfl,Nat.le_refl _,by simp [view,Blk.view],fun i hi=>by rw [Nat.zero_add,List.getElem?_map,List.getD,List.getElem?_eq_getElem hi]; rfl⟩
theorem litI2 {h:Yc} {x y:Int} (K:Value→Yc→Prop):Yx prog h 27 2 [(0,Zx x),(1,Zx y)] K=K (.slice (some ⟨h.length,0,none⟩) 2 2) (h++[.ints [x,y] 3 false]):=by
 simp only [Yx,Wp,zero_3,Xk,reps,fillL,mkb,Xf,Wt,cellsOf,Yt,List.length_singleton,List.length_cons,List.length_nil,Nat.mul_one,Nat.one_mul,Nat.zero_mul,Nat.zero_add]
 exact propext ⟨fun h=>h.2.2.2,fun h=>⟨trivial,by decide,by decide,h⟩⟩
theorem s9_callW [Tabs Tryd.prog] {args:List Value} {h:Yc} {Q:Value→Yc→Prop} (hsz:args.length≤15) (hk:AWS Tryd.prog 15 s9 (Zu Tryd.prog [.tmp 0] Q) (Zp 0 args) h):ACall Tryd.prog 9 args h Q :=
 Xg Tryd.func9 rfl (enters_of Tryd.func9 (by kernel_rfl) rfl) rfl rfl (by decide) s9_strip s9_ok hsz hk
theorem awake_call [BitTab prog 0] {h:Yc}:ACall prog 9 [] h fun r h'=>r = .bool true∧Ext (fun _=>False) h h':=by
 refine s9_callW (by simp) ?_
 simp only [s9]
 refine Yb fun N1 hN1=>?_
 simp (maxSteps:=2000000) only [s9,↓Za,↓Zk,↓Zr,↓Ze,↓Zm,↓Zs,↓Zf,↓Zh,↓Zg,↓Zc,↓Zb,↓vdn,vup,Zn,Zl,Zo,Zi,Zj,List.map_cons,List.map_nil,cond_true,cond_false,aop,Zv,Zq,Zp,ev,sput,Zt,Zy,Ya,unK,Zd,Zw,Nat.reduceBEq,Nat.reduceAdd,Int.reduceBEq,Int.reduceBNe,Int.reduceLT,Zu,Zz,tup,tyf]
 refine hN1 [(0,.bool false)] _ _ ?_ (by simp (maxSteps:=2000000) only [↓Za,↓Zk,↓Zr,↓Ze,↓Zm,↓Zs,↓Zf,↓Zh,↓Zg,↓Zc,↓Zb,↓vdn,vup,Zn,Zl,Zo,Zi,Zj,List.map_cons,List.map_nil,cond_true,cond_false,aop,Zv,Zq,Zp,ev,sput,Zt,Zy,Ya,unK,Zd,Zw,Nat.reduceBEq,Nat.reduceAdd,Int.reduceBEq,Int.reduceBNe,Int.reduceLT,Zu,Zz,tup,tyf])
 clear hN1
 try clear N1
 have hi:IntSl (h++[.ints [2,1] 3 false]) (.slice (some ⟨h.length,0,none⟩) 2 2) [2,1]:=IntSl_new h [2,1] 3
 have hc:=code_call hi (by decide) (by decide) (k:=1)
 refine Yb fun N2 hN2=>?_
 simp (maxSteps:=2000000) only [s9,↓Za,↓Zk,↓Zr,↓Ze,↓Zm,↓Zs,↓Zf,↓Zh,↓Zg,↓Zc,↓Zb,↓vdn,vup,Zn,Zl,Zo,Zi,Zj,List.map_cons,List.map_nil,cond_true,cond_false,aop,Zv,Zq,Zp,ev,sput,Zt,Zy,Ya,unK,Zd,Zw,Nat.reduceBEq,Nat.reduceAdd,Int.reduceBEq,Int.reduceBNe,Int.reduceLT,Zu,Zz,tup,tyf,Yz,List.nil_append,List.append_nil,List.toList_toArray,List.cons_append,litI2]
 refine (hc).mono ?_
 rintro r h' ⟨hE,hr⟩
 have hg:grs [2,1]=true:=by decide
 have hcl:codeL (nearL [2,1] 1)=[0]:=by decide +kernel
 rw [codeR,if_pos ⟨hg,by decide,by decide⟩] at hr
 rw [if_pos (by decide)] at hr
 obtain ⟨w,rfl,hw⟩:=hr
 rw [show (1:Int).toNat=1 from rfl,hcl] at hw
 simp (maxSteps:=2000000) only [s9,↓Za,↓Zk,↓Zr,↓Ze,↓Zm,↓Zs,↓Zf,↓Zh,↓Zg,↓Zc,↓Zb,↓vdn,vup,Zn,Zl,Zo,Zi,Zj,List.map_cons,List.map_nil,cond_true,cond_false,aop,Zv,Zq,Zp,ev,sput,Zt,Zy,Ya,unK,Zd,Zw,Nat.reduceBEq,Nat.reduceAdd,Int.reduceBEq,Int.reduceBNe,Int.reduceLT,Zu,Zz,tup,tyf]
 refine hN2 [(0,.bool false),(1,w),(2,.int .i64 0)] _ _ ?_ (by simp (maxSteps:=2000000) only [↓Za,↓Zk,↓Zr,↓Ze,↓Zm,↓Zs,↓Zf,↓Zh,↓Zg,↓Zc,↓Zb,↓vdn,vup,Zn,Zl,Zo,Zi,Zj,List.map_cons,List.map_nil,cond_true,cond_false,aop,Zv,Zq,Zp,ev,sput,Zt,Zy,Ya,unK,Zd,Zw,Nat.reduceBEq,Nat.reduceAdd,Int.reduceBEq,Int.reduceBNe,Int.reduceLT,Zu,Zz,tup,tyf])
 clear hN2
 try clear N2
 have hi2:IntSl (h'++[.ints [0] 3 false]) (.slice (some ⟨h'.length,0,none⟩) 1 1) [0]:=IntSl_new h' [0] 3
 have heq:=equal_call (hw.int.grow [.ints [0] 3 false]) hi2 (by decide) (by decide)
 have e0:((0:Int)==0)=true:=rfl
 refine Yd ?_
 simp (maxSteps:=2000000) only [s9,↓Za,↓Zk,↓Zr,↓Ze,↓Zm,↓Zs,↓Zf,↓Zh,↓Zg,↓Zc,↓Zb,↓vdn,vup,Zn,Zl,Zo,Zi,Zj,List.map_cons,List.map_nil,cond_true,cond_false,aop,Zv,Zq,Zp,ev,sput,Zt,Zy,Ya,unK,Zd,Zw,Nat.reduceBEq,Nat.reduceAdd,Int.reduceBEq,Int.reduceBNe,Int.reduceLT,Zu,Zz,tup,tyf,Yz,List.nil_append,List.append_nil,List.toList_toArray,List.cons_append,e0,litI1]
 refine (heq).mono ?_
 rintro _ _ ⟨rfl,rfl⟩
 have hd:decide ([0].map Int.ofNat=[0])=true:=by decide
 refine ⟨congrArg Value.bool hd,?_⟩
 exact ((Ext.app (fun _=>False) h _).trans hE).trans (Ext.app _ _ _)
end Go.Proofs.Tryd.Am.Su
namespace Go.Proofs.Tryd.Am.Tf
open Go.Proofs.Tryd.Am
open Go.Am
set_option maxRecDepth 100000
set_option maxHeartbeats 4000000
theorem gl_sub {α:Type} (ok:α→α→Bool) : ∀ (l now b:List α) (p:α),p∈gl ok l now b→p∈l∨p∈now∨p∈b
 | [],now,b,p,h=>.inr (.inr h)
 | x::tl,now,b,p,h=>by
   rw [gl] at h
   rcases gl_sub ok tl now _ p h with h | h | h
   · exact .inl (List.mem_cons_of_mem _ h)
   · exact .inr (.inl h)
   · split at h
     · exact .inr (.inr h)
     · rcases gl_sub ok tl (now++[x]) _ p h with h | h | h
       · exact .inl (List.mem_cons_of_mem _ h)
       · rcases List.mem_append.1 h with h | h
         · exact .inr (.inl h)
         · rw [List.mem_singleton] at h; rw [h]; exact .inl List.mem_cons_self
       · unfold updB at h
         split at h
         · rcases List.mem_append.1 h with h | h
           · exact .inr (.inl h)
           · rw [List.mem_singleton] at h; rw [h]; exact .inl List.mem_cons_self
         · exact .inr (.inr h)
theorem gl_le {α:Type} (ok:α→α→Bool) : ∀ (l now b:List α),(gl ok l now b).length≤max b.length (now.length+l.length)
 | [],now,b=>Nat.le_max_left _ _
 | x::tl,now,b=>by
   rw [gl]
   refine Nat.le_trans (gl_le ok tl now _) ?_
   rw [List.length_cons]
   split
   · omega
   · have h1:=gl_le ok tl (now++[x]) (updB (now++[x]) b)
     have h2:(updB (now++[x]) b).length≤max b.length (now.length+1):=by
      unfold updB; split
      · rw [List.length_append,List.length_singleton]; omega
      · omega
     rw [List.length_append,List.length_singleton] at h1
     omega
theorem compare_loop [BitTab prog 0] {h:Yc} {cv av fv:Value} {cl:List Nat} {al:List (Int×Int)} (hc:IntSl h cv (cl.map Int.ofNat)) (ha:PairSl h av al) (hf:PairSl h fv (cl.map fun i=>al.getD i (0,0))) (hal:al.length≤6) (hcl:cl.length≤6) (hin : ∀ c∈cl,c<al.length) {Q:Value→Yc→Prop} (hQ : ∀ h',Q (.bool true) h') :
  AWS prog 198 (.seq (.seq q3_35 (.block 8 (.loop l3_4))) (.seq q3_41 .ret)) (Zu prog [.tmp 4] Q) [(5,av),(10,fv),(19,cv)] h:=by
 have hln:(cl.map Int.ofNat).length=cl.length:=List.length_map _
 refine Ye fun M hM=>?_
 refine Yb fun N1 hN1=>?_
 simp (maxSteps:=2000000) only [s3,↓Za,↓Zk,↓Zr,↓Ze,↓Zm,↓Zs,↓Zf,↓Zh,↓Zg,↓Zc,↓Zb,↓vdn,vup,Zn,Zl,Zo,Zi,Zj,List.map_cons,List.map_nil,cond_true,cond_false,aop,Zv,Zq,Zp,ev,sput,Zt,Zy,Ya,unK,Zd,Zw,Nat.reduceBEq,Nat.reduceAdd,Int.reduceBEq,Int.reduceBNe,Int.reduceLT,Zu,Zz,tup,tyf,hc.len,hln]
 refine hN1 [(5,av),(10,fv),(19,cv),(170,cv),(171,Zx cl.length),(172,.int .i64 0)] _ _ ?_ (by simp (maxSteps:=2000000) only [↓Za,↓Zk,↓Zr,↓Ze,↓Zm,↓Zs,↓Zf,↓Zh,↓Zg,↓Zc,↓Zb,↓vdn,vup,Zn,Zl,Zo,Zi,Zj,List.map_cons,List.map_nil,cond_true,cond_false,aop,Zv,Zq,Zp,ev,sput,Zt,Zy,Ya,unK,Zd,Zw,Nat.reduceBEq,Nat.reduceAdd,Int.reduceBEq,Int.reduceBNe,Int.reduceLT,Zu,Zz,tup,tyf])
 clear hN1
 try clear N1
 refine Yh ?_
 refine Yf fun Q1 hQ1=>?_
 refine Xh (γ:=Nat) (fun s=>s≤cl.length)
  (fun s=>([(5,av),(10,fv),(19,cv),(170,cv),(171,Zx cl.length),(172,Zx (s:Nat))],h)) (fun s=>cl.length-s) 0 (Nat.zero_le _) (by simp (maxSteps:=2000000) only [↓Za,↓Zk,↓Zr,↓Ze,↓Zm,↓Zs,↓Zf,↓Zh,↓Zg,↓Zc,↓Zb,↓vdn,vup,Zn,Zl,Zo,Zi,Zj,List.map_cons,List.map_nil,cond_true,cond_false,aop,Zv,Zq,Zp,ev,sput,Zt,Zy,Ya,unK,Zd,Zw,Nat.reduceBEq,Nat.reduceAdd,Int.reduceBEq,Int.reduceBNe,Int.reduceLT,Zu,Zz,tup,tyf,Int.natCast_zero]) rfl ?_
 intro i hi
 refine Yf fun Q2 hQ2=>?_
 simp only [l3_4]
 by_cases hin' : (i:Int)<cl.length
 · have hi' : i<cl.length:=by omega
   have hi2:i<(cl.map Int.ofNat).length:=by omega
   have hi3:i<(cl.map fun i=>al.getD i (0,0)).length:=by rw [List.length_map]; exact hi'
   have g1:(cl.map Int.ofNat).getD i 0=((cl.getD i 0:Nat):Int):=by rw [List.getD,List.getElem?_map,List.getElem?_eq_getElem hi',List.getD,List.getElem?_eq_getElem hi']; rfl
   have g2:(cl.map fun i=>al.getD i (0,0)).getD i (0,0)=al.getD (cl.getD i 0) (0,0):=by rw [List.getD,List.getElem?_map,List.getElem?_eq_getElem hi',List.getD,List.getD,List.getElem?_eq_getElem hi']; rfl
   have hc1:cl.getD i 0<al.length:=hin _ (by rw [List.getD,List.getElem?_eq_getElem hi']; exact List.getElem_mem hi')
   have ld1:=fun K=>hc.load (P:=prog) Yw hi2 K
   have ld2:=fun K=>hf.load (P:=prog) shp_28 hi3 K
   rw [g1] at ld1
   rw [g2] at ld2
   generalize cl.getD i 0=c at ld1 ld2 hc1
   have hge:decide ((c:Int)≥al.length)=false:=decide_eq_false (by omega)
   have hlt:decide ((c:Int)<0)=false:=decide_eq_false (by omega)
   have hq:EqT prog 28 2:=eqT_array und_28 und_3 Xk (by kernel_rfl)
   have hs2 : ∀ a b:Int,(([a,b]:List Int) != [a,b])=false:=fun a b=>by simp
   refine Yb fun N2 hN2=>?_
   simp (maxSteps:=2000000) only [s3,↓Za,↓Zk,↓Zr,↓Ze,↓Zm,↓Zs,↓Zf,↓Zh,↓Zg,↓Zc,↓Zb,↓vdn,vup,Zn,Zl,Zo,Zi,Zj,List.map_cons,List.map_nil,cond_true,cond_false,aop,Zv,Zq,Zp,ev,sput,Zt,Zy,Ya,unK,Zd,Zw,Nat.reduceBEq,Nat.reduceAdd,Int.reduceBEq,Int.reduceBNe,Int.reduceLT,Zu,Zz,tup,tyf,hin']
   refine hN2 [(5,av),(10,fv),(19,cv),(170,cv),(171,Zx cl.length),(172,Zx (i:Nat)),(173,.bool true)] _ _ ?_ (by simp (maxSteps:=2000000) only [↓Za,↓Zk,↓Zr,↓Ze,↓Zm,↓Zs,↓Zf,↓Zh,↓Zg,↓Zc,↓Zb,↓vdn,vup,Zn,Zl,Zo,Zi,Zj,List.map_cons,List.map_nil,cond_true,cond_false,aop,Zv,Zq,Zp,ev,sput,Zt,Zy,Ya,unK,Zd,Zw,Nat.reduceBEq,Nat.reduceAdd,Int.reduceBEq,Int.reduceBNe,Int.reduceLT,Zu,Zz,tup,tyf])
   clear hN2
   try clear N2
   refine Yb fun N3 hN3=>?_
   simp (maxSteps:=2000000) only [s3,↓Za,↓Zk,↓Zr,↓Ze,↓Zm,↓Zs,↓Zf,↓Zh,↓Zg,↓Zc,↓Zb,↓vdn,vup,Zn,Zl,Zo,Zi,Zj,List.map_cons,List.map_nil,cond_true,cond_false,aop,Zv,Zq,Zp,ev,sput,Zt,Zy,Ya,unK,Zd,Zw,Nat.reduceBEq,Nat.reduceAdd,Int.reduceBEq,Int.reduceBNe,Int.reduceLT,Zu,Zz,tup,tyf]
   refine hN3 [(5,av),(10,fv),(19,cv),(170,cv),(171,Zx cl.length),(172,Zx (i:Nat))] _ _ ?_ (by simp (maxSteps:=2000000) only [↓Za,↓Zk,↓Zr,↓Ze,↓Zm,↓Zs,↓Zf,↓Zh,↓Zg,↓Zc,↓Zb,↓vdn,vup,Zn,Zl,Zo,Zi,Zj,List.map_cons,List.map_nil,cond_true,cond_false,aop,Zv,Zq,Zp,ev,sput,Zt,Zy,Ya,unK,Zd,Zw,Nat.reduceBEq,Nat.reduceAdd,Int.reduceBEq,Int.reduceBNe,Int.reduceLT,Zu,Zz,tup,tyf])
   clear hN3
   try clear N3
   refine Ye fun B hB=>?_
   refine Yh ?_
   refine Yb fun N4 hN4=>?_
   simp (maxSteps:=2000000) only [s3,↓Za,↓Zk,↓Zr,↓Ze,↓Zm,↓Zs,↓Zf,↓Zh,↓Zg,↓Zc,↓Zb,↓vdn,vup,Zn,Zl,Zo,Zi,Zj,List.map_cons,List.map_nil,cond_true,cond_false,aop,Zv,Zq,Zp,ev,sput,Zt,Zy,Ya,unK,Zd,Zw,Nat.reduceBEq,Nat.reduceAdd,Int.reduceBEq,Int.reduceBNe,Int.reduceLT,Zu,Zz,tup,tyf,hc.idx Wp Xk hi2,ld1]
   refine hN4 [(5,av),(10,fv),(19,cv),(21,Zx (i:Nat)),(22,Zx (c:Nat)),(170,cv),(171,Zx cl.length),(172,Zx (i:Nat))] _ _ ?_ (by simp (maxSteps:=2000000) only [↓Za,↓Zk,↓Zr,↓Ze,↓Zm,↓Zs,↓Zf,↓Zh,↓Zg,↓Zc,↓Zb,↓vdn,vup,Zn,Zl,Zo,Zi,Zj,List.map_cons,List.map_nil,cond_true,cond_false,aop,Zv,Zq,Zp,ev,sput,Zt,Zy,Ya,unK,Zd,Zw,Nat.reduceBEq,Nat.reduceAdd,Int.reduceBEq,Int.reduceBNe,Int.reduceLT,Zu,Zz,tup,tyf])
   clear hN4
   try clear N4
   refine Yb fun N5 hN5=>?_
   simp only [q3_38]
   refine Xv [] (by kernel_rfl) (by kernel_rfl) (by kernel_rfl) (by kernel_rfl) ?_
   simp (maxSteps:=2000000) only [s3,↓Za,↓Zk,↓Zr,↓Ze,↓Zm,↓Zs,↓Zf,↓Zh,↓Zg,↓Zc,↓Zb,↓vdn,vup,Zn,Zl,Zo,Zi,Zj,List.map_cons,List.map_nil,cond_true,cond_false,aop,Zv,Zq,Zp,ev,sput,Zt,Zy,Ya,unK,Zd,Zw,Nat.reduceBEq,Nat.reduceAdd,Int.reduceBEq,Int.reduceBNe,Int.reduceLT,Zu,Zz,tup,tyf,hlt,hge,ha.len,ha.idx el_26 Vk hc1,ha.load shp_28 hc1,hf.idx el_26 Vk hi3,ld2,Xf,Option.map_some,List.toList_toArray,List.length_cons,List.length_nil,Nat.zero_add,hq,hs2,Bool.not_true]
   refine hN5 [(5,av),(10,fv),(19,cv),(21,Zx (i:Nat)),(22,Zx (c:Nat)),(170,cv),(171,Zx cl.length),(172,Zx (i:Nat)),(195,.bool false)] _ _ ?_ (by simp (maxSteps:=2000000) only [↓Za,↓Zk,↓Zr,↓Ze,↓Zm,↓Zs,↓Zf,↓Zh,↓Zg,↓Zc,↓Zb,↓vdn,vup,Zn,Zl,Zo,Zi,Zj,List.map_cons,List.map_nil,cond_true,cond_false,aop,Zv,Zq,Zp,ev,sput,Zt,Zy,Ya,unK,Zd,Zw,Nat.reduceBEq,Nat.reduceAdd,Int.reduceBEq,Int.reduceBNe,Int.reduceLT,Zu,Zz,tup,tyf])
   clear hN5
   try clear N5
   refine Yq rfl ?_
   refine Yd ?_
   simp (maxSteps:=2000000) only [s3,↓Za,↓Zk,↓Zr,↓Ze,↓Zm,↓Zs,↓Zf,↓Zh,↓Zg,↓Zc,↓Zb,↓vdn,vup,Zn,Zl,Zo,Zi,Zj,List.map_cons,List.map_nil,cond_true,cond_false,aop,Zv,Zq,Zp,ev,sput,Zt,Zy,Ya,unK,Zd,Zw,Nat.reduceBEq,Nat.reduceAdd,Int.reduceBEq,Int.reduceBNe,Int.reduceLT,Zu,Zz,tup,tyf]
   refine hB [(5,av),(10,fv),(19,cv),(170,cv),(171,Zx cl.length),(172,Zx (i:Nat))] _ _ ?_ (by simp (maxSteps:=2000000) only [↓Za,↓Zk,↓Zr,↓Ze,↓Zm,↓Zs,↓Zf,↓Zh,↓Zg,↓Zc,↓Zb,↓vdn,vup,Zn,Zl,Zo,Zi,Zj,List.map_cons,List.map_nil,cond_true,cond_false,aop,Zv,Zq,Zp,ev,sput,Zt,Zy,Ya,unK,Zd,Zw,Nat.reduceBEq,Nat.reduceAdd,Int.reduceBEq,Int.reduceBNe,Int.reduceLT,Zu,Zz,tup,tyf])
   clear hB
   try clear B
   refine Yd ?_
   simp (maxSteps:=2000000) only [s3,↓Za,↓Zk,↓Zr,↓Ze,↓Zm,↓Zs,↓Zf,↓Zh,↓Zg,↓Zc,↓Zb,↓vdn,vup,Zn,Zl,Zo,Zi,Zj,List.map_cons,List.map_nil,cond_true,cond_false,aop,Zv,Zq,Zp,ev,sput,Zt,Zy,Ya,unK,Zd,Zw,Nat.reduceBEq,Nat.reduceAdd,Int.reduceBEq,Int.reduceBNe,Int.reduceLT,Zu,Zz,tup,tyf,Vd (show i<9223372036854775807 by omega)]
   exact hQ2 _ _ _ ⟨i+1,hi',by omega,by simp (maxSteps:=2000000) only [↓Za,↓Zk,↓Zr,↓Ze,↓Zm,↓Zs,↓Zf,↓Zh,↓Zg,↓Zc,↓Zb,↓vdn,vup,Zn,Zl,Zo,Zi,Zj,List.map_cons,List.map_nil,cond_true,cond_false,aop,Zv,Zq,Zp,ev,sput,Zt,Zy,Ya,unK,Zd,Zw,Nat.reduceBEq,Nat.reduceAdd,Int.reduceBEq,Int.reduceBNe,Int.reduceLT,Zu,Zz,tup,tyf],rfl⟩
 · obtain rfl:i=cl.length:=by omega
   refine Yb fun N6 hN6=>?_
   simp (maxSteps:=2000000) only [s3,↓Za,↓Zk,↓Zr,↓Ze,↓Zm,↓Zs,↓Zf,↓Zh,↓Zg,↓Zc,↓Zb,↓vdn,vup,Zn,Zl,Zo,Zi,Zj,List.map_cons,List.map_nil,cond_true,cond_false,aop,Zv,Zq,Zp,ev,sput,Zt,Zy,Ya,unK,Zd,Zw,Nat.reduceBEq,Nat.reduceAdd,Int.reduceBEq,Int.reduceBNe,Int.reduceLT,Zu,Zz,tup,tyf,hin']
   refine hN6 [(5,av),(10,fv),(19,cv),(170,cv),(171,Zx cl.length),(172,Zx cl.length),(173,.bool false)] _ _ ?_ (by simp (maxSteps:=2000000) only [↓Za,↓Zk,↓Zr,↓Ze,↓Zm,↓Zs,↓Zf,↓Zh,↓Zg,↓Zc,↓Zb,↓vdn,vup,Zn,Zl,Zo,Zi,Zj,List.map_cons,List.map_nil,cond_true,cond_false,aop,Zv,Zq,Zp,ev,sput,Zt,Zy,Ya,unK,Zd,Zw,Nat.reduceBEq,Nat.reduceAdd,Int.reduceBEq,Int.reduceBNe,Int.reduceLT,Zu,Zz,tup,tyf])
   clear hN6
   try clear N6
   refine Yb fun N7 hN7=>?_
   simp (maxSteps:=2000000) only [s3,↓Za,↓Zk,↓Zr,↓Ze,↓Zm,↓Zs,↓Zf,↓Zh,↓Zg,↓Zc,↓Zb,↓vdn,vup,Zn,Zl,Zo,Zi,Zj,List.map_cons,List.map_nil,cond_true,cond_false,aop,Zv,Zq,Zp,ev,sput,Zt,Zy,Ya,unK,Zd,Zw,Nat.reduceBEq,Nat.reduceAdd,Int.reduceBEq,Int.reduceBNe,Int.reduceLT,Zu,Zz,tup,tyf]
   refine hQ2 _ _ _ (hQ1 _ _ _ ?_)
   simp (maxSteps:=2000000) only [s3,↓Za,↓Zk,↓Zr,↓Ze,↓Zm,↓Zs,↓Zf,↓Zh,↓Zg,↓Zc,↓Zb,↓vdn,vup,Zn,Zl,Zo,Zi,Zj,List.map_cons,List.map_nil,cond_true,cond_false,aop,Zv,Zq,Zp,ev,sput,Zt,Zy,Ya,unK,Zd,Zw,Nat.reduceBEq,Nat.reduceAdd,Int.reduceBEq,Int.reduceBNe,Int.reduceLT,Zu,Zz,tup,tyf,if_true]
   refine hM [(5,av),(10,fv),(19,cv),(173,.bool false)] _ _ ?_ (by simp (maxSteps:=2000000) only [↓Za,↓Zk,↓Zr,↓Ze,↓Zm,↓Zs,↓Zf,↓Zh,↓Zg,↓Zc,↓Zb,↓vdn,vup,Zn,Zl,Zo,Zi,Zj,List.map_cons,List.map_nil,cond_true,cond_false,aop,Zv,Zq,Zp,ev,sput,Zt,Zy,Ya,unK,Zd,Zw,Nat.reduceBEq,Nat.reduceAdd,Int.reduceBEq,Int.reduceBNe,Int.reduceLT,Zu,Zz,tup,tyf])
   clear hM
   try clear M
   refine Yb fun N8 hN8=>?_
   simp (maxSteps:=2000000) only [s3,↓Za,↓Zk,↓Zr,↓Ze,↓Zm,↓Zs,↓Zf,↓Zh,↓Zg,↓Zc,↓Zb,↓vdn,vup,Zn,Zl,Zo,Zi,Zj,List.map_cons,List.map_nil,cond_true,cond_false,aop,Zv,Zq,Zp,ev,sput,Zt,Zy,Ya,unK,Zd,Zw,Nat.reduceBEq,Nat.reduceAdd,Int.reduceBEq,Int.reduceBNe,Int.reduceLT,Zu,Zz,tup,tyf,Yz,List.nil_append,List.append_nil,List.toList_toArray,List.cons_append]
   refine (Su.awake_call).mono ?_
   rintro _ h2 ⟨rfl,hE2⟩
   refine hN8 [(4,.bool true),(5,av),(10,fv),(19,cv),(173,.bool false)] _ _ ?_ (by simp (maxSteps:=2000000) only [↓Za,↓Zk,↓Zr,↓Ze,↓Zm,↓Zs,↓Zf,↓Zh,↓Zg,↓Zc,↓Zb,↓vdn,vup,Zn,Zl,Zo,Zi,Zj,List.map_cons,List.map_nil,cond_true,cond_false,aop,Zv,Zq,Zp,ev,sput,Zt,Zy,Ya,unK,Zd,Zw,Nat.reduceBEq,Nat.reduceAdd,Int.reduceBEq,Int.reduceBNe,Int.reduceLT,Zu,Zz,tup,tyf])
   clear hN8
   try clear N8
   refine Yd ?_
   simp (maxSteps:=2000000) only [s3,↓Za,↓Zk,↓Zr,↓Ze,↓Zm,↓Zs,↓Zf,↓Zh,↓Zg,↓Zc,↓Zb,↓vdn,vup,Zn,Zl,Zo,Zi,Zj,List.map_cons,List.map_nil,cond_true,cond_false,aop,Zv,Zq,Zp,ev,sput,Zt,Zy,Ya,unK,Zd,Zw,Nat.reduceBEq,Nat.reduceAdd,Int.reduceBEq,Int.reduceBNe,Int.reduceLT,Zu,Zz,tup,tyf]
   exact hQ _
open Sr in
/-- The table of who is near to whom, while it is filled. -/
def nrL (f:Nat→Nat→Bool) (n i j:Nat):List Int:=(List.range n).map fun k=>((mk (fun j=>k != j && !f k j) (if k<i then n else if k=i then j else 0):Nat):Int)
open Sr in
theorem mk_step (p:Nat→Bool) (j:Nat):mk p (j+1)=if p j=true then mk p j ||| 2 ^ j else mk p j:=by
 apply Nat.eq_of_testBit_eq
 intro i
 rw [mk_bit]
 split
 · rename_i h
   rw [Nat.testBit_or,mk_bit,Nat.testBit_two_pow]
   by_cases hij:i=j
   · subst hij; simp [h]
   · by_cases h2:i<j
     · rw [decide_eq_true h2,decide_eq_true (show i<j+1 by omega),decide_eq_false (fun h=>hij h.symm)]; simp
     · rw [decide_eq_false h2,decide_eq_false (show ¬ i<j+1 by omega),decide_eq_false (fun h=>hij h.symm)]; simp
 · rename_i h
   rw [mk_bit]
   by_cases hij:i=j
   · subst hij
     rw [decide_eq_false (Nat.lt_irrefl i),decide_eq_true (Nat.lt_succ_self i),Bool.false_and,Bool.true_and]
     simpa using h
   · by_cases h2:i<j
     · rw [decide_eq_true h2,decide_eq_true (show i<j+1 by omega)]
     · rw [decide_eq_false h2,decide_eq_false (show ¬ i<j+1 by omega)]
section
open Sr
variable {f:Nat→Nat→Bool} {n i j:Nat}
theorem nrL_len:(nrL f n i j).length=n:=by simp [nrL]
theorem nrL_zero:nrL f n 0 0=List.replicate n 0:=by
 apply List.ext_getElem (by simp [nrL])
 intro k h1 h2
 simp only [nrL,List.getElem_map,List.getElem_range,List.getElem_replicate,Nat.not_lt_zero,if_false]
 split <;> simp [mk_zero]
theorem nrL_row:nrL f n i n=nrL f n (i+1) 0:=by
 apply List.ext_getElem (by simp [nrL])
 intro k h1 h2
 simp only [nrL,List.getElem_map,List.getElem_range]
 by_cases h:k<i
 · rw [if_pos h,if_pos (show k<i+1 by omega)]
 · rw [if_neg h]
   by_cases h3:k=i
   · rw [if_pos h3,if_pos (show k<i+1 by omega)]
   · rw [if_neg h3,if_neg (show ¬ k<i+1 by omega)]
     split <;> rfl
theorem nrL_end:nrL f n n 0=nearOf f n:=by
 apply List.ext_getElem (by simp [nrL,nearOf])
 intro k h1 h2
 have hk:k<n:=by simpa [nrL] using h1
 simp only [nrL,nearOf,List.getElem_map,List.getElem_range,if_pos hk]
theorem nrL_get (hi:i<n):(nrL f n i j).getD i 0=((mk (fun j=>i != j && !f i j) j:Nat):Int):=by
 rw [nrL,List.getD,List.getElem?_map,List.getElem?_range hi]
 simp
theorem nrL_skip (hi:i<n) (h:(i != j && !f i j)=false):nrL f n i (j+1)=nrL f n i j:=by
 apply List.ext_getElem (by simp [nrL])
 intro k h1 h2
 simp only [nrL,List.getElem_map,List.getElem_range]
 by_cases h3:k=i
 · subst h3
   rw [if_neg (Nat.lt_irrefl k),if_pos rfl,if_neg (Nat.lt_irrefl k),if_pos rfl,mk_step,if_neg (by rw [h]; decide)]
 · simp only [if_neg h3]
theorem nrL_set (hi:i<n) (h:(i != j && !f i j)=true):nrL f n i (j+1)=(nrL f n i j).set i ((mk (fun j=>i != j && !f i j) j ||| 2 ^ j:Nat):Int):=by
 apply List.ext_getElem (by simp [nrL])
 intro k h1 h2
 rw [List.getElem_set]
 by_cases h3:i=k
 · subst h3
   rw [if_pos rfl]
   simp only [nrL,List.getElem_map,List.getElem_range]
   rw [if_neg (Nat.lt_irrefl i),if_pos trivial,mk_step,if_pos h]
 · rw [if_neg h3]
   simp only [nrL,List.getElem_map,List.getElem_range,if_neg (Ne.symm h3)]
end
end Go.Proofs.Tryd.Am.Tf
namespace Go.Proofs.Tryd.Am.Tf
open Go.Proofs.Tryd.Am
open Go.Am
set_option maxRecDepth 100000
set_option maxHeartbeats 4000000
theorem near_loops [Tabs prog] {H z:Yc} {v av fv gv:Value} {t:List (List Int)} {al:List (Int×Int)} {x:Int} {b14:Nat} (hv:TabS H v t) (ht:Tab t) (ha:PairSl H av al) (hal : ∀ p∈al,InT t p) (hn:al.length≤6) (hH:Ext (fun _=>False) H z) (hge:H.length≤b14) (hb:z[b14]? = some (.ints (List.replicate al.length 0) 3 false))
  {N:Env→Yc→Prop} {Q0:Exit→Env→Yc→Prop}
  (hN0 : ∀ e z',z'[b14]? = some (.ints (Ww t x al) 3 false)→Ext (fun _=>False) H z'→ELe e [(5,av),(10,fv),(12,gv),(14,.slice (some ⟨b14,0,none⟩) al.length al.length)]→N e z') :
  AWS prog 198 (.seq q3_21 (.block 4 (.loop l3_3))) (Zv N Q0) [(0,v),(1,Zx x),(5,av),(10,fv),(12,gv),(14,.slice (some ⟨b14,0,none⟩) al.length al.length)] z:=by
 have hnn : ∀ k:Nat,(0:Int)≤(k:Int):=Int.natCast_nonneg
 obtain ⟨f,hf⟩ : ∃ f:Nat→Nat→Bool,f=fun i j=>Wy t x (al.getD i (0,0)) (al.getD j (0,0)):=⟨_,rfl⟩
 have hnear:Ww t x al=nrL f al.length al.length 0:=by rw [nrL_end,hf]; rfl
 have hget : ∀ k,k<al.length→al.getD k (0,0)∈al:=fun k hk=>by rw [List.getD,List.getElem?_eq_getElem hk]; exact List.getElem_mem hk
 rw [← nrL_zero (f:=f)] at hb
 refine Yb fun N1 hN1=>?_
 simp (maxSteps:=2000000) only [s3,↓Za,↓Zk,↓Zr,↓Ze,↓Zm,↓Zs,↓Zf,↓Zh,↓Zg,↓Zc,↓Zb,↓vdn,vup,Zn,Zl,Zo,Zi,Zj,List.map_cons,List.map_nil,cond_true,cond_false,aop,Zv,Zq,Zp,ev,sput,Zt,Zy,Ya,unK,Zd,Zw,Nat.reduceBEq,Nat.reduceAdd,Int.reduceBEq,Int.reduceBNe,Int.reduceLT,Zu,Zz,tup,tyf,ha.len]
 refine hN1 [(0,v),(1,Zx x),(5,av),(10,fv),(12,gv),(14,.slice (some ⟨b14,0,none⟩) al.length al.length),(87,av),(88,Zx al.length),(89,.int .i64 0)] _ _ ?_ (by simp (maxSteps:=2000000) only [↓Za,↓Zk,↓Zr,↓Ze,↓Zm,↓Zs,↓Zf,↓Zh,↓Zg,↓Zc,↓Zb,↓vdn,vup,Zn,Zl,Zo,Zi,Zj,List.map_cons,List.map_nil,cond_true,cond_false,aop,Zv,Zq,Zp,ev,sput,Zt,Zy,Ya,unK,Zd,Zw,Nat.reduceBEq,Nat.reduceAdd,Int.reduceBEq,Int.reduceBNe,Int.reduceLT,Zu,Zz,tup,tyf])
 clear hN1
 try clear N1
 refine Yh ?_
 refine Yf fun Q hQ=>?_
 refine Xh (γ:=Nat×Yc) (fun s=>s.1≤al.length∧Ext (fun _=>False) H s.2∧s.2[b14]? = some (.ints (nrL f al.length s.1 0) 3 false))
  (fun s=>([(0,v),(1,Zx x),(5,av),(10,fv),(12,gv),(14,.slice (some ⟨b14,0,none⟩) al.length al.length),(87,av),(88,Zx al.length),(89,Zx (s.1:Nat))],s.2)) (fun s=>al.length-s.1) (0,z) ⟨Nat.zero_le _,hH,hb⟩ (by simp (maxSteps:=2000000) only [↓Za,↓Zk,↓Zr,↓Ze,↓Zm,↓Zs,↓Zf,↓Zh,↓Zg,↓Zc,↓Zb,↓vdn,vup,Zn,Zl,Zo,Zi,Zj,List.map_cons,List.map_nil,cond_true,cond_false,aop,Zv,Zq,Zp,ev,sput,Zt,Zy,Ya,unK,Zd,Zw,Nat.reduceBEq,Nat.reduceAdd,Int.reduceBEq,Int.reduceBNe,Int.reduceLT,Zu,Zz,tup,tyf,Int.natCast_zero]) rfl ?_
 rintro ⟨i,z⟩ ⟨hi,hE,hb⟩
 simp only at hi hE hb
 refine Yf fun Q2 hQ2=>?_
 simp only [l3_3]
 by_cases hin:(i:Int)<al.length
 · have hi' : i<al.length:=by omega
   have haz:=ha.ext hE
   refine Yb fun N2 hN2=>?_
   simp (maxSteps:=2000000) only [s3,↓Za,↓Zk,↓Zr,↓Ze,↓Zm,↓Zs,↓Zf,↓Zh,↓Zg,↓Zc,↓Zb,↓vdn,vup,Zn,Zl,Zo,Zi,Zj,List.map_cons,List.map_nil,cond_true,cond_false,aop,Zv,Zq,Zp,ev,sput,Zt,Zy,Ya,unK,Zd,Zw,Nat.reduceBEq,Nat.reduceAdd,Int.reduceBEq,Int.reduceBNe,Int.reduceLT,Zu,Zz,tup,tyf,hin]
   refine hN2 [(0,v),(1,Zx x),(5,av),(10,fv),(12,gv),(14,.slice (some ⟨b14,0,none⟩) al.length al.length),(87,av),(88,Zx al.length),(89,Zx (i:Nat)),(90,.bool true)] _ _ ?_ (by simp (maxSteps:=2000000) only [↓Za,↓Zk,↓Zr,↓Ze,↓Zm,↓Zs,↓Zf,↓Zh,↓Zg,↓Zc,↓Zb,↓vdn,vup,Zn,Zl,Zo,Zi,Zj,List.map_cons,List.map_nil,cond_true,cond_false,aop,Zv,Zq,Zp,ev,sput,Zt,Zy,Ya,unK,Zd,Zw,Nat.reduceBEq,Nat.reduceAdd,Int.reduceBEq,Int.reduceBNe,Int.reduceLT,Zu,Zz,tup,tyf])
   clear hN2
   try clear N2
   refine Yb fun N3 hN3=>?_
   simp (maxSteps:=2000000) only [s3,↓Za,↓Zk,↓Zr,↓Ze,↓Zm,↓Zs,↓Zf,↓Zh,↓Zg,↓Zc,↓Zb,↓vdn,vup,Zn,Zl,Zo,Zi,Zj,List.map_cons,List.map_nil,cond_true,cond_false,aop,Zv,Zq,Zp,ev,sput,Zt,Zy,Ya,unK,Zd,Zw,Nat.reduceBEq,Nat.reduceAdd,Int.reduceBEq,Int.reduceBNe,Int.reduceLT,Zu,Zz,tup,tyf]
   refine hN3 [(0,v),(1,Zx x),(5,av),(10,fv),(12,gv),(14,.slice (some ⟨b14,0,none⟩) al.length al.length),(87,av),(88,Zx al.length),(89,Zx (i:Nat))] _ _ ?_ (by simp (maxSteps:=2000000) only [↓Za,↓Zk,↓Zr,↓Ze,↓Zm,↓Zs,↓Zf,↓Zh,↓Zg,↓Zc,↓Zb,↓vdn,vup,Zn,Zl,Zo,Zi,Zj,List.map_cons,List.map_nil,cond_true,cond_false,aop,Zv,Zq,Zp,ev,sput,Zt,Zy,Ya,unK,Zd,Zw,Nat.reduceBEq,Nat.reduceAdd,Int.reduceBEq,Int.reduceBNe,Int.reduceLT,Zu,Zz,tup,tyf])
   clear hN3
   try clear N3
   refine Ye fun B hB=>?_
   refine Yh ?_
   refine Yb fun N4 hN4=>?_
   simp (maxSteps:=2000000) only [s3,↓Za,↓Zk,↓Zr,↓Ze,↓Zm,↓Zs,↓Zf,↓Zh,↓Zg,↓Zc,↓Zb,↓vdn,vup,Zn,Zl,Zo,Zi,Zj,List.map_cons,List.map_nil,cond_true,cond_false,aop,Zv,Zq,Zp,ev,sput,Zt,Zy,Ya,unK,Zd,Zw,Nat.reduceBEq,Nat.reduceAdd,Int.reduceBEq,Int.reduceBNe,Int.reduceLT,Zu,Zz,tup,tyf,haz.idx el_26 Vk hi',haz.load shp_28 hi',Xx,Xd,zero_28,storePr]
   have hE1:Ext (fun _=>False) z (z++[Blk.cells [Zx (al.getD i (0,0)).1,Zx (al.getD i (0,0)).2] 28 false]):=Ext.app _ _ _
   have c16:=Yj z (Blk.cells [Zx (al.getD i (0,0)).1,Zx (al.getD i (0,0)).2] 28 false)
   have hb1:=Xi hb [Blk.cells [Zx (al.getD i (0,0)).1,Zx (al.getD i (0,0)).2] 28 false]
   have hne16:z.length≠b14:=by have:=Yp hb; omega
   generalize z++[Blk.cells [Zx (al.getD i (0,0)).1,Zx (al.getD i (0,0)).2] 28 false]=z1 at hE1 c16 hb1 ⊢
   generalize z.length=b16 at c16 hne16 ⊢
   refine hN4 [(0,v),(1,Zx x),(5,av),(10,fv),(12,gv),(14,.slice (some ⟨b14,0,none⟩) al.length al.length),(15,Zx (i:Nat)),(16,pt b16),(87,av),(88,Zx al.length),(89,Zx (i:Nat))] _ _ ?_ (by simp (maxSteps:=2000000) only [↓Za,↓Zk,↓Zr,↓Ze,↓Zm,↓Zs,↓Zf,↓Zh,↓Zg,↓Zc,↓Zb,↓vdn,vup,Zn,Zl,Zo,Zi,Zj,List.map_cons,List.map_nil,cond_true,cond_false,aop,Zv,Zq,Zp,ev,sput,Zt,Zy,Ya,unK,Zd,Zw,Nat.reduceBEq,Nat.reduceAdd,Int.reduceBEq,Int.reduceBNe,Int.reduceLT,Zu,Zz,tup,tyf])
   clear hN4
   try clear N4
   have haz1:=haz.ext hE1
   refine Yb fun N5 hN5=>?_
   simp (maxSteps:=2000000) only [s3,↓Za,↓Zk,↓Zr,↓Ze,↓Zm,↓Zs,↓Zf,↓Zh,↓Zg,↓Zc,↓Zb,↓vdn,vup,Zn,Zl,Zo,Zi,Zj,List.map_cons,List.map_nil,cond_true,cond_false,aop,Zv,Zq,Zp,ev,sput,Zt,Zy,Ya,unK,Zd,Zw,Nat.reduceBEq,Nat.reduceAdd,Int.reduceBEq,Int.reduceBNe,Int.reduceLT,Zu,Zz,tup,tyf,haz1.len]
   refine hN5 [(0,v),(1,Zx x),(5,av),(10,fv),(12,gv),(14,.slice (some ⟨b14,0,none⟩) al.length al.length),(15,Zx (i:Nat)),(16,pt b16),(87,av),(88,Zx al.length),(89,Zx (i:Nat)),(94,av),(95,Zx al.length),(96,.int .i64 0)] _ _ ?_ (by simp (maxSteps:=2000000) only [↓Za,↓Zk,↓Zr,↓Ze,↓Zm,↓Zs,↓Zf,↓Zh,↓Zg,↓Zc,↓Zb,↓vdn,vup,Zn,Zl,Zo,Zi,Zj,List.map_cons,List.map_nil,cond_true,cond_false,aop,Zv,Zq,Zp,ev,sput,Zt,Zy,Ya,unK,Zd,Zw,Nat.reduceBEq,Nat.reduceAdd,Int.reduceBEq,Int.reduceBNe,Int.reduceLT,Zu,Zz,tup,tyf])
   clear hN5
   try clear N5
   refine Yh ?_
   refine Yf fun Q3 hQ3=>?_
   refine Xh (γ:=Nat×Yc) (fun s=>s.1≤al.length∧Ext (fun _=>False) H s.2∧s.2[b16]? = some (.cells [Zx (al.getD i (0,0)).1,Zx (al.getD i (0,0)).2] 28 false)∧s.2[b14]? = some (.ints (nrL f al.length i s.1) 3 false))
    (fun s=>([(0,v),(1,Zx x),(5,av),(10,fv),(12,gv),(14,.slice (some ⟨b14,0,none⟩) al.length al.length),(15,Zx (i:Nat)),(16,pt b16),(87,av),(88,Zx al.length),(89,Zx (i:Nat)),(94,av),(95,Zx al.length),(96,Zx (s.1:Nat))],s.2)) (fun s=>al.length-s.1) (0,z1) ⟨Nat.zero_le _,hE.trans hE1,c16,hb1⟩ (by simp (maxSteps:=2000000) only [↓Za,↓Zk,↓Zr,↓Ze,↓Zm,↓Zs,↓Zf,↓Zh,↓Zg,↓Zc,↓Zb,↓vdn,vup,Zn,Zl,Zo,Zi,Zj,List.map_cons,List.map_nil,cond_true,cond_false,aop,Zv,Zq,Zp,ev,sput,Zt,Zy,Ya,unK,Zd,Zw,Nat.reduceBEq,Nat.reduceAdd,Int.reduceBEq,Int.reduceBNe,Int.reduceLT,Zu,Zz,tup,tyf,Int.natCast_zero]) rfl ?_
   rintro ⟨j,y⟩ ⟨hj,hEy,c16,hb2⟩
   simp only at hj hEy c16 hb2
   refine Yf fun Q4 hQ4=>?_
   simp only [l3_2]
   by_cases hjn:(j:Int)<al.length
   · have hj' : j<al.length:=by omega
     have hay:=ha.ext hEy
     refine Yb fun N6 hN6=>?_
     simp (maxSteps:=2000000) only [s3,↓Za,↓Zk,↓Zr,↓Ze,↓Zm,↓Zs,↓Zf,↓Zh,↓Zg,↓Zc,↓Zb,↓vdn,vup,Zn,Zl,Zo,Zi,Zj,List.map_cons,List.map_nil,cond_true,cond_false,aop,Zv,Zq,Zp,ev,sput,Zt,Zy,Ya,unK,Zd,Zw,Nat.reduceBEq,Nat.reduceAdd,Int.reduceBEq,Int.reduceBNe,Int.reduceLT,Zu,Zz,tup,tyf,hjn]
     refine hN6 [(0,v),(1,Zx x),(5,av),(10,fv),(12,gv),(14,.slice (some ⟨b14,0,none⟩) al.length al.length),(15,Zx (i:Nat)),(16,pt b16),(87,av),(88,Zx al.length),(89,Zx (i:Nat)),(94,av),(95,Zx al.length),(96,Zx (j:Nat)),(97,.bool true)] _ _ ?_ (by simp (maxSteps:=2000000) only [↓Za,↓Zk,↓Zr,↓Ze,↓Zm,↓Zs,↓Zf,↓Zh,↓Zg,↓Zc,↓Zb,↓vdn,vup,Zn,Zl,Zo,Zi,Zj,List.map_cons,List.map_nil,cond_true,cond_false,aop,Zv,Zq,Zp,ev,sput,Zt,Zy,Ya,unK,Zd,Zw,Nat.reduceBEq,Nat.reduceAdd,Int.reduceBEq,Int.reduceBNe,Int.reduceLT,Zu,Zz,tup,tyf])
     clear hN6
     try clear N6
     refine Yb fun N7 hN7=>?_
     simp (maxSteps:=2000000) only [s3,↓Za,↓Zk,↓Zr,↓Ze,↓Zm,↓Zs,↓Zf,↓Zh,↓Zg,↓Zc,↓Zb,↓vdn,vup,Zn,Zl,Zo,Zi,Zj,List.map_cons,List.map_nil,cond_true,cond_false,aop,Zv,Zq,Zp,ev,sput,Zt,Zy,Ya,unK,Zd,Zw,Nat.reduceBEq,Nat.reduceAdd,Int.reduceBEq,Int.reduceBNe,Int.reduceLT,Zu,Zz,tup,tyf]
     refine hN7 [(0,v),(1,Zx x),(5,av),(10,fv),(12,gv),(14,.slice (some ⟨b14,0,none⟩) al.length al.length),(15,Zx (i:Nat)),(16,pt b16),(87,av),(88,Zx al.length),(89,Zx (i:Nat)),(94,av),(95,Zx al.length),(96,Zx (j:Nat))] _ _ ?_ (by simp (maxSteps:=2000000) only [↓Za,↓Zk,↓Zr,↓Ze,↓Zm,↓Zs,↓Zf,↓Zh,↓Zg,↓Zc,↓Zb,↓vdn,vup,Zn,Zl,Zo,Zi,Zj,List.map_cons,List.map_nil,cond_true,cond_false,aop,Zv,Zq,Zp,ev,sput,Zt,Zy,Ya,unK,Zd,Zw,Nat.reduceBEq,Nat.reduceAdd,Int.reduceBEq,Int.reduceBNe,Int.reduceLT,Zu,Zz,tup,tyf])
     clear hN7
     try clear N7
     refine Ye fun C hC=>?_
     refine Yh ?_
     refine Yb fun N8 hN8=>?_
     simp (maxSteps:=2000000) only [s3,↓Za,↓Zk,↓Zr,↓Ze,↓Zm,↓Zs,↓Zf,↓Zh,↓Zg,↓Zc,↓Zb,↓vdn,vup,Zn,Zl,Zo,Zi,Zj,List.map_cons,List.map_nil,cond_true,cond_false,aop,Zv,Zq,Zp,ev,sput,Zt,Zy,Ya,unK,Zd,Zw,Nat.reduceBEq,Nat.reduceAdd,Int.reduceBEq,Int.reduceBNe,Int.reduceLT,Zu,Zz,tup,tyf,hay.idx el_26 Vk hj',hay.load shp_28 hj',Xx,Xd,zero_28,storePr]
     have hE2:Ext (fun _=>False) y (y++[Blk.cells [Zx (al.getD j (0,0)).1,Zx (al.getD j (0,0)).2] 28 false]):=Ext.app _ _ _
     have c18:=Yj y (Blk.cells [Zx (al.getD j (0,0)).1,Zx (al.getD j (0,0)).2] 28 false)
     have hb3:=Xi hb2 [Blk.cells [Zx (al.getD j (0,0)).1,Zx (al.getD j (0,0)).2] 28 false]
     have d16:=Xi c16 [Blk.cells [Zx (al.getD j (0,0)).1,Zx (al.getD j (0,0)).2] 28 false]
     generalize y++[Blk.cells [Zx (al.getD j (0,0)).1,Zx (al.getD j (0,0)).2] 28 false]=y1 at hE2 c18 hb3 d16 ⊢
     generalize y.length=b18 at c18 ⊢
     refine hN8 [(0,v),(1,Zx x),(5,av),(10,fv),(12,gv),(14,.slice (some ⟨b14,0,none⟩) al.length al.length),(15,Zx (i:Nat)),(16,pt b16),(17,Zx (j:Nat)),(18,pt b18),(87,av),(88,Zx al.length),(89,Zx (i:Nat)),(94,av),(95,Zx al.length),(96,Zx (j:Nat))] _ _ ?_ (by simp (maxSteps:=2000000) only [↓Za,↓Zk,↓Zr,↓Ze,↓Zm,↓Zs,↓Zf,↓Zh,↓Zg,↓Zc,↓Zb,↓vdn,vup,Zn,Zl,Zo,Zi,Zj,List.map_cons,List.map_nil,cond_true,cond_false,aop,Zv,Zq,Zp,ev,sput,Zt,Zy,Ya,unK,Zd,Zw,Nat.reduceBEq,Nat.reduceAdd,Int.reduceBEq,Int.reduceBNe,Int.reduceLT,Zu,Zz,tup,tyf])
     clear hN8
     try clear N8
     have hE3:=hEy.trans hE2
     have hvy:=hv.ext hE3
     have hfij:f i j=Wy t x (al.getD i (0,0)) (al.getD j (0,0)):=by rw [hf]
     obtain ⟨pa,pb,hp,hpa,hpb⟩:=hal _ (hget i hi')
     obtain ⟨qa,qb,hq,hqa,hqb⟩:=hal _ (hget j hj')
     have e16:=d16
     have e18:=c18
     rw [hp] at e16
     rw [hq] at e18
     simp only at e16 e18
     rw [hp,hq] at hfij
     obtain ⟨wi,hwi,ldi⟩:=hvy.load (P:=prog) Wb hpa
     obtain ⟨wk,hwk,ldk⟩:=hvy.load (P:=prog) Wb hqa
     have hl' : qb<(t.getD pa []).length:=by rw [(ht.row _ (ht.get hpa)).1]; exact hqb
     have hj2:pb<(t.getD qa []).length:=by rw [(ht.row _ (ht.get hqa)).1]; exact hpb
     have e1:cel t (pa:Int) (qb:Int)=(t.getD pa []).getD qb 0:=by simp [cel]
     have e2:cel t (qa:Int) (pb:Int)=(t.getD qa []).getD pb 0:=by simp [cel]
     rw [Wy,e1,e2] at hfij
     have hij:((i:Int) != (j:Int))=(i != j):=by
      rw [Bool.eq_iff_iff,bne_iff_ne,bne_iff_ne]; omega
     have hmk:=Sr.mk_lt (fun j=>i != j && !f i j) j
     have h2j:2 ^ j≤2 ^ 6:=Nat.pow_le_pow_right (by decide) (by omega)
     have hor:We .or .i64 ((Sr.mk (fun j=>i != j && !f i j) j:Nat):Int) (2 ^ j)=((Sr.mk (fun j=>i != j && !f i j) j ||| 2 ^ j:Nat):Int):=by
      rw [← Or.pow_cast]; exact bitsV_or (by omega) (by omega)
     have hnv:=intSl_blk hb3
     rw [nrL_len] at hnv
     have hi3:i<(nrL f al.length i j).length:=by rw [nrL_len]; exact hi'
     have hidx : ∀ K:Value→Prop,Yv prog 27 (.slice (some ⟨b14,0,none⟩) al.length al.length) (.int .i64 i) K=K (.pointer (some ⟨b14,i,none⟩)):=fun K=>by
      rw [hnv.idx Wp Xk hi3,elemP_new]
     have hld : ∀ K:Value→Prop,Xn prog y1 3 (.pointer (some ⟨b14,i,none⟩)) K=K (Zx ((Sr.mk (fun j=>i != j && !f i j) j:Nat):Int)):=fun K=>by
      have:=hnv.load (P:=prog) Yw hi3 K
      rw [elemP_new,nrL_get hi'] at this
      exact this
     have hlz:=hE3.1
     have fin : ∀ (g:Bool),g=(i != j && !f i j)→AWS prog 198 (.cond (.tmp 129) q3_28 .skip) (Zq 7 (Zv C Q4)) [(0,v),(1,Zx x),(5,av),(10,fv),(12,gv),(14,.slice (some ⟨b14,0,none⟩) al.length al.length),(15,Zx (i:Nat)),(16,pt b16),(17,Zx (j:Nat)),(18,pt b18),(87,av),(88,Zx al.length),(89,Zx (i:Nat)),(94,av),(95,Zx al.length),(96,Zx (j:Nat)),(129,.bool g)] y1:=by
      intro g hg
      cases g with
      | false =>
        refine Yq rfl ?_
        refine Yd ?_
        simp (maxSteps:=2000000) only [s3,↓Za,↓Zk,↓Zr,↓Ze,↓Zm,↓Zs,↓Zf,↓Zh,↓Zg,↓Zc,↓Zb,↓vdn,vup,Zn,Zl,Zo,Zi,Zj,List.map_cons,List.map_nil,cond_true,cond_false,aop,Zv,Zq,Zp,ev,sput,Zt,Zy,Ya,unK,Zd,Zw,Nat.reduceBEq,Nat.reduceAdd,Int.reduceBEq,Int.reduceBNe,Int.reduceLT,Zu,Zz,tup,tyf]
        refine hC [(0,v),(1,Zx x),(5,av),(10,fv),(12,gv),(14,.slice (some ⟨b14,0,none⟩) al.length al.length),(15,Zx (i:Nat)),(16,pt b16),(87,av),(88,Zx al.length),(89,Zx (i:Nat)),(94,av),(95,Zx al.length),(96,Zx (j:Nat))] _ _ ?_ (by simp (maxSteps:=2000000) only [↓Za,↓Zk,↓Zr,↓Ze,↓Zm,↓Zs,↓Zf,↓Zh,↓Zg,↓Zc,↓Zb,↓vdn,vup,Zn,Zl,Zo,Zi,Zj,List.map_cons,List.map_nil,cond_true,cond_false,aop,Zv,Zq,Zp,ev,sput,Zt,Zy,Ya,unK,Zd,Zw,Nat.reduceBEq,Nat.reduceAdd,Int.reduceBEq,Int.reduceBNe,Int.reduceLT,Zu,Zz,tup,tyf])
        clear hC
        try clear C
        refine Yd ?_
        simp (maxSteps:=2000000) only [s3,↓Za,↓Zk,↓Zr,↓Ze,↓Zm,↓Zs,↓Zf,↓Zh,↓Zg,↓Zc,↓Zb,↓vdn,vup,Zn,Zl,Zo,Zi,Zj,List.map_cons,List.map_nil,cond_true,cond_false,aop,Zv,Zq,Zp,ev,sput,Zt,Zy,Ya,unK,Zd,Zw,Nat.reduceBEq,Nat.reduceAdd,Int.reduceBEq,Int.reduceBNe,Int.reduceLT,Zu,Zz,tup,tyf,Vd (show j<9223372036854775807 by omega)]
        exact hQ4 _ _ _ ⟨(j+1,y1),⟨hj',hE3,d16,by rw [nrL_skip hi' hg.symm]; exact hb3⟩,by simp only; omega,by simp (maxSteps:=2000000) only [↓Za,↓Zk,↓Zr,↓Ze,↓Zm,↓Zs,↓Zf,↓Zh,↓Zg,↓Zc,↓Zb,↓vdn,vup,Zn,Zl,Zo,Zi,Zj,List.map_cons,List.map_nil,cond_true,cond_false,aop,Zv,Zq,Zp,ev,sput,Zt,Zy,Ya,unK,Zd,Zw,Nat.reduceBEq,Nat.reduceAdd,Int.reduceBEq,Int.reduceBNe,Int.reduceLT,Zu,Zz,tup,tyf],rfl⟩
      | true =>
        refine Xe rfl ?_
        refine Yd ?_
        simp only [q3_28]
        refine Xv [] (by kernel_rfl) (by kernel_rfl) (by kernel_rfl) (by kernel_rfl) ?_
        simp (maxSteps:=2000000) only [s3,↓Za,↓Zk,↓Zr,↓Ze,↓Zm,↓Zs,↓Zf,↓Zh,↓Zg,↓Zc,↓Zb,↓vdn,vup,Zn,Zl,Zo,Zi,Zj,List.map_cons,List.map_nil,cond_true,cond_false,aop,Zv,Zq,Zp,ev,sput,Zt,Zy,Ya,unK,Zd,Zw,Nat.reduceBEq,Nat.reduceAdd,Int.reduceBEq,Int.reduceBNe,Int.reduceLT,Zu,Zz,tup,tyf,hidx,hld,hnn,Or.shl1 (show j≤62 by omega),hor,storeBI hb3 Yw hi3]
        refine hC [(0,v),(1,Zx x),(5,av),(10,fv),(12,gv),(14,.slice (some ⟨b14,0,none⟩) al.length al.length),(15,Zx (i:Nat)),(16,pt b16),(87,av),(88,Zx al.length),(89,Zx (i:Nat)),(94,av),(95,Zx al.length),(96,Zx (j:Nat))] _ _ ?_ (by simp (maxSteps:=2000000) only [↓Za,↓Zk,↓Zr,↓Ze,↓Zm,↓Zs,↓Zf,↓Zh,↓Zg,↓Zc,↓Zb,↓vdn,vup,Zn,Zl,Zo,Zi,Zj,List.map_cons,List.map_nil,cond_true,cond_false,aop,Zv,Zq,Zp,ev,sput,Zt,Zy,Ya,unK,Zd,Zw,Nat.reduceBEq,Nat.reduceAdd,Int.reduceBEq,Int.reduceBNe,Int.reduceLT,Zu,Zz,tup,tyf])
        clear hC
        try clear C
        have hge2:H.length≤b14:=hge
        have hE4:Ext (fun _=>False) H (y1.set b14 (.ints ((nrL f al.length i j).set i ((Sr.mk (fun j=>i != j && !f i j) j ||| 2 ^ j:Nat):Int)) 3 false)):=⟨by rw [List.length_set]; exact hE3.1,fun q hq _=>by rw [List.getElem?_set_ne (by omega)]; exact hE3.2 q hq id⟩
        have f16:(y1.set b14 (.ints ((nrL f al.length i j).set i ((Sr.mk (fun j=>i != j && !f i j) j ||| 2 ^ j:Nat):Int)) 3 false))[b16]? = some (.cells [Zx (al.getD i (0,0)).1,Zx (al.getD i (0,0)).2] 28 false):=by rw [List.getElem?_set_ne (Ne.symm hne16)]; exact d16
        have f14:(y1.set b14 (.ints ((nrL f al.length i j).set i ((Sr.mk (fun j=>i != j && !f i j) j ||| 2 ^ j:Nat):Int)) 3 false))[b14]? = some (.ints (nrL f al.length i (j+1)) 3 false):=by rw [nrL_set hi' hg.symm]; exact Xy (Yp hb3) _
        refine Yd ?_
        simp (maxSteps:=2000000) only [s3,↓Za,↓Zk,↓Zr,↓Ze,↓Zm,↓Zs,↓Zf,↓Zh,↓Zg,↓Zc,↓Zb,↓vdn,vup,Zn,Zl,Zo,Zi,Zj,List.map_cons,List.map_nil,cond_true,cond_false,aop,Zv,Zq,Zp,ev,sput,Zt,Zy,Ya,unK,Zd,Zw,Nat.reduceBEq,Nat.reduceAdd,Int.reduceBEq,Int.reduceBNe,Int.reduceLT,Zu,Zz,tup,tyf,Vd (show j<9223372036854775807 by omega)]
        exact hQ4 _ _ _ ⟨(j+1,_),⟨hj',hE4,f16,f14⟩,by simp only; omega,by simp (maxSteps:=2000000) only [↓Za,↓Zk,↓Zr,↓Ze,↓Zm,↓Zs,↓Zf,↓Zh,↓Zg,↓Zc,↓Zb,↓vdn,vup,Zn,Zl,Zo,Zi,Zj,List.map_cons,List.map_nil,cond_true,cond_false,aop,Zv,Zq,Zp,ev,sput,Zt,Zy,Ya,unK,Zd,Zw,Nat.reduceBEq,Nat.reduceAdd,Int.reduceBEq,Int.reduceBNe,Int.reduceLT,Zu,Zz,tup,tyf],rfl⟩
     refine Yb fun N9 hN9=>?_
     simp only [q3_27]
     refine Xv [] (by kernel_rfl) (by kernel_rfl) (by kernel_rfl) (by kernel_rfl) ?_
     cases hne:(i != j) with
     | false =>
       simp (maxSteps:=2000000) only [s3,↓Za,↓Zk,↓Zr,↓Ze,↓Zm,↓Zs,↓Zf,↓Zh,↓Zg,↓Zc,↓Zb,↓vdn,vup,Zn,Zl,Zo,Zi,Zj,List.map_cons,List.map_nil,cond_true,cond_false,aop,Zv,Zq,Zp,ev,sput,Zt,Zy,Ya,unK,Zd,Zw,Nat.reduceBEq,Nat.reduceAdd,Int.reduceBEq,Int.reduceBNe,Int.reduceLT,Zu,Zz,tup,tyf,hij,hne]
       refine hN9 [(0,v),(1,Zx x),(5,av),(10,fv),(12,gv),(14,.slice (some ⟨b14,0,none⟩) al.length al.length),(15,Zx (i:Nat)),(16,pt b16),(17,Zx (j:Nat)),(18,pt b18),(87,av),(88,Zx al.length),(89,Zx (i:Nat)),(94,av),(95,Zx al.length),(96,Zx (j:Nat)),(129,.bool false)] _ _ ?_ (by simp (maxSteps:=2000000) only [↓Za,↓Zk,↓Zr,↓Ze,↓Zm,↓Zs,↓Zf,↓Zh,↓Zg,↓Zc,↓Zb,↓vdn,vup,Zn,Zl,Zo,Zi,Zj,List.map_cons,List.map_nil,cond_true,cond_false,aop,Zv,Zq,Zp,ev,sput,Zt,Zy,Ya,unK,Zd,Zw,Nat.reduceBEq,Nat.reduceAdd,Int.reduceBEq,Int.reduceBNe,Int.reduceLT,Zu,Zz,tup,tyf])
       clear hN9
       try clear N9
       exact fin false (by rw [hne]; rfl)
     | true =>
       cases hx:((t.getD pa []).getD qb 0==x) with
       | false =>
         have hff:f i j=true:=by rw [hfij,bne,hx]; rfl
         simp (maxSteps:=2000000) only [s3,↓Za,↓Zk,↓Zr,↓Ze,↓Zm,↓Zs,↓Zf,↓Zh,↓Zg,↓Zc,↓Zb,↓vdn,vup,Zn,Zl,Zo,Zi,Zj,List.map_cons,List.map_nil,cond_true,cond_false,aop,Zv,Zq,Zp,ev,sput,Zt,Zy,Ya,unK,Zd,Zw,Nat.reduceBEq,Nat.reduceAdd,Int.reduceBEq,Int.reduceBNe,Int.reduceLT,Zu,Zz,tup,tyf,hij,hne,hx,pidx0,pidx1,pl0 e16,pl1 e16,pl0 e18,pl1 e18,hvy.idx el_22 Vb hpa,ldi,hwi.idx Wp Xk hl',hwi.load Yw hl']
         refine hN9 [(0,v),(1,Zx x),(5,av),(10,fv),(12,gv),(14,.slice (some ⟨b14,0,none⟩) al.length al.length),(15,Zx (i:Nat)),(16,pt b16),(17,Zx (j:Nat)),(18,pt b18),(87,av),(88,Zx al.length),(89,Zx (i:Nat)),(94,av),(95,Zx al.length),(96,Zx (j:Nat)),(129,.bool false)] _ _ ?_ (by simp (maxSteps:=2000000) only [↓Za,↓Zk,↓Zr,↓Ze,↓Zm,↓Zs,↓Zf,↓Zh,↓Zg,↓Zc,↓Zb,↓vdn,vup,Zn,Zl,Zo,Zi,Zj,List.map_cons,List.map_nil,cond_true,cond_false,aop,Zv,Zq,Zp,ev,sput,Zt,Zy,Ya,unK,Zd,Zw,Nat.reduceBEq,Nat.reduceAdd,Int.reduceBEq,Int.reduceBNe,Int.reduceLT,Zu,Zz,tup,tyf])
         clear hN9
         try clear N9
         exact fin false (by rw [hff,hne]; rfl)
       | true =>
         have hff:f i j=((t.getD qa []).getD pb 0 != x):=by rw [hfij,bne,hx]; rfl
         simp (maxSteps:=2000000) only [s3,↓Za,↓Zk,↓Zr,↓Ze,↓Zm,↓Zs,↓Zf,↓Zh,↓Zg,↓Zc,↓Zb,↓vdn,vup,Zn,Zl,Zo,Zi,Zj,List.map_cons,List.map_nil,cond_true,cond_false,aop,Zv,Zq,Zp,ev,sput,Zt,Zy,Ya,unK,Zd,Zw,Nat.reduceBEq,Nat.reduceAdd,Int.reduceBEq,Int.reduceBNe,Int.reduceLT,Zu,Zz,tup,tyf,hij,hne,hx,pidx0,pidx1,pl0 e16,pl1 e16,pl0 e18,pl1 e18,hvy.idx el_22 Vb hpa,ldi,hwi.idx Wp Xk hl',hwi.load Yw hl',hvy.idx el_22 Vb hqa,ldk,hwk.idx Wp Xk hj2,hwk.load Yw hj2]
         refine hN9 [(0,v),(1,Zx x),(5,av),(10,fv),(12,gv),(14,.slice (some ⟨b14,0,none⟩) al.length al.length),(15,Zx (i:Nat)),(16,pt b16),(17,Zx (j:Nat)),(18,pt b18),(87,av),(88,Zx al.length),(89,Zx (i:Nat)),(94,av),(95,Zx al.length),(96,Zx (j:Nat)),(129,.bool ((t.getD qa []).getD pb 0==x))] _ _ ?_ (by simp (maxSteps:=2000000) only [↓Za,↓Zk,↓Zr,↓Ze,↓Zm,↓Zs,↓Zf,↓Zh,↓Zg,↓Zc,↓Zb,↓vdn,vup,Zn,Zl,Zo,Zi,Zj,List.map_cons,List.map_nil,cond_true,cond_false,aop,Zv,Zq,Zp,ev,sput,Zt,Zy,Ya,unK,Zd,Zw,Nat.reduceBEq,Nat.reduceAdd,Int.reduceBEq,Int.reduceBNe,Int.reduceLT,Zu,Zz,tup,tyf])
         clear hN9
         try clear N9
         exact fin _ (by rw [hff,hne,bne,Bool.not_not]; rfl)
   · obtain rfl:j=al.length:=by omega
     refine Yb fun N10 hN10=>?_
     simp (maxSteps:=2000000) only [s3,↓Za,↓Zk,↓Zr,↓Ze,↓Zm,↓Zs,↓Zf,↓Zh,↓Zg,↓Zc,↓Zb,↓vdn,vup,Zn,Zl,Zo,Zi,Zj,List.map_cons,List.map_nil,cond_true,cond_false,aop,Zv,Zq,Zp,ev,sput,Zt,Zy,Ya,unK,Zd,Zw,Nat.reduceBEq,Nat.reduceAdd,Int.reduceBEq,Int.reduceBNe,Int.reduceLT,Zu,Zz,tup,tyf,hjn]
     refine hN10 [(0,v),(1,Zx x),(5,av),(10,fv),(12,gv),(14,.slice (some ⟨b14,0,none⟩) al.length al.length),(15,Zx (i:Nat)),(16,pt b16),(87,av),(88,Zx al.length),(89,Zx (i:Nat)),(94,av),(95,Zx al.length),(96,Zx al.length),(97,.bool false)] _ _ ?_ (by simp (maxSteps:=2000000) only [↓Za,↓Zk,↓Zr,↓Ze,↓Zm,↓Zs,↓Zf,↓Zh,↓Zg,↓Zc,↓Zb,↓vdn,vup,Zn,Zl,Zo,Zi,Zj,List.map_cons,List.map_nil,cond_true,cond_false,aop,Zv,Zq,Zp,ev,sput,Zt,Zy,Ya,unK,Zd,Zw,Nat.reduceBEq,Nat.reduceAdd,Int.reduceBEq,Int.reduceBNe,Int.reduceLT,Zu,Zz,tup,tyf])
     clear hN10
     try clear N10
     refine Yb fun N11 hN11=>?_
     simp (maxSteps:=2000000) only [s3,↓Za,↓Zk,↓Zr,↓Ze,↓Zm,↓Zs,↓Zf,↓Zh,↓Zg,↓Zc,↓Zb,↓vdn,vup,Zn,Zl,Zo,Zi,Zj,List.map_cons,List.map_nil,cond_true,cond_false,aop,Zv,Zq,Zp,ev,sput,Zt,Zy,Ya,unK,Zd,Zw,Nat.reduceBEq,Nat.reduceAdd,Int.reduceBEq,Int.reduceBNe,Int.reduceLT,Zu,Zz,tup,tyf]
     refine hQ4 _ _ _ (hQ3 _ _ _ ?_)
     simp (maxSteps:=2000000) only [s3,↓Za,↓Zk,↓Zr,↓Ze,↓Zm,↓Zs,↓Zf,↓Zh,↓Zg,↓Zc,↓Zb,↓vdn,vup,Zn,Zl,Zo,Zi,Zj,List.map_cons,List.map_nil,cond_true,cond_false,aop,Zv,Zq,Zp,ev,sput,Zt,Zy,Ya,unK,Zd,Zw,Nat.reduceBEq,Nat.reduceAdd,Int.reduceBEq,Int.reduceBNe,Int.reduceLT,Zu,Zz,tup,tyf,if_true]
     refine hB [(0,v),(1,Zx x),(5,av),(10,fv),(12,gv),(14,.slice (some ⟨b14,0,none⟩) al.length al.length),(87,av),(88,Zx al.length),(89,Zx (i:Nat)),(97,.bool false)] _ _ ?_ (by simp (maxSteps:=2000000) only [↓Za,↓Zk,↓Zr,↓Ze,↓Zm,↓Zs,↓Zf,↓Zh,↓Zg,↓Zc,↓Zb,↓vdn,vup,Zn,Zl,Zo,Zi,Zj,List.map_cons,List.map_nil,cond_true,cond_false,aop,Zv,Zq,Zp,ev,sput,Zt,Zy,Ya,unK,Zd,Zw,Nat.reduceBEq,Nat.reduceAdd,Int.reduceBEq,Int.reduceBNe,Int.reduceLT,Zu,Zz,tup,tyf])
     clear hB
     try clear B
     refine Yd ?_
     simp (maxSteps:=2000000) only [s3,↓Za,↓Zk,↓Zr,↓Ze,↓Zm,↓Zs,↓Zf,↓Zh,↓Zg,↓Zc,↓Zb,↓vdn,vup,Zn,Zl,Zo,Zi,Zj,List.map_cons,List.map_nil,cond_true,cond_false,aop,Zv,Zq,Zp,ev,sput,Zt,Zy,Ya,unK,Zd,Zw,Nat.reduceBEq,Nat.reduceAdd,Int.reduceBEq,Int.reduceBNe,Int.reduceLT,Zu,Zz,tup,tyf,Vd (show i<9223372036854775807 by omega)]
     rw [nrL_row] at hb2
     exact hQ2 _ _ _ ⟨(i+1,y),⟨hi',hEy,hb2⟩,by simp only; omega,by simp (maxSteps:=2000000) only [↓Za,↓Zk,↓Zr,↓Ze,↓Zm,↓Zs,↓Zf,↓Zh,↓Zg,↓Zc,↓Zb,↓vdn,vup,Zn,Zl,Zo,Zi,Zj,List.map_cons,List.map_nil,cond_true,cond_false,aop,Zv,Zq,Zp,ev,sput,Zt,Zy,Ya,unK,Zd,Zw,Nat.reduceBEq,Nat.reduceAdd,Int.reduceBEq,Int.reduceBNe,Int.reduceLT,Zu,Zz,tup,tyf],rfl⟩
 · obtain rfl:i=al.length:=by omega
   refine Yb fun N12 hN12=>?_
   simp (maxSteps:=2000000) only [s3,↓Za,↓Zk,↓Zr,↓Ze,↓Zm,↓Zs,↓Zf,↓Zh,↓Zg,↓Zc,↓Zb,↓vdn,vup,Zn,Zl,Zo,Zi,Zj,List.map_cons,List.map_nil,cond_true,cond_false,aop,Zv,Zq,Zp,ev,sput,Zt,Zy,Ya,unK,Zd,Zw,Nat.reduceBEq,Nat.reduceAdd,Int.reduceBEq,Int.reduceBNe,Int.reduceLT,Zu,Zz,tup,tyf,hin]
   refine hN12 [(0,v),(1,Zx x),(5,av),(10,fv),(12,gv),(14,.slice (some ⟨b14,0,none⟩) al.length al.length),(87,av),(88,Zx al.length),(89,Zx al.length),(90,.bool false)] _ _ ?_ (by simp (maxSteps:=2000000) only [↓Za,↓Zk,↓Zr,↓Ze,↓Zm,↓Zs,↓Zf,↓Zh,↓Zg,↓Zc,↓Zb,↓vdn,vup,Zn,Zl,Zo,Zi,Zj,List.map_cons,List.map_nil,cond_true,cond_false,aop,Zv,Zq,Zp,ev,sput,Zt,Zy,Ya,unK,Zd,Zw,Nat.reduceBEq,Nat.reduceAdd,Int.reduceBEq,Int.reduceBNe,Int.reduceLT,Zu,Zz,tup,tyf])
   clear hN12
   try clear N12
   refine Yb fun N13 hN13=>?_
   simp (maxSteps:=2000000) only [s3,↓Za,↓Zk,↓Zr,↓Ze,↓Zm,↓Zs,↓Zf,↓Zh,↓Zg,↓Zc,↓Zb,↓vdn,vup,Zn,Zl,Zo,Zi,Zj,List.map_cons,List.map_nil,cond_true,cond_false,aop,Zv,Zq,Zp,ev,sput,Zt,Zy,Ya,unK,Zd,Zw,Nat.reduceBEq,Nat.reduceAdd,Int.reduceBEq,Int.reduceBNe,Int.reduceLT,Zu,Zz,tup,tyf]
   refine hQ2 _ _ _ (hQ _ _ _ ?_)
   simp (maxSteps:=2000000) only [s3,↓Za,↓Zk,↓Zr,↓Ze,↓Zm,↓Zs,↓Zf,↓Zh,↓Zg,↓Zc,↓Zb,↓vdn,vup,Zn,Zl,Zo,Zi,Zj,List.map_cons,List.map_nil,cond_true,cond_false,aop,Zv,Zq,Zp,ev,sput,Zt,Zy,Ya,unK,Zd,Zw,Nat.reduceBEq,Nat.reduceAdd,Int.reduceBEq,Int.reduceBNe,Int.reduceLT,Zu,Zz,tup,tyf,if_true]
   rw [← hnear] at hb
   exact hN0 _ _ hb hE (by simp (maxSteps:=2000000) only [↓Za,↓Zk,↓Zr,↓Ze,↓Zm,↓Zs,↓Zf,↓Zh,↓Zg,↓Zc,↓Zb,↓vdn,vup,Zn,Zl,Zo,Zi,Zj,List.map_cons,List.map_nil,cond_true,cond_false,aop,Zv,Zq,Zp,ev,sput,Zt,Zy,Ya,unK,Zd,Zw,Nat.reduceBEq,Nat.reduceAdd,Int.reduceBEq,Int.reduceBNe,Int.reduceLT,Zu,Zz,tup,tyf])
end Go.Proofs.Tryd.Am.Tf
