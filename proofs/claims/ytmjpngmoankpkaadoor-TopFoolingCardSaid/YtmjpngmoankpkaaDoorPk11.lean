/-
  top: a smallest cover, as the program finds it: Cover.
  The greatest independent sets of a graph, plain.
  Codes as sets of bits, plain.
  Words that are confused, plain.
  top: the first greatest fooling set is the first code, plain.
  top: the signals of the entries, plain.
  Printed by gen.py: the code of some functions, without what no step looks at; held against the program's own by the kernel.
  sure: TrailingZeros64 of math/bits, on the model's own worlds, and as a contract.
  How many bits a number has, as the library counts them: plain.
  sure: the small functions.
-/
import Derived.Test.YtmjpngmoankpkaaDoorPk10
import Derived.Test.YtmjpngmoankpkaaDoorPk4
import Derived.Test.YtmjpngmoankpkaaDoorPk9
import Derived.Test.YtmjpngmoankpkaaDoorPk3
import Derived.Test.YtmjpngmoankpkaaDoorProg
import Derived.KernelRfl
import Derived.Shelf.Abstract
import Derived.Shelf.Spec.TrailingZeros
import Derived.TacticsInMore
import Derived.LoopNIn
import Derived.LoopIn
import Derived.Test.YtmjpngmoankpkaaDoorPk6
import Derived.Test.YtmjpngmoankpkaaDoorPk7
import Derived.Test.YtmjpngmoankpkaaDoorPk8
set_option linter.all false
namespace Go.Proofs.Tryd.Am.Tf
open Go.Proofs.Tryd.Am
open Go.Am
set_option maxRecDepth 100000
set_option maxHeartbeats 4000000
theorem less_zero {a c:Nat} (h:Wh a c=0):a≤c∧∀ i,a.testBit i=true→c.testBit i=true:=by
 have hb : ∀ i,a.testBit i=true→c.testBit i=true:=fun i hi=>by
  have h1:=Yo a c i
  rw [h,Nat.zero_testBit,hi] at h1
  simpa using h1.symm
 refine ⟨?_,hb⟩
 have e:a &&& c=a:=Nat.eq_of_testBit_eq fun i=>by
  rw [Nat.testBit_and]
  cases hi:a.testBit i with
  | false=>rfl
  | true=>rw [hb i hi]; rfl
 rw [← e]; exact Nat.and_le_right
theorem rects_in {R C a b:Nat} (h1:1≤a) (h2:a≤R) (h3:1≤b) (h4:b≤C):(a,b)∈Vg R C:=by
 simp only [Vg,List.mem_flatMap,List.mem_range,List.mem_map]
 exact ⟨a-1,by omega,b-1,by omega,by simp; omega⟩
theorem pow_in {i n:Nat} (h:i<n):1≤2 ^ i∧2 ^ i≤2 ^ n-1:=by
 have h1:=Nat.two_pow_pos i
 have h2:=Nat.pow_lt_pow_right (a:=2) (by decide) h
 omega
theorem great_ex {t:List (List Int)} (ht:Tab t) {x:Int} {p:Int×Int} : ∀ (m:Nat) (q:Nat×Nat),q∈allR t x→30-(q.1+q.2)≤m→hasQ q p=true→∃ g∈grR t x,hasQ g p=true
 | m,q,hq,hm,hh=>by
   by_cases ha:((allR t x).any fun s=>belB q s)=true
   · obtain ⟨s,hs,hb⟩:=List.any_eq_true.1 ha
     simp only [belB,inB,Bool.and_eq_true,beq_iff_eq,Bool.not_eq_true',decide_eq_false_iff_not] at hb
     obtain ⟨h1,h2,h3⟩:=hb
     obtain ⟨g1,g2⟩:=less_zero h2
     obtain ⟨g3,g4⟩:=less_zero h3
     have hsm:=allR_mem ht hs
     have hss:hasQ s p=true:=by
      simp only [hasQ,hasB,Bool.and_eq_true] at hh ⊢
      exact ⟨g2 _ hh.1,g4 _ hh.2⟩
     match m with
     | 0=>omega
     | m+1=>exact great_ex ht m s hs (by omega) hss
   · exact ⟨q,List.mem_filter.2 ⟨hq,by simpa using ha⟩,hh⟩
theorem grR_cvd {t:List (List Int)} (ht:Tab t) {x:Int} (hx:x=0∨x=1):Cvd (grR t x) (entL t x):=by
 intro p hp
 obtain ⟨⟨i,j,rfl,hi,hj⟩,hc⟩:=entL_in ht hp
 have hcel:celN t i j=x:=by simpa [cel,celN] using hc
 obtain ⟨a1,a2⟩:=pow_in hi
 obtain ⟨b1,b2⟩:=pow_in hj
 have hq:(2 ^ i,2 ^ j)∈allR t x:=List.mem_filter.2 ⟨rects_in a1 a2 b1 b2,clrB_iff.2 ⟨fun i' j' _ _ h=>?_,.inr ⟨by omega,i,j,hi,hj,by simp [hasB,Nat.testBit_two_pow_self],hcel⟩⟩⟩
 · exact great_ex ht _ _ hq (Nat.le_refl _) (by simp [hasQ,hasB,Nat.testBit_two_pow_self])
 · simp only [hasB,Bool.and_eq_true,Nat.testBit_two_pow,decide_eq_true_eq] at h
   obtain ⟨rfl,rfl⟩:=h
   exact hcel
theorem grR_mem {t:List (List Int)} (ht:Tab t) {x:Int} {q:Nat×Nat} (h:q∈grR t x):q.1≤15∧q.2≤15∧Clr t q.1 q.2 x:=allR_mem ht (List.mem_filter.1 h).1
theorem grR_len {t:List (List Int)} (ht:Tab t) {x:Int}:(grR t x).length≤225:=Nat.le_trans (List.length_filter_le _ _) (allR_len ht)
theorem map_take {l:List (Nat×Nat)} {i:Nat} (hi:i<l.length):(l.take (i+1)).map pI=(l.take i).map pI++[pI (l.getD i (0,0))]:=by
 rw [List.take_succ,List.getElem?_eq_getElem hi,Option.toList_some,List.map_append,List.getD,List.getElem?_eq_getElem hi]; rfl
theorem pairs_out [Tabs prog] {H y:Yc} {b7:Nat} {l:List (Nat×Nat)} {ov:Value} (s:CS H H.length b7 l ov y) (hl:l.length≤16) {Q:Value→Yc→Prop} (hQ0 : ∀ w y',EN 28 y y' w (l.map pI)→Q (.tuple #[w,.int .i64 0]) y') :
  AWS prog 48 (.seq q11_11 (.seq (.seq q11_12 (.block 2 (.loop l11_1))) (.seq q11_17 .ret))) (Zu prog [.tmp 4,.tmp 5] Q) [(8,pt H.length)] y:=by
 have hlen:(l.map pI).length=l.length:=List.length_map _
 refine Yb fun N1 hN1=>?_
 simp (maxSteps:=2000000) only [s11,↓Za,↓Zk,↓Zr,↓Ze,↓Zm,↓Zs,↓Zf,↓Zh,↓Zg,↓Zc,↓Zb,↓vdn,vup,Zn,Zl,Zo,Zi,Zj,List.map_cons,List.map_nil,cond_true,cond_false,aop,Zv,Zq,Zp,ev,sput,Zt,Zy,Ya,unK,Zd,Zw,Nat.reduceBEq,Nat.reduceAdd,Int.reduceBEq,Int.reduceBNe,Int.reduceLT,Zu,Zz,tup,tyf]
 refine hN1 [(8,pt H.length),(11,.slice none 0 0)] _ _ ?_ (by simp (maxSteps:=2000000) only [↓Za,↓Zk,↓Zr,↓Ze,↓Zm,↓Zs,↓Zf,↓Zh,↓Zg,↓Zc,↓Zb,↓vdn,vup,Zn,Zl,Zo,Zi,Zj,List.map_cons,List.map_nil,cond_true,cond_false,aop,Zv,Zq,Zp,ev,sput,Zt,Zy,Ya,unK,Zd,Zw,Nat.reduceBEq,Nat.reduceAdd,Int.reduceBEq,Int.reduceBNe,Int.reduceLT,Zu,Zz,tup,tyf])
 clear hN1
 try clear N1
 refine Ye fun L hL=>?_
 refine Yb fun N2 hN2=>?_
 simp (maxSteps:=2000000) only [s11,↓Za,↓Zk,↓Zr,↓Ze,↓Zm,↓Zs,↓Zf,↓Zh,↓Zg,↓Zc,↓Zb,↓vdn,vup,Zn,Zl,Zo,Zi,Zj,List.map_cons,List.map_nil,cond_true,cond_false,aop,Zv,Zq,Zp,ev,sput,Zt,Zy,Ya,unK,Zd,Zw,Nat.reduceBEq,Nat.reduceAdd,Int.reduceBEq,Int.reduceBNe,Int.reduceLT,Zu,Zz,tup,tyf,Xa s.c8 shp_77,s.own.pair.len,hlen]
 refine hN2 [(8,pt H.length),(11,.slice none 0 0),(32,ov),(33,Zx l.length),(34,.int .i64 0)] _ _ ?_ (by simp (maxSteps:=2000000) only [↓Za,↓Zk,↓Zr,↓Ze,↓Zm,↓Zs,↓Zf,↓Zh,↓Zg,↓Zc,↓Zb,↓vdn,vup,Zn,Zl,Zo,Zi,Zj,List.map_cons,List.map_nil,cond_true,cond_false,aop,Zv,Zq,Zp,ev,sput,Zt,Zy,Ya,unK,Zd,Zw,Nat.reduceBEq,Nat.reduceAdd,Int.reduceBEq,Int.reduceBNe,Int.reduceLT,Zu,Zz,tup,tyf])
 clear hN2
 try clear N2
 refine Yh ?_
 refine Yf fun Q3 hQ3=>?_
 refine Xh (γ:=Nat×Value×Yc) (fun g=>g.1≤l.length∧EN 28 y g.2.2 g.2.1 ((l.take g.1).map pI))
  (fun g=>([(8,pt H.length),(11,g.2.1),(32,ov),(33,Zx l.length),(34,Zx (g.1:Nat))],g.2.2)) (fun g=>l.length-g.1) (0,.slice none 0 0,y) ⟨Nat.zero_le _,EN.nil 28 y⟩ (by simp (maxSteps:=2000000) only [↓Za,↓Zk,↓Zr,↓Ze,↓Zm,↓Zs,↓Zf,↓Zh,↓Zg,↓Zc,↓Zb,↓vdn,vup,Zn,Zl,Zo,Zi,Zj,List.map_cons,List.map_nil,cond_true,cond_false,aop,Zv,Zq,Zp,ev,sput,Zt,Zy,Ya,unK,Zd,Zw,Nat.reduceBEq,Nat.reduceAdd,Int.reduceBEq,Int.reduceBNe,Int.reduceLT,Zu,Zz,tup,tyf,Int.natCast_zero]) rfl ?_
 rintro ⟨i,w,z⟩ ⟨hi,s1⟩
 simp only at hi s1
 refine Yf fun Q4 hQ4=>?_
 simp only [l11_1]
 by_cases hin:(i:Int)<l.length
 · have hi' : i<l.length:=by omega
   have hi2:i<(l.map pI).length:=by omega
   have hmt:=map_take hi'
   have hg:=pI_get hi'
   generalize l.getD i (0,0)=ab at hmt hg
   obtain ⟨a,b⟩:=ab
   have hoz:=s.own.ext s1.ext
   have hld:=fun K=>hoz.pair.load (P:=prog) shp_81 hi2 K
   rw [hg] at hld
   refine Yb fun N3 hN3=>?_
   simp (maxSteps:=2000000) only [s11,↓Za,↓Zk,↓Zr,↓Ze,↓Zm,↓Zs,↓Zf,↓Zh,↓Zg,↓Zc,↓Zb,↓vdn,vup,Zn,Zl,Zo,Zi,Zj,List.map_cons,List.map_nil,cond_true,cond_false,aop,Zv,Zq,Zp,ev,sput,Zt,Zy,Ya,unK,Zd,Zw,Nat.reduceBEq,Nat.reduceAdd,Int.reduceBEq,Int.reduceBNe,Int.reduceLT,Zu,Zz,tup,tyf,hin]
   refine hN3 [(8,pt H.length),(11,w),(32,ov),(33,Zx l.length),(34,Zx (i:Nat)),(35,.bool true)] _ _ ?_ (by simp (maxSteps:=2000000) only [↓Za,↓Zk,↓Zr,↓Ze,↓Zm,↓Zs,↓Zf,↓Zh,↓Zg,↓Zc,↓Zb,↓vdn,vup,Zn,Zl,Zo,Zi,Zj,List.map_cons,List.map_nil,cond_true,cond_false,aop,Zv,Zq,Zp,ev,sput,Zt,Zy,Ya,unK,Zd,Zw,Nat.reduceBEq,Nat.reduceAdd,Int.reduceBEq,Int.reduceBNe,Int.reduceLT,Zu,Zz,tup,tyf])
   clear hN3
   try clear N3
   refine Yb fun N4 hN4=>?_
   simp (maxSteps:=2000000) only [s11,↓Za,↓Zk,↓Zr,↓Ze,↓Zm,↓Zs,↓Zf,↓Zh,↓Zg,↓Zc,↓Zb,↓vdn,vup,Zn,Zl,Zo,Zi,Zj,List.map_cons,List.map_nil,cond_true,cond_false,aop,Zv,Zq,Zp,ev,sput,Zt,Zy,Ya,unK,Zd,Zw,Nat.reduceBEq,Nat.reduceAdd,Int.reduceBEq,Int.reduceBNe,Int.reduceLT,Zu,Zz,tup,tyf]
   refine hN4 [(8,pt H.length),(11,w),(32,ov),(33,Zx l.length),(34,Zx (i:Nat))] _ _ ?_ (by simp (maxSteps:=2000000) only [↓Za,↓Zk,↓Zr,↓Ze,↓Zm,↓Zs,↓Zf,↓Zh,↓Zg,↓Zc,↓Zb,↓vdn,vup,Zn,Zl,Zo,Zi,Zj,List.map_cons,List.map_nil,cond_true,cond_false,aop,Zv,Zq,Zp,ev,sput,Zt,Zy,Ya,unK,Zd,Zw,Nat.reduceBEq,Nat.reduceAdd,Int.reduceBEq,Int.reduceBNe,Int.reduceLT,Zu,Zz,tup,tyf])
   clear hN4
   try clear N4
   refine Ye fun B hB=>?_
   refine Yh ?_
   refine Yb fun N5 hN5=>?_
   simp (maxSteps:=2000000) only [s11,↓Za,↓Zk,↓Zr,↓Ze,↓Zm,↓Zs,↓Zf,↓Zh,↓Zg,↓Zc,↓Zb,↓vdn,vup,Zn,Zl,Zo,Zi,Zj,List.map_cons,List.map_nil,cond_true,cond_false,aop,Zv,Zq,Zp,ev,sput,Zt,Zy,Ya,unK,Zd,Zw,Nat.reduceBEq,Nat.reduceAdd,Int.reduceBEq,Int.reduceBNe,Int.reduceLT,Zu,Zz,tup,tyf,hoz.pair.idx el_77 esz_81 hi2,hld,pI,Xx,Xd,zero_81,storeR]
   have hE1:Ext (fun _=>False) z (z++[Blk.cells [Zx (a:Nat),Zx (b:Nat)] 81 false]):=Ext.app _ _ _
   have c13:=Yj z (Blk.cells [Zx (a:Nat),Zx (b:Nat)] 81 false)
   have s2:=s1.more hE1
   generalize z++[Blk.cells [Zx (a:Nat),Zx (b:Nat)] 81 false]=z1 at hE1 c13 s2 ⊢
   generalize z.length=b13 at c13 ⊢
   refine hN5 [(8,pt H.length),(11,w),(13,pt b13),(32,ov),(33,Zx l.length),(34,Zx (i:Nat))] _ _ ?_ (by simp (maxSteps:=2000000) only [↓Za,↓Zk,↓Zr,↓Ze,↓Zm,↓Zs,↓Zf,↓Zh,↓Zg,↓Zc,↓Zb,↓vdn,vup,Zn,Zl,Zo,Zi,Zj,List.map_cons,List.map_nil,cond_true,cond_false,aop,Zv,Zq,Zp,ev,sput,Zt,Zy,Ya,unK,Zd,Zw,Nat.reduceBEq,Nat.reduceAdd,Int.reduceBEq,Int.reduceBNe,Int.reduceLT,Zu,Zz,tup,tyf])
   clear hN5
   try clear N5
   refine Yd ?_
   simp (maxSteps:=2000000) only [s11,↓Za,↓Zk,↓Zr,↓Ze,↓Zm,↓Zs,↓Zf,↓Zh,↓Zg,↓Zc,↓Zb,↓vdn,vup,Zn,Zl,Zo,Zi,Zj,List.map_cons,List.map_nil,cond_true,cond_false,aop,Zv,Zq,Zp,ev,sput,Zt,Zy,Ya,unK,Zd,Zw,Nat.reduceBEq,Nat.reduceAdd,Int.reduceBEq,Int.reduceBNe,Int.reduceLT,Zu,Zz,tup,tyf,fldA fld_81_0 Xk,pl0 c13,fldA fld_81_1 Xk,pl1 c13,bldP,litP]
   refine (s2.own.ext (Ext.app _ _ _)).append app_26_26 (by rw [List.length_map,List.length_take]; omega) (Yj _ _) ?_
   intro w' z2 ho hE hb
   refine hB [(8,pt H.length),(11,w'),(32,ov),(33,Zx l.length),(34,Zx (i:Nat))] _ _ ?_ (by simp (maxSteps:=2000000) only [↓Za,↓Zk,↓Zr,↓Ze,↓Zm,↓Zs,↓Zf,↓Zh,↓Zg,↓Zc,↓Zb,↓vdn,vup,Zn,Zl,Zo,Zi,Zj,List.map_cons,List.map_nil,cond_true,cond_false,aop,Zv,Zq,Zp,ev,sput,Zt,Zy,Ya,unK,Zd,Zw,Nat.reduceBEq,Nat.reduceAdd,Int.reduceBEq,Int.reduceBNe,Int.reduceLT,Zu,Zz,tup,tyf])
   clear hB
   try clear B
   refine Yd ?_
   simp (maxSteps:=2000000) only [s11,↓Za,↓Zk,↓Zr,↓Ze,↓Zm,↓Zs,↓Zf,↓Zh,↓Zg,↓Zc,↓Zb,↓vdn,vup,Zn,Zl,Zo,Zi,Zj,List.map_cons,List.map_nil,cond_true,cond_false,aop,Zv,Zq,Zp,ev,sput,Zt,Zy,Ya,unK,Zd,Zw,Nat.reduceBEq,Nat.reduceAdd,Int.reduceBEq,Int.reduceBNe,Int.reduceLT,Zu,Zz,tup,tyf,Vd (show i<9223372036854775807 by omega)]
   exact hQ4 _ _ _ ⟨(i+1,w',z2),⟨hi',by rw [hmt]; exact s2.step ho hE hb⟩,by simp only; omega,by simp (maxSteps:=2000000) only [↓Za,↓Zk,↓Zr,↓Ze,↓Zm,↓Zs,↓Zf,↓Zh,↓Zg,↓Zc,↓Zb,↓vdn,vup,Zn,Zl,Zo,Zi,Zj,List.map_cons,List.map_nil,cond_true,cond_false,aop,Zv,Zq,Zp,ev,sput,Zt,Zy,Ya,unK,Zd,Zw,Nat.reduceBEq,Nat.reduceAdd,Int.reduceBEq,Int.reduceBNe,Int.reduceLT,Zu,Zz,tup,tyf],rfl⟩
 · obtain rfl:i=l.length:=by omega
   refine Yb fun N6 hN6=>?_
   simp (maxSteps:=2000000) only [s11,↓Za,↓Zk,↓Zr,↓Ze,↓Zm,↓Zs,↓Zf,↓Zh,↓Zg,↓Zc,↓Zb,↓vdn,vup,Zn,Zl,Zo,Zi,Zj,List.map_cons,List.map_nil,cond_true,cond_false,aop,Zv,Zq,Zp,ev,sput,Zt,Zy,Ya,unK,Zd,Zw,Nat.reduceBEq,Nat.reduceAdd,Int.reduceBEq,Int.reduceBNe,Int.reduceLT,Zu,Zz,tup,tyf,hin]
   refine hN6 [(8,pt H.length),(11,w),(32,ov),(33,Zx l.length),(34,Zx l.length),(35,.bool false)] _ _ ?_ (by simp (maxSteps:=2000000) only [↓Za,↓Zk,↓Zr,↓Ze,↓Zm,↓Zs,↓Zf,↓Zh,↓Zg,↓Zc,↓Zb,↓vdn,vup,Zn,Zl,Zo,Zi,Zj,List.map_cons,List.map_nil,cond_true,cond_false,aop,Zv,Zq,Zp,ev,sput,Zt,Zy,Ya,unK,Zd,Zw,Nat.reduceBEq,Nat.reduceAdd,Int.reduceBEq,Int.reduceBNe,Int.reduceLT,Zu,Zz,tup,tyf])
   clear hN6
   try clear N6
   refine Yb fun N7 hN7=>?_
   simp (maxSteps:=2000000) only [s11,↓Za,↓Zk,↓Zr,↓Ze,↓Zm,↓Zs,↓Zf,↓Zh,↓Zg,↓Zc,↓Zb,↓vdn,vup,Zn,Zl,Zo,Zi,Zj,List.map_cons,List.map_nil,cond_true,cond_false,aop,Zv,Zq,Zp,ev,sput,Zt,Zy,Ya,unK,Zd,Zw,Nat.reduceBEq,Nat.reduceAdd,Int.reduceBEq,Int.reduceBNe,Int.reduceLT,Zu,Zz,tup,tyf]
   refine hQ4 _ _ _ (hQ3 _ _ _ ?_)
   simp (maxSteps:=2000000) only [s11,↓Za,↓Zk,↓Zr,↓Ze,↓Zm,↓Zs,↓Zf,↓Zh,↓Zg,↓Zc,↓Zb,↓vdn,vup,Zn,Zl,Zo,Zi,Zj,List.map_cons,List.map_nil,cond_true,cond_false,aop,Zv,Zq,Zp,ev,sput,Zt,Zy,Ya,unK,Zd,Zw,Nat.reduceBEq,Nat.reduceAdd,Int.reduceBEq,Int.reduceBNe,Int.reduceLT,Zu,Zz,tup,tyf,if_true]
   refine hL [(8,pt H.length),(11,w),(35,.bool false)] _ _ ?_ (by simp (maxSteps:=2000000) only [↓Za,↓Zk,↓Zr,↓Ze,↓Zm,↓Zs,↓Zf,↓Zh,↓Zg,↓Zc,↓Zb,↓vdn,vup,Zn,Zl,Zo,Zi,Zj,List.map_cons,List.map_nil,cond_true,cond_false,aop,Zv,Zq,Zp,ev,sput,Zt,Zy,Ya,unK,Zd,Zw,Nat.reduceBEq,Nat.reduceAdd,Int.reduceBEq,Int.reduceBNe,Int.reduceLT,Zu,Zz,tup,tyf])
   clear hL
   try clear L
   refine Yd ?_
   simp (maxSteps:=2000000) only [s11,↓Za,↓Zk,↓Zr,↓Ze,↓Zm,↓Zs,↓Zf,↓Zh,↓Zg,↓Zc,↓Zb,↓vdn,vup,Zn,Zl,Zo,Zi,Zj,List.map_cons,List.map_nil,cond_true,cond_false,aop,Zv,Zq,Zp,ev,sput,Zt,Zy,Ya,unK,Zd,Zw,Nat.reduceBEq,Nat.reduceAdd,Int.reduceBEq,Int.reduceBNe,Int.reduceLT,Zu,Zz,tup,tyf]
   rw [List.take_length] at s1
   exact hQ0 _ _ s1
theorem ents_none {x:Int} {t:List (List Int)} : ∀ {n:Nat},ents x t n=[]→∀ i j,i<n→j<(t.getD i []).length→(t.getD i []).getD j 0≠x
 | 0,_,i,j,hi,_=>by omega
 | n+1,h,i,j,hi,hj=>by
   rw [ents] at h
   obtain ⟨h1,h2⟩:=List.append_eq_nil_iff.1 h
   by_cases hin:i<n
   · exact ents_none h1 i j hin hj
   · obtain rfl:i=n:=by omega
     have key : ∀ k,erow i x (t.getD i []) k=[]→∀ j,j<k→(t.getD i []).getD j 0≠x:=by
      intro k
      induction k with
      | zero=>intro _ j hj; omega
      | succ k ih =>
        intro hk j hj
        rw [erow] at hk
        split at hk
        · simp at hk
        · rename_i hx
          by_cases hjk:j<k
          · exact ih hk j hjk
          · obtain rfl:j=k:=by omega
            exact hx
     exact key _ h2 j hj
theorem entries_none [Tabs prog] {h:Yc} {v:Value} {t:List (List Int)} {x:Int} (hv:TabS h v t) (ht:Tab t) (hno:entL t x=[]):APure prog 38 [v,Zx x] h (.slice none 0 0):=by
 refine s38_callW (by simp) ?_
 simp only [s38]
 have hn4:=ht.n4
 refine Yb fun N8 hN8=>?_
 simp (maxSteps:=2000000) only [s38,↓Za,↓Zk,↓Zr,↓Ze,↓Zm,↓Zs,↓Zf,↓Zh,↓Zg,↓Zc,↓Zb,↓vdn,vup,Zn,Zl,Zo,Zi,Zj,List.map_cons,List.map_nil,cond_true,cond_false,aop,Zv,Zq,Zp,ev,sput,Zt,Zy,Ya,unK,Zd,Zw,Nat.reduceBEq,Nat.reduceAdd,Int.reduceBEq,Int.reduceBNe,Int.reduceLT,Zu,Zz,tup,tyf]
 refine hN8 [(0,v),(1,Zx x),(4,.slice none 0 0)] _ _ ?_ (by simp (maxSteps:=2000000) only [↓Za,↓Zk,↓Zr,↓Ze,↓Zm,↓Zs,↓Zf,↓Zh,↓Zg,↓Zc,↓Zb,↓vdn,vup,Zn,Zl,Zo,Zi,Zj,List.map_cons,List.map_nil,cond_true,cond_false,aop,Zv,Zq,Zp,ev,sput,Zt,Zy,Ya,unK,Zd,Zw,Nat.reduceBEq,Nat.reduceAdd,Int.reduceBEq,Int.reduceBNe,Int.reduceLT,Zu,Zz,tup,tyf])
 clear hN8
 try clear N8
 refine Yb fun N9 hN9=>?_
 simp (maxSteps:=2000000) only [s38,↓Za,↓Zk,↓Zr,↓Ze,↓Zm,↓Zs,↓Zf,↓Zh,↓Zg,↓Zc,↓Zb,↓vdn,vup,Zn,Zl,Zo,Zi,Zj,List.map_cons,List.map_nil,cond_true,cond_false,aop,Zv,Zq,Zp,ev,sput,Zt,Zy,Ya,unK,Zd,Zw,Nat.reduceBEq,Nat.reduceAdd,Int.reduceBEq,Int.reduceBNe,Int.reduceLT,Zu,Zz,tup,tyf]
 refine hN9 [(0,v),(1,Zx x),(4,.slice none 0 0),(5,.slice none 0 0)] _ _ ?_ (by simp (maxSteps:=2000000) only [↓Za,↓Zk,↓Zr,↓Ze,↓Zm,↓Zs,↓Zf,↓Zh,↓Zg,↓Zc,↓Zb,↓vdn,vup,Zn,Zl,Zo,Zi,Zj,List.map_cons,List.map_nil,cond_true,cond_false,aop,Zv,Zq,Zp,ev,sput,Zt,Zy,Ya,unK,Zd,Zw,Nat.reduceBEq,Nat.reduceAdd,Int.reduceBEq,Int.reduceBNe,Int.reduceLT,Zu,Zz,tup,tyf])
 clear hN9
 try clear N9
 refine Ye fun M hM=>?_
 refine Yb fun N10 hN10=>?_
 simp (maxSteps:=2000000) only [s38,↓Za,↓Zk,↓Zr,↓Ze,↓Zm,↓Zs,↓Zf,↓Zh,↓Zg,↓Zc,↓Zb,↓vdn,vup,Zn,Zl,Zo,Zi,Zj,List.map_cons,List.map_nil,cond_true,cond_false,aop,Zv,Zq,Zp,ev,sput,Zt,Zy,Ya,unK,Zd,Zw,Nat.reduceBEq,Nat.reduceAdd,Int.reduceBEq,Int.reduceBNe,Int.reduceLT,Zu,Zz,tup,tyf,hv.len]
 refine hN10 [(0,v),(1,Zx x),(4,.slice none 0 0),(5,.slice none 0 0),(10,v),(11,Zx t.length),(12,.int .i64 0)] _ _ ?_ (by simp (maxSteps:=2000000) only [↓Za,↓Zk,↓Zr,↓Ze,↓Zm,↓Zs,↓Zf,↓Zh,↓Zg,↓Zc,↓Zb,↓vdn,vup,Zn,Zl,Zo,Zi,Zj,List.map_cons,List.map_nil,cond_true,cond_false,aop,Zv,Zq,Zp,ev,sput,Zt,Zy,Ya,unK,Zd,Zw,Nat.reduceBEq,Nat.reduceAdd,Int.reduceBEq,Int.reduceBNe,Int.reduceLT,Zu,Zz,tup,tyf])
 clear hN10
 try clear N10
 refine Yh ?_
 refine Yf fun Q hQ=>?_
 refine Xh (γ:=Nat) (fun s=>s≤t.length)
  (fun s=>([(0,v),(1,Zx x),(4,.slice none 0 0),(5,.slice none 0 0),(10,v),(11,Zx t.length),(12,Zx (s:Nat))],h)) (fun s=>t.length-s) 0 (Nat.zero_le _) (by simp (maxSteps:=2000000) only [↓Za,↓Zk,↓Zr,↓Ze,↓Zm,↓Zs,↓Zf,↓Zh,↓Zg,↓Zc,↓Zb,↓vdn,vup,Zn,Zl,Zo,Zi,Zj,List.map_cons,List.map_nil,cond_true,cond_false,aop,Zv,Zq,Zp,ev,sput,Zt,Zy,Ya,unK,Zd,Zw,Nat.reduceBEq,Nat.reduceAdd,Int.reduceBEq,Int.reduceBNe,Int.reduceLT,Zu,Zz,tup,tyf,Int.natCast_zero]) rfl ?_
 intro i hi
 refine Yf fun Q2 hQ2=>?_
 simp only [l38_1]
 by_cases hin:(i:Int)<t.length
 · have hi' : i<t.length:=by omega
   obtain ⟨w,hw,ld⟩:=hv.load (P:=prog) Wb hi'
   have hr4:=ht.wid i
   have hne:=ents_none hno i
   generalize t.getD i []=r at hw hr4 hne
   refine Yb fun N11 hN11=>?_
   simp (maxSteps:=2000000) only [s38,↓Za,↓Zk,↓Zr,↓Ze,↓Zm,↓Zs,↓Zf,↓Zh,↓Zg,↓Zc,↓Zb,↓vdn,vup,Zn,Zl,Zo,Zi,Zj,List.map_cons,List.map_nil,cond_true,cond_false,aop,Zv,Zq,Zp,ev,sput,Zt,Zy,Ya,unK,Zd,Zw,Nat.reduceBEq,Nat.reduceAdd,Int.reduceBEq,Int.reduceBNe,Int.reduceLT,Zu,Zz,tup,tyf,hin]
   refine hN11 [(0,v),(1,Zx x),(4,.slice none 0 0),(5,.slice none 0 0),(10,v),(11,Zx t.length),(12,Zx (i:Nat)),(13,.bool true)] _ _ ?_ (by simp (maxSteps:=2000000) only [↓Za,↓Zk,↓Zr,↓Ze,↓Zm,↓Zs,↓Zf,↓Zh,↓Zg,↓Zc,↓Zb,↓vdn,vup,Zn,Zl,Zo,Zi,Zj,List.map_cons,List.map_nil,cond_true,cond_false,aop,Zv,Zq,Zp,ev,sput,Zt,Zy,Ya,unK,Zd,Zw,Nat.reduceBEq,Nat.reduceAdd,Int.reduceBEq,Int.reduceBNe,Int.reduceLT,Zu,Zz,tup,tyf])
   clear hN11
   try clear N11
   refine Yb fun N12 hN12=>?_
   simp (maxSteps:=2000000) only [s38,↓Za,↓Zk,↓Zr,↓Ze,↓Zm,↓Zs,↓Zf,↓Zh,↓Zg,↓Zc,↓Zb,↓vdn,vup,Zn,Zl,Zo,Zi,Zj,List.map_cons,List.map_nil,cond_true,cond_false,aop,Zv,Zq,Zp,ev,sput,Zt,Zy,Ya,unK,Zd,Zw,Nat.reduceBEq,Nat.reduceAdd,Int.reduceBEq,Int.reduceBNe,Int.reduceLT,Zu,Zz,tup,tyf]
   refine hN12 [(0,v),(1,Zx x),(4,.slice none 0 0),(5,.slice none 0 0),(10,v),(11,Zx t.length),(12,Zx (i:Nat))] _ _ ?_ (by simp (maxSteps:=2000000) only [↓Za,↓Zk,↓Zr,↓Ze,↓Zm,↓Zs,↓Zf,↓Zh,↓Zg,↓Zc,↓Zb,↓vdn,vup,Zn,Zl,Zo,Zi,Zj,List.map_cons,List.map_nil,cond_true,cond_false,aop,Zv,Zq,Zp,ev,sput,Zt,Zy,Ya,unK,Zd,Zw,Nat.reduceBEq,Nat.reduceAdd,Int.reduceBEq,Int.reduceBNe,Int.reduceLT,Zu,Zz,tup,tyf])
   clear hN12
   try clear N12
   refine Ye fun B hB=>?_
   refine Yh ?_
   refine Yb fun N13 hN13=>?_
   simp (maxSteps:=2000000) only [s38,↓Za,↓Zk,↓Zr,↓Ze,↓Zm,↓Zs,↓Zf,↓Zh,↓Zg,↓Zc,↓Zb,↓vdn,vup,Zn,Zl,Zo,Zi,Zj,List.map_cons,List.map_nil,cond_true,cond_false,aop,Zv,Zq,Zp,ev,sput,Zt,Zy,Ya,unK,Zd,Zw,Nat.reduceBEq,Nat.reduceAdd,Int.reduceBEq,Int.reduceBNe,Int.reduceLT,Zu,Zz,tup,tyf,hv.idx el_70 Vb hi',ld]
   refine hN13 [(0,v),(1,Zx x),(4,.slice none 0 0),(5,.slice none 0 0),(6,Zx (i:Nat)),(7,w),(10,v),(11,Zx t.length),(12,Zx (i:Nat))] _ _ ?_ (by simp (maxSteps:=2000000) only [↓Za,↓Zk,↓Zr,↓Ze,↓Zm,↓Zs,↓Zf,↓Zh,↓Zg,↓Zc,↓Zb,↓vdn,vup,Zn,Zl,Zo,Zi,Zj,List.map_cons,List.map_nil,cond_true,cond_false,aop,Zv,Zq,Zp,ev,sput,Zt,Zy,Ya,unK,Zd,Zw,Nat.reduceBEq,Nat.reduceAdd,Int.reduceBEq,Int.reduceBNe,Int.reduceLT,Zu,Zz,tup,tyf])
   clear hN13
   try clear N13
   refine Yb fun N14 hN14=>?_
   simp (maxSteps:=2000000) only [s38,↓Za,↓Zk,↓Zr,↓Ze,↓Zm,↓Zs,↓Zf,↓Zh,↓Zg,↓Zc,↓Zb,↓vdn,vup,Zn,Zl,Zo,Zi,Zj,List.map_cons,List.map_nil,cond_true,cond_false,aop,Zv,Zq,Zp,ev,sput,Zt,Zy,Ya,unK,Zd,Zw,Nat.reduceBEq,Nat.reduceAdd,Int.reduceBEq,Int.reduceBNe,Int.reduceLT,Zu,Zz,tup,tyf,hw.len]
   refine hN14 [(0,v),(1,Zx x),(4,.slice none 0 0),(5,.slice none 0 0),(6,Zx (i:Nat)),(7,w),(10,v),(11,Zx t.length),(12,Zx (i:Nat)),(17,w),(18,Zx r.length),(19,.int .i64 0)] _ _ ?_ (by simp (maxSteps:=2000000) only [↓Za,↓Zk,↓Zr,↓Ze,↓Zm,↓Zs,↓Zf,↓Zh,↓Zg,↓Zc,↓Zb,↓vdn,vup,Zn,Zl,Zo,Zi,Zj,List.map_cons,List.map_nil,cond_true,cond_false,aop,Zv,Zq,Zp,ev,sput,Zt,Zy,Ya,unK,Zd,Zw,Nat.reduceBEq,Nat.reduceAdd,Int.reduceBEq,Int.reduceBNe,Int.reduceLT,Zu,Zz,tup,tyf])
   clear hN14
   try clear N14
   refine Yh ?_
   refine Yf fun Q3 hQ3=>?_
   refine Xh (γ:=Nat) (fun s=>s≤r.length)
    (fun s=>([(0,v),(1,Zx x),(4,.slice none 0 0),(5,.slice none 0 0),(6,Zx (i:Nat)),(7,w),(10,v),(11,Zx t.length),(12,Zx (i:Nat)),(17,w),(18,Zx r.length),(19,Zx (s:Nat))],h)) (fun s=>r.length-s) 0 (Nat.zero_le _) (by simp (maxSteps:=2000000) only [↓Za,↓Zk,↓Zr,↓Ze,↓Zm,↓Zs,↓Zf,↓Zh,↓Zg,↓Zc,↓Zb,↓vdn,vup,Zn,Zl,Zo,Zi,Zj,List.map_cons,List.map_nil,cond_true,cond_false,aop,Zv,Zq,Zp,ev,sput,Zt,Zy,Ya,unK,Zd,Zw,Nat.reduceBEq,Nat.reduceAdd,Int.reduceBEq,Int.reduceBNe,Int.reduceLT,Zu,Zz,tup,tyf,Int.natCast_zero]) rfl ?_
   intro j hj
   refine Yf fun Q4 hQ4=>?_
   simp only [l38_0]
   by_cases hjn:(j:Int)<r.length
   · have hj' : j<r.length:=by omega
     have hxb:(r.getD j 0==x)=false:=by rw [beq_eq_false_iff_ne]; exact hne j hi' hj'
     refine Yb fun N15 hN15=>?_
     simp (maxSteps:=2000000) only [s38,↓Za,↓Zk,↓Zr,↓Ze,↓Zm,↓Zs,↓Zf,↓Zh,↓Zg,↓Zc,↓Zb,↓vdn,vup,Zn,Zl,Zo,Zi,Zj,List.map_cons,List.map_nil,cond_true,cond_false,aop,Zv,Zq,Zp,ev,sput,Zt,Zy,Ya,unK,Zd,Zw,Nat.reduceBEq,Nat.reduceAdd,Int.reduceBEq,Int.reduceBNe,Int.reduceLT,Zu,Zz,tup,tyf,hjn]
     refine hN15 [(0,v),(1,Zx x),(4,.slice none 0 0),(5,.slice none 0 0),(6,Zx (i:Nat)),(7,w),(10,v),(11,Zx t.length),(12,Zx (i:Nat)),(17,w),(18,Zx r.length),(19,Zx (j:Nat)),(20,.bool true)] _ _ ?_ (by simp (maxSteps:=2000000) only [↓Za,↓Zk,↓Zr,↓Ze,↓Zm,↓Zs,↓Zf,↓Zh,↓Zg,↓Zc,↓Zb,↓vdn,vup,Zn,Zl,Zo,Zi,Zj,List.map_cons,List.map_nil,cond_true,cond_false,aop,Zv,Zq,Zp,ev,sput,Zt,Zy,Ya,unK,Zd,Zw,Nat.reduceBEq,Nat.reduceAdd,Int.reduceBEq,Int.reduceBNe,Int.reduceLT,Zu,Zz,tup,tyf])
     clear hN15
     try clear N15
     refine Yb fun N16 hN16=>?_
     simp (maxSteps:=2000000) only [s38,↓Za,↓Zk,↓Zr,↓Ze,↓Zm,↓Zs,↓Zf,↓Zh,↓Zg,↓Zc,↓Zb,↓vdn,vup,Zn,Zl,Zo,Zi,Zj,List.map_cons,List.map_nil,cond_true,cond_false,aop,Zv,Zq,Zp,ev,sput,Zt,Zy,Ya,unK,Zd,Zw,Nat.reduceBEq,Nat.reduceAdd,Int.reduceBEq,Int.reduceBNe,Int.reduceLT,Zu,Zz,tup,tyf]
     refine hN16 [(0,v),(1,Zx x),(4,.slice none 0 0),(5,.slice none 0 0),(6,Zx (i:Nat)),(7,w),(10,v),(11,Zx t.length),(12,Zx (i:Nat)),(17,w),(18,Zx r.length),(19,Zx (j:Nat))] _ _ ?_ (by simp (maxSteps:=2000000) only [↓Za,↓Zk,↓Zr,↓Ze,↓Zm,↓Zs,↓Zf,↓Zh,↓Zg,↓Zc,↓Zb,↓vdn,vup,Zn,Zl,Zo,Zi,Zj,List.map_cons,List.map_nil,cond_true,cond_false,aop,Zv,Zq,Zp,ev,sput,Zt,Zy,Ya,unK,Zd,Zw,Nat.reduceBEq,Nat.reduceAdd,Int.reduceBEq,Int.reduceBNe,Int.reduceLT,Zu,Zz,tup,tyf])
     clear hN16
     try clear N16
     refine Ye fun C hC=>?_
     refine Yh ?_
     refine Yb fun N17 hN17=>?_
     simp (maxSteps:=2000000) only [s38,↓Za,↓Zk,↓Zr,↓Ze,↓Zm,↓Zs,↓Zf,↓Zh,↓Zg,↓Zc,↓Zb,↓vdn,vup,Zn,Zl,Zo,Zi,Zj,List.map_cons,List.map_nil,cond_true,cond_false,aop,Zv,Zq,Zp,ev,sput,Zt,Zy,Ya,unK,Zd,Zw,Nat.reduceBEq,Nat.reduceAdd,Int.reduceBEq,Int.reduceBNe,Int.reduceLT,Zu,Zz,tup,tyf,hw.idx Wp Xk hj',hw.load Yw hj']
     refine hN17 [(0,v),(1,Zx x),(4,.slice none 0 0),(5,.slice none 0 0),(6,Zx (i:Nat)),(7,w),(8,Zx (j:Nat)),(9,Zx (r.getD j 0)),(10,v),(11,Zx t.length),(12,Zx (i:Nat)),(17,w),(18,Zx r.length),(19,Zx (j:Nat))] _ _ ?_ (by simp (maxSteps:=2000000) only [↓Za,↓Zk,↓Zr,↓Ze,↓Zm,↓Zs,↓Zf,↓Zh,↓Zg,↓Zc,↓Zb,↓vdn,vup,Zn,Zl,Zo,Zi,Zj,List.map_cons,List.map_nil,cond_true,cond_false,aop,Zv,Zq,Zp,ev,sput,Zt,Zy,Ya,unK,Zd,Zw,Nat.reduceBEq,Nat.reduceAdd,Int.reduceBEq,Int.reduceBNe,Int.reduceLT,Zu,Zz,tup,tyf])
     clear hN17
     try clear N17
     refine Yb fun N18 hN18=>?_
     simp (maxSteps:=2000000) only [s38,↓Za,↓Zk,↓Zr,↓Ze,↓Zm,↓Zs,↓Zf,↓Zh,↓Zg,↓Zc,↓Zb,↓vdn,vup,Zn,Zl,Zo,Zi,Zj,List.map_cons,List.map_nil,cond_true,cond_false,aop,Zv,Zq,Zp,ev,sput,Zt,Zy,Ya,unK,Zd,Zw,Nat.reduceBEq,Nat.reduceAdd,Int.reduceBEq,Int.reduceBNe,Int.reduceLT,Zu,Zz,tup,tyf,hxb]
     refine hN18 [(0,v),(1,Zx x),(4,.slice none 0 0),(5,.slice none 0 0),(6,Zx (i:Nat)),(7,w),(8,Zx (j:Nat)),(9,Zx (r.getD j 0)),(10,v),(11,Zx t.length),(12,Zx (i:Nat)),(17,w),(18,Zx r.length),(19,Zx (j:Nat)),(26,.bool false)] _ _ ?_ (by simp (maxSteps:=2000000) only [↓Za,↓Zk,↓Zr,↓Ze,↓Zm,↓Zs,↓Zf,↓Zh,↓Zg,↓Zc,↓Zb,↓vdn,vup,Zn,Zl,Zo,Zi,Zj,List.map_cons,List.map_nil,cond_true,cond_false,aop,Zv,Zq,Zp,ev,sput,Zt,Zy,Ya,unK,Zd,Zw,Nat.reduceBEq,Nat.reduceAdd,Int.reduceBEq,Int.reduceBNe,Int.reduceLT,Zu,Zz,tup,tyf])
     clear hN18
     try clear N18
     refine Yq rfl ?_
     refine Yd ?_
     simp (maxSteps:=2000000) only [s38,↓Za,↓Zk,↓Zr,↓Ze,↓Zm,↓Zs,↓Zf,↓Zh,↓Zg,↓Zc,↓Zb,↓vdn,vup,Zn,Zl,Zo,Zi,Zj,List.map_cons,List.map_nil,cond_true,cond_false,aop,Zv,Zq,Zp,ev,sput,Zt,Zy,Ya,unK,Zd,Zw,Nat.reduceBEq,Nat.reduceAdd,Int.reduceBEq,Int.reduceBNe,Int.reduceLT,Zu,Zz,tup,tyf]
     refine hC [(0,v),(1,Zx x),(4,.slice none 0 0),(5,.slice none 0 0),(6,Zx (i:Nat)),(7,w),(10,v),(11,Zx t.length),(12,Zx (i:Nat)),(17,w),(18,Zx r.length),(19,Zx (j:Nat))] _ _ ?_ (by simp (maxSteps:=2000000) only [↓Za,↓Zk,↓Zr,↓Ze,↓Zm,↓Zs,↓Zf,↓Zh,↓Zg,↓Zc,↓Zb,↓vdn,vup,Zn,Zl,Zo,Zi,Zj,List.map_cons,List.map_nil,cond_true,cond_false,aop,Zv,Zq,Zp,ev,sput,Zt,Zy,Ya,unK,Zd,Zw,Nat.reduceBEq,Nat.reduceAdd,Int.reduceBEq,Int.reduceBNe,Int.reduceLT,Zu,Zz,tup,tyf])
     clear hC
     try clear C
     refine Yd ?_
     simp (maxSteps:=2000000) only [s38,↓Za,↓Zk,↓Zr,↓Ze,↓Zm,↓Zs,↓Zf,↓Zh,↓Zg,↓Zc,↓Zb,↓vdn,vup,Zn,Zl,Zo,Zi,Zj,List.map_cons,List.map_nil,cond_true,cond_false,aop,Zv,Zq,Zp,ev,sput,Zt,Zy,Ya,unK,Zd,Zw,Nat.reduceBEq,Nat.reduceAdd,Int.reduceBEq,Int.reduceBNe,Int.reduceLT,Zu,Zz,tup,tyf,Vd (show j<9223372036854775807 by omega)]
     exact hQ4 _ _ _ ⟨j+1,hj',by omega,by simp (maxSteps:=2000000) only [↓Za,↓Zk,↓Zr,↓Ze,↓Zm,↓Zs,↓Zf,↓Zh,↓Zg,↓Zc,↓Zb,↓vdn,vup,Zn,Zl,Zo,Zi,Zj,List.map_cons,List.map_nil,cond_true,cond_false,aop,Zv,Zq,Zp,ev,sput,Zt,Zy,Ya,unK,Zd,Zw,Nat.reduceBEq,Nat.reduceAdd,Int.reduceBEq,Int.reduceBNe,Int.reduceLT,Zu,Zz,tup,tyf],rfl⟩
   · obtain rfl:j=r.length:=by omega
     refine Yb fun N19 hN19=>?_
     simp (maxSteps:=2000000) only [s38,↓Za,↓Zk,↓Zr,↓Ze,↓Zm,↓Zs,↓Zf,↓Zh,↓Zg,↓Zc,↓Zb,↓vdn,vup,Zn,Zl,Zo,Zi,Zj,List.map_cons,List.map_nil,cond_true,cond_false,aop,Zv,Zq,Zp,ev,sput,Zt,Zy,Ya,unK,Zd,Zw,Nat.reduceBEq,Nat.reduceAdd,Int.reduceBEq,Int.reduceBNe,Int.reduceLT,Zu,Zz,tup,tyf,hjn]
     refine hN19 [(0,v),(1,Zx x),(4,.slice none 0 0),(5,.slice none 0 0),(6,Zx (i:Nat)),(7,w),(10,v),(11,Zx t.length),(12,Zx (i:Nat)),(17,w),(18,Zx r.length),(19,Zx r.length),(20,.bool false)] _ _ ?_ (by simp (maxSteps:=2000000) only [↓Za,↓Zk,↓Zr,↓Ze,↓Zm,↓Zs,↓Zf,↓Zh,↓Zg,↓Zc,↓Zb,↓vdn,vup,Zn,Zl,Zo,Zi,Zj,List.map_cons,List.map_nil,cond_true,cond_false,aop,Zv,Zq,Zp,ev,sput,Zt,Zy,Ya,unK,Zd,Zw,Nat.reduceBEq,Nat.reduceAdd,Int.reduceBEq,Int.reduceBNe,Int.reduceLT,Zu,Zz,tup,tyf])
     clear hN19
     try clear N19
     refine Yb fun N20 hN20=>?_
     simp (maxSteps:=2000000) only [s38,↓Za,↓Zk,↓Zr,↓Ze,↓Zm,↓Zs,↓Zf,↓Zh,↓Zg,↓Zc,↓Zb,↓vdn,vup,Zn,Zl,Zo,Zi,Zj,List.map_cons,List.map_nil,cond_true,cond_false,aop,Zv,Zq,Zp,ev,sput,Zt,Zy,Ya,unK,Zd,Zw,Nat.reduceBEq,Nat.reduceAdd,Int.reduceBEq,Int.reduceBNe,Int.reduceLT,Zu,Zz,tup,tyf]
     refine hQ4 _ _ _ (hQ3 _ _ _ ?_)
     simp (maxSteps:=2000000) only [s38,↓Za,↓Zk,↓Zr,↓Ze,↓Zm,↓Zs,↓Zf,↓Zh,↓Zg,↓Zc,↓Zb,↓vdn,vup,Zn,Zl,Zo,Zi,Zj,List.map_cons,List.map_nil,cond_true,cond_false,aop,Zv,Zq,Zp,ev,sput,Zt,Zy,Ya,unK,Zd,Zw,Nat.reduceBEq,Nat.reduceAdd,Int.reduceBEq,Int.reduceBNe,Int.reduceLT,Zu,Zz,tup,tyf,if_true]
     refine hB [(0,v),(1,Zx x),(4,.slice none 0 0),(5,.slice none 0 0),(10,v),(11,Zx t.length),(12,Zx (i:Nat)),(20,.bool false)] _ _ ?_ (by simp (maxSteps:=2000000) only [↓Za,↓Zk,↓Zr,↓Ze,↓Zm,↓Zs,↓Zf,↓Zh,↓Zg,↓Zc,↓Zb,↓vdn,vup,Zn,Zl,Zo,Zi,Zj,List.map_cons,List.map_nil,cond_true,cond_false,aop,Zv,Zq,Zp,ev,sput,Zt,Zy,Ya,unK,Zd,Zw,Nat.reduceBEq,Nat.reduceAdd,Int.reduceBEq,Int.reduceBNe,Int.reduceLT,Zu,Zz,tup,tyf])
     clear hB
     try clear B
     refine Yd ?_
     simp (maxSteps:=2000000) only [s38,↓Za,↓Zk,↓Zr,↓Ze,↓Zm,↓Zs,↓Zf,↓Zh,↓Zg,↓Zc,↓Zb,↓vdn,vup,Zn,Zl,Zo,Zi,Zj,List.map_cons,List.map_nil,cond_true,cond_false,aop,Zv,Zq,Zp,ev,sput,Zt,Zy,Ya,unK,Zd,Zw,Nat.reduceBEq,Nat.reduceAdd,Int.reduceBEq,Int.reduceBNe,Int.reduceLT,Zu,Zz,tup,tyf,Vd (show i<9223372036854775807 by omega)]
     exact hQ2 _ _ _ ⟨i+1,hi',by omega,by simp (maxSteps:=2000000) only [↓Za,↓Zk,↓Zr,↓Ze,↓Zm,↓Zs,↓Zf,↓Zh,↓Zg,↓Zc,↓Zb,↓vdn,vup,Zn,Zl,Zo,Zi,Zj,List.map_cons,List.map_nil,cond_true,cond_false,aop,Zv,Zq,Zp,ev,sput,Zt,Zy,Ya,unK,Zd,Zw,Nat.reduceBEq,Nat.reduceAdd,Int.reduceBEq,Int.reduceBNe,Int.reduceLT,Zu,Zz,tup,tyf],rfl⟩
 · obtain rfl:i=t.length:=by omega
   refine Yb fun N21 hN21=>?_
   simp (maxSteps:=2000000) only [s38,↓Za,↓Zk,↓Zr,↓Ze,↓Zm,↓Zs,↓Zf,↓Zh,↓Zg,↓Zc,↓Zb,↓vdn,vup,Zn,Zl,Zo,Zi,Zj,List.map_cons,List.map_nil,cond_true,cond_false,aop,Zv,Zq,Zp,ev,sput,Zt,Zy,Ya,unK,Zd,Zw,Nat.reduceBEq,Nat.reduceAdd,Int.reduceBEq,Int.reduceBNe,Int.reduceLT,Zu,Zz,tup,tyf,hin]
   refine hN21 [(0,v),(1,Zx x),(4,.slice none 0 0),(5,.slice none 0 0),(10,v),(11,Zx t.length),(12,Zx t.length),(13,.bool false)] _ _ ?_ (by simp (maxSteps:=2000000) only [↓Za,↓Zk,↓Zr,↓Ze,↓Zm,↓Zs,↓Zf,↓Zh,↓Zg,↓Zc,↓Zb,↓vdn,vup,Zn,Zl,Zo,Zi,Zj,List.map_cons,List.map_nil,cond_true,cond_false,aop,Zv,Zq,Zp,ev,sput,Zt,Zy,Ya,unK,Zd,Zw,Nat.reduceBEq,Nat.reduceAdd,Int.reduceBEq,Int.reduceBNe,Int.reduceLT,Zu,Zz,tup,tyf])
   clear hN21
   try clear N21
   refine Yb fun N22 hN22=>?_
   simp (maxSteps:=2000000) only [s38,↓Za,↓Zk,↓Zr,↓Ze,↓Zm,↓Zs,↓Zf,↓Zh,↓Zg,↓Zc,↓Zb,↓vdn,vup,Zn,Zl,Zo,Zi,Zj,List.map_cons,List.map_nil,cond_true,cond_false,aop,Zv,Zq,Zp,ev,sput,Zt,Zy,Ya,unK,Zd,Zw,Nat.reduceBEq,Nat.reduceAdd,Int.reduceBEq,Int.reduceBNe,Int.reduceLT,Zu,Zz,tup,tyf]
   refine hQ2 _ _ _ (hQ _ _ _ ?_)
   simp (maxSteps:=2000000) only [s38,↓Za,↓Zk,↓Zr,↓Ze,↓Zm,↓Zs,↓Zf,↓Zh,↓Zg,↓Zc,↓Zb,↓vdn,vup,Zn,Zl,Zo,Zi,Zj,List.map_cons,List.map_nil,cond_true,cond_false,aop,Zv,Zq,Zp,ev,sput,Zt,Zy,Ya,unK,Zd,Zw,Nat.reduceBEq,Nat.reduceAdd,Int.reduceBEq,Int.reduceBNe,Int.reduceLT,Zu,Zz,tup,tyf,if_true]
   refine hM [(0,v),(1,Zx x),(4,.slice none 0 0),(5,.slice none 0 0),(13,.bool false)] _ _ ?_ (by simp (maxSteps:=2000000) only [↓Za,↓Zk,↓Zr,↓Ze,↓Zm,↓Zs,↓Zf,↓Zh,↓Zg,↓Zc,↓Zb,↓vdn,vup,Zn,Zl,Zo,Zi,Zj,List.map_cons,List.map_nil,cond_true,cond_false,aop,Zv,Zq,Zp,ev,sput,Zt,Zy,Ya,unK,Zd,Zw,Nat.reduceBEq,Nat.reduceAdd,Int.reduceBEq,Int.reduceBNe,Int.reduceLT,Zu,Zz,tup,tyf])
   clear hM
   try clear M
   refine Yd ?_
   simp (maxSteps:=2000000) only [s38,↓Za,↓Zk,↓Zr,↓Ze,↓Zm,↓Zs,↓Zf,↓Zh,↓Zg,↓Zc,↓Zb,↓vdn,vup,Zn,Zl,Zo,Zi,Zj,List.map_cons,List.map_nil,cond_true,cond_false,aop,Zv,Zq,Zp,ev,sput,Zt,Zy,Ya,unK,Zd,Zw,Nat.reduceBEq,Nat.reduceAdd,Int.reduceBEq,Int.reduceBNe,Int.reduceLT,Zu,Zz,tup,tyf]
theorem entries_det [Tabs prog] {y:Yc} {v:Value} {t:List (List Int)} {x:Int} (hv:TabS y v t) (ht:Tab t) : ∃ lv y2,ADet prog 38 [v,Zx x] y lv y2∧EN 28 y y2 lv (entL t x):=by
 by_cases h0:entL t x=[]
 · exact ⟨_,_,entries_none hv ht h0,by rw [h0]; exact EN.nil 28 y⟩
 · refine ⟨_,_,ACall.named h0 ((entries_call hv ht).mono fun r h' s=>⟨s.own,s.ext,s.new⟩),.inr ⟨y.length,[],rfl,by rw [Yj]; simp [Yn]⟩,Ext.app _ _ _,fun b hb=>?_⟩
   have:y.length=b:=Option.some.inj hb
   omega
theorem s11_callW [Tabs Tryd.prog] {args:List Value} {h:Yc} {Q:Value→Yc→Prop} (hsz:args.length≤48) (hk:AWS Tryd.prog 48 s11 (Zu Tryd.prog [.tmp 4,.tmp 5] Q) (Zp 0 args) h):ACall Tryd.prog 11 args h Q :=
 Xg Tryd.func11 rfl (enters_of Tryd.func11 (by kernel_rfl) rfl) rfl rfl (by decide) s11_strip s11_ok hsz hk
theorem coverT_call [Tabs prog] {h:Yc} {v:Value} {t:List (List Int)} {x:Int} (hv:TabS h v t) (ht:Tab t) (hx:x=0∨x=1):ACall prog 11 [v,Zx x] h fun r h'=>∃ w cs,r = .tuple #[w,.int .i64 0]∧OwnP 28 h' w (cs.map pI)∧(∀ q∈cs,q∈grR t x)∧Cvd cs (entL t x)∧Ext (fun _=>False) h h':=by
 refine s11_callW (by simp) ?_
 simp only [s11]
 refine Yb fun N23 hN23=>?_
 simp (maxSteps:=2000000) only [s11,↓Za,↓Zk,↓Zr,↓Ze,↓Zm,↓Zs,↓Zf,↓Zh,↓Zg,↓Zc,↓Zb,↓vdn,vup,Zn,Zl,Zo,Zi,Zj,List.map_cons,List.map_nil,cond_true,cond_false,aop,Zv,Zq,Zp,ev,sput,Zt,Zy,Ya,unK,Zd,Zw,Nat.reduceBEq,Nat.reduceAdd,Int.reduceBEq,Int.reduceBNe,Int.reduceLT,Zu,Zz,tup,tyf]
 refine hN23 [(0,v),(1,Zx x),(4,.slice none 0 0),(5,.int .i64 0)] _ _ ?_ (by simp (maxSteps:=2000000) only [↓Za,↓Zk,↓Zr,↓Ze,↓Zm,↓Zs,↓Zf,↓Zh,↓Zg,↓Zc,↓Zb,↓vdn,vup,Zn,Zl,Zo,Zi,Zj,List.map_cons,List.map_nil,cond_true,cond_false,aop,Zv,Zq,Zp,ev,sput,Zt,Zy,Ya,unK,Zd,Zw,Nat.reduceBEq,Nat.reduceAdd,Int.reduceBEq,Int.reduceBNe,Int.reduceLT,Zu,Zz,tup,tyf])
 clear hN23
 try clear N23
 refine Yb fun N24 hN24=>?_
 simp (maxSteps:=2000000) only [s11,↓Za,↓Zk,↓Zr,↓Ze,↓Zm,↓Zs,↓Zf,↓Zh,↓Zg,↓Zc,↓Zb,↓vdn,vup,Zn,Zl,Zo,Zi,Zj,List.map_cons,List.map_nil,cond_true,cond_false,aop,Zv,Zq,Zp,ev,sput,Zt,Zy,Ya,unK,Zd,Zw,Nat.reduceBEq,Nat.reduceAdd,Int.reduceBEq,Int.reduceBNe,Int.reduceLT,Zu,Zz,tup,tyf]
 refine hN24 [(0,v),(1,Zx x),(4,.slice none 0 0),(5,.int .i64 0),(6,v)] _ _ ?_ (by simp (maxSteps:=2000000) only [↓Za,↓Zk,↓Zr,↓Ze,↓Zm,↓Zs,↓Zf,↓Zh,↓Zg,↓Zc,↓Zb,↓vdn,vup,Zn,Zl,Zo,Zi,Zj,List.map_cons,List.map_nil,cond_true,cond_false,aop,Zv,Zq,Zp,ev,sput,Zt,Zy,Ya,unK,Zd,Zw,Nat.reduceBEq,Nat.reduceAdd,Int.reduceBEq,Int.reduceBNe,Int.reduceLT,Zu,Zz,tup,tyf])
 clear hN24
 try clear N24
 refine Ye fun M hM=>?_
 refine Yb fun N25 hN25=>?_
 simp (maxSteps:=2000000) only [s11,↓Za,↓Zk,↓Zr,↓Ze,↓Zm,↓Zs,↓Zf,↓Zh,↓Zg,↓Zc,↓Zb,↓vdn,vup,Zn,Zl,Zo,Zi,Zj,List.map_cons,List.map_nil,cond_true,cond_false,aop,Zv,Zq,Zp,ev,sput,Zt,Zy,Ya,unK,Zd,Zw,Nat.reduceBEq,Nat.reduceAdd,Int.reduceBEq,Int.reduceBNe,Int.reduceLT,Zu,Zz,tup,tyf,Yz,List.nil_append,List.append_nil,List.toList_toArray,List.cons_append]
 refine (isvalue_call hv ht hx).mono ?_
 rintro _ h1 ⟨rfl,hE1⟩
 simp (maxSteps:=2000000) only [s11,↓Za,↓Zk,↓Zr,↓Ze,↓Zm,↓Zs,↓Zf,↓Zh,↓Zg,↓Zc,↓Zb,↓vdn,vup,Zn,Zl,Zo,Zi,Zj,List.map_cons,List.map_nil,cond_true,cond_false,aop,Zv,Zq,Zp,ev,sput,Zt,Zy,Ya,unK,Zd,Zw,Nat.reduceBEq,Nat.reduceAdd,Int.reduceBEq,Int.reduceBNe,Int.reduceLT,Zu,Zz,tup,tyf,Bool.not_true]
 refine hN25 [(0,v),(1,Zx x),(4,.slice none 0 0),(5,.int .i64 0),(6,v),(18,.bool false)] _ _ ?_ (by simp (maxSteps:=2000000) only [↓Za,↓Zk,↓Zr,↓Ze,↓Zm,↓Zs,↓Zf,↓Zh,↓Zg,↓Zc,↓Zb,↓vdn,vup,Zn,Zl,Zo,Zi,Zj,List.map_cons,List.map_nil,cond_true,cond_false,aop,Zv,Zq,Zp,ev,sput,Zt,Zy,Ya,unK,Zd,Zw,Nat.reduceBEq,Nat.reduceAdd,Int.reduceBEq,Int.reduceBNe,Int.reduceLT,Zu,Zz,tup,tyf])
 clear hN25
 try clear N25
 refine Yq rfl ?_
 refine Yd ?_
 simp (maxSteps:=2000000) only [s11,↓Za,↓Zk,↓Zr,↓Ze,↓Zm,↓Zs,↓Zf,↓Zh,↓Zg,↓Zc,↓Zb,↓vdn,vup,Zn,Zl,Zo,Zi,Zj,List.map_cons,List.map_nil,cond_true,cond_false,aop,Zv,Zq,Zp,ev,sput,Zt,Zy,Ya,unK,Zd,Zw,Nat.reduceBEq,Nat.reduceAdd,Int.reduceBEq,Int.reduceBNe,Int.reduceLT,Zu,Zz,tup,tyf]
 refine hM [(0,v),(1,Zx x),(4,.slice none 0 0),(5,.int .i64 0),(6,v)] _ _ ?_ (by simp (maxSteps:=2000000) only [↓Za,↓Zk,↓Zr,↓Ze,↓Zm,↓Zs,↓Zf,↓Zh,↓Zg,↓Zc,↓Zb,↓vdn,vup,Zn,Zl,Zo,Zi,Zj,List.map_cons,List.map_nil,cond_true,cond_false,aop,Zv,Zq,Zp,ev,sput,Zt,Zy,Ya,unK,Zd,Zw,Nat.reduceBEq,Nat.reduceAdd,Int.reduceBEq,Int.reduceBNe,Int.reduceLT,Zu,Zz,tup,tyf])
 clear hM
 try clear M
 refine Yb fun N26 hN26=>?_
 simp (maxSteps:=2000000) only [s11,↓Za,↓Zk,↓Zr,↓Ze,↓Zm,↓Zs,↓Zf,↓Zh,↓Zg,↓Zc,↓Zb,↓vdn,vup,Zn,Zl,Zo,Zi,Zj,List.map_cons,List.map_nil,cond_true,cond_false,aop,Zv,Zq,Zp,ev,sput,Zt,Zy,Ya,unK,Zd,Zw,Nat.reduceBEq,Nat.reduceAdd,Int.reduceBEq,Int.reduceBNe,Int.reduceLT,Zu,Zz,tup,tyf,Yz,List.nil_append,List.append_nil,List.toList_toArray,List.cons_append]
 refine (greatest_call (hv.ext hE1) ht hx).mono ?_
 rintro sv h2 s2
 simp (maxSteps:=2000000) only [s11,↓Za,↓Zk,↓Zr,↓Ze,↓Zm,↓Zs,↓Zf,↓Zh,↓Zg,↓Zc,↓Zb,↓vdn,vup,Zn,Zl,Zo,Zi,Zj,List.map_cons,List.map_nil,cond_true,cond_false,aop,Zv,Zq,Zp,ev,sput,Zt,Zy,Ya,unK,Zd,Zw,Nat.reduceBEq,Nat.reduceAdd,Int.reduceBEq,Int.reduceBNe,Int.reduceLT,Zu,Zz,tup,tyf,Xx,Xd,zero_77,storeN shp_77 (OwnP_one s2.own)]
 have hE3:Ext (fun _=>False) h2 (h2++[Blk.cells [sv] 77 false]):=Ext.app _ _ _
 have c7:=Yj h2 (Blk.cells [sv] 77 false)
 have hsl:=s2.own.pair.ext hE3
 have hEH:=(hE1.trans s2.ext).trans hE3
 generalize h2++[Blk.cells [sv] 77 false]=H at hE3 c7 hsl hEH ⊢
 generalize h2.length=b7 at c7 ⊢
 refine hN26 [(0,v),(1,Zx x),(4,.slice none 0 0),(5,.int .i64 0),(6,v),(7,pt b7)] _ _ ?_ (by simp (maxSteps:=2000000) only [↓Za,↓Zk,↓Zr,↓Ze,↓Zm,↓Zs,↓Zf,↓Zh,↓Zg,↓Zc,↓Zb,↓vdn,vup,Zn,Zl,Zo,Zi,Zj,List.map_cons,List.map_nil,cond_true,cond_false,aop,Zv,Zq,Zp,ev,sput,Zt,Zy,Ya,unK,Zd,Zw,Nat.reduceBEq,Nat.reduceAdd,Int.reduceBEq,Int.reduceBNe,Int.reduceLT,Zu,Zz,tup,tyf])
 clear hN26
 try clear N26
 clear s2 hE3
 have l1:(H++[Blk.cells [.slice none 0 0] 77 false]).length=H.length+1:=by simp
 refine Yb fun N27 hN27=>?_
 simp (maxSteps:=2000000) only [s11,↓Za,↓Zk,↓Zr,↓Ze,↓Zm,↓Zs,↓Zf,↓Zh,↓Zg,↓Zc,↓Zb,↓vdn,vup,Zn,Zl,Zo,Zi,Zj,List.map_cons,List.map_nil,cond_true,cond_false,aop,Zv,Zq,Zp,ev,sput,Zt,Zy,Ya,unK,Zd,Zw,Nat.reduceBEq,Nat.reduceAdd,Int.reduceBEq,Int.reduceBNe,Int.reduceLT,Zu,Zz,tup,tyf,Xx,Xd,zero_77]
 refine hN27 [(0,v),(1,Zx x),(4,.slice none 0 0),(5,.int .i64 0),(6,v),(7,pt b7),(8,pt H.length)] _ _ ?_ (by simp (maxSteps:=2000000) only [↓Za,↓Zk,↓Zr,↓Ze,↓Zm,↓Zs,↓Zf,↓Zh,↓Zg,↓Zc,↓Zb,↓vdn,vup,Zn,Zl,Zo,Zi,Zj,List.map_cons,List.map_nil,cond_true,cond_false,aop,Zv,Zq,Zp,ev,sput,Zt,Zy,Ya,unK,Zd,Zw,Nat.reduceBEq,Nat.reduceAdd,Int.reduceBEq,Int.reduceBNe,Int.reduceLT,Zu,Zz,tup,tyf])
 clear hN27
 try clear N27
 refine Yb fun N28 hN28=>?_
 simp (maxSteps:=2000000) only [s11,↓Za,↓Zk,↓Zr,↓Ze,↓Zm,↓Zs,↓Zf,↓Zh,↓Zg,↓Zc,↓Zb,↓vdn,vup,Zn,Zl,Zo,Zi,Zj,List.map_cons,List.map_nil,cond_true,cond_false,aop,Zv,Zq,Zp,ev,sput,Zt,Zy,Ya,unK,Zd,Zw,Nat.reduceBEq,Nat.reduceAdd,Int.reduceBEq,Int.reduceBNe,Int.reduceLT,Zu,Zz,tup,tyf,Xx,Xd,zero_79,l1]
 refine hN28 [(0,v),(1,Zx x),(4,.slice none 0 0),(5,.int .i64 0),(6,v),(7,pt b7),(8,pt H.length),(9,pt (H.length+1))] _ _ ?_ (by simp (maxSteps:=2000000) only [↓Za,↓Zk,↓Zr,↓Ze,↓Zm,↓Zs,↓Zf,↓Zh,↓Zg,↓Zc,↓Zb,↓vdn,vup,Zn,Zl,Zo,Zi,Zj,List.map_cons,List.map_nil,cond_true,cond_false,aop,Zv,Zq,Zp,ev,sput,Zt,Zy,Ya,unK,Zd,Zw,Nat.reduceBEq,Nat.reduceAdd,Int.reduceBEq,Int.reduceBNe,Int.reduceLT,Zu,Zz,tup,tyf])
 clear hN28
 try clear N28
 have g8:=Xi (Yj H (Blk.cells [.slice none 0 0] 77 false)) [Blk.cells [.nilFunc] 79 false]
 have g9:=Yj (H++[Blk.cells [.slice none 0 0] 77 false]) (Blk.cells [.nilFunc] 79 false)
 rw [l1] at g9
 have hEZ:Ext (fun _=>False) H (H++[Blk.cells [.slice none 0 0] 77 false]++[Blk.cells [.nilFunc] 79 false]):=by rw [List.append_assoc]; exact Ext.app _ _ _
 generalize H++[Blk.cells [.slice none 0 0] 77 false]++[Blk.cells [.nilFunc] 79 false]=Z at g8 g9 hEZ ⊢
 refine Yb fun N29 hN29=>?_
 simp (maxSteps:=2000000) only [s11,↓Za,↓Zk,↓Zr,↓Ze,↓Zm,↓Zs,↓Zf,↓Zh,↓Zg,↓Zc,↓Zb,↓vdn,vup,Zn,Zl,Zo,Zi,Zj,List.map_cons,List.map_nil,cond_true,cond_false,aop,Zv,Zq,Zp,ev,sput,Zt,Zy,Ya,unK,Zd,Zw,Nat.reduceBEq,Nat.reduceAdd,Int.reduceBEq,Int.reduceBNe,Int.reduceLT,Zu,Zz,tup,tyf,List.map_toArray]
 show Xu prog Z 79 (pt (H.length+1)) (gcV H.length b7) _
 rw [store1 g9 shp_79 rfl]
 have s0:CS H H.length b7 [] (.slice none 0 0) (Z.set (H.length+1) (Blk.cells [gcV H.length b7] 79 false)) :=
  ⟨⟨by rw [List.length_set]; exact hEZ.1,fun q hq _=>by rw [List.getElem?_set_ne (by omega)]; exact hEZ.2 q hq id⟩,Nat.le_refl _,by rw [List.getElem?_set_ne (by omega)]; exact g8,Xy (Yp g9) _,.inl ⟨rfl,rfl⟩,nofun⟩
 generalize Z.set (H.length+1) (Blk.cells [gcV H.length b7] 79 false)=z at s0 ⊢
 refine hN29 [(0,v),(1,Zx x),(4,.slice none 0 0),(5,.int .i64 0),(6,v),(7,pt b7),(8,pt H.length),(9,pt (H.length+1))] _ _ ?_ (by simp (maxSteps:=2000000) only [↓Za,↓Zk,↓Zr,↓Ze,↓Zm,↓Zs,↓Zf,↓Zh,↓Zg,↓Zc,↓Zb,↓vdn,vup,Zn,Zl,Zo,Zi,Zj,List.map_cons,List.map_nil,cond_true,cond_false,aop,Zv,Zq,Zp,ev,sput,Zt,Zy,Ya,unK,Zd,Zw,Nat.reduceBEq,Nat.reduceAdd,Int.reduceBEq,Int.reduceBNe,Int.reduceLT,Zu,Zz,tup,tyf])
 clear hN29
 try clear N29
 have hH:CH H t sv (grR t x) b7:=⟨ht,hsl,c7,fun q hq=>⟨(grR_mem ht hq).1,(grR_mem ht hq).2.1⟩,grR_len ht⟩
 have hcv:=grR_cvd ht hx
 have hel:(entL t x).length≤16:=by
  have:=ents_len ht x t.length
  have:=ht.n4
  unfold entL; omega
 refine Ye fun M hM=>?_
 refine Yb fun N30 hN30=>?_
 simp (maxSteps:=2000000) only [s11,↓Za,↓Zk,↓Zr,↓Ze,↓Zm,↓Zs,↓Zf,↓Zh,↓Zg,↓Zc,↓Zb,↓vdn,vup,Zn,Zl,Zo,Zi,Zj,List.map_cons,List.map_nil,cond_true,cond_false,aop,Zv,Zq,Zp,ev,sput,Zt,Zy,Ya,unK,Zd,Zw,Nat.reduceBEq,Nat.reduceAdd,Int.reduceBEq,Int.reduceBNe,Int.reduceLT,Zu,Zz,tup,tyf]
 refine hN30 [(0,v),(1,Zx x),(4,.slice none 0 0),(5,.int .i64 0),(6,v),(7,pt b7),(8,pt H.length),(9,pt (H.length+1)),(10,.int .i64 0)] _ _ ?_ (by simp (maxSteps:=2000000) only [↓Za,↓Zk,↓Zr,↓Ze,↓Zm,↓Zs,↓Zf,↓Zh,↓Zg,↓Zc,↓Zb,↓vdn,vup,Zn,Zl,Zo,Zi,Zj,List.map_cons,List.map_nil,cond_true,cond_false,aop,Zv,Zq,Zp,ev,sput,Zt,Zy,Ya,unK,Zd,Zw,Nat.reduceBEq,Nat.reduceAdd,Int.reduceBEq,Int.reduceBNe,Int.reduceLT,Zu,Zz,tup,tyf])
 clear hN30
 try clear N30
 refine Yh ?_
 refine Yf fun Q hQ=>?_
 refine Xh (γ:=Nat×Value×Yc) (fun g=>g.1≤16∧CS H H.length b7 [] g.2.1 g.2.2)
  (fun g=>([(0,v),(1,Zx x),(4,.slice none 0 0),(5,.int .i64 0),(6,v),(7,pt b7),(8,pt H.length),(9,pt (H.length+1)),(10,Zx (g.1:Nat))],g.2.2)) (fun g=>17-g.1) (0,.slice none 0 0,z) ⟨by omega,s0⟩ (by simp (maxSteps:=2000000) only [↓Za,↓Zk,↓Zr,↓Ze,↓Zm,↓Zs,↓Zf,↓Zh,↓Zg,↓Zc,↓Zb,↓vdn,vup,Zn,Zl,Zo,Zi,Zj,List.map_cons,List.map_nil,cond_true,cond_false,aop,Zv,Zq,Zp,ev,sput,Zt,Zy,Ya,unK,Zd,Zw,Nat.reduceBEq,Nat.reduceAdd,Int.reduceBEq,Int.reduceBNe,Int.reduceLT,Zu,Zz,tup,tyf,Int.natCast_zero]) rfl ?_
 rintro ⟨k,ov,y⟩ ⟨hk,s⟩
 simp only at hk s
 refine Yf fun Q2 hQ2=>?_
 simp only [l11_0]
 refine Ye fun A hA=>?_
 refine Yb fun N31 hN31=>?_
 simp only [q11_9]
 obtain ⟨lv,y2,hdet,s2⟩:=entries_det (x:=x) ((hv.ext hEH).ext s.ext) ht
 refine aw_drawR (fun z=>z[H.length+1]? = some (.cells [gcV H.length b7] 79 false)) [(0,5),(5,4)] (by kernel_rfl) (by kernel_rfl) (by kernel_rfl) (by kernel_rfl) s.c9 ?_
 simp (maxSteps:=2000000) only [s11,↓Za,↓Zk,↓Zr,↓Ze,↓Zm,↓Zs,↓Zf,↓Zh,↓Zg,↓Zc,↓Zb,↓vdn,vup,Zn,Zl,Zo,Zi,Zj,List.map_cons,List.map_nil,cond_true,cond_false,aop,Zv,Zq,Zp,ev,sput,Zt,Zy,Ya,unK,Zd,Zw,Nat.reduceBEq,Nat.reduceAdd,Int.reduceBEq,Int.reduceBNe,Int.reduceLT,Zu,Zz,tup,tyf]
 refine ⟨gcV H.length b7,fun hp hhp=>by simp only [Xa hhp shp_79,true_and],?_⟩
 simp (maxSteps:=2000000) only [s11,↓Za,↓Zk,↓Zr,↓Ze,↓Zm,↓Zs,↓Zf,↓Zh,↓Zg,↓Zc,↓Zb,↓vdn,vup,Zn,Zl,Zo,Zi,Zj,List.map_cons,List.map_nil,cond_true,cond_false,aop,Zv,Zq,Zp,ev,sput,Zt,Zy,Ya,unK,Zd,Zw,Nat.reduceBEq,Nat.reduceAdd,Int.reduceBEq,Int.reduceBNe,Int.reduceLT,Zu,Zz,tup,tyf,Yz,List.nil_append,List.append_nil,List.toList_toArray,List.cons_append]
 have s3:=s.more s2.ext
 refine ⟨_,_,hdet,s3.c9,?_⟩
 simp (maxSteps:=2000000) only [s11,↓Za,↓Zk,↓Zr,↓Ze,↓Zm,↓Zs,↓Zf,↓Zh,↓Zg,↓Zc,↓Zb,↓vdn,vup,Zn,Zl,Zo,Zi,Zj,List.map_cons,List.map_nil,cond_true,cond_false,aop,Zv,Zq,Zp,ev,sput,Zt,Zy,Ya,unK,Zd,Zw,Nat.reduceBEq,Nat.reduceAdd,Int.reduceBEq,Int.reduceBNe,Int.reduceLT,Zu,Zz,tup,tyf,Yz,List.nil_append,List.append_nil,List.toList_toArray,List.cons_append,gcV]
 refine (growC_all hH k (entL t x) [] ov lv y2 s3 s2.own (fun b h1 h2=>by have:=s2.new b h1; have:=s.own.lt h2; omega) (fun p hp=>(entL_in ht hp).1) hel (by simp; omega)).mono ?_
 rintro _ y3 ⟨bb,ov3,out3,rfl,s4,_,_,ht4,hf4⟩
 refine ⟨s4.c9,?_⟩
 simp (maxSteps:=2000000) only [s11,↓Za,↓Zk,↓Zr,↓Ze,↓Zm,↓Zs,↓Zf,↓Zh,↓Zg,↓Zc,↓Zb,↓vdn,vup,Zn,Zl,Zo,Zi,Zj,List.map_cons,List.map_nil,cond_true,cond_false,aop,Zv,Zq,Zp,ev,sput,Zt,Zy,Ya,unK,Zd,Zw,Nat.reduceBEq,Nat.reduceAdd,Int.reduceBEq,Int.reduceBNe,Int.reduceLT,Zu,Zz,tup,tyf]
 refine hN31 [(0,v),(1,Zx x),(4,.slice none 0 0),(5,.int .i64 0),(6,v),(7,pt b7),(8,pt H.length),(9,pt (H.length+1)),(10,Zx (k:Nat)),(29,.bool (!bb))] _ _ ?_ (by simp (maxSteps:=2000000) only [↓Za,↓Zk,↓Zr,↓Ze,↓Zm,↓Zs,↓Zf,↓Zh,↓Zg,↓Zc,↓Zb,↓vdn,vup,Zn,Zl,Zo,Zi,Zj,List.map_cons,List.map_nil,cond_true,cond_false,aop,Zv,Zq,Zp,ev,sput,Zt,Zy,Ya,unK,Zd,Zw,Nat.reduceBEq,Nat.reduceAdd,Int.reduceBEq,Int.reduceBNe,Int.reduceLT,Zu,Zz,tup,tyf])
 clear hN31
 try clear N31
 cases bb with
 | false =>
   refine Xe rfl ?_
   refine Yd ?_
   simp (maxSteps:=2000000) only [s11,↓Za,↓Zk,↓Zr,↓Ze,↓Zm,↓Zs,↓Zf,↓Zh,↓Zg,↓Zc,↓Zb,↓vdn,vup,Zn,Zl,Zo,Zi,Zj,List.map_cons,List.map_nil,cond_true,cond_false,aop,Zv,Zq,Zp,ev,sput,Zt,Zy,Ya,unK,Zd,Zw,Nat.reduceBEq,Nat.reduceAdd,Int.reduceBEq,Int.reduceBNe,Int.reduceLT,Zu,Zz,tup,tyf]
   refine hA [(0,v),(1,Zx x),(4,.slice none 0 0),(5,.int .i64 0),(6,v),(7,pt b7),(8,pt H.length),(9,pt (H.length+1)),(10,Zx (k:Nat))] _ _ ?_ (by simp (maxSteps:=2000000) only [↓Za,↓Zk,↓Zr,↓Ze,↓Zm,↓Zs,↓Zf,↓Zh,↓Zg,↓Zc,↓Zb,↓vdn,vup,Zn,Zl,Zo,Zi,Zj,List.map_cons,List.map_nil,cond_true,cond_false,aop,Zv,Zq,Zp,ev,sput,Zt,Zy,Ya,unK,Zd,Zw,Nat.reduceBEq,Nat.reduceAdd,Int.reduceBEq,Int.reduceBNe,Int.reduceLT,Zu,Zz,tup,tyf])
   clear hA
   try clear A
   obtain ⟨rfl,hno⟩:=hf4 rfl
   have hk2:k+1≤16:=Nat.le_of_not_lt fun hc=>hno ⟨by omega,hcv⟩
   refine Yd ?_
   simp (maxSteps:=2000000) only [s11,↓Za,↓Zk,↓Zr,↓Ze,↓Zm,↓Zs,↓Zf,↓Zh,↓Zg,↓Zc,↓Zb,↓vdn,vup,Zn,Zl,Zo,Zi,Zj,List.map_cons,List.map_nil,cond_true,cond_false,aop,Zv,Zq,Zp,ev,sput,Zt,Zy,Ya,unK,Zd,Zw,Nat.reduceBEq,Nat.reduceAdd,Int.reduceBEq,Int.reduceBNe,Int.reduceLT,Zu,Zz,tup,tyf,Vd (show k<9223372036854775807 by omega)]
   exact hQ2 _ _ _ ⟨(k+1,ov3,y3),⟨hk2,s4⟩,by simp only; omega,by simp (maxSteps:=2000000) only [↓Za,↓Zk,↓Zr,↓Ze,↓Zm,↓Zs,↓Zf,↓Zh,↓Zg,↓Zc,↓Zb,↓vdn,vup,Zn,Zl,Zo,Zi,Zj,List.map_cons,List.map_nil,cond_true,cond_false,aop,Zv,Zq,Zp,ev,sput,Zt,Zy,Ya,unK,Zd,Zw,Nat.reduceBEq,Nat.reduceAdd,Int.reduceBEq,Int.reduceBNe,Int.reduceLT,Zu,Zz,tup,tyf],rfl⟩
 | true =>
   refine Yq rfl ?_
   refine Yd ?_
   simp (maxSteps:=2000000) only [s11,↓Za,↓Zk,↓Zr,↓Ze,↓Zm,↓Zs,↓Zf,↓Zh,↓Zg,↓Zc,↓Zb,↓vdn,vup,Zn,Zl,Zo,Zi,Zj,List.map_cons,List.map_nil,cond_true,cond_false,aop,Zv,Zq,Zp,ev,sput,Zt,Zy,Ya,unK,Zd,Zw,Nat.reduceBEq,Nat.reduceAdd,Int.reduceBEq,Int.reduceBNe,Int.reduceLT,Zu,Zz,tup,tyf]
   obtain ⟨l,he,hll,hls,hlc⟩:=ht4 rfl
   rw [List.nil_append] at he
   rw [he] at s4
   refine hQ2 _ _ _ (hQ _ _ _ ?_)
   simp (maxSteps:=2000000) only [s11,↓Za,↓Zk,↓Zr,↓Ze,↓Zm,↓Zs,↓Zf,↓Zh,↓Zg,↓Zc,↓Zb,↓vdn,vup,Zn,Zl,Zo,Zi,Zj,List.map_cons,List.map_nil,cond_true,cond_false,aop,Zv,Zq,Zp,ev,sput,Zt,Zy,Ya,unK,Zd,Zw,Nat.reduceBEq,Nat.reduceAdd,Int.reduceBEq,Int.reduceBNe,Int.reduceLT,Zu,Zz,tup,tyf,if_true]
   refine hM [(8,pt H.length)] _ _ ?_ (by simp (maxSteps:=2000000) only [↓Za,↓Zk,↓Zr,↓Ze,↓Zm,↓Zs,↓Zf,↓Zh,↓Zg,↓Zc,↓Zb,↓vdn,vup,Zn,Zl,Zo,Zi,Zj,List.map_cons,List.map_nil,cond_true,cond_false,aop,Zv,Zq,Zp,ev,sput,Zt,Zy,Ya,unK,Zd,Zw,Nat.reduceBEq,Nat.reduceAdd,Int.reduceBEq,Int.reduceBNe,Int.reduceLT,Zu,Zz,tup,tyf])
   clear hM
   try clear M
   refine pairs_out s4 (by omega) ?_
   intro w y4 s5
   exact ⟨w,l,rfl,s5.own,hls,hlc,(hEH.trans s4.ext).trans s5.ext⟩
end Go.Proofs.Tryd.Am.Tf
namespace Sr
def al (ok:Nat→Nat→Bool):List Nat→(Nat→Bool)→Nat
 | [],_=>0
 | c::r,p=>max (al ok r p) (if p c=true then 1+al ok r (fun x=>p x&&ok c x) else 0)
def Ind (ok:Nat→Nat→Bool) (l:List Nat) (q:Nat→Bool):Prop:=∀ i∈l,∀ j∈l,i≠j→q i=true→q j=true→ok i j=true
variable {ok:Nat→Nat→Bool}
theorem al_congr : ∀ (l:List Nat) {p q:Nat→Bool},(∀ x∈l,p x=q x)→al ok l p=al ok l q
 | [],_,_,_=>rfl
 | c::r,p,q,h=>by
   rw [al,al,al_congr r fun x hx=>h x (by simp [hx]),h c (by simp),al_congr r (p:=fun x=>p x&&ok c x) (q:=fun x=>q x&&ok c x) fun x hx=>by rw [h x (by simp [hx])]]
theorem al_upper : ∀ (l:List Nat) (p q:Nat→Bool),l.Nodup→Ind ok l q→(∀ i∈l,q i=true→p i=true)→l.countP q≤al ok l p
 | [],_,_,_,_,_=>by simp
 | c::r,p,q,hn,hi,hp=>by
   have hn':=List.nodup_cons.1 hn
   have hir:Ind ok r q:=fun i h1 j h2=>hi i (by simp [h1]) j (by simp [h2])
   rw [al,List.countP_cons]
   cases hc:q c with
   | false =>
     have:=al_upper r p q hn'.2 hir fun i h1=>hp i (by simp [h1])
     simp; omega
   | true =>
     have h1:=hp c (by simp) hc
     have:=al_upper r (fun x=>p x&&ok c x) q hn'.2 hir fun i h2 h3=>by
      rw [hp i (by simp [h2]) h3,hi c (by simp) i (by simp [h2]) (fun e=>hn'.1 (e▸h2)) hc h3]; rfl
     rw [if_pos h1]; simp; omega
theorem al_has (hs : ∀ i j,ok i j=ok j i) : ∀ (l:List Nat) (p:Nat→Bool),l.Nodup→∃ q:Nat→Bool,Ind ok l q∧(∀ i,q i=true→i∈l∧p i=true)∧l.countP q=al ok l p
 | [],p,_=>⟨fun _=>false,fun i h=>by simp at h,fun i h=>by simp at h,rfl⟩
 | c::r,p,hn=>by
   have hn':=List.nodup_cons.1 hn
   obtain ⟨q1,a1,b1,c1⟩:=al_has hs r p hn'.2
   obtain ⟨q2,a2,b2,c2⟩:=al_has hs r (fun x=>p x&&ok c x) hn'.2
   by_cases hc:p c=true∧al ok r p<1+al ok r (fun x=>p x&&ok c x)
   · refine ⟨fun x=>q2 x || x==c,?_,?_,?_⟩
     · intro i hi j hj hne h1 h2
       simp only [Bool.or_eq_true,beq_iff_eq] at h1 h2
       rcases h1 with h1 | h1 <;> rcases h2 with h2 | h2
       · exact a2 i (b2 i h1).1 j (b2 j h2).1 hne h1 h2
       · subst h2; have:=(b2 i h1).2; simp at this; rw [hs]; exact this.2
       · subst h1; have:=(b2 j h2).2; simp at this; exact this.2
       · subst h1 h2; exact absurd rfl hne
     · intro i h1
       simp only [Bool.or_eq_true,beq_iff_eq] at h1
       rcases h1 with h1 | h1
       · have:=b2 i h1; simp at this; exact ⟨by simp [this.1],this.2.1⟩
       · subst h1; exact ⟨by simp,hc.1⟩
     · rw [al,if_pos hc.1,List.countP_cons]
       have:r.countP (fun x=>q2 x || x==c)=r.countP q2:=List.countP_congr fun x hx=>by
        have:x≠c:=fun e=>hn'.1 (e▸hx)
        simp [this]
       rw [this,c2]; simp; omega
   · refine ⟨q1,?_,fun i h=>⟨by simp [(b1 i h).1],(b1 i h).2⟩,?_⟩
     · intro i hi j hj hne h1 h2
       exact a1 i (b1 i h1).1 j (b1 j h2).1 hne h1 h2
     · have hq:q1 c=false:=by
        cases h:q1 c with
        | false=>rfl
        | true=>exact absurd (b1 c h).1 hn'.1
       rw [al,List.countP_cons,hq,c1]
       by_cases h2:p c=true
       · have : ¬ al ok r p<1+al ok r (fun x=>p x&&ok c x):=fun h=>hc ⟨h2,h⟩
         rw [if_pos h2]; simp; omega
       · rw [if_neg h2]; simp
theorem Wz (q:Nat→Bool) {v:Nat} : ∀ (l:List Nat),l.Nodup→v∈l→q v=true→l.countP q=l.countP (fun x=>q x&&x != v)+1
 | [],_,h,_=>by simp at h
 | c::r,hn,hv,hq=>by
   have hn':=List.nodup_cons.1 hn
   rw [List.countP_cons,List.countP_cons]
   by_cases hc:c=v
   · subst hc
     have:r.countP (fun x=>q x&&x != c)=r.countP q:=List.countP_congr fun x hx=>by
      have:x≠c:=fun e=>hn'.1 (e▸hx)
      simp [this]
     rw [this,hq]; simp
   · have hv' : v∈r:=by simpa [Ne.symm hc] using hv
     rw [Wz q r hn'.2 hv' hq]
     have:(c != v)=true:=by simp [hc]
     rw [this,Bool.and_true]; split <;> omega
section
variable {l:List Nat} {p:Nat→Bool} {v:Nat}
theorem al_mono (hs : ∀ i j,ok i j=ok j i) (hn:l.Nodup) {p' : Nat→Bool} (h : ∀ i∈l,p i=true→p' i=true):al ok l p≤al ok l p':=by
 obtain ⟨q,a,b,c⟩:=al_has hs l p hn
 rw [← c]; exact al_upper l p' q hn a fun i hi hq=>h i hi (b i hq).2
theorem al_with (hs : ∀ i j,ok i j=ok j i) (hn:l.Nodup) (hv:v∈l) (hp:p v=true):1+al ok l (fun x=>p x&&(x != v&&ok v x))≤al ok l p:=by
 obtain ⟨q,a,b,c⟩:=al_has hs l (fun x=>p x&&(x != v&&ok v x)) hn
 have hqv:q v=false:=by
  cases h:q v with
  | false=>rfl
  | true=>have:=(b v h).2; simp at this
 have e:l.countP (fun x=>q x || x==v)=l.countP q+1:=by
  rw [Wz (fun x=>q x || x==v) l hn hv (by simp)]
  congr 1
  refine List.countP_congr fun x hx=>?_
  by_cases hx:x=v
  · subst hx; simp [hqv]
  · simp [hx]
 rw [← c,Nat.add_comm,← e]
 refine al_upper l p _ hn ?_ ?_
 · intro i hi j hj hne h1 h2
   simp only [Bool.or_eq_true,beq_iff_eq] at h1 h2
   rcases h1 with h1 | h1 <;> rcases h2 with h2 | h2
   · exact a i hi j hj hne h1 h2
   · subst h2; have:=(b i h1).2; simp at this; rw [hs]; exact this.2.2
   · subst h1; have:=(b j h2).2; simp at this; exact this.2.2
   · subst h1 h2; exact absurd rfl hne
 · intro i hi h1
   simp only [Bool.or_eq_true,beq_iff_eq] at h1
   rcases h1 with h1 | h1
   · have:=(b i h1).2; simp at this; exact this.1
   · subst h1; exact hp
theorem al_pivot (hs : ∀ i j,ok i j=ok j i) (hn:l.Nodup) (hv:v∈l) (hp:p v=true):al ok l p=max (al ok l (fun x=>p x&&x != v)) (1+al ok l (fun x=>p x&&(x != v&&ok v x))):=by
 have h1:=al_with (ok:=ok) hs hn hv hp
 have h2:al ok l (fun x=>p x&&x != v)≤al ok l p:=al_mono hs hn fun i _ h=>by simp at h; exact h.1
 obtain ⟨q,a,b,c⟩:=al_has hs l p hn
 have h3:al ok l p≤max (al ok l (fun x=>p x&&x != v)) (1+al ok l (fun x=>p x&&(x != v&&ok v x))):=by
  rw [← c]
  cases hq:q v with
  | false =>
    have:=al_upper l (fun x=>p x&&x != v) q hn a fun i hi h=>by
     have:i≠v:=fun e=>by rw [e,hq] at h; cases h
     simp [(b i h).2,this]
    omega
  | true =>
    rw [Wz q l hn hv hq]
    have:=al_upper l (fun x=>p x&&(x != v&&ok v x)) (fun x=>q x&&x != v) hn (fun i hi j hj hne g1 g2=>by
     simp at g1 g2; exact a i hi j hj hne g1.1 g2.1) fun i hi h=>by
     simp at h
     simp [(b i h.1).2,h.2,a v hv i hi (Ne.symm h.2) hq h.1]
    omega
 omega
theorem al_one (hs : ∀ i j,ok i j=ok j i) (hn:l.Nodup) (hv:v∈l) (hp:p v=true) (hd:l.countP (fun x=>p x&&(x != v && !ok v x))≤1):al ok l p=1+al ok l (fun x=>p x&&(x != v&&ok v x)):=by
 have h1:=al_with (ok:=ok) hs hn hv hp
 have h3:al ok l p≤1+al ok l (fun x=>p x&&(x != v&&ok v x)):=by
  obtain ⟨q,a,b,c⟩:=al_has hs l p hn
  rw [← c]
  cases hq:q v with
  | true =>
    rw [Wz q l hn hv hq]
    have:=al_upper l (fun x=>p x&&(x != v&&ok v x)) (fun x=>q x&&x != v) hn (fun i hi j hj hne g1 g2=>by
     simp at g1 g2; exact a i hi j hj hne g1.1 g2.1) fun i hi h=>by
     simp at h
     simp [(b i h.1).2,h.2,a v hv i hi (Ne.symm h.2) hq h.1]
    omega
  | false =>
    by_cases hu : ∃ u∈l,q u=true∧ok v u=false
    · obtain ⟨u,hul,hqu,hou⟩:=hu
      have huv:u≠v:=fun e=>by rw [e,hq] at hqu; cases hqu
      rw [Wz q l hn hul hqu]
      have:=al_upper l (fun x=>p x&&(x != v&&ok v x)) (fun x=>q x&&x != u) hn (fun i hi j hj hne g1 g2=>by
       simp at g1 g2; exact a i hi j hj hne g1.1 g2.1) fun i hi h=>by
       simp at h
       have hiv:i≠v:=fun e=>by rw [e,hq] at h; cases h.1
       have hoi:ok v i=true:=by
        cases ho:ok v i with
        | true=>rfl
        | false =>
          have e1:=Wz (fun x=>p x&&(x != v && !ok v x)) l hn hul (by simp [(b u hqu).2,huv,hou])
          have e2:=Wz (fun x=>p x&&(x != v && !ok v x)&&x != u) l hn hi (by simp [(b i h.1).2,hiv,ho,h.2])
          omega
       simp [(b i h.1).2,hiv,hoi]
      omega
    · have:=al_upper l (fun x=>p x&&(x != v&&ok v x)) q hn a fun i hi h=>by
       have hiv:i≠v:=fun e=>by rw [e,hq] at h; cases h
       have hoi:ok v i=true:=by
        cases ho:ok v i with
        | true=>rfl
        | false=>exact absurd ⟨i,hi,h,ho⟩ hu
       simp [(b i h).2,hiv,hoi]
      omega
 omega
theorem al_none (h : ∀ i∈l,p i=false):al ok l p=0:=by
 have:al ok l p=al ok l fun _=>false:=al_congr l h
 rw [this]
 clear this h
 induction l with
 | nil=>rfl
 | cons c r ih=>simp [al,ih]
end
end Sr
namespace Sr
open Go.Am
theorem less_le (a b:Nat):Wh a b≤a:=by
 have:Wh a b &&& a=Wh a b:=by
  apply Nat.eq_of_testBit_eq; intro i
  rw [Nat.testBit_and,Yo]; cases a.testBit i <;> simp
 rw [← this]; exact Nat.and_le_right
theorem bits_len (s:Nat):(bits s).length=(List.range 64).countP s.testBit:=by rw [bits,List.countP_eq_length_filter]
def mk (p:Nat→Bool):Nat→Nat
 | 0=>0
 | k+1=>if p k=true then mk p k ||| 2 ^ k else mk p k
theorem mk_lt (p:Nat→Bool) : ∀ k,mk p k<2 ^ k
 | 0=>by simp [mk]
 | k+1=>by
   have h:=mk_lt p k
   have h2:2 ^ (k+1)=2 ^ k*2:=Nat.pow_succ ..
   rw [mk]
   split
   · exact Nat.or_lt_two_pow (by omega) (by omega)
   · omega
theorem mk_bit (p:Nat→Bool) : ∀ k i,(mk p k).testBit i=(decide (i<k)&&p i)
 | 0,i=>by simp [mk]
 | k+1,i=>by
   rw [mk]
   by_cases hp:p k=true
   · rw [if_pos hp,Nat.testBit_or,mk_bit p k i,Nat.testBit_two_pow]
     by_cases h1:i<k
     · have : ¬ k=i:=by omega
       simp [h1,this]; omega
     · by_cases h2:k=i
       · subst h2; simp [hp]
       · have : ¬ i<k+1:=by omega
         simp [h1,h2,this]
   · rw [if_neg hp,mk_bit p k i]
     by_cases h1:i<k
     · have:i<k+1:=by omega
       simp [h1,this]
     · by_cases h2:k=i
       · subst h2; simp at hp; simp [hp]
       · have : ¬ i<k+1:=by omega
         simp [h1,this]
theorem mk_zero (p:Nat→Bool):mk p 0=0:=rfl
def nb (nr:List Nat) (v:Nat):Nat:=nr.getD v 0
structure Gr (nr:List Nat):Prop where
 len:nr.length≤64
 lt : ∀ v,nb nr v<2 ^ nr.length
 irr : ∀ v,(nb nr v).testBit v=false
 sym : ∀ v x,(nb nr v).testBit x=(nb nr x).testBit v
def ok (nr:List Nat) (v x:Nat):Bool:=!(nb nr v).testBit x
def A (nr:List Nat) (s:Nat):Nat:=al (ok nr) (List.range 64) s.testBit
def cut (nr:List Nat) (s v:Nat):Nat:=Wh (Wh s (nb nr v)) (2 ^ v)
section
variable {nr:List Nat} {s v:Nat}
theorem cut_bit (x:Nat):(cut nr s v).testBit x=(s.testBit x&&(x != v&&ok nr v x)):=by
 rw [cut,Yo,Yo,Nat.testBit_two_pow,ok]
 by_cases h:v=x
 · subst h; simp
 · have:(x != v)=true:=by simp [Ne.symm h]
   simp [h,this]
theorem less_bit (x:Nat):(Wh s (2 ^ v)).testBit x=(s.testBit x&&x != v):=by
 rw [Yo,Nat.testBit_two_pow]
 by_cases h:v=x
 · subst h; simp
 · have:(x != v)=true:=by simp [Ne.symm h]
   simp [h,this]
theorem cut_or:Wh s (nb nr v ||| 2 ^ v)=cut nr s v:=by
 apply Nat.eq_of_testBit_eq; intro i
 rw [cut,Yo,Yo,Yo,Nat.testBit_or]
 cases s.testBit i <;> simp
theorem cut_swap:Wh (Wh s (2 ^ v)) (nb nr v)=cut nr s v:=by
 apply Nat.eq_of_testBit_eq; intro i
 rw [cut,Yo,Yo,Yo,Yo]
 cases s.testBit i <;> cases (nb nr v).testBit i <;> simp
theorem cut_lt {n:Nat} (h:s<2 ^ n):cut nr s v<2 ^ n:=less_lt (less_lt h)
theorem cut_less (g:Gr nr) (hv:s.testBit v=true):cut nr s v<s:=by
 have h1:(Wh s (nb nr v)).testBit v=true:=by rw [Yo,hv,g.irr]; rfl
 have h2:=less_bit_lt h1
 have h3:=less_le s (nb nr v)
 unfold cut; omega
theorem bit_lt {n:Nat} (h:s<2 ^ n) (hv:s.testBit v=true):v<n:=by
 refine Nat.lt_of_not_le fun h1=>?_
 rw [Nat.testBit_lt_two_pow (Nat.lt_of_lt_of_le h (Nat.pow_le_pow_right (by decide) h1))] at hv; cases hv
theorem ok_comm (g:Gr nr) (i j:Nat):ok nr i j=ok nr j i:=by rw [ok,ok,g.sym]
theorem A_zero:A nr 0=0:=al_none fun i _=>by simp
theorem A_pivot (g:Gr nr) (hs:s<2 ^ 64) (hv:s.testBit v=true):A nr s=max (A nr (Wh s (2 ^ v))) (1+A nr (cut nr s v)):=by
 have hl:=List.mem_range.2 (bit_lt hs hv)
 rw [A,al_pivot (ok_comm g) List.nodup_range hl hv,A,A]
 rw [al_congr (q:=(Wh s (2 ^ v)).testBit) _ fun x _=>(less_bit x).symm,al_congr (q:=(cut nr s v).testBit) _ fun x _=>(cut_bit x).symm]
theorem A_one (g:Gr nr) (hs:s<2 ^ 64) (hv:s.testBit v=true) (hd:(bits (nb nr v &&& s)).length≤1):A nr s=1+A nr (cut nr s v):=by
 have hl:=List.mem_range.2 (bit_lt hs hv)
 rw [A,al_one (ok_comm g) List.nodup_range hl hv,A,al_congr (q:=(cut nr s v).testBit) _ fun x _=>(cut_bit x).symm]
 rw [bits_len] at hd
 refine Nat.le_trans (Nat.le_of_eq ?_) hd
 refine List.countP_congr fun x _=>?_
 rw [Nat.testBit_and,ok,Bool.not_not]
 by_cases h:x=v
 · subst h; simp [g.irr]
 · have:(x != v)=true:=by simp [h]
   rw [this,Bool.true_and,Bool.and_comm]
theorem A_pos (g:Gr nr) (hs:s<2 ^ 64) (hv:s.testBit v=true):0<A nr s:=by
 rw [A_pivot g hs hv]; omega
theorem A_le (nr:List Nat) (s:Nat):A nr s≤64:=by
 have : ∀ (l:List Nat) (p:Nat→Bool),al (ok nr) l p≤l.length:=by
  intro l
  induction l with
  | nil=>intro p; simp [al]
  | cons c r ih =>
    intro p
    have h1:=ih p
    have h2:=ih fun x=>p x&&ok nr c x
    rw [al,List.length_cons]; split <;> omega
 have h:=this (List.range 64) s.testBit
 rw [List.length_range] at h; exact h
end
def cStep (nr:List Nat) (s:Nat×Nat×List Nat) (v:Nat):Nat×Nat×List Nat :=
 if s.1.testBit v=true then (if 1+A nr (cut nr s.1 v)=s.2.1 then (cut nr s.1 v,s.2.1-1,s.2.2++[v]) else (Wh s.1 (2 ^ v),s.2.1,s.2.2)) else s
def cAt (nr:List Nat) (k:Nat):Nat×Nat×List Nat:=(List.range k).foldl (cStep nr) (2 ^ nr.length-1,A nr (2 ^ nr.length-1),[])
theorem cAt_succ (nr:List Nat) (k:Nat):cAt nr (k+1)=cStep nr (cAt nr k) k:=by rw [cAt,List.range_succ,List.foldl_append]; rfl
def codeL (nr:List Nat):List Nat:=(cAt nr nr.length).2.2
theorem cAt_inv {nr:List Nat} (g:Gr nr) : ∀ k,(cAt nr k).1<2 ^ nr.length∧(cAt nr k).2.1=A nr (cAt nr k).1∧(cAt nr k).2.2.length≤k
 | 0=>by
   have:=Nat.two_pow_pos nr.length
   exact ⟨by show 2 ^ nr.length-1<_; omega,rfl,Nat.le_refl _⟩
 | k+1=>by
   obtain ⟨h1,h2,h3⟩:=cAt_inv g k
   have h64:(cAt nr k).1<2 ^ 64:=Nat.lt_of_lt_of_le h1 (Nat.pow_le_pow_right (by decide) g.len)
   rw [cAt_succ]
   generalize cAt nr k=s at h1 h2 h3 h64
   unfold cStep
   split
   · rename_i hb
     have hp:=A_pivot g h64 hb
     split
     · exact ⟨cut_lt h1,by simp only; omega,by rw [List.length_append,List.length_singleton]; omega⟩
     · exact ⟨less_lt h1,by simp only; omega,by simp only; omega⟩
   · exact ⟨h1,h2,by omega⟩
end Sr
namespace Sr
open Go.Am
def gb (xs:List Int) (i j:Nat):Bool:=(xs.getD i 0).toNat.testBit j
def cf (xs:List Int):Nat→Nat→Nat→Bool
 | 0,_,_=>true
 | k+1,a,b=>(a % xs.length==b % xs.length || gb xs (a % xs.length) (b % xs.length))&&cf xs k (a / xs.length) (b / xs.length)
def Gs (xs:List Int):Prop:=1≤xs.length∧xs.length≤6∧∀ i,i<xs.length→(0≤xs.getD i 0∧xs.getD i 0<2 ^ xs.length)∧gb xs i i=false∧∀ j,j<xs.length→gb xs i j=gb xs j i
theorem cf_comm {xs:List Int} (g:Gs xs) : ∀ k a b,cf xs k a b=cf xs k b a
 | 0,_,_=>rfl
 | k+1,a,b=>by
   have h0:0<xs.length:=g.1
   rw [cf,cf,cf_comm g k,(g.2.2 _ (Nat.mod_lt a h0)).2.2 _ (Nat.mod_lt b h0)]
   congr 2
   exact Bool.beq_comm
def wn (xs:List Int) (k:Nat):Nat:=xs.length ^ k
def nearW (xs:List Int) (k a:Nat):Nat:=mk (fun b=>a != b&&cf xs k a b) (wn xs k)
def nearL (xs:List Int) (k:Nat):List Nat:=(List.range (wn xs k)).map (nearW xs k)
theorem nearL_len (xs:List Int) (k:Nat):(nearL xs k).length=wn xs k:=by simp [nearL]
theorem nearL_get {xs:List Int} {k a:Nat} (h:a<wn xs k):nb (nearL xs k) a=nearW xs k a:=by
 rw [nb,nearL,List.getD,List.getElem?_map,List.getElem?_range h]; rfl
theorem nearL_out {xs:List Int} {k a:Nat} (h:wn xs k≤a):nb (nearL xs k) a=0:=by
 rw [nb,List.getD,List.getElem?_eq_none (by rw [nearL_len]; exact h)]; rfl
theorem nearL_bit (xs:List Int) (k a b:Nat):(nb (nearL xs k) a).testBit b=(decide (a<wn xs k)&&decide (b<wn xs k)&&(a != b&&cf xs k a b)):=by
 by_cases h:a<wn xs k
 · rw [nearL_get h,nearW,mk_bit]; simp [h]
 · rw [nearL_out (by omega)]; simp [h]
theorem nearL_gr {xs:List Int} (g:Gs xs) {k:Nat} (hk:wn xs k≤64):Gr (nearL xs k) where
 len:=by rw [nearL_len]; exact hk
 lt v:=by
  rw [nearL_len]
  by_cases h:v<wn xs k
  · rw [nearL_get h]; exact mk_lt _ _
  · rw [nearL_out (by omega)]; exact Nat.two_pow_pos _
 irr v:=by rw [nearL_bit]; simp
 sym v x:=by
  rw [nearL_bit,nearL_bit,cf_comm g]
  have:(v != x)=(x != v):=bne_comm
  rw [this,Bool.and_comm (decide (v<wn xs k))]
end Sr
namespace Go.Proofs.Tryd.Am.Tf
open Go.Proofs.Tryd.Am
open Go.Am
section
variable {α β:Type}
def mx (ok:α→α→Bool):List α→List α→Nat
 | [],_=>0
 | x::tl,now=>if (now.any fun p=>!ok p x)=true then mx ok tl now else max (mx ok tl now) (1+mx ok tl (now++[x]))
def gr (ok:α→α→Bool):List α→List α→List α
 | [],now=>now
 | x::tl,now=>if (now.any fun p=>!ok p x)=true then gr ok tl now else if mx ok tl now≤1+mx ok tl (now++[x]) then gr ok tl (now++[x]) else gr ok tl now
theorem gr_len (ok:α→α→Bool) : ∀ (l now:List α),(gr ok l now).length=now.length+mx ok l now
 | [],now=>by simp [gr,mx]
 | x::tl,now=>by
   have h1:=gr_len ok tl now
   have h2:=gr_len ok tl (now++[x])
   rw [List.length_append,List.length_singleton] at h2
   rw [gr,mx]
   split
   · exact h1
   · split <;> omega
theorem gr_pre (ok:α→α→Bool) : ∀ (l now:List α),∃ s,gr ok l now=now++s
 | [],now=>⟨[],by simp [gr]⟩
 | x::tl,now=>by
   obtain ⟨s1,h1⟩:=gr_pre ok tl now
   obtain ⟨s2,h2⟩:=gr_pre ok tl (now++[x])
   rw [gr]
   split
   · exact ⟨s1,h1⟩
   · split
     · exact ⟨x::s2,by rw [h2]; simp⟩
     · exact ⟨s1,h1⟩
theorem gr_zero {ok:α→α→Bool} {l now:List α} (h:mx ok l now=0):gr ok l now=now:=by
 obtain ⟨s,hs⟩:=gr_pre ok l now
 have:=gr_len ok l now
 rw [hs,List.length_append] at this
 rw [hs,List.length_eq_zero_iff.1 (show s.length=0 by omega),List.append_nil]
theorem gl_eq (ok:α→α→Bool) : ∀ (l now b:List α),now.length≤b.length→gl ok l now b=if b.length<now.length+mx ok l now then gr ok l now else b
 | [],now,b,h=>by
   rw [gl,mx,if_neg (by omega)]
 | x::tl,now,b,h=>by
   rw [gl,mx,gr]
   split
   · exact gl_eq ok tl now b h
   · have hl:(now++[x]).length=now.length+1:=by simp
     have hu:updB (now++[x]) b=if b.length<now.length+1 then now++[x] else b:=by rw [updB,hl]
     have g1:=gl_eq ok tl (now++[x]) (updB (now++[x]) b) (by rw [hu]; split <;> omega)
     have hg:=gr_len ok tl (now++[x])
     rw [hl] at hg
     by_cases hb:now.length+1+mx ok tl (now++[x])≤b.length
     · rw [hu,if_neg (by omega),if_neg (by omega)] at g1
       rw [hu,if_neg (by omega),g1,gl_eq ok tl now b h]
       by_cases hm:b.length<now.length+mx ok tl now
       · rw [if_pos hm,if_pos (by omega),if_neg (by omega)]
       · rw [if_neg hm,if_neg (by omega)]
     · have g2:gl ok tl (now++[x]) (updB (now++[x]) b)=gr ok tl (now++[x]):=by
        rw [g1]
        split
        · rfl
        · rename_i hn
          rw [hu,hl] at hn
          rw [hu]
          split at hn
          · rename_i h1
            rw [if_pos h1]
            rw [hl] at hn
            exact (gr_zero (by omega)).symm
          · omega
       rw [g2,gl_eq ok tl now _ (by omega),hg,if_pos (show b.length<now.length+max (mx ok tl now) (1+mx ok tl (now++[x])) by omega)]
       by_cases hm:mx ok tl now≤1+mx ok tl (now++[x])
       · rw [if_neg (by omega),if_pos hm]
       · rw [if_pos (by omega),if_neg hm]
theorem gl_gr (ok:α→α→Bool) (l:List α):gl ok l [] []=gr ok l []:=by
 rw [gl_eq ok l [] [] (Nat.le_refl _)]
 split
 · rfl
 · rename_i h
   exact (gr_zero (by simp at h; omega)).symm
theorem gl_map (ok:β→β→Bool) (f:α→β) : ∀ (l now b:List α),gl ok (l.map f) (now.map f) (b.map f)=(gl (fun a c=>ok (f a) (f c)) l now b).map f
 | [],now,b=>by simp [gl]
 | x::tl,now,b=>by
   have h1:(List.map f now).any (fun p=>!ok p (f x))=now.any fun p=>!ok (f p) (f x):=by rw [List.any_map]; rfl
   have h2:List.map f now++[f x]=(now++[x]).map f:=by simp
   have h3:updB ((now++[x]).map f) (b.map f)=(updB (now++[x]) b).map f:=by
    rw [updB,updB,List.length_map,List.length_map]; split <;> rfl
   rw [List.map_cons,gl,gl,h1,h2,h3,gl_map ok f tl (now++[x])]
   split
   · exact gl_map ok f tl now b
   · exact gl_map ok f tl now _
end
open Sr in
/-- What is left for a code, as a set. -/
def LeftIs (nr:List Nat) (i:Nat) (now:List Nat) (s:Nat):Prop:=∀ j,s.testBit j=(decide (i≤j)&&decide (j<nr.length) && !(now.any fun p=>!Sr.ok nr p j))
open Sr in
theorem left_less {nr:List Nat} {i:Nat} {now:List Nat} {s:Nat} (h:LeftIs nr i now s):LeftIs nr (i+1) now (Wh s (2 ^ i)):=fun j=>by
 rw [less_bit,h j]
 by_cases hj:j=i
 · subst hj; simp [show ¬ (j+1≤j) by omega]
 · have e1:(j != i)=true:=by simp [hj]
   have e2:decide (i+1≤j)=decide (i≤j):=decide_eq_decide.2 (by omega)
   rw [e1,e2,Bool.and_true]
open Sr in
theorem left_cut {nr:List Nat} {i:Nat} {now:List Nat} {s:Nat} (h:LeftIs nr i now s):LeftIs nr (i+1) (now++[i]) (Sr.cut nr s i):=fun j=>by
 rw [cut_bit,h j]
 by_cases hj:j=i
 · subst hj; simp [show ¬ (j+1≤j) by omega]
 · have e1:(j != i)=true:=by simp [hj]
   have e2:decide (i+1≤j)=decide (i≤j):=decide_eq_decide.2 (by omega)
   rw [e1,e2,Bool.true_and,List.any_append]
   simp [Bool.and_assoc]
open Sr in
theorem left_skip {nr:List Nat} {i:Nat} {now:List Nat} {s:Nat} (h:LeftIs nr i now s) (hi:s.testBit i=false):LeftIs nr (i+1) now s:=fun j=>by
 by_cases hj:j=i
 · subst hj; rw [hi]; simp [show ¬ (j+1≤j) by omega]
 · have e2:decide (i+1≤j)=decide (i≤j):=decide_eq_decide.2 (by omega)
   rw [e2,h j]
open Sr in
theorem left_lt {nr:List Nat} {i:Nat} {now:List Nat} {s:Nat} (h:LeftIs nr i now s):s<2 ^ nr.length:=by
 refine Nat.lt_pow_two_of_testBit s fun j hj=>?_
 rw [h j]
 simp [show ¬ j<nr.length by omega]
open Sr in
theorem mx_A {nr:List Nat} (g:Gr nr) : ∀ (m i:Nat),i+m=nr.length→∀ (now:List Nat) (s:Nat),LeftIs nr i now s→mx (Sr.ok nr) (List.range' i m) now=A nr s
 | 0,i,hm,now,s,h=>by
   have:s=0:=by
    apply Nat.eq_of_testBit_eq; intro j
    rw [h j,Nat.zero_testBit]
    have : ¬ (i≤j∧j<nr.length):=by omega
    by_cases h1:i≤j
    · simp [show ¬ j<nr.length by omega]
    · simp [h1]
   rw [this,A_zero]; rfl
 | m+1,i,hm,now,s,h=>by
   rw [List.range'_succ,mx]
   have hbit:=h i
   have e1:decide (i≤i)=true:=decide_eq_true (Nat.le_refl _)
   have e2:decide (i<nr.length)=true:=decide_eq_true (by omega)
   rw [e1,e2,Bool.true_and,Bool.true_and] at hbit
   cases hany:(now.any fun p=>!Sr.ok nr p i) with
   | true =>
     rw [if_pos rfl]
     rw [hany] at hbit
     exact mx_A g m (i+1) (by omega) now s (left_skip h hbit)
   | false =>
     rw [if_neg (by decide)]
     rw [hany] at hbit
     have h64:s<2 ^ 64:=Nat.lt_of_lt_of_le (left_lt h) (Nat.pow_le_pow_right (by decide) g.len)
     rw [A_pivot g h64 hbit,mx_A g m (i+1) (by omega) now _ (left_less h),mx_A g m (i+1) (by omega) (now++[i]) _ (left_cut h)]
open Sr in
theorem code_gr {nr:List Nat} (g:Gr nr) : ∀ (m i:Nat),i+m=nr.length→LeftIs nr i (cAt nr i).2.2 (cAt nr i).1→gr (Sr.ok nr) (List.range' i m) (cAt nr i).2.2=codeL nr
 | 0,i,hm,h=>by
   obtain rfl:i=nr.length:=by omega
   rfl
 | m+1,i,hm,h=>by
   obtain ⟨i1,i2,_⟩:=cAt_inv g i
   have hs:=cAt_succ nr i
   have ih:=code_gr g m (i+1) (by omega)
   rw [List.range'_succ,gr]
   have hbit:=h i
   have e1:decide (i≤i)=true:=decide_eq_true (Nat.le_refl _)
   have e2:decide (i<nr.length)=true:=decide_eq_true (by omega)
   rw [e1,e2,Bool.true_and,Bool.true_and] at hbit
   have h64:(cAt nr i).1<2 ^ 64:=Nat.lt_of_lt_of_le i1 (Nat.pow_le_pow_right (by decide) g.len)
   generalize hc:cAt nr i=c at hs h i1 i2 hbit h64 ⊢
   cases hany:(c.2.2.any fun p=>!Sr.ok nr p i) with
   | true =>
     rw [hany] at hbit
     have e:cAt nr (i+1)=c:=by rw [hs,cStep,if_neg (by rw [hbit]; decide)]
     rw [if_pos rfl]
     rw [e] at ih
     exact ih (left_skip h hbit)
   | false =>
     rw [hany] at hbit
     rw [if_neg (by decide),mx_A g m (i+1) (by omega) _ _ (left_less h),mx_A g m (i+1) (by omega) _ _ (left_cut h)]
     have hp:=A_pivot g h64 hbit
     by_cases hq:1+A nr (Sr.cut nr c.1 i)=c.2.1
     · have e:cAt nr (i+1)=(Sr.cut nr c.1 i,c.2.1-1,c.2.2++[i]):=by rw [hs,cStep,if_pos (by rw [hbit]; rfl),if_pos hq]
       rw [if_pos (by omega)]
       rw [e] at ih
       exact ih (left_cut h)
     · have e:cAt nr (i+1)=(Wh c.1 (2 ^ i),c.2.1,c.2.2):=by rw [hs,cStep,if_pos (by rw [hbit]; rfl),if_neg hq]
       rw [if_neg (by omega)]
       rw [e] at ih
       exact ih (left_less h)
open Sr in
/-- The search finds the first code. -/
theorem gl_code {nr:List Nat} (g:Gr nr):gl (Sr.ok nr) (List.range nr.length) [] []=codeL nr:=by
 rw [gl_gr,List.range_eq_range']
 refine code_gr g nr.length 0 (by omega) fun j=>?_
 show (2 ^ nr.length-1).testBit j=_
 rw [Nat.testBit_two_pow_sub_one]; simp [cAt]
end Go.Proofs.Tryd.Am.Tf
namespace Go.Proofs.Tryd.Am.Tf
open Go.Proofs.Tryd.Am
open Go.Am
theorem gl_congr {α:Type} {ok ok' : α→α→Bool} : ∀ (l now b:List α),(∀ p∈now,∀ y∈l,ok p y=ok' p y)→l.Pairwise (fun p y=>ok p y=ok' p y)→gl ok l now b=gl ok' l now b
 | [],now,b,_,_=>rfl
 | x::tl,now,b,h,hp=>by
   obtain ⟨h1,h2⟩:=List.pairwise_cons.1 hp
   have e:(now.any fun p=>!ok p x)=now.any fun p=>!ok' p x:=by
    rw [Bool.eq_iff_iff,List.any_eq_true,List.any_eq_true]
    constructor
    · rintro ⟨p,hp,hx⟩; exact ⟨p,hp,by rw [← h p hp x (by simp)]; exact hx⟩
    · rintro ⟨p,hp,hx⟩; exact ⟨p,hp,by rw [h p hp x (by simp)]; exact hx⟩
   have g1:=fun b=>gl_congr tl now b (fun p hp y hy=>h p hp y (by simp [hy])) h2
   have g2:=fun b=>gl_congr tl (now++[x]) b (fun p hp y hy=>by
    rcases List.mem_append.1 hp with hp | hp
    · exact h p hp y (by simp [hy])
    · rw [List.mem_singleton.1 hp]; exact h1 y hy) h2
   rw [gl,gl,e,g1,g2]
theorem range_get {α:Type} (l:List α) (d:α):(List.range l.length).map (fun i=>l.getD i d)=l:=by
 apply List.ext_getElem (by simp)
 intro i h1 h2
 simp [List.getD,List.getElem?_eq_getElem h2]
open Sr in
/-- Which entries can be in one rectangle with an entry. -/
def nearOf (f:Nat→Nat→Bool) (n:Nat):List Int:=(List.range n).map fun i=>((mk (fun j=>i != j && !f i j) n:Nat):Int)
open Sr in
theorem Wn (f:Nat→Nat→Bool) (n:Nat):(nearOf f n).length=n:=by simp [nearOf]
open Sr in
theorem nearOf_get {f:Nat→Nat→Bool} {n i:Nat} (hi:i<n):(nearOf f n).getD i 0=((mk (fun j=>i != j && !f i j) n:Nat):Int):=by
 rw [nearOf,List.getD,List.getElem?_map,List.getElem?_range hi]; rfl
open Sr in
theorem nearOf_gb {f:Nat→Nat→Bool} {n i j:Nat} (hi:i<n) (hj:j<n):gb (nearOf f n) i j=(i != j && !f i j):=by
 rw [gb,nearOf_get hi,Int.toNat_natCast,mk_bit,decide_eq_true hj,Bool.true_and]
open Sr in
theorem nearOf_gs {f:Nat→Nat→Bool} {n:Nat} (hf : ∀ i j,f i j=f j i) (h1:1≤n) (h6:n≤6):Gs (nearOf f n):=by
 refine ⟨by rw [Wn]; exact h1,by rw [Wn]; exact h6,fun i hi=>?_⟩
 rw [Wn] at hi ⊢
 refine ⟨?_,?_,fun j hj=>?_⟩
 · rw [nearOf_get hi]
   have:=mk_lt (fun j=>i != j && !f i j) n
   refine ⟨by omega,?_⟩
   have h2:((2 ^ n:Nat):Int)=2 ^ n:=by simp
   rw [← h2]; omega
 · rw [nearOf_gb hi hi]; simp
 · rw [nearOf_gb hi hj,nearOf_gb hj hi,hf i j,bne_comm]
open Sr in
theorem nearOf_ok {f:Nat→Nat→Bool} {n a b:Nat} (ha:a<n) (hb:b<n) (hne:a≠b):Sr.ok (nearL (nearOf f n) 1) a b=f a b:=by
 have hw:wn (nearOf f n) 1=n:=by rw [wn,Wn,Nat.pow_one]
 have hbne:(a != b)=true:=by simp [hne]
 have hbeq:(a==b)=false:=by simp [hne]
 rw [Sr.ok,nearL_bit,hw,decide_eq_true ha,decide_eq_true hb,cf,cf,Wn,Nat.mod_eq_of_lt ha,Nat.mod_eq_of_lt hb,nearOf_gb ha hb,hbne,hbeq]
 simp
theorem foolB_comm (t:List (List Int)) (x:Int) (p q:Int×Int):Wy t x p q=Wy t x q p:=by
 rw [Wy,Wy,Bool.or_comm]
open Sr in
/-- The first greatest fooling set is the first code of the entries' signals. -/
theorem fool_code {t:List (List Int)} {x:Int} {al:List (Int×Int)} (h1:1≤al.length) (h6:al.length≤6) :
  gl (Wy t x) al [] []=(codeL (nearL (nearOf (fun i j=>Wy t x (al.getD i (0,0)) (al.getD j (0,0))) al.length) 1)).map fun i=>al.getD i (0,0):=by
 have g:=nearOf_gs (f:=fun i j=>Wy t x (al.getD i (0,0)) (al.getD j (0,0))) (fun i j=>foolB_comm _ _ _ _) h1 h6
 have hw:wn (nearOf (fun i j=>Wy t x (al.getD i (0,0)) (al.getD j (0,0))) al.length) 1=al.length:=by rw [wn,Wn,Nat.pow_one]
 have gr:=nearL_gr g (k:=1) (by rw [hw]; omega)
 have hl:(nearL (nearOf (fun i j=>Wy t x (al.getD i (0,0)) (al.getD j (0,0))) al.length) 1).length=al.length:=by rw [nearL_len,hw]
 have hc:=gl_code gr
 rw [hl] at hc
 have hm:=gl_map (Wy t x) (fun i=>al.getD i (0,0)) (List.range al.length) [] []
 rw [range_get] at hm
 rw [← hc,List.map_nil] at *
 rw [hm]
 congr 1
 refine gl_congr _ _ _ (fun p hp=>by cases hp) ?_
 refine (List.pairwise_lt_range).imp_of_mem ?_
 intro a b ha hb hab
 rw [nearOf_ok (List.mem_range.1 ha) (List.mem_range.1 hb) (by omega)]
end Go.Proofs.Tryd.Am.Tf
namespace Go.Proofs.Tryd.Am
open Go.Am
set_option maxRecDepth 100000
/-! 12: planchet sure.Code -/
@[reducible] def q12_0:SCode:=.region [⟨some 4,.assign (.const (.slice none 0 0)),none⟩,
  ⟨some 5,.assign (.const (.int .i64 0)),none⟩]
@[reducible] def q12_1:SCode:=.region [⟨some 13,.move (.tmp 0),none⟩,
  ⟨some 14,.call { callee:=.value (.func 49),args:=#[.tmp 13],argTypes:=#[84] },none⟩,
  ⟨some 15,.unOp .not 4 (.tmp 14),none⟩,
  ⟨some 16,.move (.tmp 15),none⟩,
  ⟨some 17,.move (.tmp 1),some (16,false)⟩,
  ⟨some 18,.binOp .lss 3 (.tmp 17) (.const (.int .i64 1)) 3,some (16,false)⟩,
  ⟨some 19,.pick (.tmp 16) (.const (.bool true)) (.tmp 18),none⟩,
  ⟨some 20,.move (.tmp 19),none⟩,
  ⟨some 21,.move (.tmp 1),some (20,false)⟩,
  ⟨some 22,.binOp .gtr 3 (.tmp 21) (.const (.int .i64 3)) 3,some (20,false)⟩,
  ⟨some 23,.pick (.tmp 20) (.const (.bool true)) (.tmp 22),none⟩]
@[reducible] def q12_2:SCode:=.region [⟨some 4,.assign (.const (.slice none 0 0)),none⟩,
  ⟨some 5,.assign (.const (.int .i64 2)),none⟩]
@[reducible] def q12_3:SCode:=.region [⟨some 25,.move (.tmp 0),none⟩,
  ⟨some 26,.move (.tmp 1),none⟩,
  ⟨some 27,.call { callee:=.value (.func 50),args:=#[.tmp 25,.tmp 26],argTypes:=#[84,3] },none⟩,
  ⟨some 24,.move (.tmp 27),none⟩,
  ⟨some 28,.extract (.tmp 24) 0,none⟩,
  ⟨some 29,.extract (.tmp 24) 1,none⟩,
  ⟨some 6,.assign (.tmp 28),none⟩,
  ⟨some 7,.assign (.tmp 29),none⟩]
@[reducible] def q12_4:SCode:=.region [⟨some 30,.move (.tmp 7),none⟩,
  ⟨some 31,.unOp .not 4 (.tmp 30),none⟩]
@[reducible] def q12_5:SCode:=.region [⟨some 4,.assign (.const (.slice none 0 0)),none⟩,
  ⟨some 5,.assign (.const (.int .i64 6)),none⟩]
@[reducible] def q12_6:SCode:=.region [⟨some 32,.move (.tmp 6),none⟩,
  ⟨some 33,.nilCheck (.tmp 32),none⟩,
  ⟨some 34,.fieldAddr 91 (.tmp 33) 0,none⟩,
  ⟨some 35,.load 3 (.tmp 34),none⟩,
  ⟨some 36,.binOp .sub 3 (.const (.int .i64 64)) (.tmp 35) 3,none⟩,
  ⟨some 37,.binOp .shr 88 (.const (.int .u64 18446744073709551615)) (.tmp 36) 3,none⟩,
  ⟨some 8,.assign (.tmp 37),none⟩]
@[reducible] def q12_7:SCode:=.region [⟨some 38,.move (.tmp 6),none⟩,
  ⟨some 39,.move (.tmp 8),none⟩,
  ⟨some 40,.call { callee:=.value (.func 51),args:=#[.tmp 38,.tmp 39],argTypes:=#[85,88] },none⟩,
  ⟨some 9,.assign (.tmp 40),none⟩]
@[reducible] def q12_8:SCode:=.region [⟨some 10,.assign (.const (.slice none 0 0)),none⟩]
@[reducible] def q12_9:SCode:=.region [⟨some 41,.move (.tmp 6),none⟩,
  ⟨some 42,.nilCheck (.tmp 41),none⟩,
  ⟨some 43,.fieldAddr 91 (.tmp 42) 0,none⟩,
  ⟨some 44,.load 3 (.tmp 43),none⟩,
  ⟨some 45,.move (.const (.int .i64 0)),none⟩]
@[reducible] def q12_10:SCode:=.region [⟨some 46,.binOp .lss 3 (.tmp 45) (.tmp 44) 3,none⟩]
@[reducible] def q12_11:SCode:=.region [⟨some 47,.move (.tmp 45),none⟩,
  ⟨some 11,.assign (.tmp 47),none⟩]
@[reducible] def q12_12:SCode:=.region [⟨some 48,.move (.tmp 8),none⟩,
  ⟨some 49,.move (.tmp 11),none⟩,
  ⟨some 50,.binOp .shr 88 (.tmp 48) (.tmp 49) 3,none⟩,
  ⟨some 51,.binOp .and 88 (.tmp 50) (.const (.int .u64 1)) 88,none⟩,
  ⟨some 52,.binOp .eql 88 (.tmp 51) (.const (.int .u64 0)) 88,none⟩]
@[reducible] def q12_13:SCode:=.region [⟨some 53,.move (.tmp 8),none⟩,
  ⟨some 54,.move (.tmp 11),none⟩,
  ⟨some 55,.binOp .shl 88 (.const (.int .u64 1)) (.tmp 54) 3,none⟩,
  ⟨some 56,.binOp .andNot 88 (.tmp 53) (.tmp 55) 88,none⟩,
  ⟨some 8,.assign (.tmp 56),none⟩]
@[reducible] def q12_14:SCode:=.region [⟨some 57,.move (.tmp 8),none⟩,
  ⟨some 58,.move (.tmp 6),none⟩,
  ⟨some 59,.nilCheck (.tmp 58),none⟩,
  ⟨some 60,.fieldAddr 91 (.tmp 59) 1,none⟩,
  ⟨some 61,.load 89 (.tmp 60),none⟩,
  ⟨some 62,.move (.tmp 11),none⟩,
  ⟨some 63,.indexAddr 89 (.tmp 61) (.tmp 62),none⟩,
  ⟨some 64,.load 88 (.tmp 63),none⟩,
  ⟨some 65,.binOp .andNot 88 (.tmp 57) (.tmp 64) 88,none⟩,
  ⟨some 12,.assign (.tmp 65),none⟩]
@[reducible] def q12_15:SCode:=.region [⟨some 66,.move (.tmp 6),none⟩,
  ⟨some 67,.move (.tmp 12),none⟩,
  ⟨some 68,.call { callee:=.value (.func 51),args:=#[.tmp 66,.tmp 67],argTypes:=#[85,88] },none⟩,
  ⟨some 69,.binOp .add 3 (.const (.int .i64 1)) (.tmp 68) 3,none⟩,
  ⟨some 70,.move (.tmp 9),none⟩,
  ⟨some 71,.binOp .eql 3 (.tmp 69) (.tmp 70) 3,none⟩]
@[reducible] def q12_16:SCode:=.region [⟨some 72,.move (.tmp 10),none⟩,
  ⟨some 73,.move (.tmp 11),none⟩,
  ⟨some 74,.buildSlice 27 1 #[(0,.tmp 73)],none⟩,
  ⟨some 75,.call { callee:=.builtin .append,args:=#[.tmp 72,.tmp 74],argTypes:=#[27,27] },none⟩,
  ⟨some 10,.assign (.tmp 75),none⟩]
@[reducible] def q12_17:SCode:=.region [⟨some 76,.move (.tmp 12),none⟩,
  ⟨some 8,.assign (.tmp 76),none⟩]
@[reducible] def q12_18:SCode:=.region [⟨some 77,.move (.tmp 9),none⟩,
  ⟨some 78,.binOp .sub 3 (.tmp 77) (.const (.int .i64 1)) 3,none⟩,
  ⟨some 9,.assign (.tmp 78),none⟩]
@[reducible] def q12_19:SCode:=.region [⟨some 79,.binOp .add 3 (.tmp 45) (.const (.int .i64 1)) 3,none⟩,
  ⟨some 45,.move (.tmp 79),none⟩]
def l12_0:SCode:=(.seq q12_10 (.seq (.cond (.tmp 46) .skip (.exit 0)) (.seq (.block 1 (.seq q12_11 (.seq (.seq q12_12 (.cond (.tmp 52) (.exit 1) .skip)) (.seq q12_13 (.seq q12_14 (.seq q12_15 (.cond (.tmp 71) (.seq q12_16 (.seq q12_17 q12_18)) .skip))))))) q12_19)))
@[reducible] def q12_20:SCode:=.region [⟨some 80,.move (.tmp 10),none⟩,
  ⟨some 4,.assign (.tmp 80),none⟩,
  ⟨some 5,.assign (.const (.int .i64 0)),none⟩]
def s12:SCode:=(.seq q12_0 (.seq (.seq q12_1 (.cond (.tmp 23) (.seq q12_2 .ret) .skip)) (.seq q12_3 (.seq (.seq q12_4 (.cond (.tmp 31) (.seq q12_5 .ret) .skip)) (.seq q12_6 (.seq q12_7 (.seq q12_8 (.seq (.seq q12_9 (.block 0 (.loop l12_0))) (.seq q12_20 .ret)))))))))
theorem s12_strip:Yi (Yg Tryd.f12)=s12:=by kernel_rfl
theorem s12_ok:Yu 81 (Yg Tryd.f12)=true:=by kernel_rfl
/-! 14: planchet sure.Cover -/
@[reducible] def q14_0:SCode:=.region [⟨some 2,.assign (.const (.int .i64 0)),none⟩,
  ⟨some 3,.assign (.const (.int .i64 0)),none⟩]
@[reducible] def q14_1:SCode:=.region [⟨some 9,.move (.tmp 0),none⟩,
  ⟨some 4,.assign (.tmp 9),none⟩]
@[reducible] def q14_2:SCode:=.region [⟨some 10,.move (.tmp 4),none⟩,
  ⟨some 11,.call { callee:=.value (.func 49),args:=#[.tmp 10],argTypes:=#[84] },none⟩,
  ⟨some 12,.unOp .not 4 (.tmp 11),none⟩]
@[reducible] def q14_3:SCode:=.region [⟨some 2,.assign (.const (.int .i64 0)),none⟩,
  ⟨some 3,.assign (.const (.int .i64 2)),none⟩]
@[reducible] def q14_4:SCode:=.region [⟨some 13,.move (.tmp 4),none⟩,
  ⟨some 14,.call { callee:=.value (.func 52),args:=#[.tmp 13],argTypes:=#[84] },none⟩,
  ⟨some 15,.binOp .add 3 (.tmp 14) (.const (.int .i64 1)) 3,none⟩,
  ⟨some 16,.makeSlice 27 (.tmp 15) (.tmp 15),none⟩,
  ⟨some 5,.assign (.tmp 16),none⟩]
@[reducible] def q14_5:SCode:=.region [⟨some 6,.assign (.const (.int .i64 1)),none⟩]
@[reducible] def q14_6:SCode:=.region [⟨some 17,.move (.tmp 6),none⟩,
  ⟨some 18,.move (.tmp 4),none⟩,
  ⟨some 19,.call { callee:=.value (.func 52),args:=#[.tmp 18],argTypes:=#[84] },none⟩,
  ⟨some 20,.binOp .leq 3 (.tmp 17) (.tmp 19) 3,none⟩]
@[reducible] def q14_8:SCode:=.region [⟨some 23,.move (.tmp 5),none⟩,
  ⟨some 24,.move (.tmp 6),none⟩,
  ⟨some 25,.move (.tmp 0),none⟩,
  ⟨some 26,.call { callee:=.builtin .len,args:=#[.tmp 25],argTypes:=#[27] },none⟩,
  ⟨some 27,.indexAddr 27 (.tmp 23) (.tmp 24),none⟩,
  ⟨none,.store 3 (.tmp 27) (.tmp 26),none⟩]
@[reducible] def q14_9:SCode:=.region [⟨some 28,.move (.tmp 4),none⟩,
  ⟨some 29,.call { callee:=.value (.func 53),args:=#[.tmp 28],argTypes:=#[84] },none⟩,
  ⟨some 30,.call { callee:=.builtin .len,args:=#[.tmp 29],argTypes:=#[27] },none⟩,
  ⟨some 31,.move (.const (.int .i64 0)),none⟩]
@[reducible] def q14_10:SCode:=.region [⟨some 32,.binOp .lss 3 (.tmp 31) (.tmp 30) 3,none⟩]
@[reducible] def q14_11:SCode:=.region [⟨some 33,.indexAddr 27 (.tmp 29) (.tmp 31),none⟩,
  ⟨some 34,.load 3 (.tmp 33),none⟩,
  ⟨some 8,.assign (.tmp 34),none⟩]
@[reducible] def q14_12:SCode:=.region [⟨some 35,.move (.tmp 8),none⟩,
  ⟨some 36,.move (.tmp 6),none⟩,
  ⟨some 37,.binOp .and 3 (.tmp 35) (.tmp 36) 3,none⟩,
  ⟨some 38,.binOp .neq 3 (.tmp 37) (.const (.int .i64 0)) 3,none⟩]
def q14_13:SCode:=.draw [⟨some 39,.move (.tmp 5),none⟩,
    ⟨some 40,.move (.tmp 6),none⟩,
    ⟨some 41,.move (.tmp 5),none⟩,
    ⟨some 42,.move (.tmp 6),none⟩,
    ⟨some 43,.indexAddr 27 (.tmp 41) (.tmp 42),none⟩,
    ⟨some 44,.load 3 (.tmp 43),none⟩,
    ⟨some 45,.move (.tmp 5),none⟩,
    ⟨some 46,.move (.tmp 6),none⟩,
    ⟨some 47,.move (.tmp 8),none⟩,
    ⟨some 48,.binOp .andNot 3 (.tmp 46) (.tmp 47) 3,none⟩,
    ⟨some 49,.indexAddr 27 (.tmp 45) (.tmp 48),none⟩,
    ⟨some 50,.load 3 (.tmp 49),none⟩,
    ⟨some 51,.binOp .add 3 (.const (.int .i64 1)) (.tmp 50) 3,none⟩,
    ⟨some 52,.call { callee:=.builtin .min,args:=#[.tmp 44,.tmp 51],argTypes:=#[3,3] },none⟩,
    ⟨some 53,.indexAddr 27 (.tmp 39) (.tmp 40),none⟩,
    ⟨none,.store 3 (.tmp 53) (.tmp 52),none⟩]
  [[],[],[],[],[2,3],[4],[],[],[],[7,8],[6,9],[10],[11],[5,12],[0,1,0,1,2,3,4,5,6,7,8,9,10,11,12,13],[14,13,0,1,2,3,4,5,6,7,8,9,10,11,12,13]]
@[reducible] def q14_14:SCode:=.region [⟨some 54,.binOp .add 3 (.tmp 31) (.const (.int .i64 1)) 3,none⟩,
  ⟨some 31,.move (.tmp 54),none⟩]
def l14_0:SCode:=(.seq q14_10 (.seq (.cond (.tmp 32) .skip (.exit 2)) (.seq (.block 3 (.seq q14_11 (.seq q14_12 (.cond (.tmp 38) q14_13 .skip)))) q14_14)))
@[reducible] def q14_7:SCode:=.region [⟨some 21,.move (.tmp 6),none⟩,
  ⟨some 22,.binOp .add 3 (.tmp 21) (.const (.int .i64 1)) 3,none⟩,
  ⟨some 6,.assign (.tmp 22),none⟩]
def l14_1:SCode:=(.seq (.seq q14_6 (.cond (.tmp 20) .skip (.exit 0))) (.seq (.block 1 (.seq q14_8 (.seq q14_9 (.block 2 (.loop l14_0))))) q14_7))
@[reducible] def q14_15:SCode:=.region [⟨some 55,.move (.tmp 5),none⟩,
  ⟨some 56,.move (.tmp 4),none⟩,
  ⟨some 57,.call { callee:=.value (.func 52),args:=#[.tmp 56],argTypes:=#[84] },none⟩,
  ⟨some 58,.indexAddr 27 (.tmp 55) (.tmp 57),none⟩,
  ⟨some 59,.load 3 (.tmp 58),none⟩,
  ⟨some 2,.assign (.tmp 59),none⟩,
  ⟨some 3,.assign (.const (.int .i64 0)),none⟩]
def s14:SCode:=(.seq q14_0 (.seq q14_1 (.seq (.seq q14_2 (.cond (.tmp 12) (.seq q14_3 .ret) .skip)) (.seq q14_4 (.seq (.seq q14_5 (.block 0 (.loop l14_1))) (.seq q14_15 .ret))))))
theorem s14_strip:Yi (Yg Tryd.f14)=s14:=by kernel_rfl
theorem s14_ok:Yu 60 (Yg Tryd.f14)=true:=by kernel_rfl
/-! 49: (planchet sure.graph).valid -/
@[reducible] def q49_0:SCode:=.region [⟨some 2,.assign (.const (.bool false)),none⟩]
@[reducible] def q49_1:SCode:=.region [⟨some 7,.move (.tmp 0),none⟩,
  ⟨some 8,.call { callee:=.builtin .len,args:=#[.tmp 7],argTypes:=#[84] },none⟩,
  ⟨some 3,.assign (.tmp 8),none⟩]
@[reducible] def q49_2:SCode:=.region [⟨some 9,.move (.tmp 3),none⟩,
  ⟨some 10,.binOp .lss 3 (.tmp 9) (.const (.int .i64 1)) 3,none⟩,
  ⟨some 11,.move (.tmp 10),none⟩,
  ⟨some 12,.move (.tmp 3),some (11,false)⟩,
  ⟨some 13,.binOp .gtr 3 (.tmp 12) (.const (.int .i64 6)) 3,some (11,false)⟩,
  ⟨some 14,.pick (.tmp 11) (.const (.bool true)) (.tmp 13),none⟩]
@[reducible] def q49_3:SCode:=.region [⟨some 2,.assign (.const (.bool false)),none⟩]
@[reducible] def q49_4:SCode:=.region [⟨some 15,.move (.tmp 0),none⟩,
  ⟨some 16,.call { callee:=.builtin .len,args:=#[.tmp 15],argTypes:=#[84] },none⟩,
  ⟨some 17,.move (.const (.int .i64 0)),none⟩]
@[reducible] def q49_5:SCode:=.region [⟨some 18,.binOp .lss 3 (.tmp 17) (.tmp 16) 3,none⟩]
@[reducible] def q49_6:SCode:=.region [⟨some 19,.move (.tmp 17),none⟩,
  ⟨some 20,.indexAddr 84 (.tmp 15) (.tmp 17),none⟩,
  ⟨some 21,.load 3 (.tmp 20),none⟩,
  ⟨some 4,.assign (.tmp 19),none⟩,
  ⟨some 5,.assign (.tmp 21),none⟩]
@[reducible] def q49_7:SCode:=.region [⟨some 22,.move (.tmp 5),none⟩,
  ⟨some 23,.binOp .lss 3 (.tmp 22) (.const (.int .i64 0)) 3,none⟩,
  ⟨some 24,.move (.tmp 23),none⟩,
  ⟨some 25,.move (.tmp 5),some (24,false)⟩,
  ⟨some 26,.move (.tmp 3),some (24,false)⟩,
  ⟨some 27,.binOp .shl 3 (.const (.int .i64 1)) (.tmp 26) 3,some (24,false)⟩,
  ⟨some 28,.binOp .geq 3 (.tmp 25) (.tmp 27) 3,some (24,false)⟩,
  ⟨some 29,.pick (.tmp 24) (.const (.bool true)) (.tmp 28),none⟩,
  ⟨some 30,.move (.tmp 29),none⟩,
  ⟨some 31,.move (.tmp 5),some (30,false)⟩,
  ⟨some 32,.move (.tmp 4),some (30,false)⟩,
  ⟨some 33,.binOp .shr 3 (.tmp 31) (.tmp 32) 3,some (30,false)⟩,
  ⟨some 34,.binOp .and 3 (.tmp 33) (.const (.int .i64 1)) 3,some (30,false)⟩,
  ⟨some 35,.binOp .eql 3 (.tmp 34) (.const (.int .i64 1)) 3,some (30,false)⟩,
  ⟨some 36,.pick (.tmp 30) (.const (.bool true)) (.tmp 35),none⟩]
@[reducible] def q49_8:SCode:=.region [⟨some 2,.assign (.const (.bool false)),none⟩]
@[reducible] def q49_9:SCode:=.region [⟨some 37,.move (.tmp 3),none⟩,
  ⟨some 38,.move (.const (.int .i64 0)),none⟩]
@[reducible] def q49_10:SCode:=.region [⟨some 39,.binOp .lss 3 (.tmp 38) (.tmp 37) 3,none⟩]
@[reducible] def q49_11:SCode:=.region [⟨some 40,.move (.tmp 38),none⟩,
  ⟨some 6,.assign (.tmp 40),none⟩]
def q49_12:SCode:=.draw [⟨some 41,.move (.tmp 5),none⟩,
    ⟨some 42,.move (.tmp 6),none⟩,
    ⟨some 43,.binOp .shr 3 (.tmp 41) (.tmp 42) 3,none⟩,
    ⟨some 44,.binOp .and 3 (.tmp 43) (.const (.int .i64 1)) 3,none⟩,
    ⟨some 45,.move (.tmp 0),none⟩,
    ⟨some 46,.move (.tmp 6),none⟩,
    ⟨some 47,.indexAddr 84 (.tmp 45) (.tmp 46),none⟩,
    ⟨some 48,.load 3 (.tmp 47),none⟩,
    ⟨some 49,.move (.tmp 4),none⟩,
    ⟨some 50,.binOp .shr 3 (.tmp 48) (.tmp 49) 3,none⟩,
    ⟨some 51,.binOp .and 3 (.tmp 50) (.const (.int .i64 1)) 3,none⟩,
    ⟨some 52,.binOp .neq 3 (.tmp 44) (.tmp 51) 3,none⟩]
  [[],[],[0,1],[2],[],[],[4,5],[6],[],[7,8],[9],[3,10]]
@[reducible] def q49_13:SCode:=.region [⟨some 2,.assign (.const (.bool false)),none⟩]
@[reducible] def q49_14:SCode:=.region [⟨some 53,.binOp .add 3 (.tmp 38) (.const (.int .i64 1)) 3,none⟩,
  ⟨some 38,.move (.tmp 53),none⟩]
def l49_0:SCode:=(.seq q49_10 (.seq (.cond (.tmp 39) .skip (.exit 2)) (.seq (.block 3 (.seq q49_11 (.seq q49_12 (.cond (.tmp 52) (.seq q49_13 .ret) .skip)))) q49_14)))
@[reducible] def q49_15:SCode:=.region [⟨some 54,.binOp .add 3 (.tmp 17) (.const (.int .i64 1)) 3,none⟩,
  ⟨some 17,.move (.tmp 54),none⟩]
def l49_1:SCode:=(.seq q49_5 (.seq (.cond (.tmp 18) .skip (.exit 0)) (.seq (.block 1 (.seq q49_6 (.seq (.seq q49_7 (.cond (.tmp 36) (.seq q49_8 .ret) .skip)) (.seq q49_9 (.block 2 (.loop l49_0)))))) q49_15)))
@[reducible] def q49_16:SCode:=.region [⟨some 2,.assign (.const (.bool true)),none⟩]
def s49:SCode:=(.seq q49_0 (.seq q49_1 (.seq (.seq q49_2 (.cond (.tmp 14) (.seq q49_3 .ret) .skip)) (.seq (.seq q49_4 (.block 0 (.loop l49_1))) (.seq q49_16 .ret)))))
theorem s49_strip:Yi (Yg Tryd.f49)=s49:=by kernel_rfl
theorem s49_ok:Yu 55 (Yg Tryd.f49)=true:=by kernel_rfl
theorem s49_call [Tabs Tryd.prog] {args:List Value} {h:Yc} {Q:Value→Yc→Prop} (hsz:args.length≤55) (hk:aw Tryd.prog 55 s49 (Zu Tryd.prog [.tmp 2] Q) (Zp 0 args) h):ACall Tryd.prog 49 args h Q :=
 Wx Tryd.func49 rfl (enters_of Tryd.func49 (by kernel_rfl) rfl) rfl rfl (by decide) s49_strip s49_ok hsz hk
/-! 50: (planchet sure.graph).words -/
@[reducible] def q50_0:SCode:=.region [⟨some 4,.assign (.const (.pointer none)),none⟩,
  ⟨some 5,.assign (.const (.bool false)),none⟩]
@[reducible] def q50_1:SCode:=.region [⟨some 10,.build 91 #[(0,.const (.int .i64 1))],none⟩,
  ⟨some 11,.box 91 (.tmp 10),none⟩,
  ⟨some 6,.assign (.tmp 11),none⟩]
@[reducible] def q50_2:SCode:=.region [⟨some 12,.move (.tmp 1),none⟩,
  ⟨some 13,.move (.const (.int .i64 0)),none⟩]
@[reducible] def q50_3:SCode:=.region [⟨some 14,.binOp .lss 3 (.tmp 13) (.tmp 12) 3,none⟩]
@[reducible] def q50_4:SCode:=.region [⟨some 15,.move (.tmp 6),none⟩,
  ⟨some 16,.nilCheck (.tmp 15),none⟩,
  ⟨some 17,.fieldAddr 91 (.tmp 16) 0,none⟩,
  ⟨some 18,.load 3 (.tmp 17),none⟩,
  ⟨some 19,.move (.tmp 0),none⟩,
  ⟨some 20,.call { callee:=.builtin .len,args:=#[.tmp 19],argTypes:=#[84] },none⟩,
  ⟨some 21,.binOp .mul 3 (.tmp 18) (.tmp 20) 3,none⟩,
  ⟨some 22,.nilCheck (.tmp 15),none⟩,
  ⟨some 23,.fieldAddr 91 (.tmp 22) 0,none⟩,
  ⟨none,.store 3 (.tmp 23) (.tmp 21),none⟩]
@[reducible] def q50_5:SCode:=.region [⟨some 24,.move (.tmp 6),none⟩,
  ⟨some 25,.nilCheck (.tmp 24),none⟩,
  ⟨some 26,.fieldAddr 91 (.tmp 25) 0,none⟩,
  ⟨some 27,.load 3 (.tmp 26),none⟩,
  ⟨some 28,.binOp .gtr 3 (.tmp 27) (.const (.int .i64 64)) 3,none⟩]
@[reducible] def q50_6:SCode:=.region [⟨some 4,.assign (.const (.pointer none)),none⟩,
  ⟨some 5,.assign (.const (.bool false)),none⟩]
@[reducible] def q50_7:SCode:=.region [⟨some 29,.binOp .add 3 (.tmp 13) (.const (.int .i64 1)) 3,none⟩,
  ⟨some 13,.move (.tmp 29),none⟩]
def l50_0:SCode:=(.seq q50_3 (.seq (.cond (.tmp 14) .skip (.exit 0)) (.seq (.block 1 (.seq q50_4 (.seq q50_5 (.cond (.tmp 28) (.seq q50_6 .ret) .skip)))) q50_7)))
@[reducible] def q50_8:SCode:=.region [⟨some 30,.move (.tmp 6),none⟩,
  ⟨some 31,.nilCheck (.tmp 30),none⟩,
  ⟨some 32,.fieldAddr 91 (.tmp 31) 0,none⟩,
  ⟨some 33,.load 3 (.tmp 32),none⟩,
  ⟨some 34,.move (.const (.int .i64 0)),none⟩]
@[reducible] def q50_9:SCode:=.region [⟨some 35,.binOp .lss 3 (.tmp 34) (.tmp 33) 3,none⟩]
@[reducible] def q50_10:SCode:=.region [⟨some 36,.move (.tmp 34),none⟩,
  ⟨some 7,.assign (.tmp 36),none⟩]
@[reducible] def q50_11:SCode:=.region [⟨some 8,.assign (.const (.int .u64 0)),none⟩]
@[reducible] def q50_12:SCode:=.region [⟨some 37,.move (.tmp 6),none⟩,
  ⟨some 38,.nilCheck (.tmp 37),none⟩,
  ⟨some 39,.fieldAddr 91 (.tmp 38) 0,none⟩,
  ⟨some 40,.load 3 (.tmp 39),none⟩,
  ⟨some 41,.move (.const (.int .i64 0)),none⟩]
@[reducible] def q50_13:SCode:=.region [⟨some 42,.binOp .lss 3 (.tmp 41) (.tmp 40) 3,none⟩]
@[reducible] def q50_14:SCode:=.region [⟨some 43,.move (.tmp 41),none⟩,
  ⟨some 9,.assign (.tmp 43),none⟩]
@[reducible] def q50_15:SCode:=.region [⟨some 44,.move (.tmp 7),none⟩,
  ⟨some 45,.move (.tmp 9),none⟩,
  ⟨some 46,.binOp .neq 3 (.tmp 44) (.tmp 45) 3,none⟩,
  ⟨some 47,.move (.tmp 46),none⟩,
  ⟨some 48,.move (.tmp 0),some (47,true)⟩,
  ⟨some 49,.move (.tmp 7),some (47,true)⟩,
  ⟨some 50,.move (.tmp 9),some (47,true)⟩,
  ⟨some 51,.move (.tmp 1),some (47,true)⟩,
  ⟨some 52,.call { callee:=.value (.func 97),args:=#[.tmp 48,.tmp 49,.tmp 50,.tmp 51],argTypes:=#[84,3,3,3] },some (47,true)⟩,
  ⟨some 53,.pick (.tmp 47) (.tmp 52) (.const (.bool false)),none⟩]
@[reducible] def q50_16:SCode:=.region [⟨some 54,.move (.tmp 8),none⟩,
  ⟨some 55,.move (.tmp 9),none⟩,
  ⟨some 56,.binOp .shl 88 (.const (.int .u64 1)) (.tmp 55) 3,none⟩,
  ⟨some 57,.binOp .or 88 (.tmp 54) (.tmp 56) 88,none⟩,
  ⟨some 8,.assign (.tmp 57),none⟩]
@[reducible] def q50_17:SCode:=.region [⟨some 58,.binOp .add 3 (.tmp 41) (.const (.int .i64 1)) 3,none⟩,
  ⟨some 41,.move (.tmp 58),none⟩]
def l50_1:SCode:=(.seq q50_13 (.seq (.cond (.tmp 42) .skip (.exit 4)) (.seq (.block 5 (.seq q50_14 (.seq q50_15 (.cond (.tmp 53) q50_16 .skip)))) q50_17)))
@[reducible] def q50_18:SCode:=.region [⟨some 59,.move (.tmp 6),none⟩,
  ⟨some 60,.move (.tmp 6),none⟩,
  ⟨some 61,.nilCheck (.tmp 60),none⟩,
  ⟨some 62,.fieldAddr 91 (.tmp 61) 1,none⟩,
  ⟨some 63,.load 89 (.tmp 62),none⟩,
  ⟨some 64,.move (.tmp 8),none⟩,
  ⟨some 65,.buildSlice 89 1 #[(0,.tmp 64)],none⟩,
  ⟨some 66,.call { callee:=.builtin .append,args:=#[.tmp 63,.tmp 65],argTypes:=#[89,89] },none⟩,
  ⟨some 67,.nilCheck (.tmp 59),none⟩,
  ⟨some 68,.fieldAddr 91 (.tmp 67) 1,none⟩,
  ⟨none,.store 89 (.tmp 68) (.tmp 66),none⟩]
@[reducible] def q50_19:SCode:=.region [⟨some 69,.binOp .add 3 (.tmp 34) (.const (.int .i64 1)) 3,none⟩,
  ⟨some 34,.move (.tmp 69),none⟩]
def l50_2:SCode:=(.seq q50_9 (.seq (.cond (.tmp 35) .skip (.exit 2)) (.seq (.block 3 (.seq q50_10 (.seq q50_11 (.seq (.seq q50_12 (.block 4 (.loop l50_1))) q50_18)))) q50_19)))
@[reducible] def q50_20:SCode:=.region [⟨some 70,.move (.tmp 6),none⟩,
  ⟨some 4,.assign (.tmp 70),none⟩,
  ⟨some 5,.assign (.const (.bool true)),none⟩]
def s50:SCode:=(.seq q50_0 (.seq q50_1 (.seq (.seq q50_2 (.block 0 (.loop l50_0))) (.seq (.seq q50_8 (.block 2 (.loop l50_2))) (.seq q50_20 .ret)))))
theorem s50_strip:Yi (Yg Tryd.f50)=s50:=by kernel_rfl
theorem s50_ok:Yu 71 (Yg Tryd.f50)=true:=by kernel_rfl
theorem s50_call [Tabs Tryd.prog] {args:List Value} {h:Yc} {Q:Value→Yc→Prop} (hsz:args.length≤71) (hk:aw Tryd.prog 71 s50 (Zu Tryd.prog [.tmp 4,.tmp 5] Q) (Zp 0 args) h):ACall Tryd.prog 50 args h Q :=
 Wx Tryd.func50 rfl (enters_of Tryd.func50 (by kernel_rfl) rfl) rfl rfl (by decide) s50_strip s50_ok hsz hk
/-! 51: (planchet sure.words).most -/
@[reducible] def q51_0:SCode:=.region [⟨some 4,.assign (.const (.int .i64 0)),none⟩]
@[reducible] def q51_1:SCode:=.region [⟨some 5,.assign (.const (.int .i64 0)),none⟩]
@[reducible] def q51_2:SCode:=.region [⟨some 11,.move (.tmp 1),none⟩,
  ⟨some 12,.binOp .neq 88 (.tmp 11) (.const (.int .u64 0)) 88,none⟩]
@[reducible] def q51_3:SCode:=.region [⟨some 6,.assign (.const (.int .i64 (-1))),none⟩,
  ⟨some 7,.assign (.const (.int .i64 (-1))),none⟩]
@[reducible] def q51_4:SCode:=.region [⟨some 13,.move (.tmp 1),none⟩,
  ⟨some 8,.assign (.tmp 13),none⟩]
@[reducible] def q51_5:SCode:=.region [⟨some 14,.move (.tmp 8),none⟩,
  ⟨some 15,.binOp .neq 88 (.tmp 14) (.const (.int .u64 0)) 88,none⟩]
@[reducible] def q51_7:SCode:=.region [⟨some 20,.move (.tmp 8),none⟩,
  ⟨some 21,.call { callee:=.value (.func 98),args:=#[.tmp 20],argTypes:=#[88] },none⟩,
  ⟨some 9,.assign (.tmp 21),none⟩]
@[reducible] def q51_8:SCode:=.region [⟨some 22,.move (.tmp 0),none⟩,
  ⟨some 23,.nilCheck (.tmp 22),none⟩,
  ⟨some 24,.fieldAddr 91 (.tmp 23) 1,none⟩,
  ⟨some 25,.load 89 (.tmp 24),none⟩,
  ⟨some 26,.move (.tmp 9),none⟩,
  ⟨some 27,.indexAddr 89 (.tmp 25) (.tmp 26),none⟩,
  ⟨some 28,.load 88 (.tmp 27),none⟩,
  ⟨some 29,.move (.tmp 1),none⟩,
  ⟨some 30,.binOp .and 88 (.tmp 28) (.tmp 29) 88,none⟩,
  ⟨some 31,.call { callee:=.value (.func 99),args:=#[.tmp 30],argTypes:=#[88] },none⟩,
  ⟨some 10,.assign (.tmp 31),none⟩]
@[reducible] def q51_9:SCode:=.region [⟨some 32,.move (.tmp 10),none⟩,
  ⟨some 33,.binOp .leq 3 (.tmp 32) (.const (.int .i64 1)) 3,none⟩]
@[reducible] def q51_10:SCode:=.region [⟨some 34,.move (.tmp 9),none⟩,
  ⟨some 35,.move (.tmp 10),none⟩,
  ⟨some 6,.assign (.tmp 34),none⟩,
  ⟨some 7,.assign (.tmp 35),none⟩]
@[reducible] def q51_11:SCode:=.region [⟨some 36,.move (.tmp 10),none⟩,
  ⟨some 37,.move (.tmp 7),none⟩,
  ⟨some 38,.binOp .gtr 3 (.tmp 36) (.tmp 37) 3,none⟩]
@[reducible] def q51_12:SCode:=.region [⟨some 39,.move (.tmp 9),none⟩,
  ⟨some 40,.move (.tmp 10),none⟩,
  ⟨some 6,.assign (.tmp 39),none⟩,
  ⟨some 7,.assign (.tmp 40),none⟩]
@[reducible] def q51_6:SCode:=.region [⟨some 16,.move (.tmp 8),none⟩,
  ⟨some 17,.move (.tmp 8),none⟩,
  ⟨some 18,.binOp .sub 88 (.tmp 17) (.const (.int .u64 1)) 88,none⟩,
  ⟨some 19,.binOp .and 88 (.tmp 16) (.tmp 18) 88,none⟩,
  ⟨some 8,.assign (.tmp 19),none⟩]
def l51_0:SCode:=(.seq (.seq q51_5 (.cond (.tmp 15) .skip (.exit 2))) (.seq (.block 3 (.seq q51_7 (.seq q51_8 (.seq (.seq q51_9 (.cond (.tmp 33) (.seq q51_10 (.exit 2)) .skip)) (.seq q51_11 (.cond (.tmp 38) q51_12 .skip)))))) q51_6))
@[reducible] def q51_13:SCode:=.region [⟨some 41,.move (.tmp 7),none⟩,
  ⟨some 42,.binOp .gtr 3 (.tmp 41) (.const (.int .i64 1)) 3,none⟩]
def q51_14:SCode:=.draw [⟨some 43,.move (.tmp 5),none⟩,
    ⟨some 44,.move (.tmp 0),none⟩,
    ⟨some 45,.move (.tmp 1),none⟩,
    ⟨some 46,.move (.tmp 0),none⟩,
    ⟨some 47,.nilCheck (.tmp 46),none⟩,
    ⟨some 48,.fieldAddr 91 (.tmp 47) 1,none⟩,
    ⟨some 49,.load 89 (.tmp 48),none⟩,
    ⟨some 50,.move (.tmp 6),none⟩,
    ⟨some 51,.indexAddr 89 (.tmp 49) (.tmp 50),none⟩,
    ⟨some 52,.load 88 (.tmp 51),none⟩,
    ⟨some 53,.binOp .andNot 88 (.tmp 45) (.tmp 52) 88,none⟩,
    ⟨some 54,.move (.tmp 6),none⟩,
    ⟨some 55,.binOp .shl 88 (.const (.int .u64 1)) (.tmp 54) 3,none⟩,
    ⟨some 56,.binOp .andNot 88 (.tmp 53) (.tmp 55) 88,none⟩,
    ⟨some 57,.call { callee:=.value (.func 51),args:=#[.tmp 44,.tmp 56],argTypes:=#[85,88] },none⟩,
    ⟨some 58,.binOp .add 3 (.const (.int .i64 1)) (.tmp 57) 3,none⟩,
    ⟨some 59,.move (.tmp 0),none⟩,
    ⟨some 60,.move (.tmp 1),none⟩,
    ⟨some 61,.move (.tmp 6),none⟩,
    ⟨some 62,.binOp .shl 88 (.const (.int .u64 1)) (.tmp 61) 3,none⟩,
    ⟨some 63,.binOp .andNot 88 (.tmp 60) (.tmp 62) 88,none⟩,
    ⟨some 64,.call { callee:=.value (.func 51),args:=#[.tmp 59,.tmp 63],argTypes:=#[85,88] },none⟩,
    ⟨some 65,.call { callee:=.builtin .max,args:=#[.tmp 58,.tmp 64],argTypes:=#[3,3] },none⟩,
    ⟨some 66,.binOp .add 3 (.tmp 43) (.tmp 65) 3,none⟩,
    ⟨some 4,.assign (.tmp 66),none⟩]
  [[],[],[],[],[3],[4],[5],[],[6,7],[8],[2,9],[],[11],[10,12],[1,13],[14],[],[],[],[18],[17,19],[16,20,14],[15,21],[0,22],[23,21,0,1,2,3,4,5,6,7,8,9,10,11,12,13,14,15,16,17,18,19,20,21,22,23]]
@[reducible] def q51_15:SCode:=.region [⟨some 67,.move (.tmp 5),none⟩,
  ⟨some 68,.binOp .add 3 (.tmp 67) (.const (.int .i64 1)) 3,none⟩,
  ⟨some 5,.assign (.tmp 68),none⟩]
def q51_16:SCode:=.draw [⟨some 69,.move (.tmp 1),none⟩,
    ⟨some 70,.move (.tmp 0),none⟩,
    ⟨some 71,.nilCheck (.tmp 70),none⟩,
    ⟨some 72,.fieldAddr 91 (.tmp 71) 1,none⟩,
    ⟨some 73,.load 89 (.tmp 72),none⟩,
    ⟨some 74,.move (.tmp 6),none⟩,
    ⟨some 75,.indexAddr 89 (.tmp 73) (.tmp 74),none⟩,
    ⟨some 76,.load 88 (.tmp 75),none⟩,
    ⟨some 77,.move (.tmp 6),none⟩,
    ⟨some 78,.binOp .shl 88 (.const (.int .u64 1)) (.tmp 77) 3,none⟩,
    ⟨some 79,.binOp .or 88 (.tmp 76) (.tmp 78) 88,none⟩,
    ⟨some 80,.binOp .andNot 88 (.tmp 69) (.tmp 79) 88,none⟩,
    ⟨some 1,.assign (.tmp 80),none⟩]
  [[],[],[1],[2],[3],[],[4,5],[6],[],[8],[7,9],[0,10],[11,0,1,2,3,4,5,6,7,8,9,10,11]]
def l51_1:SCode:=(.seq (.seq q51_2 (.cond (.tmp 12) .skip (.exit 0))) (.block 1 (.seq q51_3 (.seq (.seq q51_4 (.block 2 (.loop l51_0))) (.seq (.seq q51_13 (.cond (.tmp 42) (.seq q51_14 .ret) .skip)) (.seq q51_15 q51_16))))))
@[reducible] def q51_17:SCode:=.region [⟨some 81,.move (.tmp 5),none⟩,
  ⟨some 4,.assign (.tmp 81),none⟩]
def s51:SCode:=(.seq q51_0 (.seq q51_1 (.seq (.block 0 (.loop l51_1)) (.seq q51_17 .ret))))
theorem s51_strip:Yi (Yg Tryd.f51)=s51:=by kernel_rfl
theorem s51_ok:Yu 82 (Yg Tryd.f51)=true:=by kernel_rfl
theorem s51_call [Tabs Tryd.prog] {args:List Value} {h:Yc} {Q:Value→Yc→Prop} (hsz:args.length≤82) (hk:aw Tryd.prog 82 s51 (Zu Tryd.prog [.tmp 4] Q) (Zp 0 args) h):ACall Tryd.prog 51 args h Q :=
 Wx Tryd.func51 rfl (enters_of Tryd.func51 (by kernel_rfl) rfl) rfl rfl (by decide) s51_strip s51_ok hsz hk
/-! 52: (planchet sure.graph).all -/
@[reducible] def q52_0:SCode:=.region [⟨some 2,.assign (.const (.int .i64 0)),none⟩]
@[reducible] def q52_1:SCode:=.region [⟨some 3,.move (.tmp 0),none⟩,
  ⟨some 4,.call { callee:=.builtin .len,args:=#[.tmp 3],argTypes:=#[84] },none⟩,
  ⟨some 5,.binOp .shl 3 (.const (.int .i64 1)) (.tmp 4) 3,none⟩,
  ⟨some 6,.binOp .sub 3 (.tmp 5) (.const (.int .i64 1)) 3,none⟩,
  ⟨some 2,.assign (.tmp 6),none⟩]
def s52:SCode:=(.seq q52_0 (.seq q52_1 .ret))
theorem s52_strip:Yi (Yg Tryd.f52)=s52:=by kernel_rfl
theorem s52_ok:Yu 7 (Yg Tryd.f52)=true:=by kernel_rfl
/-! 53: (planchet sure.graph).cliques -/
@[reducible] def q53_0:SCode:=.region [⟨some 2,.assign (.const (.slice none 0 0)),none⟩]
@[reducible] def q53_1:SCode:=.region [⟨some 3,.assign (.const (.slice none 0 0)),none⟩]
@[reducible] def q53_2:SCode:=.region [⟨some 4,.assign (.const (.int .i64 1)),none⟩]
@[reducible] def q53_3:SCode:=.region [⟨some 6,.move (.tmp 4),none⟩,
  ⟨some 7,.move (.tmp 0),none⟩,
  ⟨some 8,.call { callee:=.value (.func 52),args:=#[.tmp 7],argTypes:=#[84] },none⟩,
  ⟨some 9,.binOp .leq 3 (.tmp 6) (.tmp 8) 3,none⟩]
@[reducible] def q53_5:SCode:=.region [⟨some 12,.move (.tmp 0),none⟩,
  ⟨some 13,.call { callee:=.builtin .len,args:=#[.tmp 12],argTypes:=#[84] },none⟩,
  ⟨some 14,.move (.const (.int .i64 0)),none⟩]
@[reducible] def q53_6:SCode:=.region [⟨some 15,.binOp .lss 3 (.tmp 14) (.tmp 13) 3,none⟩]
@[reducible] def q53_7:SCode:=.region [⟨some 16,.move (.tmp 14),none⟩,
  ⟨some 5,.assign (.tmp 16),none⟩]
def q53_8:SCode:=.draw [⟨some 17,.move (.tmp 4),none⟩,
    ⟨some 18,.move (.tmp 5),none⟩,
    ⟨some 19,.binOp .shr 3 (.tmp 17) (.tmp 18) 3,none⟩,
    ⟨some 20,.binOp .and 3 (.tmp 19) (.const (.int .i64 1)) 3,none⟩,
    ⟨some 21,.binOp .eql 3 (.tmp 20) (.const (.int .i64 1)) 3,none⟩,
    ⟨some 22,.move (.tmp 21),none⟩,
    ⟨some 23,.move (.tmp 4),some (22,true)⟩,
    ⟨some 24,.move (.tmp 0),some (22,true)⟩,
    ⟨some 25,.move (.tmp 5),some (22,true)⟩,
    ⟨some 26,.indexAddr 84 (.tmp 24) (.tmp 25),some (22,true)⟩,
    ⟨some 27,.load 3 (.tmp 26),some (22,true)⟩,
    ⟨some 28,.binOp .andNot 3 (.tmp 23) (.tmp 27) 3,some (22,true)⟩,
    ⟨some 29,.move (.tmp 5),some (22,true)⟩,
    ⟨some 30,.binOp .shl 3 (.const (.int .i64 1)) (.tmp 29) 3,some (22,true)⟩,
    ⟨some 31,.binOp .neq 3 (.tmp 28) (.tmp 30) 3,some (22,true)⟩,
    ⟨some 32,.pick (.tmp 22) (.tmp 31) (.const (.bool false)),none⟩]
  [[],[],[0,1],[2],[3],[4],[5],[5],[5],[7,8,5],[9,5],[6,10,5],[5],[12,5],[11,13,5],[5,14]]
@[reducible] def q53_9:SCode:=.region [⟨some 33,.binOp .add 3 (.tmp 14) (.const (.int .i64 1)) 3,none⟩,
  ⟨some 14,.move (.tmp 33),none⟩]
def l53_0:SCode:=(.seq q53_6 (.seq (.cond (.tmp 15) .skip (.exit 2)) (.seq (.block 3 (.seq q53_7 (.seq q53_8 (.cond (.tmp 32) (.exit 1) .skip)))) q53_9)))
@[reducible] def q53_10:SCode:=.region [⟨some 34,.move (.tmp 3),none⟩,
  ⟨some 35,.move (.tmp 4),none⟩,
  ⟨some 36,.buildSlice 27 1 #[(0,.tmp 35)],none⟩,
  ⟨some 37,.call { callee:=.builtin .append,args:=#[.tmp 34,.tmp 36],argTypes:=#[27,27] },none⟩,
  ⟨some 3,.assign (.tmp 37),none⟩]
@[reducible] def q53_4:SCode:=.region [⟨some 10,.move (.tmp 4),none⟩,
  ⟨some 11,.binOp .add 3 (.tmp 10) (.const (.int .i64 1)) 3,none⟩,
  ⟨some 4,.assign (.tmp 11),none⟩]
def l53_1:SCode:=(.seq (.seq q53_3 (.cond (.tmp 9) .skip (.exit 0))) (.seq (.block 1 (.seq (.seq q53_5 (.block 2 (.loop l53_0))) q53_10)) q53_4))
@[reducible] def q53_11:SCode:=.region [⟨some 38,.move (.tmp 3),none⟩,
  ⟨some 2,.assign (.tmp 38),none⟩]
def s53:SCode:=(.seq q53_0 (.scope (.seq q53_1 (.seq .skip (.seq (.seq q53_2 (.block 0 (.loop l53_1))) (.seq q53_11 .ret))))))
theorem s53_strip:Yi (Yg Tryd.f53)=s53:=by kernel_rfl
theorem s53_ok:Yu 39 (Yg Tryd.f53)=true:=by kernel_rfl
/-! 97: (planchet sure.graph).confused -/
@[reducible] def q97_0:SCode:=.region [⟨some 8,.assign (.const (.bool false)),none⟩]
@[reducible] def q97_1:SCode:=.region [⟨some 11,.move (.tmp 3),none⟩,
  ⟨some 12,.move (.const (.int .i64 0)),none⟩]
@[reducible] def q97_2:SCode:=.region [⟨some 13,.binOp .lss 3 (.tmp 12) (.tmp 11) 3,none⟩]
def q97_3:SCode:=.draw [⟨some 14,.move (.tmp 1),none⟩,
    ⟨some 15,.move (.tmp 0),none⟩,
    ⟨some 16,.call { callee:=.builtin .len,args:=#[.tmp 15],argTypes:=#[84] },none⟩,
    ⟨some 17,.binOp .rem 3 (.tmp 14) (.tmp 16) 3,none⟩,
    ⟨some 18,.move (.tmp 2),none⟩,
    ⟨some 19,.move (.tmp 0),none⟩,
    ⟨some 20,.call { callee:=.builtin .len,args:=#[.tmp 19],argTypes:=#[84] },none⟩,
    ⟨some 21,.binOp .rem 3 (.tmp 18) (.tmp 20) 3,none⟩,
    ⟨some 9,.assign (.tmp 17),none⟩,
    ⟨some 10,.assign (.tmp 21),none⟩]
  [[],[],[1],[0,2],[],[],[5],[4,6],[3,0,1,2,3],[7,8,0,1,2,3,4,5,6,7,8]]
@[reducible] def q97_4:SCode:=.region [⟨some 22,.move (.tmp 9),none⟩,
  ⟨some 23,.move (.tmp 10),none⟩,
  ⟨some 24,.binOp .neq 3 (.tmp 22) (.tmp 23) 3,none⟩,
  ⟨some 25,.move (.tmp 24),none⟩,
  ⟨some 26,.move (.tmp 0),some (25,true)⟩,
  ⟨some 27,.move (.tmp 9),some (25,true)⟩,
  ⟨some 28,.indexAddr 84 (.tmp 26) (.tmp 27),some (25,true)⟩,
  ⟨some 29,.load 3 (.tmp 28),some (25,true)⟩,
  ⟨some 30,.move (.tmp 10),some (25,true)⟩,
  ⟨some 31,.binOp .shr 3 (.tmp 29) (.tmp 30) 3,some (25,true)⟩,
  ⟨some 32,.binOp .and 3 (.tmp 31) (.const (.int .i64 1)) 3,some (25,true)⟩,
  ⟨some 33,.binOp .eql 3 (.tmp 32) (.const (.int .i64 0)) 3,some (25,true)⟩,
  ⟨some 34,.pick (.tmp 25) (.tmp 33) (.const (.bool false)),none⟩]
@[reducible] def q97_5:SCode:=.region [⟨some 8,.assign (.const (.bool false)),none⟩]
def q97_6:SCode:=.draw [⟨some 35,.move (.tmp 1),none⟩,
    ⟨some 36,.move (.tmp 0),none⟩,
    ⟨some 37,.call { callee:=.builtin .len,args:=#[.tmp 36],argTypes:=#[84] },none⟩,
    ⟨some 38,.binOp .quo 3 (.tmp 35) (.tmp 37) 3,none⟩,
    ⟨some 39,.move (.tmp 2),none⟩,
    ⟨some 40,.move (.tmp 0),none⟩,
    ⟨some 41,.call { callee:=.builtin .len,args:=#[.tmp 40],argTypes:=#[84] },none⟩,
    ⟨some 42,.binOp .quo 3 (.tmp 39) (.tmp 41) 3,none⟩,
    ⟨some 1,.assign (.tmp 38),none⟩,
    ⟨some 2,.assign (.tmp 42),none⟩]
  [[],[],[1],[0,2],[],[],[5],[4,6],[3,0,1,2,3],[7,8,0,1,2,3,4,5,6,7,8]]
@[reducible] def q97_7:SCode:=.region [⟨some 43,.binOp .add 3 (.tmp 12) (.const (.int .i64 1)) 3,none⟩,
  ⟨some 12,.move (.tmp 43),none⟩]
def l97_0:SCode:=(.seq q97_2 (.seq (.cond (.tmp 13) .skip (.exit 0)) (.seq (.block 1 (.seq (.seq q97_3 (.seq q97_4 (.cond (.tmp 34) (.seq q97_5 .ret) .skip))) q97_6)) q97_7)))
@[reducible] def q97_8:SCode:=.region [⟨some 8,.assign (.const (.bool true)),none⟩]
def s97:SCode:=(.seq q97_0 (.seq (.seq q97_1 (.block 0 (.loop l97_0))) (.seq q97_8 .ret)))
theorem s97_strip:Yi (Yg Tryd.f97)=s97:=by kernel_rfl
theorem s97_ok:Yu 44 (Yg Tryd.f97)=true:=by kernel_rfl
theorem s97_call [Tabs Tryd.prog] {args:List Value} {h:Yc} {Q:Value→Yc→Prop} (hsz:args.length≤44) (hk:aw Tryd.prog 44 s97 (Zu Tryd.prog [.tmp 8] Q) (Zp 0 args) h):ACall Tryd.prog 97 args h Q :=
 Wx Tryd.func97 rfl (enters_of Tryd.func97 (by kernel_rfl) rfl) rfl rfl (by decide) s97_strip s97_ok hsz hk
end Go.Proofs.Tryd.Am
namespace Go.Proofs.Tryd
open Go.RowKit Go.Am
set_option maxHeartbeats 1000000 in
theorem tz64_core (x k idx:Nat) (w:World) (hx0:((x:Int)==0)=false)
  (key:IntKind.u64.wrap (bits BinOp.and IntKind.u64 (x:Int) (IntKind.u64.wrap (-(x:Int)))*285870213051353865) / 288230376151711744=(idx:Int))
  (hi:idx<64) (hk:k<64) (hcell:w.cell? ⟨0,idx,none⟩=some (.int .u8 k)) :
  Calls prog 98 #[.int .u64 x] w fun e w'=>e = .returned (.int .i64 k)∧w' = w:=by
 go_enter func98,ntmps98
 go_wp2_with (simp only [key])
 go_ret
 exact ⟨rfl,rfl⟩
theorem tz64_zero (w:World):Calls prog 98 #[.int .u64 0] w fun e w'=>e = .returned (.int .i64 64)∧w' = w:=by
 go_enter func98,ntmps98
 go_wp2
 go_ret
 exact ⟨rfl,rfl⟩
theorem tz64 (x:Nat) (hx:x<18446744073709551616) (w:World) (hT:x≠0→TabAt 0 Lib.deBruijn64tab w) :
  Calls prog 98 #[.int .u64 x] w fun e w'=>e = .returned (.int .i64 (Lib.ctz 64 x))∧w' = w:=by
 by_cases hx0:x=0
 · subst hx0; exact tz64_zero w
 · obtain ⟨hlow,hk⟩:=Lib.lowest_bit 64 x hx0 hx
   obtain ⟨hi,htab⟩:=Lib.deBruijn64_at _ hk
   have hcell:=hT hx0 _ hi
   rw [htab] at hcell
   exact tz64_core x _ _ w (by simp; omega) (tz64_key x _ hx hx0 hlow) hi hk hcell
theorem tabAt_of [T:BitTab prog 0] {w:World} (h : ∀ p∈Tabs.tabs prog,w.heap[p.1]? = some p.2):TabAt 0 Lib.deBruijn64tab w:=by
 intro j hj
 have:=h (0,_) (by rw [T.eq]; exact List.mem_singleton.2 rfl)
 simp only [World.cell?,this]
 simp [hj]
namespace Am
theorem tz_call [BitTab prog 0] {h:Yc} {x:Nat} (hx:x<18446744073709551616):APure prog 98 [.int .u64 (x:Int)] h (.int .i64 (Lib.ctz 64 x:Nat)):=by
 refine ⟨enters_of func98 (by kernel_rfl) rfl,fun n ρ args' w s hr=>?_⟩
 have e:args' = #[.int .u64 (x:Int)]:=by
  apply Array.ext'
  obtain ⟨v',l',e1,h1,h2⟩:=hr.cons_inv
  have e2:l' = []:=List.length_eq_zero_iff.1 h2.1.symm
  rw [e1,h1.int,e2]
 subst e
 refine callsIn_wide.2 ((tz64 x hx w fun _=>tabAt_of fun p hp=>(s.tab p hp).1).mono ?_)
 rintro en w' ⟨rfl,rfl⟩
 exact ⟨_,_,ρ,h,rfl,⟨rfl,rfl⟩,VRel.atom rfl,Evo.refl _ _ _,s⟩
end Am
end Go.Proofs.Tryd
namespace Oc
open Go.Am
def M1:Nat→Nat | 0=>0 | n+1=>256*M1 n+85
def M2:Nat→Nat | 0=>0 | n+1=>256*M2 n+51
def M3:Nat→Nat | 0=>0 | n+1=>256*M3 n+15
def f1 (n x:Nat):Nat:=(x / 2 &&& M1 n)+(x &&& M1 n)
def f2 (n x:Nat):Nat:=(x / 4 &&& M2 n)+(x &&& M2 n)
def f3 (n x:Nat):Nat:=(x / 16+x) &&& M3 n
theorem and_split {a b m M:Nat} (hb:b<256) (hm:m<256):(256*a+b) &&& (256*M+m)=256*(a &&& M)+(b &&& m):=by
 have h2:b &&& m<2 ^ 8:=Nat.and_lt_two_pow _ hm
 apply Nat.eq_of_testBit_eq; intro i
 rw [Nat.testBit_and,show 256=2 ^ 8 from rfl,Nat.testBit_two_pow_mul_add _ hb,Nat.testBit_two_pow_mul_add _ hm,Nat.testBit_two_pow_mul_add _ h2]
 split <;> rw [Nat.testBit_and]
def d1 (b:Nat):Nat:=(b / 2 &&& 85)+(b &&& 85)
def d2 (b:Nat):Nat:=(d1 b / 4 &&& 51)+(d1 b &&& 51)
def d3 (b:Nat):Nat:=(d2 b / 16+d2 b) &&& 15
theorem tab1:(List.range 256).all (fun b=>decide ((128+b / 2) &&& 85=b / 2 &&& 85)&&decide (d1 b<256))=true:=by kernel_rfl
theorem tab2:(List.range 256).all (fun b=>decide ((64+d1 b / 4) &&& 51=d1 b / 4 &&& 51)&&decide ((128+d1 b / 4) &&& 51=d1 b / 4 &&& 51)&&decide ((192+d1 b / 4) &&& 51=d1 b / 4 &&& 51))=true:=by kernel_rfl
theorem tab3:(List.range 256).all (fun b=>decide (d2 b<256)&&decide (d2 b % 16≤4)&&decide (d2 b / 16≤4)&&decide (d3 b≤8)&&decide (d3 b=(List.range 8).countP b.testBit))=true:=by kernel_rfl
variable {b n y:Nat}
theorem step1 (hb:b<256):f1 (n+1) (256*y+b)=256*f1 n y+d1 b:=by
 have ht:=List.all_eq_true.1 tab1 b (List.mem_range.2 hb)
 simp only [Bool.and_eq_true,decide_eq_true_eq] at ht
 have e:(256*y+b) / 2=256*(y / 2)+(128*(y % 2)+b / 2):=by omega
 rw [f1,M1,e,and_split (by omega) (by decide),and_split hb (by decide),f1,d1]
 have:(128*(y % 2)+b / 2) &&& 85=b / 2 &&& 85:=by
  rcases Nat.mod_two_eq_zero_or_one y with h | h <;> rw [h]
  · rw [Nat.mul_zero,Nat.zero_add]
  · exact ht.1
 rw [this]; omega
theorem step2 (hb:b<256):f2 (n+1) (256*y+d1 b)=256*f2 n y+d2 b:=by
 have h1:=List.all_eq_true.1 tab1 b (List.mem_range.2 hb)
 have ht:=List.all_eq_true.1 tab2 b (List.mem_range.2 hb)
 simp only [Bool.and_eq_true,decide_eq_true_eq] at ht h1
 have e:(256*y+d1 b) / 4=256*(y / 4)+(64*(y % 4)+d1 b / 4):=by omega
 rw [f2,M2,e,and_split (by omega) (by decide),and_split h1.2 (by decide),f2,d2]
 have:(64*(y % 4)+d1 b / 4) &&& 51=d1 b / 4 &&& 51:=by
  have:y % 4=0∨y % 4=1∨y % 4=2∨y % 4=3:=by omega
  rcases this with h | h | h | h <;> rw [h]
  · rw [Nat.mul_zero,Nat.zero_add]
  · exact ht.1.1
  · exact ht.1.2
  · exact ht.2
 rw [this]; omega
theorem step3 (hb:b<256) (hy:y % 16≤4):f3 (n+1) (256*y+d2 b)=256*f3 n y+d3 b:=by
 have ht:=List.all_eq_true.1 tab3 b (List.mem_range.2 hb)
 simp only [Bool.and_eq_true,decide_eq_true_eq] at ht
 have e:(256*y+d2 b) / 16+(256*y+d2 b)=256*(y / 16+y)+(16*(y % 16)+d2 b / 16+d2 b):=by omega
 rw [f3,M3,e,and_split (by omega) (by decide),f3,d3]
 have:(16*(y % 16)+d2 b / 16+d2 b) &&& 15=(d2 b / 16+d2 b) &&& 15:=by
  rw [show 15=2 ^ 4-1 from rfl,Nat.and_two_pow_sub_one_eq_mod,Nat.and_two_pow_sub_one_eq_mod]; omega
 rw [this]
def g1:Nat→Nat→Nat | 0,_=>0 | n+1,x=>256*g1 n (x / 256)+d1 (x % 256)
def g2:Nat→Nat→Nat | 0,_=>0 | n+1,x=>256*g2 n (x / 256)+d2 (x % 256)
def g3:Nat→Nat→Nat | 0,_=>0 | n+1,x=>256*g3 n (x / 256)+d3 (x % 256)
theorem split (x:Nat):x=256*(x / 256)+x % 256:=by omega
theorem f1_eq : ∀ n x:Nat,f1 n x=g1 n x
 | 0,x=>by simp [f1,g1,M1]
 | n+1,x=>by
   rw [g1,← f1_eq n,← step1 (Nat.mod_lt _ (by decide)),← split x]
theorem f2_eq : ∀ n x:Nat,f2 n (g1 n x)=g2 n x
 | 0,x=>by simp [f2,g2,M2]
 | n+1,x=>by rw [g1,step2 (Nat.mod_lt _ (by decide)),f2_eq n,g2]
theorem g2_mod : ∀ n x:Nat,g2 n x % 16≤4
 | 0,x=>by simp [g2]
 | n+1,x=>by
   have ht:=List.all_eq_true.1 tab3 (x % 256) (List.mem_range.2 (Nat.mod_lt _ (by decide)))
   simp only [Bool.and_eq_true,decide_eq_true_eq] at ht
   rw [g2]; omega
theorem f3_eq : ∀ n x:Nat,f3 n (g2 n x)=g3 n x
 | 0,x=>by simp [f3,g3,M3]
 | n+1,x=>by rw [g2,step3 (Nat.mod_lt _ (by decide)) (g2_mod n _),f3_eq n,g3]
theorem f123 (x:Nat):f3 8 (f2 8 (f1 8 x))=g3 8 x:=by rw [f1_eq,f2_eq,f3_eq]
theorem pop_step (n x:Nat):(List.range (8+n)).countP x.testBit=d3 (x % 256)+(List.range n).countP (x / 256).testBit:=by
 have ht:=List.all_eq_true.1 tab3 (x % 256) (List.mem_range.2 (Nat.mod_lt _ (by decide)))
 simp only [Bool.and_eq_true,decide_eq_true_eq] at ht
 rw [ht.2,List.range_add,List.countP_append,List.countP_map]
 congr 1
 · refine List.countP_congr fun i hi=>?_
   rw [show 256=2 ^ 8 from rfl,Nat.testBit_mod_two_pow]
   simp [List.mem_range.1 hi]
 · refine List.countP_congr fun i _=>?_
   rw [Function.comp,show 256=2 ^ 8 from rfl,Nat.testBit_div_two_pow,Nat.add_comm]
def c (x k:Nat):Nat:=d3 (x / 256 ^ k % 256)
theorem c_le (x k:Nat):c x k≤8:=by
 have ht:=List.all_eq_true.1 tab3 (x / 256 ^ k % 256) (List.mem_range.2 (Nat.mod_lt _ (by decide)))
 simp only [Bool.and_eq_true,decide_eq_true_eq] at ht
 exact ht.1.2
theorem g3_8 (x:Nat):g3 8 x=c x 0+256*(c x 1+256*(c x 2+256*(c x 3+256*(c x 4+256*(c x 5+256*(c x 6+256*c x 7)))))):=by
 simp only [g3,c,Nat.div_div_eq_div_mul,Nat.reduceMul,Nat.reducePow,Nat.div_one,Nat.mul_zero,Nat.zero_add]; omega
theorem pop_8 (x:Nat):(bits x).length=c x 0+c x 1+c x 2+c x 3+c x 4+c x 5+c x 6+c x 7:=by
 rw [bits,← List.countP_eq_length_filter,show (64:Nat)=8+(8+(8+(8+(8+(8+(8+(8+0))))))) from rfl,pop_step,pop_step,pop_step,pop_step,pop_step,pop_step,pop_step,pop_step]
 simp only [c,Nat.div_div_eq_div_mul,Nat.reduceMul,Nat.reducePow,Nat.div_one,List.range_zero,List.countP_nil]; omega
theorem dv {a b:Nat} (h:a<256):(a+256*b) / 256=b:=by omega
theorem dv2 {a a' b:Nat} (h:a<256) (h' : a' < 256):(a+256*(a' + 256*b)) / 65536=b:=by rw [show 65536=256*256 from rfl,← Nat.div_div_eq_div_mul,dv h,dv h']
theorem dv4 {a a' a2 a3 b:Nat} (h:a<256) (h' : a' < 256) (h2:a2<256) (h3:a3<256):(a+256*(a' + 256*(a2+256*(a3+256*b)))) / 4294967296=b:=by
 rw [show 4294967296=65536*65536 from rfl,← Nat.div_div_eq_div_mul,dv2 h h',dv2 h2 h3]
theorem md {a x:Nat} (h:a<128):(a+256*x) % 128=a:=by omega
def y0 (c0 c1 c2 c3 c4 c5 c6 c7:Nat):Nat:=c0+256*(c1+256*(c2+256*(c3+256*(c4+256*(c5+256*(c6+256*c7))))))
section
variable {c0 c1 c2 c3 c4 c5 c6 c7:Nat}
theorem y0_lt (h0:c0<256) (h1:c1<256) (h2:c2<256) (h3:c3<256) (h4:c4<256) (h5:c5<256) (h6:c6<256) (h7:c7<128):y0 c0 c1 c2 c3 c4 c5 c6 c7<9223372036854775808:=by
 unfold y0; omega
theorem y0_256 (h0:c0<256):y0 c0 c1 c2 c3 c4 c5 c6 c7 / 256=y0 c1 c2 c3 c4 c5 c6 c7 0:=by unfold y0; rw [dv h0]; omega
theorem y0_2 (h0:c0<256) (h1:c1<256):y0 c0 c1 c2 c3 c4 c5 c6 c7 / 65536=y0 c2 c3 c4 c5 c6 c7 0 0:=by unfold y0; rw [dv2 h0 h1]; omega
theorem y0_4 (h0:c0<256) (h1:c1<256) (h2:c2<256) (h3:c3<256):y0 c0 c1 c2 c3 c4 c5 c6 c7 / 4294967296=y0 c4 c5 c6 c7 0 0 0 0:=by unfold y0; rw [dv4 h0 h1 h2 h3]; omega
theorem y0_add {b0 b1 b2 b3 b4 b5 b6 b7:Nat}:y0 c0 c1 c2 c3 c4 c5 c6 c7+y0 b0 b1 b2 b3 b4 b5 b6 b7=y0 (c0+b0) (c1+b1) (c2+b2) (c3+b3) (c4+b4) (c5+b5) (c6+b6) (c7+b7):=by unfold y0; omega
theorem y0_mod (h0:c0<128):y0 c0 c1 c2 c3 c4 c5 c6 c7 % 128=c0:=md h0
end
theorem fold {z c0 c1 c2 c3 c4 c5 c6 c7:Nat} (h0:c0≤8) (h1:c1≤8) (h2:c2≤8) (h3:c3≤8) (h4:c4≤8) (h5:c5≤8) (h6:c6≤8) (h7:c7≤8) (hz:z=y0 c0 c1 c2 c3 c4 c5 c6 c7) :
  z<9223372036854775808∧z+z / 256<9223372036854775808∧(z+z / 256)+(z+z / 256) / 65536<9223372036854775808∧(z+z / 256)+(z+z / 256) / 65536+((z+z / 256)+(z+z / 256) / 65536) / 4294967296<9223372036854775808 ∧
  ((z+z / 256)+(z+z / 256) / 65536+((z+z / 256)+(z+z / 256) / 65536) / 4294967296) % 128=c0+c1+c2+c3+c4+c5+c6+c7:=by
 have e1:z+z / 256=y0 (c0+c1) (c1+c2) (c2+c3) (c3+c4) (c4+c5) (c5+c6) (c6+c7) (c7+0):=by rw [hz,y0_256 (by omega),y0_add]
 rw [e1,hz,y0_2 (by omega) (by omega),y0_add,y0_4 (by omega) (by omega) (by omega) (by omega),y0_add,y0_mod (by omega)]
 refine ⟨y0_lt (by omega) (by omega) (by omega) (by omega) (by omega) (by omega) (by omega) (by omega),y0_lt (by omega) (by omega) (by omega) (by omega) (by omega) (by omega) (by omega) (by omega),y0_lt (by omega) (by omega) (by omega) (by omega) (by omega) (by omega) (by omega) (by omega),y0_lt (by omega) (by omega) (by omega) (by omega) (by omega) (by omega) (by omega) (by omega),by omega⟩
end Oc
namespace Go.Proofs.Tryd.Am.Su
open Go.Proofs.Tryd.Am
open Go.Am
set_option maxRecDepth 100000
set_option maxHeartbeats 1000000
/-! How many elements a set has, as the library counts. -/
def oc1 (x:Int):Int:=addV .u64 (We .and .u64 (shrV .u64 x 1) 6148914691236517205) (We .and .u64 x 6148914691236517205)
def oc2 (x:Int):Int:=addV .u64 (We .and .u64 (shrV .u64 x 2) 3689348814741910323) (We .and .u64 x 3689348814741910323)
def oc3 (x:Int):Int:=We .and .u64 (addV .u64 (shrV .u64 x 4) x) 1085102592571150095
def oc4 (x:Int):Int:=addV .u64 x (shrV .u64 x 8)
def oc5 (x:Int):Int:=addV .u64 x (shrV .u64 x 16)
def oc6 (x:Int):Int:=addV .u64 x (shrV .u64 x 32)
def ocA (x:Int):Int:=We .and .i64 (IntKind.i64.wrap (oc6 (oc5 (oc4 (oc3 (oc2 (oc1 x))))))) 127
theorem shrU' {a y:Nat} {k:Int} (hk:k=(y:Int)) (ha:a<18446744073709551616):shrV .u64 a k=((a / 2 ^ y:Nat):Int):=by
 rw [hk,shrU ha,Nat.shiftRight_eq_div_pow]
theorem andU' {a b:Nat} {k:Int} (hk:k=(b:Int)) (ha:a<18446744073709551616) (hb:b<18446744073709551616):We .and .u64 a k=((a &&& b:Nat):Int):=by
 rw [hk,andU ha hb]
theorem dlt {a:Nat} (y:Nat) (ha:a<18446744073709551616):a / 2 ^ y<18446744073709551616:=Nat.lt_of_le_of_lt (Nat.div_le_self _ _) ha
theorem oc1_eq {x:Nat} (hx:x<18446744073709551616):oc1 (x:Int)=(Oc.f1 8 x:Nat)∧Oc.f1 8 x<18446744073709551616:=by
 have h1:x / 2 ^ 1 &&& 6148914691236517205≤6148914691236517205:=Nat.and_le_right
 have h2:x &&& 6148914691236517205≤6148914691236517205:=Nat.and_le_right
 have e:Oc.f1 8 x=(x / 2 ^ 1 &&& 6148914691236517205)+(x &&& 6148914691236517205):=rfl
 rw [oc1,shrU' (k:=1) (y:=1) rfl hx,andU' (k:=6148914691236517205) (b:=6148914691236517205) rfl (dlt _ hx) (by decide),andU' (k:=6148914691236517205) (b:=6148914691236517205) rfl hx (by decide),addU (by omega),e]
 exact ⟨rfl,by omega⟩
theorem oc2_eq {x:Nat} (hx:x<18446744073709551616):oc2 (x:Int)=(Oc.f2 8 x:Nat)∧Oc.f2 8 x≤7378697629483820646:=by
 have h1:x / 2 ^ 2 &&& 3689348814741910323≤3689348814741910323:=Nat.and_le_right
 have h2:x &&& 3689348814741910323≤3689348814741910323:=Nat.and_le_right
 have e:Oc.f2 8 x=(x / 2 ^ 2 &&& 3689348814741910323)+(x &&& 3689348814741910323):=rfl
 rw [oc2,shrU' (k:=2) (y:=2) rfl hx,andU' (k:=3689348814741910323) (b:=3689348814741910323) rfl (dlt _ hx) (by decide),andU' (k:=3689348814741910323) (b:=3689348814741910323) rfl hx (by decide),addU (by omega),e]
 exact ⟨rfl,by omega⟩
theorem oc3_eq {x:Nat} (hx:x≤7378697629483820646):oc3 (x:Int)=(Oc.f3 8 x:Nat):=by
 have h1:x / 2 ^ 4+x<18446744073709551616:=by omega
 have e:Oc.f3 8 x=(x / 2 ^ 4+x) &&& 1085102592571150095:=rfl
 rw [oc3,shrU' (k:=4) (y:=4) rfl (by omega),addU h1,andU' (k:=1085102592571150095) (b:=1085102592571150095) rfl h1 (by decide),e]
theorem ocA_eq {x:Nat} (hx:x<18446744073709551616):ocA (x:Int)=(((Am.bits x).length:Nat):Int):=by
 obtain ⟨e1,l1⟩:=oc1_eq hx
 obtain ⟨e2,l2⟩:=oc2_eq l1
 rw [ocA,e1,e2,oc3_eq l2,Oc.f123,Oc.pop_8]
 have hf:=Oc.fold (Oc.c_le x 0) (Oc.c_le x 1) (Oc.c_le x 2) (Oc.c_le x 3) (Oc.c_le x 4) (Oc.c_le x 5) (Oc.c_le x 6) (Oc.c_le x 7) (Oc.g3_8 x)
 generalize Oc.g3 8 x=z at hf
 obtain ⟨b0,b1,b2,b3,b4⟩:=hf
 rw [← b4]
 have a4:oc4 (z:Int)=((z+z / 256:Nat):Int):=by rw [oc4,shrU' (k:=8) (y:=8) rfl (by omega)]; exact addU (by show z+z / 256<_; omega)
 rw [a4]
 generalize z+z / 256=y at b1 b2 b3
 have a5:oc5 (y:Int)=((y+y / 65536:Nat):Int):=by rw [oc5,shrU' (k:=16) (y:=16) rfl (by omega)]; exact addU (by show y+y / 65536<_; omega)
 rw [a5]
 generalize y+y / 65536=u at b2 b3
 have a6:oc6 (u:Int)=((u+u / 4294967296:Nat):Int):=by rw [oc6,shrU' (k:=32) (y:=32) rfl (by omega)]; exact addU (by show u+u / 4294967296<_; omega)
 rw [a6]
 generalize u+u / 4294967296=t at b3
 rw [wrap_id (by omega) (by omega),show (127:Int)=((127:Nat):Int) from rfl,bitsV_and b3 (by decide),show 127=2 ^ 7-1 from rfl,Nat.and_two_pow_sub_one_eq_mod]
theorem ones_call [Tabs prog] {h:Yc} {x:Nat} (hx:x<18446744073709551616):APure prog 99 [.int .u64 (x:Int)] h (Zx ((Am.bits x).length:Nat)):=by
 have hoc:=ocA_eq hx
 refine s99_call (by simp) ?_
 simp (maxSteps:=2000000) only [s99,↓Za,↓Zk,↓Zr,↓Ze,↓Zm,↓Zs,↓Zf,↓Zh,↓Zg,↓Zc,↓Zb,↓vdn,vup,Zn,Zl,Zo,Zi,Zj,List.map_cons,List.map_nil,cond_true,cond_false,aop,Zv,Zq,Zp,ev,sput,Zt,Zy,Ya,unK,Zd,Zw,Nat.reduceBEq,Nat.reduceAdd,Int.reduceBEq,Int.reduceBNe,Int.reduceLT,Zu,Zz,tup,tyf,convK,und_88,und_3,Int.reduceLE,true_and]
 exact congrArg (fun z:Int=>Zx z) hoc
theorem beq1 (b:Bool):((if b then (1:Int) else 0)==1)=b:=by cases b <;> rfl
theorem beq0 (b:Bool):((if b then (1:Int) else 0)==0) = !b:=by cases b <;> rfl
theorem and_pred_lt (s:Nat) (h:s≠0):s &&& (s-1)<s:=Nat.lt_of_le_of_lt Nat.and_le_right (by omega)
theorem ofNe {s:Nat}:((s:Int) != 0)=decide (s≠0):=by
 rw [Bool.eq_iff_iff,bne_iff_ne,decide_eq_true_eq]; omega
theorem equal_call [Tabs prog] {h:Yc} {v w:Value} {xs ys:List Int} (hv:IntSl h v xs) (hw:IntSl h w ys) (hl:xs.length<9223372036854775808) (hl2:ys.length<9223372036854775808) :
  APure prog 36 [v,w] h (.bool (decide (xs=ys))):=by
 refine s36_call (by simp) ?_
 by_cases hlen:xs.length=ys.length
 · have hne:((xs.length:Int) != ys.length)=false:=by simp [hlen]
   simp (maxSteps:=2000000) only [s36,↓Za,↓Zk,↓Zr,↓Ze,↓Zm,↓Zs,↓Zf,↓Zh,↓Zg,↓Zc,↓Zb,↓vdn,vup,Zn,Zl,Zo,Zi,Zj,List.map_cons,List.map_nil,cond_true,cond_false,aop,Zv,Zq,Zp,ev,sput,Zt,Zy,Ya,unK,Zd,Zw,Nat.reduceBEq,Nat.reduceAdd,Int.reduceBEq,Int.reduceBNe,Int.reduceLT,Zu,Zz,tup,tyf,hv.len,hw.len,hne,↓Xo]
   refine Yf fun Q hQ=>?_
   refine Ve (γ:=Nat) (fun i=>i≤xs.length∧∀ k,k<i→xs.getD k 0=ys.getD k 0)
    (fun i=>([(0,v),(1,w),(12,Zx xs.length),(13,Zx i)],h)) (fun i=>xs.length-i) 0 ⟨by omega,fun _ hk=>by omega⟩ (by simp (maxSteps:=2000000) only [↓Za,↓Zk,↓Zr,↓Ze,↓Zm,↓Zs,↓Zf,↓Zh,↓Zg,↓Zc,↓Zb,↓vdn,vup,Zn,Zl,Zo,Zi,Zj,List.map_cons,List.map_nil,cond_true,cond_false,aop,Zv,Zq,Zp,ev,sput,Zt,Zy,Ya,unK,Zd,Zw,Nat.reduceBEq,Nat.reduceAdd,Int.reduceBEq,Int.reduceBNe,Int.reduceLT,Zu,Zz,tup,tyf,Int.natCast_zero]) rfl ?_
   rintro i ⟨hi,hok⟩
   refine Vi fun Q2 hQ2=>?_
   by_cases hin:(i:Int)<xs.length
   · have h1:i<xs.length:=by omega
     have h2:i<ys.length:=by omega
     simp (maxSteps:=2000000) only [s36,↓Za,↓Zk,↓Zr,↓Ze,↓Zm,↓Zs,↓Zf,↓Zh,↓Zg,↓Zc,↓Zb,↓vdn,vup,Zn,Zl,Zo,Zi,Zj,List.map_cons,List.map_nil,cond_true,cond_false,aop,Zv,Zq,Zp,ev,sput,Zt,Zy,Ya,unK,Zd,Zw,Nat.reduceBEq,Nat.reduceAdd,Int.reduceBEq,Int.reduceBNe,Int.reduceLT,Zu,Zz,tup,tyf,l36_0,hin]
     refine aw_draw [] (by kernel_rfl) (by kernel_rfl) (by kernel_rfl) ?_
     by_cases heq:xs.getD i 0=ys.getD i 0
     · have hb:(xs.getD i 0 != ys.getD i 0)=false:=by rw [heq]; exact bne_self_eq_false _
       simp (maxSteps:=2000000) only [s36,↓Za,↓Zk,↓Zr,↓Ze,↓Zm,↓Zs,↓Zf,↓Zh,↓Zg,↓Zc,↓Zb,↓vdn,vup,Zn,Zl,Zo,Zi,Zj,List.map_cons,List.map_nil,cond_true,cond_false,aop,Zv,Zq,Zp,ev,sput,Zt,Zy,Ya,unK,Zd,Zw,Nat.reduceBEq,Nat.reduceAdd,Int.reduceBEq,Int.reduceBNe,Int.reduceLT,Zu,Zz,tup,tyf,hv.idx Wp Xk h1,hv.load Yw h1,hw.idx Wp Xk h2,hw.load Yw h2,hb,Vd (show i<9223372036854775807 by omega)]
       refine hQ2 _ _ _ ⟨i+1,⟨by omega,fun k hk=>?_⟩,by omega,by simp (maxSteps:=2000000) only [↓Za,↓Zk,↓Zr,↓Ze,↓Zm,↓Zs,↓Zf,↓Zh,↓Zg,↓Zc,↓Zb,↓vdn,vup,Zn,Zl,Zo,Zi,Zj,List.map_cons,List.map_nil,cond_true,cond_false,aop,Zv,Zq,Zp,ev,sput,Zt,Zy,Ya,unK,Zd,Zw,Nat.reduceBEq,Nat.reduceAdd,Int.reduceBEq,Int.reduceBNe,Int.reduceLT,Zu,Zz,tup,tyf],rfl⟩
       by_cases hki:k=i
       · subst hki; exact heq
       · exact hok k (by omega)
     · have hb:(xs.getD i 0 != ys.getD i 0)=true:=by simp only [bne_iff_ne,ne_eq]; exact heq
       simp (maxSteps:=2000000) only [s36,↓Za,↓Zk,↓Zr,↓Ze,↓Zm,↓Zs,↓Zf,↓Zh,↓Zg,↓Zc,↓Zb,↓vdn,vup,Zn,Zl,Zo,Zi,Zj,List.map_cons,List.map_nil,cond_true,cond_false,aop,Zv,Zq,Zp,ev,sput,Zt,Zy,Ya,unK,Zd,Zw,Nat.reduceBEq,Nat.reduceAdd,Int.reduceBEq,Int.reduceBNe,Int.reduceLT,Zu,Zz,tup,tyf,hv.idx Wp Xk h1,hv.load Yw h1,hw.idx Wp Xk h2,hw.load Yw h2,hb]
       refine hQ2 _ _ _ (hQ _ _ _ ?_)
       have hne:decide (xs=ys)=false:=decide_eq_false (fun he=>heq (by rw [he]))
       simp (maxSteps:=2000000) only [↓Za,↓Zk,↓Zr,↓Ze,↓Zm,↓Zs,↓Zf,↓Zh,↓Zg,↓Zc,↓Zb,↓vdn,vup,Zn,Zl,Zo,Zi,Zj,List.map_cons,List.map_nil,cond_true,cond_false,aop,Zv,Zq,Zp,ev,sput,Zt,Zy,Ya,unK,Zd,Zw,Nat.reduceBEq,Nat.reduceAdd,Int.reduceBEq,Int.reduceBNe,Int.reduceLT,Zu,Zz,tup,tyf,hne]
   · obtain rfl:i=xs.length:=by omega
     simp (maxSteps:=2000000) only [s36,↓Za,↓Zk,↓Zr,↓Ze,↓Zm,↓Zs,↓Zf,↓Zh,↓Zg,↓Zc,↓Zb,↓vdn,vup,Zn,Zl,Zo,Zi,Zj,List.map_cons,List.map_nil,cond_true,cond_false,aop,Zv,Zq,Zp,ev,sput,Zt,Zy,Ya,unK,Zd,Zw,Nat.reduceBEq,Nat.reduceAdd,Int.reduceBEq,Int.reduceBNe,Int.reduceLT,Zu,Zz,tup,tyf,l36_0,Int.lt_irrefl]
     refine hQ2 _ _ _ (hQ _ _ _ ?_)
     have he:decide (xs=ys)=true:=decide_eq_true (List.ext_getElem hlen fun k h1 h2=>by
      have:=hok k h1
      simpa [List.getD,List.getElem?_eq_getElem h1,List.getElem?_eq_getElem h2] using this)
     simp (maxSteps:=2000000) only [s36,↓Za,↓Zk,↓Zr,↓Ze,↓Zm,↓Zs,↓Zf,↓Zh,↓Zg,↓Zc,↓Zb,↓vdn,vup,Zn,Zl,Zo,Zi,Zj,List.map_cons,List.map_nil,cond_true,cond_false,aop,Zv,Zq,Zp,ev,sput,Zt,Zy,Ya,unK,Zd,Zw,Nat.reduceBEq,Nat.reduceAdd,Int.reduceBEq,Int.reduceBNe,Int.reduceLT,Zu,Zz,tup,tyf,if_true,he]
 · have hne:((xs.length:Int) != ys.length)=true:=by simp only [bne_iff_ne,ne_eq]; omega
   have hf:decide (xs=ys)=false:=decide_eq_false (fun he=>hlen (by rw [he]))
   simp (maxSteps:=2000000) only [s36,↓Za,↓Zk,↓Zr,↓Ze,↓Zm,↓Zs,↓Zf,↓Zh,↓Zg,↓Zc,↓Zb,↓vdn,vup,Zn,Zl,Zo,Zi,Zj,List.map_cons,List.map_nil,cond_true,cond_false,aop,Zv,Zq,Zp,ev,sput,Zt,Zy,Ya,unK,Zd,Zw,Nat.reduceBEq,Nat.reduceAdd,Int.reduceBEq,Int.reduceBNe,Int.reduceLT,Zu,Zz,tup,tyf,hv.len,hw.len,hne,hf]
end Go.Proofs.Tryd.Am.Su
