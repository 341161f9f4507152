/-
  top: rectangles of a table.
  top: whether all values in a rectangle are the same.
  top: the first greatest fooling set, as the program finds it.
  top: the first greatest fooling set, as the program finds it: the search, and Fool.
  top: the iterator over all rectangles, on the model's own worlds.
-/
import Derived.Test.YtmjpngmoankpkaaDoorPk8
import Derived.Test.YtmjpngmoankpkaaDoorProg
import Derived.Test.YtmjpngmoankpkaaDoorPk5
import Derived.Shelf.Abstract
import Derived.TacticsInMore
import Derived.LoopNIn
import Derived.LoopIn
set_option linter.all false
namespace Go.Proofs.Tryd.Am.Tf
open Go.Proofs.Tryd.Am
open Go.Am
set_option maxRecDepth 100000
set_option maxHeartbeats 2000000
abbrev rV (a b:Nat):Value:=.agg #[Zx (a:Nat),Zx (b:Nat)]
theorem boxR {h:Yc} {a b:Nat} {K:Value→Yc→Prop}:boxK prog h 81 (rV a b) K=K (Xd h) (h++[Blk.cells [Zx (a:Nat),Zx (b:Nat)] 81 false]):=by
 simp only [boxK,esz_81,Option.isSome_some,true_and,cellsOf]
theorem loadR {h:Yc} {p:Nat} {ro:Bool} {x y:Int} {K:Value→Prop} (hb:h[p]? = some (.cells [Zx x,Zx y] 81 ro)):Xn prog h 81 (pt p) K=K (.agg #[Zx x,Zx y]) :=
 loadA hb (by rw [shp_81]; rfl)
def hasB (a b i j:Nat):Bool:=a.testBit i&&b.testBit j
theorem s46_callW [Tabs Tryd.prog] {args:List Value} {h:Yc} {Q:Value→Yc→Prop} (hsz:args.length≤21) (hk:AWS Tryd.prog 21 s46 (Zu Tryd.prog [.tmp 6] Q) (Zp 0 args) h):ACall Tryd.prog 46 args h Q :=
 Xg Tryd.func46 rfl (enters_of Tryd.func46 (by kernel_rfl) rfl) rfl rfl (by decide) s46_strip s46_ok hsz hk
theorem has_call [Tabs prog] {h:Yc} {a b i j:Nat} (ha:a<9223372036854775808) (hb:b<9223372036854775808):ACall prog 46 [rV a b,Zx (i:Nat),Zx (j:Nat)] h fun r h'=>r = .bool (hasB a b i j)∧Ext (fun _=>False) h h':=by
 have hnn : ∀ k:Nat,(0:Int)≤(k:Int):=Int.natCast_nonneg
 refine s46_callW (by simp) ?_
 simp only [s46]
 refine Yb fun N1 hN1=>?_
 simp (maxSteps:=2000000) only [s46,↓Za,↓Zk,↓Zr,↓Ze,↓Zm,↓Zs,↓Zf,↓Zh,↓Zg,↓Zc,↓Zb,↓vdn,vup,Zn,Zl,Zo,Zi,Zj,List.map_cons,List.map_nil,cond_true,cond_false,aop,Zv,Zq,Zp,ev,sput,Zt,Zy,Ya,unK,Zd,Zw,Nat.reduceBEq,Nat.reduceAdd,Int.reduceBEq,Int.reduceBNe,Int.reduceLT,Zu,Zz,tup,tyf,boxR,Xd]
 have hE:Ext (fun _=>False) h (h++[Blk.cells [Zx (a:Nat),Zx (b:Nat)] 81 false]):=Ext.app _ _ _
 have c3:=Yj h (Blk.cells [Zx (a:Nat),Zx (b:Nat)] 81 false)
 generalize h++[Blk.cells [Zx (a:Nat),Zx (b:Nat)] 81 false]=h1 at hE c3 ⊢
 generalize h.length=b3 at c3 ⊢
 refine hN1 [(0,rV a b),(1,Zx (i:Nat)),(2,Zx (j:Nat)),(3,pt b3),(6,.bool false)] _ _ ?_ (by simp (maxSteps:=2000000) only [↓Za,↓Zk,↓Zr,↓Ze,↓Zm,↓Zs,↓Zf,↓Zh,↓Zg,↓Zc,↓Zb,↓vdn,vup,Zn,Zl,Zo,Zi,Zj,List.map_cons,List.map_nil,cond_true,cond_false,aop,Zv,Zq,Zp,ev,sput,Zt,Zy,Ya,unK,Zd,Zw,Nat.reduceBEq,Nat.reduceAdd,Int.reduceBEq,Int.reduceBNe,Int.reduceLT,Zu,Zz,tup,tyf])
 clear hN1
 try clear N1
 refine Yb fun N2 hN2=>?_
 simp only [q46_1]
 refine Yl 7 fun N1 hN1=>?_
 simp (maxSteps:=2000000) only [s46,↓Za,↓Zk,↓Zr,↓Ze,↓Zm,↓Zs,↓Zf,↓Zh,↓Zg,↓Zc,↓Zb,↓vdn,vup,Zn,Zl,Zo,Zi,Zj,List.map_cons,List.map_nil,cond_true,cond_false,aop,Zv,Zq,Zp,ev,sput,Zt,Zy,Ya,unK,Zd,Zw,Nat.reduceBEq,Nat.reduceAdd,Int.reduceBEq,Int.reduceBNe,Int.reduceLT,Zu,Zz,tup,tyf,List.take_succ_cons,List.take_zero,fldA fld_81_0 Xk,pl0 c3,hnn,testV ha]
 refine hN1 _ _ ?_
 clear hN1 N1
 simp only [List.drop_succ_cons,List.drop_zero]
 cases hi:a.testBit i with
 | false =>
   simp (maxSteps:=2000000) only [s46,↓Za,↓Zk,↓Zr,↓Ze,↓Zm,↓Zs,↓Zf,↓Zh,↓Zg,↓Zc,↓Zb,↓vdn,vup,Zn,Zl,Zo,Zi,Zj,List.map_cons,List.map_nil,cond_true,cond_false,aop,Zv,Zq,Zp,ev,sput,Zt,Zy,Ya,unK,Zd,Zw,Nat.reduceBEq,Nat.reduceAdd,Int.reduceBEq,Int.reduceBNe,Int.reduceLT,Zu,Zz,tup,tyf,hi,if_false,Bool.false_eq_true,show ((0:Int)==1)=false from rfl]
   refine hN2 [(0,rV a b),(1,Zx (i:Nat)),(2,Zx (j:Nat)),(3,pt b3),(6,.bool false)] _ _ ?_ (by simp (maxSteps:=2000000) only [↓Za,↓Zk,↓Zr,↓Ze,↓Zm,↓Zs,↓Zf,↓Zh,↓Zg,↓Zc,↓Zb,↓vdn,vup,Zn,Zl,Zo,Zi,Zj,List.map_cons,List.map_nil,cond_true,cond_false,aop,Zv,Zq,Zp,ev,sput,Zt,Zy,Ya,unK,Zd,Zw,Nat.reduceBEq,Nat.reduceAdd,Int.reduceBEq,Int.reduceBNe,Int.reduceLT,Zu,Zz,tup,tyf])
   clear hN2
   try clear N2
   refine Yd ?_
   simp (maxSteps:=2000000) only [s46,↓Za,↓Zk,↓Zr,↓Ze,↓Zm,↓Zs,↓Zf,↓Zh,↓Zg,↓Zc,↓Zb,↓vdn,vup,Zn,Zl,Zo,Zi,Zj,List.map_cons,List.map_nil,cond_true,cond_false,aop,Zv,Zq,Zp,ev,sput,Zt,Zy,Ya,unK,Zd,Zw,Nat.reduceBEq,Nat.reduceAdd,Int.reduceBEq,Int.reduceBNe,Int.reduceLT,Zu,Zz,tup,tyf]
   exact ⟨by rw [hasB,hi]; rfl,hE⟩
 | true =>
   have hq:((if b.testBit j=true then (1:Int) else 0)==1)=b.testBit j:=by cases b.testBit j <;> rfl
   simp (maxSteps:=2000000) only [s46,↓Za,↓Zk,↓Zr,↓Ze,↓Zm,↓Zs,↓Zf,↓Zh,↓Zg,↓Zc,↓Zb,↓vdn,vup,Zn,Zl,Zo,Zi,Zj,List.map_cons,List.map_nil,cond_true,cond_false,aop,Zv,Zq,Zp,ev,sput,Zt,Zy,Ya,unK,Zd,Zw,Nat.reduceBEq,Nat.reduceAdd,Int.reduceBEq,Int.reduceBNe,Int.reduceLT,Zu,Zz,tup,tyf,hi,if_true,show ((1:Int)==1)=true from rfl,fldA fld_81_1 Xk,pl1 c3,hnn,testV hb,hq]
   refine hN2 [(0,rV a b),(1,Zx (i:Nat)),(2,Zx (j:Nat)),(3,pt b3),(6,.bool (b.testBit j))] _ _ ?_ (by simp (maxSteps:=2000000) only [↓Za,↓Zk,↓Zr,↓Ze,↓Zm,↓Zs,↓Zf,↓Zh,↓Zg,↓Zc,↓Zb,↓vdn,vup,Zn,Zl,Zo,Zi,Zj,List.map_cons,List.map_nil,cond_true,cond_false,aop,Zv,Zq,Zp,ev,sput,Zt,Zy,Ya,unK,Zd,Zw,Nat.reduceBEq,Nat.reduceAdd,Int.reduceBEq,Int.reduceBNe,Int.reduceLT,Zu,Zz,tup,tyf])
   clear hN2
   try clear N2
   refine Yd ?_
   simp (maxSteps:=2000000) only [s46,↓Za,↓Zk,↓Zr,↓Ze,↓Zm,↓Zs,↓Zf,↓Zh,↓Zg,↓Zc,↓Zb,↓vdn,vup,Zn,Zl,Zo,Zi,Zj,List.map_cons,List.map_nil,cond_true,cond_false,aop,Zv,Zq,Zp,ev,sput,Zt,Zy,Ya,unK,Zd,Zw,Nat.reduceBEq,Nat.reduceAdd,Int.reduceBEq,Int.reduceBNe,Int.reduceLT,Zu,Zz,tup,tyf]
   exact ⟨by rw [hasB,hi]; rfl,hE⟩
def inB (a b c d:Nat):Bool:=Wh a c==0&&Wh b d==0
theorem s96_callW [Tabs Tryd.prog] {args:List Value} {h:Yc} {Q:Value→Yc→Prop} (hsz:args.length≤19) (hk:AWS Tryd.prog 19 s96 (Zu Tryd.prog [.tmp 4] Q) (Zp 0 args) h):ACall Tryd.prog 96 args h Q :=
 Xg Tryd.func96 rfl (enters_of Tryd.func96 (by kernel_rfl) rfl) rfl rfl (by decide) s96_strip s96_ok hsz hk
theorem within_call [Tabs prog] {h:Yc} {a b c d:Nat} (ha:a<9223372036854775808) (hb:b<9223372036854775808) (hc:c<9223372036854775808) (hd:d<9223372036854775808):ACall prog 96 [rV a b,rV c d] h fun r h'=>r = .bool (inB a b c d)∧Ext (fun _=>False) h h':=by
 refine s96_callW (by simp) ?_
 simp only [s96]
 refine Yb fun N3 hN3=>?_
 simp (maxSteps:=2000000) only [s96,↓Za,↓Zk,↓Zr,↓Ze,↓Zm,↓Zs,↓Zf,↓Zh,↓Zg,↓Zc,↓Zb,↓vdn,vup,Zn,Zl,Zo,Zi,Zj,List.map_cons,List.map_nil,cond_true,cond_false,aop,Zv,Zq,Zp,ev,sput,Zt,Zy,Ya,unK,Zd,Zw,Nat.reduceBEq,Nat.reduceAdd,Int.reduceBEq,Int.reduceBNe,Int.reduceLT,Zu,Zz,tup,tyf,boxR,Xd]
 have c2:=Xi (Yj h (Blk.cells [Zx (a:Nat),Zx (b:Nat)] 81 false)) [Blk.cells [Zx (c:Nat),Zx (d:Nat)] 81 false]
 have c3:=Yj (h++[Blk.cells [Zx (a:Nat),Zx (b:Nat)] 81 false]) (Blk.cells [Zx (c:Nat),Zx (d:Nat)] 81 false)
 have hE:Ext (fun _=>False) h (h++[Blk.cells [Zx (a:Nat),Zx (b:Nat)] 81 false]++[Blk.cells [Zx (c:Nat),Zx (d:Nat)] 81 false]):=by rw [List.append_assoc]; exact Ext.app _ _ _
 generalize h++[Blk.cells [Zx (a:Nat),Zx (b:Nat)] 81 false]++[Blk.cells [Zx (c:Nat),Zx (d:Nat)] 81 false]=h1 at hE c2 c3 ⊢
 generalize (h++[Blk.cells [Zx (a:Nat),Zx (b:Nat)] 81 false]).length=b3 at c3 ⊢
 generalize h.length=b2 at c2 ⊢
 refine hN3 [(0,rV a b),(1,rV c d),(2,pt b2),(3,pt b3),(4,.bool false)] _ _ ?_ (by simp (maxSteps:=2000000) only [↓Za,↓Zk,↓Zr,↓Ze,↓Zm,↓Zs,↓Zf,↓Zh,↓Zg,↓Zc,↓Zb,↓vdn,vup,Zn,Zl,Zo,Zi,Zj,List.map_cons,List.map_nil,cond_true,cond_false,aop,Zv,Zq,Zp,ev,sput,Zt,Zy,Ya,unK,Zd,Zw,Nat.reduceBEq,Nat.reduceAdd,Int.reduceBEq,Int.reduceBNe,Int.reduceLT,Zu,Zz,tup,tyf])
 clear hN3
 try clear N3
 refine Yb fun N4 hN4=>?_
 simp only [q96_1]
 refine Yl 7 fun N1 hN1=>?_
 simp (maxSteps:=2000000) only [s96,↓Za,↓Zk,↓Zr,↓Ze,↓Zm,↓Zs,↓Zf,↓Zh,↓Zg,↓Zc,↓Zb,↓vdn,vup,Zn,Zl,Zo,Zi,Zj,List.map_cons,List.map_nil,cond_true,cond_false,aop,Zv,Zq,Zp,ev,sput,Zt,Zy,Ya,unK,Zd,Zw,Nat.reduceBEq,Nat.reduceAdd,Int.reduceBEq,Int.reduceBNe,Int.reduceLT,Zu,Zz,tup,tyf,List.take_succ_cons,List.take_zero,fldA fld_81_0 Xk,pl0 c2,pl0 c3,Wc ha hc]
 refine hN1 _ _ ?_
 clear hN1 N1
 simp only [List.drop_succ_cons,List.drop_zero]
 have e0 : ∀ k:Nat,((k:Int)==0)=(k==0):=fun k=>by
  rw [Bool.eq_iff_iff,beq_iff_eq,beq_iff_eq]; omega
 cases hi:(Wh a c==0) with
 | false =>
   simp (maxSteps:=2000000) only [s96,↓Za,↓Zk,↓Zr,↓Ze,↓Zm,↓Zs,↓Zf,↓Zh,↓Zg,↓Zc,↓Zb,↓vdn,vup,Zn,Zl,Zo,Zi,Zj,List.map_cons,List.map_nil,cond_true,cond_false,aop,Zv,Zq,Zp,ev,sput,Zt,Zy,Ya,unK,Zd,Zw,Nat.reduceBEq,Nat.reduceAdd,Int.reduceBEq,Int.reduceBNe,Int.reduceLT,Zu,Zz,tup,tyf,e0,hi]
   refine hN4 [(0,rV a b),(1,rV c d),(2,pt b2),(3,pt b3),(4,.bool false)] _ _ ?_ (by simp (maxSteps:=2000000) only [↓Za,↓Zk,↓Zr,↓Ze,↓Zm,↓Zs,↓Zf,↓Zh,↓Zg,↓Zc,↓Zb,↓vdn,vup,Zn,Zl,Zo,Zi,Zj,List.map_cons,List.map_nil,cond_true,cond_false,aop,Zv,Zq,Zp,ev,sput,Zt,Zy,Ya,unK,Zd,Zw,Nat.reduceBEq,Nat.reduceAdd,Int.reduceBEq,Int.reduceBNe,Int.reduceLT,Zu,Zz,tup,tyf])
   clear hN4
   try clear N4
   refine Yd ?_
   simp (maxSteps:=2000000) only [s96,↓Za,↓Zk,↓Zr,↓Ze,↓Zm,↓Zs,↓Zf,↓Zh,↓Zg,↓Zc,↓Zb,↓vdn,vup,Zn,Zl,Zo,Zi,Zj,List.map_cons,List.map_nil,cond_true,cond_false,aop,Zv,Zq,Zp,ev,sput,Zt,Zy,Ya,unK,Zd,Zw,Nat.reduceBEq,Nat.reduceAdd,Int.reduceBEq,Int.reduceBNe,Int.reduceLT,Zu,Zz,tup,tyf]
   exact ⟨by rw [inB,hi]; rfl,hE⟩
 | true =>
   simp (maxSteps:=2000000) only [s96,↓Za,↓Zk,↓Zr,↓Ze,↓Zm,↓Zs,↓Zf,↓Zh,↓Zg,↓Zc,↓Zb,↓vdn,vup,Zn,Zl,Zo,Zi,Zj,List.map_cons,List.map_nil,cond_true,cond_false,aop,Zv,Zq,Zp,ev,sput,Zt,Zy,Ya,unK,Zd,Zw,Nat.reduceBEq,Nat.reduceAdd,Int.reduceBEq,Int.reduceBNe,Int.reduceLT,Zu,Zz,tup,tyf,e0,hi,fldA fld_81_1 Xk,pl1 c2,pl1 c3,Wc hb hd]
   refine hN4 [(0,rV a b),(1,rV c d),(2,pt b2),(3,pt b3),(4,.bool (Wh b d==0))] _ _ ?_ (by simp (maxSteps:=2000000) only [↓Za,↓Zk,↓Zr,↓Ze,↓Zm,↓Zs,↓Zf,↓Zh,↓Zg,↓Zc,↓Zb,↓vdn,vup,Zn,Zl,Zo,Zi,Zj,List.map_cons,List.map_nil,cond_true,cond_false,aop,Zv,Zq,Zp,ev,sput,Zt,Zy,Ya,unK,Zd,Zw,Nat.reduceBEq,Nat.reduceAdd,Int.reduceBEq,Int.reduceBNe,Int.reduceLT,Zu,Zz,tup,tyf])
   clear hN4
   try clear N4
   refine Yd ?_
   simp (maxSteps:=2000000) only [s96,↓Za,↓Zk,↓Zr,↓Ze,↓Zm,↓Zs,↓Zf,↓Zh,↓Zg,↓Zc,↓Zb,↓vdn,vup,Zn,Zl,Zo,Zi,Zj,List.map_cons,List.map_nil,cond_true,cond_false,aop,Zv,Zq,Zp,ev,sput,Zt,Zy,Ya,unK,Zd,Zw,Nat.reduceBEq,Nat.reduceAdd,Int.reduceBEq,Int.reduceBNe,Int.reduceLT,Zu,Zz,tup,tyf]
   exact ⟨by rw [inB,hi]; rfl,hE⟩
theorem bldR {x y:Int} {K:Value→Prop}:Vv prog 81 [(0,Zx x),(1,Zx y)] K=K (.agg #[Zx x,Zx y]):=by
 simp [Vv,zero_81,fillL,pl_81_0,pl_81_1,Wt,cellsOf,Yt]
theorem storeR {h:Yc} {x y:Int} {K:Yc→Prop}:Xu prog (h++[Blk.cells [.int .i64 0,.int .i64 0] 81 false]) 81 (.pointer (some ⟨h.length,0,none⟩)) (.agg #[Zx x,Zx y]) K=K (h++[Blk.cells [Zx x,Zx y] 81 false]):=by
 have:=storeA (P:=prog) (h:=h++[Blk.cells [.int .i64 0,.int .i64 0] 81 false]) (t:=81) (vs:=[Zx x,Zx y]) (K:=K) (Yj h (Blk.cells [.int .i64 0,.int .i64 0] 81 false)) (by rw [shp_81]; rfl) rfl rfl
 rw [Be.set_new] at this
 exact this
theorem s134_callW [Tabs Tryd.prog] {args:List Value} {h:Yc} {Q:Value→Yc→Prop} (hsz:args.length≤14) (hk:AWS Tryd.prog 14 s134 (Zu Tryd.prog [.cell 2 81] Q) (Zp 0 args) h):ACall Tryd.prog 134 args h Q :=
 Xg Tryd.func134 rfl (enters_of Tryd.func134 (by kernel_rfl) rfl) rfl rfl (by decide) s134_strip s134_ok hsz hk
theorem whole_call [Tabs prog] {h:Yc} {v:Value} {t:List (List Int)} (hv:TabS h v t) (ht:Tab t):ACall prog 134 [v] h fun r h'=>r=rV (2 ^ t.length-1) (2 ^ wd t-1)∧Ext (fun _=>False) h h':=by
 have hnn : ∀ k:Nat,(0:Int)≤(k:Int):=Int.natCast_nonneg
 have p1 : ∀ n:Nat,n≤4→subV .i64 (shlV .i64 1 (n:Int)) 1=((2 ^ n-1:Nat):Int):=by decide
 have hi0:=hv.idx (P:=prog) el_70 Vb (k:=.i64) (i:=0) ht.n1
 rw [Int.natCast_zero] at hi0
 refine s134_callW (by simp) ?_
 simp only [s134]
 refine Yb fun N5 hN5=>?_
 simp (maxSteps:=2000000) only [s134,↓Za,↓Zk,↓Zr,↓Ze,↓Zm,↓Zs,↓Zf,↓Zh,↓Zg,↓Zc,↓Zb,↓vdn,vup,Zn,Zl,Zo,Zi,Zj,List.map_cons,List.map_nil,cond_true,cond_false,aop,Zv,Zq,Zp,ev,sput,Zt,Zy,Ya,unK,Zd,Zw,Nat.reduceBEq,Nat.reduceAdd,Int.reduceBEq,Int.reduceBNe,Int.reduceLT,Zu,Zz,tup,tyf,Xx,Xd,zero_81]
 refine hN5 [(0,v),(2,pt h.length)] _ _ ?_ (by simp (maxSteps:=2000000) only [↓Za,↓Zk,↓Zr,↓Ze,↓Zm,↓Zs,↓Zf,↓Zh,↓Zg,↓Zc,↓Zb,↓vdn,vup,Zn,Zl,Zo,Zi,Zj,List.map_cons,List.map_nil,cond_true,cond_false,aop,Zv,Zq,Zp,ev,sput,Zt,Zy,Ya,unK,Zd,Zw,Nat.reduceBEq,Nat.reduceAdd,Int.reduceBEq,Int.reduceBNe,Int.reduceLT,Zu,Zz,tup,tyf])
 clear hN5
 try clear N5
 have hA:Ext (fun _=>False) h (h++[Blk.cells [.int .i64 0,.int .i64 0] 81 false]):=Ext.app _ _ _
 obtain ⟨w0,hw0,ld0⟩:=(hv.ext hA).load (P:=prog) Wb (i:=0) ht.n1
 have hw1 : ∀ K,lenK w0 K=K (Zx (wd t:Nat)):=hw0.len
 refine Yb fun N6 hN6=>?_
 simp only [q134_1]
 refine Xv [] (by kernel_rfl) (by kernel_rfl) (by kernel_rfl) (by kernel_rfl) ?_
 simp (maxSteps:=2000000) only [s134,↓Za,↓Zk,↓Zr,↓Ze,↓Zm,↓Zs,↓Zf,↓Zh,↓Zg,↓Zc,↓Zb,↓vdn,vup,Zn,Zl,Zo,Zi,Zj,List.map_cons,List.map_nil,cond_true,cond_false,aop,Zv,Zq,Zp,ev,sput,Zt,Zy,Ya,unK,Zd,Zw,Nat.reduceBEq,Nat.reduceAdd,Int.reduceBEq,Int.reduceBNe,Int.reduceLT,Zu,Zz,tup,tyf,hv.len,hnn,p1 t.length ht.n4,hi0,ld0,hw1,p1 (wd t) ht.w4,bldR,storeR]
 refine hN6 [(0,v),(2,pt h.length)] _ _ ?_ (by simp (maxSteps:=2000000) only [↓Za,↓Zk,↓Zr,↓Ze,↓Zm,↓Zs,↓Zf,↓Zh,↓Zg,↓Zc,↓Zb,↓vdn,vup,Zn,Zl,Zo,Zi,Zj,List.map_cons,List.map_nil,cond_true,cond_false,aop,Zv,Zq,Zp,ev,sput,Zt,Zy,Ya,unK,Zd,Zw,Nat.reduceBEq,Nat.reduceAdd,Int.reduceBEq,Int.reduceBNe,Int.reduceLT,Zu,Zz,tup,tyf])
 clear hN6
 try clear N6
 refine Yd ?_
 simp (maxSteps:=2000000) only [s134,↓Za,↓Zk,↓Zr,↓Ze,↓Zm,↓Zs,↓Zf,↓Zh,↓Zg,↓Zc,↓Zb,↓vdn,vup,Zn,Zl,Zo,Zi,Zj,List.map_cons,List.map_nil,cond_true,cond_false,aop,Zv,Zq,Zp,ev,sput,Zt,Zy,Ya,unK,Zd,Zw,Nat.reduceBEq,Nat.reduceAdd,Int.reduceBEq,Int.reduceBNe,Int.reduceLT,Zu,Zz,tup,tyf,loadR (Yj _ _)]
 exact Ext.app _ _ _
theorem s48_callW [Tabs Tryd.prog] {args:List Value} {h:Yc} {Q:Value→Yc→Prop} (hsz:args.length≤10) (hk:AWS Tryd.prog 10 s48 (Zu Tryd.prog [.tmp 3] Q) (Zp 0 args) h):ACall Tryd.prog 48 args h Q :=
 Xg Tryd.func48 rfl (enters_of Tryd.func48 (by kernel_rfl) rfl) rfl rfl (by decide) s48_strip s48_ok hsz hk
theorem has2_call [Tabs prog] {h:Yc} {a b br:Nat} {t:List (List Int)} {p:Int×Int} (ha:a<9223372036854775808) (hb:b<9223372036854775808) (cr:h[br]? = some (.cells [Zx (a:Nat),Zx (b:Nat)] 81 false)) (hp:InT t p) :
  ACall prog 48 [pV p,pt br] h fun r h'=>r = .bool (hasB a b p.1.toNat p.2.toNat)∧Ext (fun _=>False) h h':=by
 obtain ⟨i,j,rfl,_,_⟩:=hp
 refine s48_callW (by simp) ?_
 simp only [s48]
 refine Yb fun N7 hN7=>?_
 simp (maxSteps:=2000000) only [s48,↓Za,↓Zk,↓Zr,↓Ze,↓Zm,↓Zs,↓Zf,↓Zh,↓Zg,↓Zc,↓Zb,↓vdn,vup,Zn,Zl,Zo,Zi,Zj,List.map_cons,List.map_nil,cond_true,cond_false,aop,Zv,Zq,Zp,ev,sput,Zt,Zy,Ya,unK,Zd,Zw,Nat.reduceBEq,Nat.reduceAdd,Int.reduceBEq,Int.reduceBNe,Int.reduceLT,Zu,Zz,tup,tyf,boxP,Xd]
 have hE:Ext (fun _=>False) h (h++[Blk.cells [Zx (i:Nat),Zx (j:Nat)] 28 false]):=Ext.app _ _ _
 have c2:=Yj h (Blk.cells [Zx (i:Nat),Zx (j:Nat)] 28 false)
 have dr:=Xi cr [Blk.cells [Zx (i:Nat),Zx (j:Nat)] 28 false]
 generalize h++[Blk.cells [Zx (i:Nat),Zx (j:Nat)] 28 false]=h1 at hE c2 dr ⊢
 generalize h.length=b2 at c2 ⊢
 refine hN7 [(0,pV ((i:Int),(j:Int))),(1,pt br),(2,pt b2),(3,.bool false)] _ _ ?_ (by simp (maxSteps:=2000000) only [↓Za,↓Zk,↓Zr,↓Ze,↓Zm,↓Zs,↓Zf,↓Zh,↓Zg,↓Zc,↓Zb,↓vdn,vup,Zn,Zl,Zo,Zi,Zj,List.map_cons,List.map_nil,cond_true,cond_false,aop,Zv,Zq,Zp,ev,sput,Zt,Zy,Ya,unK,Zd,Zw,Nat.reduceBEq,Nat.reduceAdd,Int.reduceBEq,Int.reduceBNe,Int.reduceLT,Zu,Zz,tup,tyf])
 clear hN7
 try clear N7
 refine Yd ?_
 simp (maxSteps:=2000000) only [s48,↓Za,↓Zk,↓Zr,↓Ze,↓Zm,↓Zs,↓Zf,↓Zh,↓Zg,↓Zc,↓Zb,↓vdn,vup,Zn,Zl,Zo,Zi,Zj,List.map_cons,List.map_nil,cond_true,cond_false,aop,Zv,Zq,Zp,ev,sput,Zt,Zy,Ya,unK,Zd,Zw,Nat.reduceBEq,Nat.reduceAdd,Int.reduceBEq,Int.reduceBNe,Int.reduceLT,Zu,Zz,tup,tyf,Yz,List.nil_append,List.append_nil,List.toList_toArray,List.cons_append,loadR dr,pidx0,pidx1,pl0 c2,pl1 c2]
 refine (has_call ha hb).mono ?_
 rintro _ h2 ⟨rfl,hE2⟩
 simp (maxSteps:=2000000) only [s48,↓Za,↓Zk,↓Zr,↓Ze,↓Zm,↓Zs,↓Zf,↓Zh,↓Zg,↓Zc,↓Zb,↓vdn,vup,Zn,Zl,Zo,Zi,Zj,List.map_cons,List.map_nil,cond_true,cond_false,aop,Zv,Zq,Zp,ev,sput,Zt,Zy,Ya,unK,Zd,Zw,Nat.reduceBEq,Nat.reduceAdd,Int.reduceBEq,Int.reduceBNe,Int.reduceLT,Zu,Zz,tup,tyf,Int.toNat_natCast]
 exact hE.trans hE2
theorem eqR [Tabs prog]:EqT prog 81 2:=eqT_struct (by kernel_rfl) (by kernel_rfl) (by kernel_rfl) (fun j f hf=>by
 have h4:(prog.fieldsOf 81).toList.zipIdx.all Be.okF=true:=by kernel_rfl
 have h5:=List.all_eq_true.1 h4 (f,j) (by rw [List.mem_zipIdx_iff_getElem?]; exact hf)
 simp only [Be.okF,Bool.and_eq_true,bne_iff_ne,beq_iff_eq] at h5
 refine ⟨h5.1.1,?_,h5.2⟩
 have h6:=h5.1.2
 split at h6
 · assumption
 · cases h6) (by kernel_rfl)
theorem neqR [Tabs prog] {a b c d:Nat} {K:Value→Prop}:Zy prog .neq 81 (rV a b) (rV c d) K=K (.bool (!(decide (a=c∧b=d)))):=by
 have e:(([(a:Int),(b:Int)]:List Int)==[(c:Int),(d:Int)])=decide (a=c∧b=d):=by
  rw [Bool.eq_iff_iff,beq_iff_eq,decide_eq_true_eq]
  constructor
  · intro h; simp at h; omega
  · rintro ⟨rfl,rfl⟩; rfl
 rw [← e]
 simp only [Zy,List.toList_toArray,Xf,Option.map_some,List.length_cons,List.length_nil,Nat.zero_add,true_and]
 exact propext ⟨fun h=>h.2,fun h=>⟨eqR,h⟩⟩
theorem s95_callW [Tabs Tryd.prog] {args:List Value} {h:Yc} {Q:Value→Yc→Prop} (hsz:args.length≤12) (hk:AWS Tryd.prog 12 s95 (Zu Tryd.prog [.tmp 3] Q) (Zp 0 args) h):ACall Tryd.prog 95 args h Q :=
 Xg Tryd.func95 rfl (enters_of Tryd.func95 (by kernel_rfl) rfl) rfl rfl (by decide) s95_strip s95_ok hsz hk
theorem less_call [Tabs prog] {h:Yc} {a b c d br:Nat} (ha:a<9223372036854775808) (hb:b<9223372036854775808) (hc:c<9223372036854775808) (hd:d<9223372036854775808) (cr:h[br]? = some (.cells [Zx (a:Nat),Zx (b:Nat)] 81 false)) :
  ACall prog 95 [rV c d,pt br] h fun r h'=>r = .bool (!(decide (c=a∧d=b))&&inB a b c d)∧Ext (fun _=>False) h h':=by
 refine s95_callW (by simp) ?_
 simp only [s95]
 refine Yb fun N8 hN8=>?_
 simp (maxSteps:=2000000) only [s95,↓Za,↓Zk,↓Zr,↓Ze,↓Zm,↓Zs,↓Zf,↓Zh,↓Zg,↓Zc,↓Zb,↓vdn,vup,Zn,Zl,Zo,Zi,Zj,List.map_cons,List.map_nil,cond_true,cond_false,aop,Zv,Zq,Zp,ev,sput,Zt,Zy,Ya,unK,Zd,Zw,Nat.reduceBEq,Nat.reduceAdd,Int.reduceBEq,Int.reduceBNe,Int.reduceLT,Zu,Zz,tup,tyf,boxR,Xd]
 have hE:Ext (fun _=>False) h (h++[Blk.cells [Zx (c:Nat),Zx (d:Nat)] 81 false]):=Ext.app _ _ _
 have c2:=Yj h (Blk.cells [Zx (c:Nat),Zx (d:Nat)] 81 false)
 have dr:=Xi cr [Blk.cells [Zx (c:Nat),Zx (d:Nat)] 81 false]
 generalize h++[Blk.cells [Zx (c:Nat),Zx (d:Nat)] 81 false]=h1 at hE c2 dr ⊢
 generalize h.length=b2 at c2 ⊢
 refine hN8 [(0,rV c d),(1,pt br),(2,pt b2),(3,.bool false)] _ _ ?_ (by simp (maxSteps:=2000000) only [↓Za,↓Zk,↓Zr,↓Ze,↓Zm,↓Zs,↓Zf,↓Zh,↓Zg,↓Zc,↓Zb,↓vdn,vup,Zn,Zl,Zo,Zi,Zj,List.map_cons,List.map_nil,cond_true,cond_false,aop,Zv,Zq,Zp,ev,sput,Zt,Zy,Ya,unK,Zd,Zw,Nat.reduceBEq,Nat.reduceAdd,Int.reduceBEq,Int.reduceBNe,Int.reduceLT,Zu,Zz,tup,tyf])
 clear hN8
 try clear N8
 refine Yb fun N9 hN9=>?_
 simp only [q95_1]
 refine Yl 3 fun N1 hN1=>?_
 simp (maxSteps:=2000000) only [s95,↓Za,↓Zk,↓Zr,↓Ze,↓Zm,↓Zs,↓Zf,↓Zh,↓Zg,↓Zc,↓Zb,↓vdn,vup,Zn,Zl,Zo,Zi,Zj,List.map_cons,List.map_nil,cond_true,cond_false,aop,Zv,Zq,Zp,ev,sput,Zt,Zd,Nat.reduceBEq,Nat.reduceAdd,Int.reduceBEq,Int.reduceBNe,Int.reduceLT,Zu,Zz,tup,tyf,List.take_succ_cons,List.take_zero,loadR dr,loadR c2]
 rw [neqR]
 refine hN1 _ _ ?_
 clear hN1 N1
 simp only [List.drop_succ_cons,List.drop_zero]
 cases hq:(!(decide (c=a∧d=b))) with
 | false =>
   simp (maxSteps:=2000000) only [s95,↓Za,↓Zk,↓Zr,↓Ze,↓Zm,↓Zs,↓Zf,↓Zh,↓Zg,↓Zc,↓Zb,↓vdn,vup,Zn,Zl,Zo,Zi,Zj,List.map_cons,List.map_nil,cond_true,cond_false,aop,Zv,Zq,Zp,ev,sput,Zt,Zy,Ya,unK,Zd,Zw,Nat.reduceBEq,Nat.reduceAdd,Int.reduceBEq,Int.reduceBNe,Int.reduceLT,Zu,Zz,tup,tyf]
   refine hN9 [(0,rV c d),(1,pt br),(2,pt b2),(3,.bool false)] _ _ ?_ (by simp (maxSteps:=2000000) only [↓Za,↓Zk,↓Zr,↓Ze,↓Zm,↓Zs,↓Zf,↓Zh,↓Zg,↓Zc,↓Zb,↓vdn,vup,Zn,Zl,Zo,Zi,Zj,List.map_cons,List.map_nil,cond_true,cond_false,aop,Zv,Zq,Zp,ev,sput,Zt,Zy,Ya,unK,Zd,Zw,Nat.reduceBEq,Nat.reduceAdd,Int.reduceBEq,Int.reduceBNe,Int.reduceLT,Zu,Zz,tup,tyf])
   clear hN9
   try clear N9
   refine Yd ?_
   simp (maxSteps:=2000000) only [s95,↓Za,↓Zk,↓Zr,↓Ze,↓Zm,↓Zs,↓Zf,↓Zh,↓Zg,↓Zc,↓Zb,↓vdn,vup,Zn,Zl,Zo,Zi,Zj,List.map_cons,List.map_nil,cond_true,cond_false,aop,Zv,Zq,Zp,ev,sput,Zt,Zy,Ya,unK,Zd,Zw,Nat.reduceBEq,Nat.reduceAdd,Int.reduceBEq,Int.reduceBNe,Int.reduceLT,Zu,Zz,tup,tyf]
   exact ⟨by rw [hq]; rfl,hE⟩
 | true =>
   refine Yl 4 fun N1 hN1=>?_
   simp (maxSteps:=2000000) only [s95,↓Za,↓Zk,↓Zr,↓Ze,↓Zm,↓Zs,↓Zf,↓Zh,↓Zg,↓Zc,↓Zb,↓vdn,vup,Zn,Zl,Zo,Zi,Zj,List.map_cons,List.map_nil,cond_true,cond_false,aop,Zv,Zq,Zp,ev,sput,Zt,Zy,Ya,unK,Zd,Zw,Nat.reduceBEq,Nat.reduceAdd,Int.reduceBEq,Int.reduceBNe,Int.reduceLT,Zu,Zz,tup,tyf,Yz,List.nil_append,List.append_nil,List.toList_toArray,List.cons_append,List.take_succ_cons,List.take_zero,loadR dr,loadR c2]
   refine (within_call ha hb hc hd).mono ?_
   rintro _ h2 ⟨rfl,hE2⟩
   refine hN1 _ _ ?_
   clear hN1 N1
   simp only [List.drop_succ_cons,List.drop_zero]
   simp (maxSteps:=2000000) only [s95,↓Za,↓Zk,↓Zr,↓Ze,↓Zm,↓Zs,↓Zf,↓Zh,↓Zg,↓Zc,↓Zb,↓vdn,vup,Zn,Zl,Zo,Zi,Zj,List.map_cons,List.map_nil,cond_true,cond_false,aop,Zv,Zq,Zp,ev,sput,Zt,Zy,Ya,unK,Zd,Zw,Nat.reduceBEq,Nat.reduceAdd,Int.reduceBEq,Int.reduceBNe,Int.reduceLT,Zu,Zz,tup,tyf]
   refine hN9 [(0,rV c d),(1,pt br),(2,pt b2),(3,.bool (inB a b c d))] _ _ ?_ (by simp (maxSteps:=2000000) only [↓Za,↓Zk,↓Zr,↓Ze,↓Zm,↓Zs,↓Zf,↓Zh,↓Zg,↓Zc,↓Zb,↓vdn,vup,Zn,Zl,Zo,Zi,Zj,List.map_cons,List.map_nil,cond_true,cond_false,aop,Zv,Zq,Zp,ev,sput,Zt,Zy,Ya,unK,Zd,Zw,Nat.reduceBEq,Nat.reduceAdd,Int.reduceBEq,Int.reduceBNe,Int.reduceLT,Zu,Zz,tup,tyf])
   clear hN9
   try clear N9
   refine Yd ?_
   simp (maxSteps:=2000000) only [s95,↓Za,↓Zk,↓Zr,↓Ze,↓Zm,↓Zs,↓Zf,↓Zh,↓Zg,↓Zc,↓Zb,↓vdn,vup,Zn,Zl,Zo,Zi,Zj,List.map_cons,List.map_nil,cond_true,cond_false,aop,Zv,Zq,Zp,ev,sput,Zt,Zy,Ya,unK,Zd,Zw,Nat.reduceBEq,Nat.reduceAdd,Int.reduceBEq,Int.reduceBNe,Int.reduceLT,Zu,Zz,tup,tyf]
   exact ⟨by rw [hq]; rfl,hE.trans hE2⟩
theorem s135_callW [Tabs Tryd.prog] {args:List Value} {h:Yc} {Q:Value→Yc→Prop} (hsz:args.length≤19) (hk:AWS Tryd.prog 19 s135 (Zu Tryd.prog [.tmp 4] Q) (Zp 0 args) h):ACall Tryd.prog 135 args h Q :=
 Xg Tryd.func135 rfl (enters_of Tryd.func135 (by kernel_rfl) rfl) rfl rfl (by decide) s135_strip s135_ok hsz hk
theorem indexR_call [Tabs prog] {h:Yc} {v:Value} {ps:List (Int×Int)} {fn:FuncId} {cap:Array Value} (hl:ps.length<9223372036854775808) (I J:Nat→Yc→Prop) (hI : ∀ k hp,I k hp→PairSl hp v ps)
  (step : ∀ k,k<ps.length→∀ hp,I k hp→ACall prog fn (([]:List Value)++[pV (ps.getD k (0,0))]++cap.toList) hp fun r h2=>∃ b,r = .bool b∧(b=true→J k h2)∧(b=false→I (k+1) h2)) (h0:I 0 h) :
  ACall prog 135 [v,.func (.func fn) #[] cap] h fun r h'=>(∃ k,k<ps.length∧r=Zx (k:Nat)∧J k h')∨(r = .int .i64 (-1)∧I ps.length h'):=by
 refine s135_callW (by simp) ?_
 simp only [s135]
 refine Yb fun N10 hN10=>?_
 simp (maxSteps:=2000000) only [s135,↓Za,↓Zk,↓Zr,↓Ze,↓Zm,↓Zs,↓Zf,↓Zh,↓Zg,↓Zc,↓Zb,↓vdn,vup,Zn,Zl,Zo,Zi,Zj,List.map_cons,List.map_nil,cond_true,cond_false,aop,Zv,Zq,Zp,ev,sput,Zt,Zy,Ya,unK,Zd,Zw,Nat.reduceBEq,Nat.reduceAdd,Int.reduceBEq,Int.reduceBNe,Int.reduceLT,Zu,Zz,tup,tyf]
 refine hN10 [(0,v),(1,.func (.func fn) #[] cap),(4,.int .i64 0)] _ _ ?_ (by simp (maxSteps:=2000000) only [↓Za,↓Zk,↓Zr,↓Ze,↓Zm,↓Zs,↓Zf,↓Zh,↓Zg,↓Zc,↓Zb,↓vdn,vup,Zn,Zl,Zo,Zi,Zj,List.map_cons,List.map_nil,cond_true,cond_false,aop,Zv,Zq,Zp,ev,sput,Zt,Zy,Ya,unK,Zd,Zw,Nat.reduceBEq,Nat.reduceAdd,Int.reduceBEq,Int.reduceBNe,Int.reduceLT,Zu,Zz,tup,tyf])
 clear hN10
 try clear N10
 refine Ye fun M hM=>?_
 refine Yb fun N11 hN11=>?_
 simp (maxSteps:=2000000) only [s135,↓Za,↓Zk,↓Zr,↓Ze,↓Zm,↓Zs,↓Zf,↓Zh,↓Zg,↓Zc,↓Zb,↓vdn,vup,Zn,Zl,Zo,Zi,Zj,List.map_cons,List.map_nil,cond_true,cond_false,aop,Zv,Zq,Zp,ev,sput,Zt,Zy,Ya,unK,Zd,Zw,Nat.reduceBEq,Nat.reduceAdd,Int.reduceBEq,Int.reduceBNe,Int.reduceLT,Zu,Zz,tup,tyf,(hI _ _ h0).len]
 refine hN11 [(0,v),(1,.func (.func fn) #[] cap),(4,.int .i64 0),(7,Zx ps.length),(8,.int .i64 0)] _ _ ?_ (by simp (maxSteps:=2000000) only [↓Za,↓Zk,↓Zr,↓Ze,↓Zm,↓Zs,↓Zf,↓Zh,↓Zg,↓Zc,↓Zb,↓vdn,vup,Zn,Zl,Zo,Zi,Zj,List.map_cons,List.map_nil,cond_true,cond_false,aop,Zv,Zq,Zp,ev,sput,Zt,Zy,Ya,unK,Zd,Zw,Nat.reduceBEq,Nat.reduceAdd,Int.reduceBEq,Int.reduceBNe,Int.reduceLT,Zu,Zz,tup,tyf])
 clear hN11
 try clear N11
 refine Yh ?_
 refine Yf fun Q hQ=>?_
 refine Xh (γ:=Nat×Yc) (fun s=>s.1≤ps.length∧I s.1 s.2)
  (fun s=>([(0,v),(1,.func (.func fn) #[] cap),(4,.int .i64 0),(7,Zx ps.length),(8,Zx (s.1:Nat))],s.2)) (fun s=>ps.length-s.1) (0,h) ⟨Nat.zero_le _,h0⟩ (by simp (maxSteps:=2000000) only [↓Za,↓Zk,↓Zr,↓Ze,↓Zm,↓Zs,↓Zf,↓Zh,↓Zg,↓Zc,↓Zb,↓vdn,vup,Zn,Zl,Zo,Zi,Zj,List.map_cons,List.map_nil,cond_true,cond_false,aop,Zv,Zq,Zp,ev,sput,Zt,Zy,Ya,unK,Zd,Zw,Nat.reduceBEq,Nat.reduceAdd,Int.reduceBEq,Int.reduceBNe,Int.reduceLT,Zu,Zz,tup,tyf,Int.natCast_zero]) rfl ?_
 rintro ⟨k,hp⟩ ⟨hk,hik⟩
 simp only at hk hik
 refine Yf fun Q2 hQ2=>?_
 simp only [l135_0]
 have hv:=hI _ _ hik
 by_cases hin:(k:Int)<ps.length
 · have hk' : k<ps.length:=by omega
   refine Yb fun N12 hN12=>?_
   simp (maxSteps:=2000000) only [s135,↓Za,↓Zk,↓Zr,↓Ze,↓Zm,↓Zs,↓Zf,↓Zh,↓Zg,↓Zc,↓Zb,↓vdn,vup,Zn,Zl,Zo,Zi,Zj,List.map_cons,List.map_nil,cond_true,cond_false,aop,Zv,Zq,Zp,ev,sput,Zt,Zy,Ya,unK,Zd,Zw,Nat.reduceBEq,Nat.reduceAdd,Int.reduceBEq,Int.reduceBNe,Int.reduceLT,Zu,Zz,tup,tyf,hin]
   refine hN12 [(0,v),(1,.func (.func fn) #[] cap),(4,.int .i64 0),(7,Zx ps.length),(8,Zx (k:Nat)),(9,.bool true)] _ _ ?_ (by simp (maxSteps:=2000000) only [↓Za,↓Zk,↓Zr,↓Ze,↓Zm,↓Zs,↓Zf,↓Zh,↓Zg,↓Zc,↓Zb,↓vdn,vup,Zn,Zl,Zo,Zi,Zj,List.map_cons,List.map_nil,cond_true,cond_false,aop,Zv,Zq,Zp,ev,sput,Zt,Zy,Ya,unK,Zd,Zw,Nat.reduceBEq,Nat.reduceAdd,Int.reduceBEq,Int.reduceBNe,Int.reduceLT,Zu,Zz,tup,tyf])
   clear hN12
   try clear N12
   refine Yb fun N13 hN13=>?_
   simp (maxSteps:=2000000) only [s135,↓Za,↓Zk,↓Zr,↓Ze,↓Zm,↓Zs,↓Zf,↓Zh,↓Zg,↓Zc,↓Zb,↓vdn,vup,Zn,Zl,Zo,Zi,Zj,List.map_cons,List.map_nil,cond_true,cond_false,aop,Zv,Zq,Zp,ev,sput,Zt,Zy,Ya,unK,Zd,Zw,Nat.reduceBEq,Nat.reduceAdd,Int.reduceBEq,Int.reduceBNe,Int.reduceLT,Zu,Zz,tup,tyf]
   refine hN13 [(0,v),(1,.func (.func fn) #[] cap),(4,.int .i64 0),(7,Zx ps.length),(8,Zx (k:Nat))] _ _ ?_ (by simp (maxSteps:=2000000) only [↓Za,↓Zk,↓Zr,↓Ze,↓Zm,↓Zs,↓Zf,↓Zh,↓Zg,↓Zc,↓Zb,↓vdn,vup,Zn,Zl,Zo,Zi,Zj,List.map_cons,List.map_nil,cond_true,cond_false,aop,Zv,Zq,Zp,ev,sput,Zt,Zy,Ya,unK,Zd,Zw,Nat.reduceBEq,Nat.reduceAdd,Int.reduceBEq,Int.reduceBNe,Int.reduceLT,Zu,Zz,tup,tyf])
   clear hN13
   try clear N13
   refine Ye fun B hB=>?_
   refine Yh ?_
   refine Yb fun N14 hN14=>?_
   simp (maxSteps:=2000000) only [s135,↓Za,↓Zk,↓Zr,↓Ze,↓Zm,↓Zs,↓Zf,↓Zh,↓Zg,↓Zc,↓Zb,↓vdn,vup,Zn,Zl,Zo,Zi,Zj,List.map_cons,List.map_nil,cond_true,cond_false,aop,Zv,Zq,Zp,ev,sput,Zt,Zy,Ya,unK,Zd,Zw,Nat.reduceBEq,Nat.reduceAdd,Int.reduceBEq,Int.reduceBNe,Int.reduceLT,Zu,Zz,tup,tyf]
   refine hN14 [(0,v),(1,.func (.func fn) #[] cap),(4,.int .i64 0),(5,Zx (k:Nat)),(7,Zx ps.length),(8,Zx (k:Nat))] _ _ ?_ (by simp (maxSteps:=2000000) only [↓Za,↓Zk,↓Zr,↓Ze,↓Zm,↓Zs,↓Zf,↓Zh,↓Zg,↓Zc,↓Zb,↓vdn,vup,Zn,Zl,Zo,Zi,Zj,List.map_cons,List.map_nil,cond_true,cond_false,aop,Zv,Zq,Zp,ev,sput,Zt,Zy,Ya,unK,Zd,Zw,Nat.reduceBEq,Nat.reduceAdd,Int.reduceBEq,Int.reduceBNe,Int.reduceLT,Zu,Zz,tup,tyf])
   clear hN14
   try clear N14
   refine Yb fun N15 hN15=>?_
   simp (maxSteps:=2000000) only [s135,↓Za,↓Zk,↓Zr,↓Ze,↓Zm,↓Zs,↓Zf,↓Zh,↓Zg,↓Zc,↓Zb,↓vdn,vup,Zn,Zl,Zo,Zi,Zj,List.map_cons,List.map_nil,cond_true,cond_false,aop,Zv,Zq,Zp,ev,sput,Zt,Zy,Ya,unK,Zd,Zw,Nat.reduceBEq,Nat.reduceAdd,Int.reduceBEq,Int.reduceBNe,Int.reduceLT,Zu,Zz,tup,tyf,Yz,List.nil_append,List.append_nil,List.toList_toArray,List.cons_append,hv.idx el_77 esz_81 hk',hv.load shp_81 hk']
   refine (step k hk' hp hik).mono ?_
   rintro _ h2 ⟨b,rfl,hJ,hI2⟩
   cases b with
   | true =>
     refine hN15 [(0,v),(1,.func (.func fn) #[] cap),(4,.int .i64 0),(5,Zx (k:Nat)),(7,Zx ps.length),(8,Zx (k:Nat)),(16,.bool true)] _ _ ?_ (by simp (maxSteps:=2000000) only [↓Za,↓Zk,↓Zr,↓Ze,↓Zm,↓Zs,↓Zf,↓Zh,↓Zg,↓Zc,↓Zb,↓vdn,vup,Zn,Zl,Zo,Zi,Zj,List.map_cons,List.map_nil,cond_true,cond_false,aop,Zv,Zq,Zp,ev,sput,Zt,Zy,Ya,unK,Zd,Zw,Nat.reduceBEq,Nat.reduceAdd,Int.reduceBEq,Int.reduceBNe,Int.reduceLT,Zu,Zz,tup,tyf])
     clear hN15
     try clear N15
     refine Xe rfl ?_
     refine Yd ?_
     simp (maxSteps:=2000000) only [s135,↓Za,↓Zk,↓Zr,↓Ze,↓Zm,↓Zs,↓Zf,↓Zh,↓Zg,↓Zc,↓Zb,↓vdn,vup,Zn,Zl,Zo,Zi,Zj,List.map_cons,List.map_nil,cond_true,cond_false,aop,Zv,Zq,Zp,ev,sput,Zt,Zy,Ya,unK,Zd,Zw,Nat.reduceBEq,Nat.reduceAdd,Int.reduceBEq,Int.reduceBNe,Int.reduceLT,Zu,Zz,tup,tyf]
     refine hQ2 _ _ _ (hQ _ _ _ ?_)
     simp (maxSteps:=2000000) only [s135,↓Za,↓Zk,↓Zr,↓Ze,↓Zm,↓Zs,↓Zf,↓Zh,↓Zg,↓Zc,↓Zb,↓vdn,vup,Zn,Zl,Zo,Zi,Zj,List.map_cons,List.map_nil,cond_true,cond_false,aop,Zv,Zq,Zp,ev,sput,Zt,Zy,Ya,unK,Zd,Zw,Nat.reduceBEq,Nat.reduceAdd,Int.reduceBEq,Int.reduceBNe,Int.reduceLT,Zu,Zz,tup,tyf]
     exact .inl ⟨k,hk',rfl,hJ rfl⟩
   | false =>
     refine hN15 [(0,v),(1,.func (.func fn) #[] cap),(4,.int .i64 0),(5,Zx (k:Nat)),(7,Zx ps.length),(8,Zx (k:Nat)),(16,.bool false)] _ _ ?_ (by simp (maxSteps:=2000000) only [↓Za,↓Zk,↓Zr,↓Ze,↓Zm,↓Zs,↓Zf,↓Zh,↓Zg,↓Zc,↓Zb,↓vdn,vup,Zn,Zl,Zo,Zi,Zj,List.map_cons,List.map_nil,cond_true,cond_false,aop,Zv,Zq,Zp,ev,sput,Zt,Zy,Ya,unK,Zd,Zw,Nat.reduceBEq,Nat.reduceAdd,Int.reduceBEq,Int.reduceBNe,Int.reduceLT,Zu,Zz,tup,tyf])
     clear hN15
     try clear N15
     refine Yq rfl ?_
     refine Yd ?_
     simp (maxSteps:=2000000) only [s135,↓Za,↓Zk,↓Zr,↓Ze,↓Zm,↓Zs,↓Zf,↓Zh,↓Zg,↓Zc,↓Zb,↓vdn,vup,Zn,Zl,Zo,Zi,Zj,List.map_cons,List.map_nil,cond_true,cond_false,aop,Zv,Zq,Zp,ev,sput,Zt,Zy,Ya,unK,Zd,Zw,Nat.reduceBEq,Nat.reduceAdd,Int.reduceBEq,Int.reduceBNe,Int.reduceLT,Zu,Zz,tup,tyf]
     refine hB [(0,v),(1,.func (.func fn) #[] cap),(4,.int .i64 0),(7,Zx ps.length),(8,Zx (k:Nat))] _ _ ?_ (by simp (maxSteps:=2000000) only [↓Za,↓Zk,↓Zr,↓Ze,↓Zm,↓Zs,↓Zf,↓Zh,↓Zg,↓Zc,↓Zb,↓vdn,vup,Zn,Zl,Zo,Zi,Zj,List.map_cons,List.map_nil,cond_true,cond_false,aop,Zv,Zq,Zp,ev,sput,Zt,Zy,Ya,unK,Zd,Zw,Nat.reduceBEq,Nat.reduceAdd,Int.reduceBEq,Int.reduceBNe,Int.reduceLT,Zu,Zz,tup,tyf])
     clear hB
     try clear B
     refine Yd ?_
     simp (maxSteps:=2000000) only [s135,↓Za,↓Zk,↓Zr,↓Ze,↓Zm,↓Zs,↓Zf,↓Zh,↓Zg,↓Zc,↓Zb,↓vdn,vup,Zn,Zl,Zo,Zi,Zj,List.map_cons,List.map_nil,cond_true,cond_false,aop,Zv,Zq,Zp,ev,sput,Zt,Zy,Ya,unK,Zd,Zw,Nat.reduceBEq,Nat.reduceAdd,Int.reduceBEq,Int.reduceBNe,Int.reduceLT,Zu,Zz,tup,tyf,Vd (show k<9223372036854775807 by omega)]
     exact hQ2 _ _ _ ⟨(k+1,h2),⟨hk',hI2 rfl⟩,by simp only; omega,by simp (maxSteps:=2000000) only [↓Za,↓Zk,↓Zr,↓Ze,↓Zm,↓Zs,↓Zf,↓Zh,↓Zg,↓Zc,↓Zb,↓vdn,vup,Zn,Zl,Zo,Zi,Zj,List.map_cons,List.map_nil,cond_true,cond_false,aop,Zv,Zq,Zp,ev,sput,Zt,Zy,Ya,unK,Zd,Zw,Nat.reduceBEq,Nat.reduceAdd,Int.reduceBEq,Int.reduceBNe,Int.reduceLT,Zu,Zz,tup,tyf],rfl⟩
 · obtain rfl:k=ps.length:=by omega
   refine Yb fun N16 hN16=>?_
   simp (maxSteps:=2000000) only [s135,↓Za,↓Zk,↓Zr,↓Ze,↓Zm,↓Zs,↓Zf,↓Zh,↓Zg,↓Zc,↓Zb,↓vdn,vup,Zn,Zl,Zo,Zi,Zj,List.map_cons,List.map_nil,cond_true,cond_false,aop,Zv,Zq,Zp,ev,sput,Zt,Zy,Ya,unK,Zd,Zw,Nat.reduceBEq,Nat.reduceAdd,Int.reduceBEq,Int.reduceBNe,Int.reduceLT,Zu,Zz,tup,tyf,hin]
   refine hN16 [(0,v),(1,.func (.func fn) #[] cap),(4,.int .i64 0),(7,Zx ps.length),(8,Zx (ps.length:Nat)),(9,.bool false)] _ _ ?_ (by simp (maxSteps:=2000000) only [↓Za,↓Zk,↓Zr,↓Ze,↓Zm,↓Zs,↓Zf,↓Zh,↓Zg,↓Zc,↓Zb,↓vdn,vup,Zn,Zl,Zo,Zi,Zj,List.map_cons,List.map_nil,cond_true,cond_false,aop,Zv,Zq,Zp,ev,sput,Zt,Zy,Ya,unK,Zd,Zw,Nat.reduceBEq,Nat.reduceAdd,Int.reduceBEq,Int.reduceBNe,Int.reduceLT,Zu,Zz,tup,tyf])
   clear hN16
   try clear N16
   refine Yb fun N17 hN17=>?_
   simp (maxSteps:=2000000) only [s135,↓Za,↓Zk,↓Zr,↓Ze,↓Zm,↓Zs,↓Zf,↓Zh,↓Zg,↓Zc,↓Zb,↓vdn,vup,Zn,Zl,Zo,Zi,Zj,List.map_cons,List.map_nil,cond_true,cond_false,aop,Zv,Zq,Zp,ev,sput,Zt,Zy,Ya,unK,Zd,Zw,Nat.reduceBEq,Nat.reduceAdd,Int.reduceBEq,Int.reduceBNe,Int.reduceLT,Zu,Zz,tup,tyf]
   refine hQ2 _ _ _ (hQ _ _ _ ?_)
   simp (maxSteps:=2000000) only [s135,↓Za,↓Zk,↓Zr,↓Ze,↓Zm,↓Zs,↓Zf,↓Zh,↓Zg,↓Zc,↓Zb,↓vdn,vup,Zn,Zl,Zo,Zi,Zj,List.map_cons,List.map_nil,cond_true,cond_false,aop,Zv,Zq,Zp,ev,sput,Zt,Zy,Ya,unK,Zd,Zw,Nat.reduceBEq,Nat.reduceAdd,Int.reduceBEq,Int.reduceBNe,Int.reduceLT,Zu,Zz,tup,tyf,if_true]
   refine hM [(0,v),(1,.func (.func fn) #[] cap),(4,.int .i64 0),(7,Zx ps.length),(8,Zx (ps.length:Nat)),(9,.bool false)] _ _ ?_ (by simp (maxSteps:=2000000) only [↓Za,↓Zk,↓Zr,↓Ze,↓Zm,↓Zs,↓Zf,↓Zh,↓Zg,↓Zc,↓Zb,↓vdn,vup,Zn,Zl,Zo,Zi,Zj,List.map_cons,List.map_nil,cond_true,cond_false,aop,Zv,Zq,Zp,ev,sput,Zt,Zy,Ya,unK,Zd,Zw,Nat.reduceBEq,Nat.reduceAdd,Int.reduceBEq,Int.reduceBNe,Int.reduceLT,Zu,Zz,tup,tyf])
   clear hM
   try clear M
   refine Yd ?_
   simp (maxSteps:=2000000) only [s135,↓Za,↓Zk,↓Zr,↓Ze,↓Zm,↓Zs,↓Zf,↓Zh,↓Zg,↓Zc,↓Zb,↓vdn,vup,Zn,Zl,Zo,Zi,Zj,List.map_cons,List.map_nil,cond_true,cond_false,aop,Zv,Zq,Zp,ev,sput,Zt,Zy,Ya,unK,Zd,Zw,Nat.reduceBEq,Nat.reduceAdd,Int.reduceBEq,Int.reduceBNe,Int.reduceLT,Zu,Zz,tup,tyf]
   exact .inr hik
theorem s94_callW [Tabs Tryd.prog] {args:List Value} {h:Yc} {Q:Value→Yc→Prop} (hsz:args.length≤9) (hk:AWS Tryd.prog 9 s94 (Zu Tryd.prog [.tmp 4] Q) (Zp 0 args) h):ACall Tryd.prog 94 args h Q :=
 Xg Tryd.func94 rfl (enters_of Tryd.func94 (by kernel_rfl) rfl) rfl rfl (by decide) s94_strip s94_ok hsz hk
theorem containsR_call [Tabs prog] {h:Yc} {v:Value} {ps:List (Int×Int)} {fn:FuncId} {cap:Array Value} (hl:ps.length<9223372036854775808) (f:Int×Int→Bool) (I:Yc→Prop) (hI : ∀ hp,I hp→PairSl hp v ps)
  (step : ∀ p∈ps,∀ hp,I hp→ACall prog fn (([]:List Value)++[pV p]++cap.toList) hp fun r h2=>r = .bool (f p)∧I h2) (h0:I h) :
  ACall prog 94 [v,.func (.func fn) #[] cap] h fun r h'=>r = .bool (ps.any f)∧I h':=by
 have hget : ∀ k,k<ps.length→ps.getD k (0,0)∈ps:=fun k hk=>by rw [List.getD,List.getElem?_eq_getElem hk]; exact List.getElem_mem hk
 refine s94_callW (by simp) ?_
 simp only [s94]
 refine Yb fun N18 hN18=>?_
 simp (maxSteps:=2000000) only [s94,↓Za,↓Zk,↓Zr,↓Ze,↓Zm,↓Zs,↓Zf,↓Zh,↓Zg,↓Zc,↓Zb,↓vdn,vup,Zn,Zl,Zo,Zi,Zj,List.map_cons,List.map_nil,cond_true,cond_false,aop,Zv,Zq,Zp,ev,sput,Zt,Zy,Ya,unK,Zd,Zw,Nat.reduceBEq,Nat.reduceAdd,Int.reduceBEq,Int.reduceBNe,Int.reduceLT,Zu,Zz,tup,tyf]
 refine hN18 [(0,v),(1,.func (.func fn) #[] cap),(4,.bool false)] _ _ ?_ (by simp (maxSteps:=2000000) only [↓Za,↓Zk,↓Zr,↓Ze,↓Zm,↓Zs,↓Zf,↓Zh,↓Zg,↓Zc,↓Zb,↓vdn,vup,Zn,Zl,Zo,Zi,Zj,List.map_cons,List.map_nil,cond_true,cond_false,aop,Zv,Zq,Zp,ev,sput,Zt,Zy,Ya,unK,Zd,Zw,Nat.reduceBEq,Nat.reduceAdd,Int.reduceBEq,Int.reduceBNe,Int.reduceLT,Zu,Zz,tup,tyf])
 clear hN18
 try clear N18
 refine Yd ?_
 have hs:=indexR_call (h:=h) (v:=v) (fn:=fn) (cap:=cap) hl (fun k hp=>I hp∧∀ j,j<k→f (ps.getD j (0,0))=false) (fun k hp=>I hp∧f (ps.getD k (0,0))=true) (fun k hp hi=>hI hp hi.1) (fun k hk hp hi=>(step _ (hget k hk) hp hi.1).mono fun r h2 hh=>⟨_,hh.1,fun hb=>⟨hh.2,hb⟩,fun hb=>⟨hh.2,fun j hj=>if h1:j<k then hi.2 j h1 else (show k=j by omega)▸hb⟩⟩) ⟨h0,fun j hj=>absurd hj (Nat.not_lt_zero j)⟩
 simp (maxSteps:=2000000) only [s94,↓Za,↓Zk,↓Zr,↓Ze,↓Zm,↓Zs,↓Zf,↓Zh,↓Zg,↓Zc,↓Zb,↓vdn,vup,Zn,Zl,Zo,Zi,Zj,List.map_cons,List.map_nil,cond_true,cond_false,aop,Zv,Zq,Zp,ev,sput,Zt,Zy,Ya,unK,Zd,Zw,Nat.reduceBEq,Nat.reduceAdd,Int.reduceBEq,Int.reduceBNe,Int.reduceLT,Zu,Zz,tup,tyf,Yz,List.nil_append,List.append_nil,List.toList_toArray,List.cons_append]
 refine (hs).mono ?_
 rintro r h' hr
 rcases hr with ⟨k,hk,rfl,hI1,hf⟩ | ⟨rfl,hI1,hf⟩
 · simp (maxSteps:=2000000) only [s94,↓Za,↓Zk,↓Zr,↓Ze,↓Zm,↓Zs,↓Zf,↓Zh,↓Zg,↓Zc,↓Zb,↓vdn,vup,Zn,Zl,Zo,Zi,Zj,List.map_cons,List.map_nil,cond_true,cond_false,aop,Zv,Zq,Zp,ev,sput,Zt,Zy,Ya,unK,Zd,Zw,Nat.reduceBEq,Nat.reduceAdd,Int.reduceBEq,Int.reduceBNe,Int.reduceLT,Zu,Zz,tup,tyf,show decide (((k:Nat):Int)≥0)=true from decide_eq_true (by omega)]
   exact ⟨by rw [show ps.any f=true from List.any_eq_true.2 ⟨_,hget k hk,hf⟩],hI1⟩
 · simp (maxSteps:=2000000) only [s94,↓Za,↓Zk,↓Zr,↓Ze,↓Zm,↓Zs,↓Zf,↓Zh,↓Zg,↓Zc,↓Zb,↓vdn,vup,Zn,Zl,Zo,Zi,Zj,List.map_cons,List.map_nil,cond_true,cond_false,aop,Zv,Zq,Zp,ev,sput,Zt,Zy,Ya,unK,Zd,Zw,Nat.reduceBEq,Nat.reduceAdd,Int.reduceBEq,Int.reduceBNe,Int.reduceLT,Zu,Zz,tup,tyf,show decide ((-1:Int)≥0)=false from rfl]
   refine ⟨?_,hI1⟩
   rw [show ps.any f=false from ?_]
   rw [List.any_eq_false]
   intro p hp
   obtain ⟨j,hj,rfl⟩:=List.mem_iff_getElem.1 hp
   have:=hf j hj
   rw [List.getD,List.getElem?_eq_getElem hj,Option.getD_some] at this
   rw [this]; decide
end Go.Proofs.Tryd.Am.Tf
namespace Go.Proofs.Tryd.Am.Tf
open Go.Proofs.Tryd.Am
open Go.Am
set_option maxRecDepth 100000
set_option maxHeartbeats 2000000
def celN (t:List (List Int)) (i j:Nat):Int:=(t.getD i []).getD j 0
structure CI (t:List (List Int)) (a b i j:Nat) (y:Int):Prop where
 all : ∀ i' j',j' < wd t→(i' < i∨i' = i∧j' < j)→hasB a b i' j' = true→celN t i' j' = y
 has:y = -1∨0≤y∧∃ i' j',i' < t.length∧j' < wd t∧hasB a b i' j' = true∧celN t i' j' = y
def Clr (t:List (List Int)) (a b:Nat) (y:Int):Prop:=(∀ i j,i<t.length→j<wd t→hasB a b i j=true→celN t i j=y)∧(y = -1∨0≤y∧∃ i j,i<t.length∧j<wd t∧hasB a b i j=true∧celN t i j=y)
def Mix (t:List (List Int)) (a b:Nat):Prop:=∃ i j i' j',i<t.length∧j<wd t∧hasB a b i j=true∧i' < t.length∧j' < wd t∧hasB a b i' j' = true∧celN t i j≠celN t i' j'
section
variable {t:List (List Int)} {a b i j:Nat} {y:Int}
theorem CI.zero:CI t a b 0 0 (-1):=⟨fun i' j' _ h=>by omega,.inl rfl⟩
theorem CI.skip (s:CI t a b i j y) (h:hasB a b i j=false):CI t a b i (j+1) y:=⟨fun i' j' h1 h2 h3=>by
 by_cases he:i' = i∧j' = j
 · obtain ⟨rfl,rfl⟩:=he; rw [h] at h3; cases h3
 · exact s.all i' j' h1 (by omega) h3,s.has⟩
theorem CI.take (s:CI t a b i j y) (h:hasB a b i j=true) (hi:i<t.length) (hj:j<wd t) (h0 : ∀ i j,0≤celN t i j) (hy : ¬ (0≤y∧y≠celN t i j)):CI t a b i (j+1) (celN t i j):=⟨fun i' j' h1 h2 h3=>by
 by_cases he:i' = i∧j' = j
 · obtain ⟨rfl,rfl⟩:=he; rfl
 · have h4:=s.all i' j' h1 (by omega) h3
   have:=h0 i' j'
   rcases s.has with h5 | h5
   · omega
   · omega,.inr ⟨h0 i j,i,j,hi,hj,h,rfl⟩⟩
theorem CI.row (s:CI t a b i (wd t) y):CI t a b (i+1) 0 y:=⟨fun i' j' h1 h2 h3=>s.all i' j' h1 (by omega) h3,s.has⟩
theorem CI.clr (s:CI t a b t.length 0 y):Clr t a b y:=⟨fun i j hi hj hh=>s.all i j hj (.inl hi) hh,s.has⟩
theorem CI.mix (s:CI t a b i j y) (h:hasB a b i j=true) (hi:i<t.length) (hj:j<wd t) (hy:0≤y∧y≠celN t i j):Mix t a b:=by
 rcases s.has with h1 | ⟨_,i',j',h1,h2,h3,h4⟩
 · omega
 · exact ⟨i',j',i,j,h1,h2,h3,hi,hj,h,by omega⟩
end
theorem Tab.nn {t:List (List Int)} (ht:Tab t) (i j:Nat):0≤celN t i j:=by
 unfold celN
 by_cases hi:i<t.length
 · rcases ht.at (ht.get hi) j with e | e <;> omega
 · have e:t.getD i []=[]:=by rw [List.getD,List.getElem?_eq_none (by omega)]; rfl
   rw [e]; simp
theorem s93_callW [Tabs Tryd.prog] {args:List Value} {h:Yc} {Q:Value→Yc→Prop} (hsz:args.length≤39) (hk:AWS Tryd.prog 39 s93 (Zu Tryd.prog [.tmp 4,.tmp 5] Q) (Zp 0 args) h):ACall Tryd.prog 93 args h Q :=
 Xg Tryd.func93 rfl (enters_of Tryd.func93 (by kernel_rfl) rfl) rfl rfl (by decide) s93_strip s93_ok hsz hk
theorem clear_call [Tabs prog] {h:Yc} {v:Value} {t:List (List Int)} {a b:Nat} (hv:TabS h v t) (ht:Tab t) (ha:a<9223372036854775808) (hb:b<9223372036854775808) :
  ACall prog 93 [v,rV a b] h fun r h'=>(∃ y ok,r = .tuple #[Zx y,.bool ok]∧(ok=true→Clr t a b y)∧(ok=false→Mix t a b))∧Ext (fun _=>False) h h':=by
 have hn4:=ht.n4
 have hw4:=ht.w4
 refine s93_callW (by simp) ?_
 simp only [s93]
 refine Yb fun N1 hN1=>?_
 simp (maxSteps:=2000000) only [s93,↓Za,↓Zk,↓Zr,↓Ze,↓Zm,↓Zs,↓Zf,↓Zh,↓Zg,↓Zc,↓Zb,↓vdn,vup,Zn,Zl,Zo,Zi,Zj,List.map_cons,List.map_nil,cond_true,cond_false,aop,Zv,Zq,Zp,ev,sput,Zt,Zy,Ya,unK,Zd,Zw,Nat.reduceBEq,Nat.reduceAdd,Int.reduceBEq,Int.reduceBNe,Int.reduceLT,Zu,Zz,tup,tyf,boxR,Xd]
 have hE0:Ext (fun _=>False) h (h++[Blk.cells [Zx (a:Nat),Zx (b:Nat)] 81 false]):=Ext.app _ _ _
 have c3:=Yj h (Blk.cells [Zx (a:Nat),Zx (b:Nat)] 81 false)
 generalize h++[Blk.cells [Zx (a:Nat),Zx (b:Nat)] 81 false]=h1 at hE0 c3 ⊢
 generalize h.length=b3 at c3 ⊢
 refine hN1 [(0,v),(1,rV a b),(3,pt b3),(4,.int .i64 0),(5,.bool false)] _ _ ?_ (by simp (maxSteps:=2000000) only [↓Za,↓Zk,↓Zr,↓Ze,↓Zm,↓Zs,↓Zf,↓Zh,↓Zg,↓Zc,↓Zb,↓vdn,vup,Zn,Zl,Zo,Zi,Zj,List.map_cons,List.map_nil,cond_true,cond_false,aop,Zv,Zq,Zp,ev,sput,Zt,Zy,Ya,unK,Zd,Zw,Nat.reduceBEq,Nat.reduceAdd,Int.reduceBEq,Int.reduceBNe,Int.reduceLT,Zu,Zz,tup,tyf])
 clear hN1
 try clear N1
 have hv1:=hv.ext hE0
 refine Yb fun N2 hN2=>?_
 simp (maxSteps:=2000000) only [s93,↓Za,↓Zk,↓Zr,↓Ze,↓Zm,↓Zs,↓Zf,↓Zh,↓Zg,↓Zc,↓Zb,↓vdn,vup,Zn,Zl,Zo,Zi,Zj,List.map_cons,List.map_nil,cond_true,cond_false,aop,Zv,Zq,Zp,ev,sput,Zt,Zy,Ya,unK,Zd,Zw,Nat.reduceBEq,Nat.reduceAdd,Int.reduceBEq,Int.reduceBNe,Int.reduceLT,Zu,Zz,tup,tyf]
 refine hN2 [(0,v),(1,rV a b),(3,pt b3),(4,.int .i64 (-1)),(5,.bool false)] _ _ ?_ (by simp (maxSteps:=2000000) only [↓Za,↓Zk,↓Zr,↓Ze,↓Zm,↓Zs,↓Zf,↓Zh,↓Zg,↓Zc,↓Zb,↓vdn,vup,Zn,Zl,Zo,Zi,Zj,List.map_cons,List.map_nil,cond_true,cond_false,aop,Zv,Zq,Zp,ev,sput,Zt,Zy,Ya,unK,Zd,Zw,Nat.reduceBEq,Nat.reduceAdd,Int.reduceBEq,Int.reduceBNe,Int.reduceLT,Zu,Zz,tup,tyf])
 clear hN2
 try clear N2
 refine Ye fun M hM=>?_
 refine Yb fun N3 hN3=>?_
 simp (maxSteps:=2000000) only [s93,↓Za,↓Zk,↓Zr,↓Ze,↓Zm,↓Zs,↓Zf,↓Zh,↓Zg,↓Zc,↓Zb,↓vdn,vup,Zn,Zl,Zo,Zi,Zj,List.map_cons,List.map_nil,cond_true,cond_false,aop,Zv,Zq,Zp,ev,sput,Zt,Zy,Ya,unK,Zd,Zw,Nat.reduceBEq,Nat.reduceAdd,Int.reduceBEq,Int.reduceBNe,Int.reduceLT,Zu,Zz,tup,tyf,hv1.len]
 refine hN3 [(0,v),(1,rV a b),(3,pt b3),(4,.int .i64 (-1)),(5,.bool false),(10,v),(11,Zx t.length),(12,.int .i64 0)] _ _ ?_ (by simp (maxSteps:=2000000) only [↓Za,↓Zk,↓Zr,↓Ze,↓Zm,↓Zs,↓Zf,↓Zh,↓Zg,↓Zc,↓Zb,↓vdn,vup,Zn,Zl,Zo,Zi,Zj,List.map_cons,List.map_nil,cond_true,cond_false,aop,Zv,Zq,Zp,ev,sput,Zt,Zy,Ya,unK,Zd,Zw,Nat.reduceBEq,Nat.reduceAdd,Int.reduceBEq,Int.reduceBNe,Int.reduceLT,Zu,Zz,tup,tyf])
 clear hN3
 try clear N3
 refine Yh ?_
 refine Yf fun Q hQ=>?_
 refine Xh (γ:=Nat×Int×Yc) (fun s=>s.1≤t.length∧CI t a b s.1 0 s.2.1∧Ext (fun _=>False) h1 s.2.2)
  (fun s=>([(0,v),(1,rV a b),(3,pt b3),(4,Zx s.2.1),(5,.bool false),(10,v),(11,Zx t.length),(12,Zx (s.1:Nat))],s.2.2)) (fun s=>t.length-s.1) (0,-1,h1) ⟨Nat.zero_le _,CI.zero,Ext.refl _ _⟩ (by simp (maxSteps:=2000000) only [↓Za,↓Zk,↓Zr,↓Ze,↓Zm,↓Zs,↓Zf,↓Zh,↓Zg,↓Zc,↓Zb,↓vdn,vup,Zn,Zl,Zo,Zi,Zj,List.map_cons,List.map_nil,cond_true,cond_false,aop,Zv,Zq,Zp,ev,sput,Zt,Zy,Ya,unK,Zd,Zw,Nat.reduceBEq,Nat.reduceAdd,Int.reduceBEq,Int.reduceBNe,Int.reduceLT,Zu,Zz,tup,tyf,Int.natCast_zero]) rfl ?_
 rintro ⟨i,y,hp⟩ ⟨hi,ci,hE⟩
 simp only at hi ci hE
 refine Yf fun Q2 hQ2=>?_
 simp only [l93_1]
 by_cases hin:(i:Int)<t.length
 · have hi' : i<t.length:=by omega
   obtain ⟨w,hw,ld⟩:=hv1.load2 (P:=prog) Wb hi'
   have hrl:(t.getD i []).length=wd t:=(ht.row _ (ht.get hi')).1
   refine Yb fun N4 hN4=>?_
   simp (maxSteps:=2000000) only [s93,↓Za,↓Zk,↓Zr,↓Ze,↓Zm,↓Zs,↓Zf,↓Zh,↓Zg,↓Zc,↓Zb,↓vdn,vup,Zn,Zl,Zo,Zi,Zj,List.map_cons,List.map_nil,cond_true,cond_false,aop,Zv,Zq,Zp,ev,sput,Zt,Zy,Ya,unK,Zd,Zw,Nat.reduceBEq,Nat.reduceAdd,Int.reduceBEq,Int.reduceBNe,Int.reduceLT,Zu,Zz,tup,tyf,hin]
   refine hN4 [(0,v),(1,rV a b),(3,pt b3),(4,Zx y),(5,.bool false),(10,v),(11,Zx t.length),(12,Zx (i:Nat)),(13,.bool true)] _ _ ?_ (by simp (maxSteps:=2000000) only [↓Za,↓Zk,↓Zr,↓Ze,↓Zm,↓Zs,↓Zf,↓Zh,↓Zg,↓Zc,↓Zb,↓vdn,vup,Zn,Zl,Zo,Zi,Zj,List.map_cons,List.map_nil,cond_true,cond_false,aop,Zv,Zq,Zp,ev,sput,Zt,Zy,Ya,unK,Zd,Zw,Nat.reduceBEq,Nat.reduceAdd,Int.reduceBEq,Int.reduceBNe,Int.reduceLT,Zu,Zz,tup,tyf])
   clear hN4
   try clear N4
   refine Yb fun N5 hN5=>?_
   simp (maxSteps:=2000000) only [s93,↓Za,↓Zk,↓Zr,↓Ze,↓Zm,↓Zs,↓Zf,↓Zh,↓Zg,↓Zc,↓Zb,↓vdn,vup,Zn,Zl,Zo,Zi,Zj,List.map_cons,List.map_nil,cond_true,cond_false,aop,Zv,Zq,Zp,ev,sput,Zt,Zy,Ya,unK,Zd,Zw,Nat.reduceBEq,Nat.reduceAdd,Int.reduceBEq,Int.reduceBNe,Int.reduceLT,Zu,Zz,tup,tyf]
   refine hN5 [(0,v),(1,rV a b),(3,pt b3),(4,Zx y),(5,.bool false),(10,v),(11,Zx t.length),(12,Zx (i:Nat))] _ _ ?_ (by simp (maxSteps:=2000000) only [↓Za,↓Zk,↓Zr,↓Ze,↓Zm,↓Zs,↓Zf,↓Zh,↓Zg,↓Zc,↓Zb,↓vdn,vup,Zn,Zl,Zo,Zi,Zj,List.map_cons,List.map_nil,cond_true,cond_false,aop,Zv,Zq,Zp,ev,sput,Zt,Zy,Ya,unK,Zd,Zw,Nat.reduceBEq,Nat.reduceAdd,Int.reduceBEq,Int.reduceBNe,Int.reduceLT,Zu,Zz,tup,tyf])
   clear hN5
   try clear N5
   refine Ye fun B hB=>?_
   refine Yh ?_
   refine Yb fun N6 hN6=>?_
   simp (maxSteps:=2000000) only [s93,↓Za,↓Zk,↓Zr,↓Ze,↓Zm,↓Zs,↓Zf,↓Zh,↓Zg,↓Zc,↓Zb,↓vdn,vup,Zn,Zl,Zo,Zi,Zj,List.map_cons,List.map_nil,cond_true,cond_false,aop,Zv,Zq,Zp,ev,sput,Zt,Zy,Ya,unK,Zd,Zw,Nat.reduceBEq,Nat.reduceAdd,Int.reduceBEq,Int.reduceBNe,Int.reduceLT,Zu,Zz,tup,tyf,(hv1.ext hE).idx el_70 Vb hi',ld _ hE]
   refine hN6 [(0,v),(1,rV a b),(3,pt b3),(4,Zx y),(5,.bool false),(6,Zx (i:Nat)),(7,w),(10,v),(11,Zx t.length),(12,Zx (i:Nat))] _ _ ?_ (by simp (maxSteps:=2000000) only [↓Za,↓Zk,↓Zr,↓Ze,↓Zm,↓Zs,↓Zf,↓Zh,↓Zg,↓Zc,↓Zb,↓vdn,vup,Zn,Zl,Zo,Zi,Zj,List.map_cons,List.map_nil,cond_true,cond_false,aop,Zv,Zq,Zp,ev,sput,Zt,Zy,Ya,unK,Zd,Zw,Nat.reduceBEq,Nat.reduceAdd,Int.reduceBEq,Int.reduceBNe,Int.reduceLT,Zu,Zz,tup,tyf])
   clear hN6
   try clear N6
   refine Yb fun N7 hN7=>?_
   simp (maxSteps:=2000000) only [s93,↓Za,↓Zk,↓Zr,↓Ze,↓Zm,↓Zs,↓Zf,↓Zh,↓Zg,↓Zc,↓Zb,↓vdn,vup,Zn,Zl,Zo,Zi,Zj,List.map_cons,List.map_nil,cond_true,cond_false,aop,Zv,Zq,Zp,ev,sput,Zt,Zy,Ya,unK,Zd,Zw,Nat.reduceBEq,Nat.reduceAdd,Int.reduceBEq,Int.reduceBNe,Int.reduceLT,Zu,Zz,tup,tyf,hw.len,hrl]
   refine hN7 [(0,v),(1,rV a b),(3,pt b3),(4,Zx y),(5,.bool false),(6,Zx (i:Nat)),(7,w),(10,v),(11,Zx t.length),(12,Zx (i:Nat)),(17,w),(18,Zx (wd t:Nat)),(19,.int .i64 0)] _ _ ?_ (by simp (maxSteps:=2000000) only [↓Za,↓Zk,↓Zr,↓Ze,↓Zm,↓Zs,↓Zf,↓Zh,↓Zg,↓Zc,↓Zb,↓vdn,vup,Zn,Zl,Zo,Zi,Zj,List.map_cons,List.map_nil,cond_true,cond_false,aop,Zv,Zq,Zp,ev,sput,Zt,Zy,Ya,unK,Zd,Zw,Nat.reduceBEq,Nat.reduceAdd,Int.reduceBEq,Int.reduceBNe,Int.reduceLT,Zu,Zz,tup,tyf])
   clear hN7
   try clear N7
   refine Yh ?_
   refine Yf fun Q3 hQ3=>?_
   refine Xh (γ:=Nat×Int×Yc) (fun s=>s.1≤wd t∧CI t a b i s.1 s.2.1∧Ext (fun _=>False) h1 s.2.2)
    (fun s=>([(0,v),(1,rV a b),(3,pt b3),(4,Zx s.2.1),(5,.bool false),(6,Zx (i:Nat)),(7,w),(10,v),(11,Zx t.length),(12,Zx (i:Nat)),(17,w),(18,Zx (wd t:Nat)),(19,Zx (s.1:Nat))],s.2.2)) (fun s=>wd t-s.1) (0,y,hp) ⟨Nat.zero_le _,ci,hE⟩ (by simp (maxSteps:=2000000) only [↓Za,↓Zk,↓Zr,↓Ze,↓Zm,↓Zs,↓Zf,↓Zh,↓Zg,↓Zc,↓Zb,↓vdn,vup,Zn,Zl,Zo,Zi,Zj,List.map_cons,List.map_nil,cond_true,cond_false,aop,Zv,Zq,Zp,ev,sput,Zt,Zy,Ya,unK,Zd,Zw,Nat.reduceBEq,Nat.reduceAdd,Int.reduceBEq,Int.reduceBNe,Int.reduceLT,Zu,Zz,tup,tyf,Int.natCast_zero]) rfl ?_
   rintro ⟨j,y2,hq⟩ ⟨hj,ci2,hE2⟩
   simp only at hj ci2 hE2
   refine Yf fun Q4 hQ4=>?_
   simp only [l93_0]
   by_cases hjn:(j:Int)<(wd t:Nat)
   · have hj' : j<wd t:=by omega
     have hwq:=intExt hw hE2
     have hjr:j<(t.getD i []).length:=by rw [hrl]; exact hj'
     have hcel:(t.getD i []).getD j 0=celN t i j:=rfl
     have hld:=fun K=>hwq.load (P:=prog) Yw hjr K
     rw [hcel] at hld
     refine Yb fun N8 hN8=>?_
     simp (maxSteps:=2000000) only [s93,↓Za,↓Zk,↓Zr,↓Ze,↓Zm,↓Zs,↓Zf,↓Zh,↓Zg,↓Zc,↓Zb,↓vdn,vup,Zn,Zl,Zo,Zi,Zj,List.map_cons,List.map_nil,cond_true,cond_false,aop,Zv,Zq,Zp,ev,sput,Zt,Zy,Ya,unK,Zd,Zw,Nat.reduceBEq,Nat.reduceAdd,Int.reduceBEq,Int.reduceBNe,Int.reduceLT,Zu,Zz,tup,tyf,hjn]
     refine hN8 [(0,v),(1,rV a b),(3,pt b3),(4,Zx y2),(5,.bool false),(6,Zx (i:Nat)),(7,w),(10,v),(11,Zx t.length),(12,Zx (i:Nat)),(17,w),(18,Zx (wd t:Nat)),(19,Zx (j:Nat)),(20,.bool true)] _ _ ?_ (by simp (maxSteps:=2000000) only [↓Za,↓Zk,↓Zr,↓Ze,↓Zm,↓Zs,↓Zf,↓Zh,↓Zg,↓Zc,↓Zb,↓vdn,vup,Zn,Zl,Zo,Zi,Zj,List.map_cons,List.map_nil,cond_true,cond_false,aop,Zv,Zq,Zp,ev,sput,Zt,Zy,Ya,unK,Zd,Zw,Nat.reduceBEq,Nat.reduceAdd,Int.reduceBEq,Int.reduceBNe,Int.reduceLT,Zu,Zz,tup,tyf])
     clear hN8
     try clear N8
     refine Yb fun N9 hN9=>?_
     simp (maxSteps:=2000000) only [s93,↓Za,↓Zk,↓Zr,↓Ze,↓Zm,↓Zs,↓Zf,↓Zh,↓Zg,↓Zc,↓Zb,↓vdn,vup,Zn,Zl,Zo,Zi,Zj,List.map_cons,List.map_nil,cond_true,cond_false,aop,Zv,Zq,Zp,ev,sput,Zt,Zy,Ya,unK,Zd,Zw,Nat.reduceBEq,Nat.reduceAdd,Int.reduceBEq,Int.reduceBNe,Int.reduceLT,Zu,Zz,tup,tyf]
     refine hN9 [(0,v),(1,rV a b),(3,pt b3),(4,Zx y2),(5,.bool false),(6,Zx (i:Nat)),(7,w),(10,v),(11,Zx t.length),(12,Zx (i:Nat)),(17,w),(18,Zx (wd t:Nat)),(19,Zx (j:Nat))] _ _ ?_ (by simp (maxSteps:=2000000) only [↓Za,↓Zk,↓Zr,↓Ze,↓Zm,↓Zs,↓Zf,↓Zh,↓Zg,↓Zc,↓Zb,↓vdn,vup,Zn,Zl,Zo,Zi,Zj,List.map_cons,List.map_nil,cond_true,cond_false,aop,Zv,Zq,Zp,ev,sput,Zt,Zy,Ya,unK,Zd,Zw,Nat.reduceBEq,Nat.reduceAdd,Int.reduceBEq,Int.reduceBNe,Int.reduceLT,Zu,Zz,tup,tyf])
     clear hN9
     try clear N9
     refine Ye fun C hC=>?_
     refine Yh ?_
     refine Yb fun N10 hN10=>?_
     simp (maxSteps:=2000000) only [s93,↓Za,↓Zk,↓Zr,↓Ze,↓Zm,↓Zs,↓Zf,↓Zh,↓Zg,↓Zc,↓Zb,↓vdn,vup,Zn,Zl,Zo,Zi,Zj,List.map_cons,List.map_nil,cond_true,cond_false,aop,Zv,Zq,Zp,ev,sput,Zt,Zy,Ya,unK,Zd,Zw,Nat.reduceBEq,Nat.reduceAdd,Int.reduceBEq,Int.reduceBNe,Int.reduceLT,Zu,Zz,tup,tyf,hwq.idx Wp Xk hjr,hld]
     refine hN10 [(0,v),(1,rV a b),(3,pt b3),(4,Zx y2),(5,.bool false),(6,Zx (i:Nat)),(7,w),(8,Zx (j:Nat)),(9,Zx (celN t i j)),(10,v),(11,Zx t.length),(12,Zx (i:Nat)),(17,w),(18,Zx (wd t:Nat)),(19,Zx (j:Nat))] _ _ ?_ (by simp (maxSteps:=2000000) only [↓Za,↓Zk,↓Zr,↓Ze,↓Zm,↓Zs,↓Zf,↓Zh,↓Zg,↓Zc,↓Zb,↓vdn,vup,Zn,Zl,Zo,Zi,Zj,List.map_cons,List.map_nil,cond_true,cond_false,aop,Zv,Zq,Zp,ev,sput,Zt,Zy,Ya,unK,Zd,Zw,Nat.reduceBEq,Nat.reduceAdd,Int.reduceBEq,Int.reduceBNe,Int.reduceLT,Zu,Zz,tup,tyf])
     clear hN10
     try clear N10
     have c3q:=(hE2.2 _ (Yp c3) id).trans c3
     refine Yb fun N11 hN11=>?_
     simp (maxSteps:=2000000) only [s93,↓Za,↓Zk,↓Zr,↓Ze,↓Zm,↓Zs,↓Zf,↓Zh,↓Zg,↓Zc,↓Zb,↓vdn,vup,Zn,Zl,Zo,Zi,Zj,List.map_cons,List.map_nil,cond_true,cond_false,aop,Zv,Zq,Zp,ev,sput,Zt,Zy,Ya,unK,Zd,Zw,Nat.reduceBEq,Nat.reduceAdd,Int.reduceBEq,Int.reduceBNe,Int.reduceLT,Zu,Zz,tup,tyf,Yz,List.nil_append,List.append_nil,List.toList_toArray,List.cons_append,loadR c3q]
     refine (has_call ha hb).mono ?_
     rintro _ h3 ⟨rfl,hE3⟩
     refine hN11 [(0,v),(1,rV a b),(3,pt b3),(4,Zx y2),(5,.bool false),(6,Zx (i:Nat)),(7,w),(8,Zx (j:Nat)),(9,Zx (celN t i j)),(10,v),(11,Zx t.length),(12,Zx (i:Nat)),(17,w),(18,Zx (wd t:Nat)),(19,Zx (j:Nat)),(27,.bool (hasB a b i j))] _ _ ?_ (by simp (maxSteps:=2000000) only [↓Za,↓Zk,↓Zr,↓Ze,↓Zm,↓Zs,↓Zf,↓Zh,↓Zg,↓Zc,↓Zb,↓vdn,vup,Zn,Zl,Zo,Zi,Zj,List.map_cons,List.map_nil,cond_true,cond_false,aop,Zv,Zq,Zp,ev,sput,Zt,Zy,Ya,unK,Zd,Zw,Nat.reduceBEq,Nat.reduceAdd,Int.reduceBEq,Int.reduceBNe,Int.reduceLT,Zu,Zz,tup,tyf])
     clear hN11
     try clear N11
     have hE4:=hE2.trans hE3
     cases hh:hasB a b i j with
     | false =>
       refine Yq rfl ?_
       refine Yd ?_
       simp (maxSteps:=2000000) only [s93,↓Za,↓Zk,↓Zr,↓Ze,↓Zm,↓Zs,↓Zf,↓Zh,↓Zg,↓Zc,↓Zb,↓vdn,vup,Zn,Zl,Zo,Zi,Zj,List.map_cons,List.map_nil,cond_true,cond_false,aop,Zv,Zq,Zp,ev,sput,Zt,Zy,Ya,unK,Zd,Zw,Nat.reduceBEq,Nat.reduceAdd,Int.reduceBEq,Int.reduceBNe,Int.reduceLT,Zu,Zz,tup,tyf]
       refine hC [(0,v),(1,rV a b),(3,pt b3),(4,Zx y2),(5,.bool false),(6,Zx (i:Nat)),(7,w),(10,v),(11,Zx t.length),(12,Zx (i:Nat)),(17,w),(18,Zx (wd t:Nat)),(19,Zx (j:Nat))] _ _ ?_ (by simp (maxSteps:=2000000) only [↓Za,↓Zk,↓Zr,↓Ze,↓Zm,↓Zs,↓Zf,↓Zh,↓Zg,↓Zc,↓Zb,↓vdn,vup,Zn,Zl,Zo,Zi,Zj,List.map_cons,List.map_nil,cond_true,cond_false,aop,Zv,Zq,Zp,ev,sput,Zt,Zy,Ya,unK,Zd,Zw,Nat.reduceBEq,Nat.reduceAdd,Int.reduceBEq,Int.reduceBNe,Int.reduceLT,Zu,Zz,tup,tyf])
       clear hC
       try clear C
       refine Yd ?_
       simp (maxSteps:=2000000) only [s93,↓Za,↓Zk,↓Zr,↓Ze,↓Zm,↓Zs,↓Zf,↓Zh,↓Zg,↓Zc,↓Zb,↓vdn,vup,Zn,Zl,Zo,Zi,Zj,List.map_cons,List.map_nil,cond_true,cond_false,aop,Zv,Zq,Zp,ev,sput,Zt,Zy,Ya,unK,Zd,Zw,Nat.reduceBEq,Nat.reduceAdd,Int.reduceBEq,Int.reduceBNe,Int.reduceLT,Zu,Zz,tup,tyf,Vd (show j<9223372036854775807 by omega)]
       exact hQ4 _ _ _ ⟨(j+1,y2,h3),⟨hj',ci2.skip hh,hE4⟩,by simp only; omega,by simp (maxSteps:=2000000) only [↓Za,↓Zk,↓Zr,↓Ze,↓Zm,↓Zs,↓Zf,↓Zh,↓Zg,↓Zc,↓Zb,↓vdn,vup,Zn,Zl,Zo,Zi,Zj,List.map_cons,List.map_nil,cond_true,cond_false,aop,Zv,Zq,Zp,ev,sput,Zt,Zy,Ya,unK,Zd,Zw,Nat.reduceBEq,Nat.reduceAdd,Int.reduceBEq,Int.reduceBNe,Int.reduceLT,Zu,Zz,tup,tyf],rfl⟩
     | true =>
       refine Xe rfl ?_
       refine Ye fun D hD=>?_
       by_cases hm:0≤y2∧y2≠celN t i j
       · have g1:decide (y2≥0)=true:=decide_eq_true hm.1
         have g2:(y2 != celN t i j)=true:=by rw [bne_iff_ne]; exact hm.2
         refine Yb fun N12 hN12=>?_
         simp (maxSteps:=2000000) only [s93,↓Za,↓Zk,↓Zr,↓Ze,↓Zm,↓Zs,↓Zf,↓Zh,↓Zg,↓Zc,↓Zb,↓vdn,vup,Zn,Zl,Zo,Zi,Zj,List.map_cons,List.map_nil,cond_true,cond_false,aop,Zv,Zq,Zp,ev,sput,Zt,Zy,Ya,unK,Zd,Zw,Nat.reduceBEq,Nat.reduceAdd,Int.reduceBEq,Int.reduceBNe,Int.reduceLT,Zu,Zz,tup,tyf,g1,g2]
         refine hN12 [(0,v),(1,rV a b),(3,pt b3),(4,Zx y2),(5,.bool false),(6,Zx (i:Nat)),(7,w),(8,Zx (j:Nat)),(9,Zx (celN t i j)),(10,v),(11,Zx t.length),(12,Zx (i:Nat)),(17,w),(18,Zx (wd t:Nat)),(19,Zx (j:Nat)),(27,.bool true),(34,.bool true)] _ _ ?_ (by simp (maxSteps:=2000000) only [↓Za,↓Zk,↓Zr,↓Ze,↓Zm,↓Zs,↓Zf,↓Zh,↓Zg,↓Zc,↓Zb,↓vdn,vup,Zn,Zl,Zo,Zi,Zj,List.map_cons,List.map_nil,cond_true,cond_false,aop,Zv,Zq,Zp,ev,sput,Zt,Zy,Ya,unK,Zd,Zw,Nat.reduceBEq,Nat.reduceAdd,Int.reduceBEq,Int.reduceBNe,Int.reduceLT,Zu,Zz,tup,tyf])
         clear hN12
         try clear N12
         refine Xe rfl ?_
         refine Yd ?_
         simp (maxSteps:=2000000) only [s93,↓Za,↓Zk,↓Zr,↓Ze,↓Zm,↓Zs,↓Zf,↓Zh,↓Zg,↓Zc,↓Zb,↓vdn,vup,Zn,Zl,Zo,Zi,Zj,List.map_cons,List.map_nil,cond_true,cond_false,aop,Zv,Zq,Zp,ev,sput,Zt,Zy,Ya,unK,Zd,Zw,Nat.reduceBEq,Nat.reduceAdd,Int.reduceBEq,Int.reduceBNe,Int.reduceLT,Zu,Zz,tup,tyf]
         refine hQ4 _ _ _ (hQ3 _ _ _ ?_)
         try simp (maxSteps:=2000000) only [s93,↓Za,↓Zk,↓Zr,↓Ze,↓Zm,↓Zs,↓Zf,↓Zh,↓Zg,↓Zc,↓Zb,↓vdn,vup,Zn,Zl,Zo,Zi,Zj,List.map_cons,List.map_nil,cond_true,cond_false,aop,Zv,Zq,Zp,ev,sput,Zt,Zy,Ya,unK,Zd,Zw,Nat.reduceBEq,Nat.reduceAdd,Int.reduceBEq,Int.reduceBNe,Int.reduceLT,Zu,Zz,tup,tyf]
         refine hQ2 _ _ _ (hQ _ _ _ ?_)
         try simp (maxSteps:=2000000) only [s93,↓Za,↓Zk,↓Zr,↓Ze,↓Zm,↓Zs,↓Zf,↓Zh,↓Zg,↓Zc,↓Zb,↓vdn,vup,Zn,Zl,Zo,Zi,Zj,List.map_cons,List.map_nil,cond_true,cond_false,aop,Zv,Zq,Zp,ev,sput,Zt,Zy,Ya,unK,Zd,Zw,Nat.reduceBEq,Nat.reduceAdd,Int.reduceBEq,Int.reduceBNe,Int.reduceLT,Zu,Zz,tup,tyf]
         exact ⟨⟨0,false,rfl,nofun,fun _=>ci2.mix hh hi' hj' hm⟩,hE0.trans hE4⟩
       · by_cases g0:y2≥0
         · have g1:decide (y2≥0)=true:=decide_eq_true g0
           have g2:(y2 != celN t i j)=false:=by
            have:y2=celN t i j:=by omega
            rw [this]; simp
           refine Yb fun N13 hN13=>?_
           simp (maxSteps:=2000000) only [s93,↓Za,↓Zk,↓Zr,↓Ze,↓Zm,↓Zs,↓Zf,↓Zh,↓Zg,↓Zc,↓Zb,↓vdn,vup,Zn,Zl,Zo,Zi,Zj,List.map_cons,List.map_nil,cond_true,cond_false,aop,Zv,Zq,Zp,ev,sput,Zt,Zy,Ya,unK,Zd,Zw,Nat.reduceBEq,Nat.reduceAdd,Int.reduceBEq,Int.reduceBNe,Int.reduceLT,Zu,Zz,tup,tyf,g1,g2]
           refine hN13 [(0,v),(1,rV a b),(3,pt b3),(4,Zx y2),(5,.bool false),(6,Zx (i:Nat)),(7,w),(8,Zx (j:Nat)),(9,Zx (celN t i j)),(10,v),(11,Zx t.length),(12,Zx (i:Nat)),(17,w),(18,Zx (wd t:Nat)),(19,Zx (j:Nat)),(27,.bool true),(34,.bool false)] _ _ ?_ (by simp (maxSteps:=2000000) only [↓Za,↓Zk,↓Zr,↓Ze,↓Zm,↓Zs,↓Zf,↓Zh,↓Zg,↓Zc,↓Zb,↓vdn,vup,Zn,Zl,Zo,Zi,Zj,List.map_cons,List.map_nil,cond_true,cond_false,aop,Zv,Zq,Zp,ev,sput,Zt,Zy,Ya,unK,Zd,Zw,Nat.reduceBEq,Nat.reduceAdd,Int.reduceBEq,Int.reduceBNe,Int.reduceLT,Zu,Zz,tup,tyf])
           clear hN13
           try clear N13
           refine Yq rfl ?_
           refine Yd ?_
           simp (maxSteps:=2000000) only [s93,↓Za,↓Zk,↓Zr,↓Ze,↓Zm,↓Zs,↓Zf,↓Zh,↓Zg,↓Zc,↓Zb,↓vdn,vup,Zn,Zl,Zo,Zi,Zj,List.map_cons,List.map_nil,cond_true,cond_false,aop,Zv,Zq,Zp,ev,sput,Zt,Zy,Ya,unK,Zd,Zw,Nat.reduceBEq,Nat.reduceAdd,Int.reduceBEq,Int.reduceBNe,Int.reduceLT,Zu,Zz,tup,tyf]
           refine hD [(0,v),(1,rV a b),(3,pt b3),(4,Zx y2),(5,.bool false),(6,Zx (i:Nat)),(7,w),(8,Zx (j:Nat)),(9,Zx (celN t i j)),(10,v),(11,Zx t.length),(12,Zx (i:Nat)),(17,w),(18,Zx (wd t:Nat)),(19,Zx (j:Nat)),(27,.bool true)] _ _ ?_ (by simp (maxSteps:=2000000) only [↓Za,↓Zk,↓Zr,↓Ze,↓Zm,↓Zs,↓Zf,↓Zh,↓Zg,↓Zc,↓Zb,↓vdn,vup,Zn,Zl,Zo,Zi,Zj,List.map_cons,List.map_nil,cond_true,cond_false,aop,Zv,Zq,Zp,ev,sput,Zt,Zy,Ya,unK,Zd,Zw,Nat.reduceBEq,Nat.reduceAdd,Int.reduceBEq,Int.reduceBNe,Int.reduceLT,Zu,Zz,tup,tyf])
           clear hD
           try clear D
           refine Yd ?_
           simp (maxSteps:=2000000) only [s93,↓Za,↓Zk,↓Zr,↓Ze,↓Zm,↓Zs,↓Zf,↓Zh,↓Zg,↓Zc,↓Zb,↓vdn,vup,Zn,Zl,Zo,Zi,Zj,List.map_cons,List.map_nil,cond_true,cond_false,aop,Zv,Zq,Zp,ev,sput,Zt,Zy,Ya,unK,Zd,Zw,Nat.reduceBEq,Nat.reduceAdd,Int.reduceBEq,Int.reduceBNe,Int.reduceLT,Zu,Zz,tup,tyf]
           refine hC [(0,v),(1,rV a b),(3,pt b3),(4,Zx (celN t i j)),(5,.bool false),(6,Zx (i:Nat)),(7,w),(10,v),(11,Zx t.length),(12,Zx (i:Nat)),(17,w),(18,Zx (wd t:Nat)),(19,Zx (j:Nat))] _ _ ?_ (by simp (maxSteps:=2000000) only [↓Za,↓Zk,↓Zr,↓Ze,↓Zm,↓Zs,↓Zf,↓Zh,↓Zg,↓Zc,↓Zb,↓vdn,vup,Zn,Zl,Zo,Zi,Zj,List.map_cons,List.map_nil,cond_true,cond_false,aop,Zv,Zq,Zp,ev,sput,Zt,Zy,Ya,unK,Zd,Zw,Nat.reduceBEq,Nat.reduceAdd,Int.reduceBEq,Int.reduceBNe,Int.reduceLT,Zu,Zz,tup,tyf])
           clear hC
           try clear C
           refine Yd ?_
           simp (maxSteps:=2000000) only [s93,↓Za,↓Zk,↓Zr,↓Ze,↓Zm,↓Zs,↓Zf,↓Zh,↓Zg,↓Zc,↓Zb,↓vdn,vup,Zn,Zl,Zo,Zi,Zj,List.map_cons,List.map_nil,cond_true,cond_false,aop,Zv,Zq,Zp,ev,sput,Zt,Zy,Ya,unK,Zd,Zw,Nat.reduceBEq,Nat.reduceAdd,Int.reduceBEq,Int.reduceBNe,Int.reduceLT,Zu,Zz,tup,tyf,Vd (show j<9223372036854775807 by omega)]
           exact hQ4 _ _ _ ⟨(j+1,celN t i j,h3),⟨hj',ci2.take hh hi' hj' ht.nn hm,hE4⟩,by simp only; omega,by simp (maxSteps:=2000000) only [↓Za,↓Zk,↓Zr,↓Ze,↓Zm,↓Zs,↓Zf,↓Zh,↓Zg,↓Zc,↓Zb,↓vdn,vup,Zn,Zl,Zo,Zi,Zj,List.map_cons,List.map_nil,cond_true,cond_false,aop,Zv,Zq,Zp,ev,sput,Zt,Zy,Ya,unK,Zd,Zw,Nat.reduceBEq,Nat.reduceAdd,Int.reduceBEq,Int.reduceBNe,Int.reduceLT,Zu,Zz,tup,tyf],rfl⟩
         · have g1:decide (y2≥0)=false:=decide_eq_false g0
           refine Yb fun N14 hN14=>?_
           simp (maxSteps:=2000000) only [s93,↓Za,↓Zk,↓Zr,↓Ze,↓Zm,↓Zs,↓Zf,↓Zh,↓Zg,↓Zc,↓Zb,↓vdn,vup,Zn,Zl,Zo,Zi,Zj,List.map_cons,List.map_nil,cond_true,cond_false,aop,Zv,Zq,Zp,ev,sput,Zt,Zy,Ya,unK,Zd,Zw,Nat.reduceBEq,Nat.reduceAdd,Int.reduceBEq,Int.reduceBNe,Int.reduceLT,Zu,Zz,tup,tyf,g1]
           refine hN14 [(0,v),(1,rV a b),(3,pt b3),(4,Zx y2),(5,.bool false),(6,Zx (i:Nat)),(7,w),(8,Zx (j:Nat)),(9,Zx (celN t i j)),(10,v),(11,Zx t.length),(12,Zx (i:Nat)),(17,w),(18,Zx (wd t:Nat)),(19,Zx (j:Nat)),(27,.bool true),(34,.bool false)] _ _ ?_ (by simp (maxSteps:=2000000) only [↓Za,↓Zk,↓Zr,↓Ze,↓Zm,↓Zs,↓Zf,↓Zh,↓Zg,↓Zc,↓Zb,↓vdn,vup,Zn,Zl,Zo,Zi,Zj,List.map_cons,List.map_nil,cond_true,cond_false,aop,Zv,Zq,Zp,ev,sput,Zt,Zy,Ya,unK,Zd,Zw,Nat.reduceBEq,Nat.reduceAdd,Int.reduceBEq,Int.reduceBNe,Int.reduceLT,Zu,Zz,tup,tyf])
           clear hN14
           try clear N14
           refine Yq rfl ?_
           refine Yd ?_
           simp (maxSteps:=2000000) only [s93,↓Za,↓Zk,↓Zr,↓Ze,↓Zm,↓Zs,↓Zf,↓Zh,↓Zg,↓Zc,↓Zb,↓vdn,vup,Zn,Zl,Zo,Zi,Zj,List.map_cons,List.map_nil,cond_true,cond_false,aop,Zv,Zq,Zp,ev,sput,Zt,Zy,Ya,unK,Zd,Zw,Nat.reduceBEq,Nat.reduceAdd,Int.reduceBEq,Int.reduceBNe,Int.reduceLT,Zu,Zz,tup,tyf]
           refine hD [(0,v),(1,rV a b),(3,pt b3),(4,Zx y2),(5,.bool false),(6,Zx (i:Nat)),(7,w),(8,Zx (j:Nat)),(9,Zx (celN t i j)),(10,v),(11,Zx t.length),(12,Zx (i:Nat)),(17,w),(18,Zx (wd t:Nat)),(19,Zx (j:Nat)),(27,.bool true)] _ _ ?_ (by simp (maxSteps:=2000000) only [↓Za,↓Zk,↓Zr,↓Ze,↓Zm,↓Zs,↓Zf,↓Zh,↓Zg,↓Zc,↓Zb,↓vdn,vup,Zn,Zl,Zo,Zi,Zj,List.map_cons,List.map_nil,cond_true,cond_false,aop,Zv,Zq,Zp,ev,sput,Zt,Zy,Ya,unK,Zd,Zw,Nat.reduceBEq,Nat.reduceAdd,Int.reduceBEq,Int.reduceBNe,Int.reduceLT,Zu,Zz,tup,tyf])
           clear hD
           try clear D
           refine Yd ?_
           simp (maxSteps:=2000000) only [s93,↓Za,↓Zk,↓Zr,↓Ze,↓Zm,↓Zs,↓Zf,↓Zh,↓Zg,↓Zc,↓Zb,↓vdn,vup,Zn,Zl,Zo,Zi,Zj,List.map_cons,List.map_nil,cond_true,cond_false,aop,Zv,Zq,Zp,ev,sput,Zt,Zy,Ya,unK,Zd,Zw,Nat.reduceBEq,Nat.reduceAdd,Int.reduceBEq,Int.reduceBNe,Int.reduceLT,Zu,Zz,tup,tyf]
           refine hC [(0,v),(1,rV a b),(3,pt b3),(4,Zx (celN t i j)),(5,.bool false),(6,Zx (i:Nat)),(7,w),(10,v),(11,Zx t.length),(12,Zx (i:Nat)),(17,w),(18,Zx (wd t:Nat)),(19,Zx (j:Nat))] _ _ ?_ (by simp (maxSteps:=2000000) only [↓Za,↓Zk,↓Zr,↓Ze,↓Zm,↓Zs,↓Zf,↓Zh,↓Zg,↓Zc,↓Zb,↓vdn,vup,Zn,Zl,Zo,Zi,Zj,List.map_cons,List.map_nil,cond_true,cond_false,aop,Zv,Zq,Zp,ev,sput,Zt,Zy,Ya,unK,Zd,Zw,Nat.reduceBEq,Nat.reduceAdd,Int.reduceBEq,Int.reduceBNe,Int.reduceLT,Zu,Zz,tup,tyf])
           clear hC
           try clear C
           refine Yd ?_
           simp (maxSteps:=2000000) only [s93,↓Za,↓Zk,↓Zr,↓Ze,↓Zm,↓Zs,↓Zf,↓Zh,↓Zg,↓Zc,↓Zb,↓vdn,vup,Zn,Zl,Zo,Zi,Zj,List.map_cons,List.map_nil,cond_true,cond_false,aop,Zv,Zq,Zp,ev,sput,Zt,Zy,Ya,unK,Zd,Zw,Nat.reduceBEq,Nat.reduceAdd,Int.reduceBEq,Int.reduceBNe,Int.reduceLT,Zu,Zz,tup,tyf,Vd (show j<9223372036854775807 by omega)]
           exact hQ4 _ _ _ ⟨(j+1,celN t i j,h3),⟨hj',ci2.take hh hi' hj' ht.nn hm,hE4⟩,by simp only; omega,by simp (maxSteps:=2000000) only [↓Za,↓Zk,↓Zr,↓Ze,↓Zm,↓Zs,↓Zf,↓Zh,↓Zg,↓Zc,↓Zb,↓vdn,vup,Zn,Zl,Zo,Zi,Zj,List.map_cons,List.map_nil,cond_true,cond_false,aop,Zv,Zq,Zp,ev,sput,Zt,Zy,Ya,unK,Zd,Zw,Nat.reduceBEq,Nat.reduceAdd,Int.reduceBEq,Int.reduceBNe,Int.reduceLT,Zu,Zz,tup,tyf],rfl⟩
   · obtain rfl:j=wd t:=by omega
     refine Yb fun N15 hN15=>?_
     simp (maxSteps:=2000000) only [s93,↓Za,↓Zk,↓Zr,↓Ze,↓Zm,↓Zs,↓Zf,↓Zh,↓Zg,↓Zc,↓Zb,↓vdn,vup,Zn,Zl,Zo,Zi,Zj,List.map_cons,List.map_nil,cond_true,cond_false,aop,Zv,Zq,Zp,ev,sput,Zt,Zy,Ya,unK,Zd,Zw,Nat.reduceBEq,Nat.reduceAdd,Int.reduceBEq,Int.reduceBNe,Int.reduceLT,Zu,Zz,tup,tyf,hjn]
     refine hN15 [(0,v),(1,rV a b),(3,pt b3),(4,Zx y2),(5,.bool false),(6,Zx (i:Nat)),(7,w),(10,v),(11,Zx t.length),(12,Zx (i:Nat)),(17,w),(18,Zx (wd t:Nat)),(19,Zx (wd t:Nat)),(20,.bool false)] _ _ ?_ (by simp (maxSteps:=2000000) only [↓Za,↓Zk,↓Zr,↓Ze,↓Zm,↓Zs,↓Zf,↓Zh,↓Zg,↓Zc,↓Zb,↓vdn,vup,Zn,Zl,Zo,Zi,Zj,List.map_cons,List.map_nil,cond_true,cond_false,aop,Zv,Zq,Zp,ev,sput,Zt,Zy,Ya,unK,Zd,Zw,Nat.reduceBEq,Nat.reduceAdd,Int.reduceBEq,Int.reduceBNe,Int.reduceLT,Zu,Zz,tup,tyf])
     clear hN15
     try clear N15
     refine Yb fun N16 hN16=>?_
     simp (maxSteps:=2000000) only [s93,↓Za,↓Zk,↓Zr,↓Ze,↓Zm,↓Zs,↓Zf,↓Zh,↓Zg,↓Zc,↓Zb,↓vdn,vup,Zn,Zl,Zo,Zi,Zj,List.map_cons,List.map_nil,cond_true,cond_false,aop,Zv,Zq,Zp,ev,sput,Zt,Zy,Ya,unK,Zd,Zw,Nat.reduceBEq,Nat.reduceAdd,Int.reduceBEq,Int.reduceBNe,Int.reduceLT,Zu,Zz,tup,tyf]
     refine hQ4 _ _ _ (hQ3 _ _ _ ?_)
     simp (maxSteps:=2000000) only [s93,↓Za,↓Zk,↓Zr,↓Ze,↓Zm,↓Zs,↓Zf,↓Zh,↓Zg,↓Zc,↓Zb,↓vdn,vup,Zn,Zl,Zo,Zi,Zj,List.map_cons,List.map_nil,cond_true,cond_false,aop,Zv,Zq,Zp,ev,sput,Zt,Zy,Ya,unK,Zd,Zw,Nat.reduceBEq,Nat.reduceAdd,Int.reduceBEq,Int.reduceBNe,Int.reduceLT,Zu,Zz,tup,tyf,if_true]
     refine hB [(0,v),(1,rV a b),(3,pt b3),(4,Zx y2),(5,.bool false),(10,v),(11,Zx t.length),(12,Zx (i:Nat)),(20,.bool false)] _ _ ?_ (by simp (maxSteps:=2000000) only [↓Za,↓Zk,↓Zr,↓Ze,↓Zm,↓Zs,↓Zf,↓Zh,↓Zg,↓Zc,↓Zb,↓vdn,vup,Zn,Zl,Zo,Zi,Zj,List.map_cons,List.map_nil,cond_true,cond_false,aop,Zv,Zq,Zp,ev,sput,Zt,Zy,Ya,unK,Zd,Zw,Nat.reduceBEq,Nat.reduceAdd,Int.reduceBEq,Int.reduceBNe,Int.reduceLT,Zu,Zz,tup,tyf])
     clear hB
     try clear B
     refine Yd ?_
     simp (maxSteps:=2000000) only [s93,↓Za,↓Zk,↓Zr,↓Ze,↓Zm,↓Zs,↓Zf,↓Zh,↓Zg,↓Zc,↓Zb,↓vdn,vup,Zn,Zl,Zo,Zi,Zj,List.map_cons,List.map_nil,cond_true,cond_false,aop,Zv,Zq,Zp,ev,sput,Zt,Zy,Ya,unK,Zd,Zw,Nat.reduceBEq,Nat.reduceAdd,Int.reduceBEq,Int.reduceBNe,Int.reduceLT,Zu,Zz,tup,tyf,Vd (show i<9223372036854775807 by omega)]
     exact hQ2 _ _ _ ⟨(i+1,y2,hq),⟨hi',ci2.row,hE2⟩,by simp only; omega,by simp (maxSteps:=2000000) only [↓Za,↓Zk,↓Zr,↓Ze,↓Zm,↓Zs,↓Zf,↓Zh,↓Zg,↓Zc,↓Zb,↓vdn,vup,Zn,Zl,Zo,Zi,Zj,List.map_cons,List.map_nil,cond_true,cond_false,aop,Zv,Zq,Zp,ev,sput,Zt,Zy,Ya,unK,Zd,Zw,Nat.reduceBEq,Nat.reduceAdd,Int.reduceBEq,Int.reduceBNe,Int.reduceLT,Zu,Zz,tup,tyf],rfl⟩
 · obtain rfl:i=t.length:=by omega
   refine Yb fun N17 hN17=>?_
   simp (maxSteps:=2000000) only [s93,↓Za,↓Zk,↓Zr,↓Ze,↓Zm,↓Zs,↓Zf,↓Zh,↓Zg,↓Zc,↓Zb,↓vdn,vup,Zn,Zl,Zo,Zi,Zj,List.map_cons,List.map_nil,cond_true,cond_false,aop,Zv,Zq,Zp,ev,sput,Zt,Zy,Ya,unK,Zd,Zw,Nat.reduceBEq,Nat.reduceAdd,Int.reduceBEq,Int.reduceBNe,Int.reduceLT,Zu,Zz,tup,tyf,hin]
   refine hN17 [(0,v),(1,rV a b),(3,pt b3),(4,Zx y),(5,.bool false),(10,v),(11,Zx t.length),(12,Zx t.length),(13,.bool false)] _ _ ?_ (by simp (maxSteps:=2000000) only [↓Za,↓Zk,↓Zr,↓Ze,↓Zm,↓Zs,↓Zf,↓Zh,↓Zg,↓Zc,↓Zb,↓vdn,vup,Zn,Zl,Zo,Zi,Zj,List.map_cons,List.map_nil,cond_true,cond_false,aop,Zv,Zq,Zp,ev,sput,Zt,Zy,Ya,unK,Zd,Zw,Nat.reduceBEq,Nat.reduceAdd,Int.reduceBEq,Int.reduceBNe,Int.reduceLT,Zu,Zz,tup,tyf])
   clear hN17
   try clear N17
   refine Yb fun N18 hN18=>?_
   simp (maxSteps:=2000000) only [s93,↓Za,↓Zk,↓Zr,↓Ze,↓Zm,↓Zs,↓Zf,↓Zh,↓Zg,↓Zc,↓Zb,↓vdn,vup,Zn,Zl,Zo,Zi,Zj,List.map_cons,List.map_nil,cond_true,cond_false,aop,Zv,Zq,Zp,ev,sput,Zt,Zy,Ya,unK,Zd,Zw,Nat.reduceBEq,Nat.reduceAdd,Int.reduceBEq,Int.reduceBNe,Int.reduceLT,Zu,Zz,tup,tyf]
   refine hQ2 _ _ _ (hQ _ _ _ ?_)
   simp (maxSteps:=2000000) only [s93,↓Za,↓Zk,↓Zr,↓Ze,↓Zm,↓Zs,↓Zf,↓Zh,↓Zg,↓Zc,↓Zb,↓vdn,vup,Zn,Zl,Zo,Zi,Zj,List.map_cons,List.map_nil,cond_true,cond_false,aop,Zv,Zq,Zp,ev,sput,Zt,Zy,Ya,unK,Zd,Zw,Nat.reduceBEq,Nat.reduceAdd,Int.reduceBEq,Int.reduceBNe,Int.reduceLT,Zu,Zz,tup,tyf,if_true]
   refine hM [(0,v),(1,rV a b),(3,pt b3),(4,Zx y),(5,.bool false),(13,.bool false)] _ _ ?_ (by simp (maxSteps:=2000000) only [↓Za,↓Zk,↓Zr,↓Ze,↓Zm,↓Zs,↓Zf,↓Zh,↓Zg,↓Zc,↓Zb,↓vdn,vup,Zn,Zl,Zo,Zi,Zj,List.map_cons,List.map_nil,cond_true,cond_false,aop,Zv,Zq,Zp,ev,sput,Zt,Zy,Ya,unK,Zd,Zw,Nat.reduceBEq,Nat.reduceAdd,Int.reduceBEq,Int.reduceBNe,Int.reduceLT,Zu,Zz,tup,tyf])
   clear hM
   try clear M
   refine Yd ?_
   simp (maxSteps:=2000000) only [s93,↓Za,↓Zk,↓Zr,↓Ze,↓Zm,↓Zs,↓Zf,↓Zh,↓Zg,↓Zc,↓Zb,↓vdn,vup,Zn,Zl,Zo,Zi,Zj,List.map_cons,List.map_nil,cond_true,cond_false,aop,Zv,Zq,Zp,ev,sput,Zt,Zy,Ya,unK,Zd,Zw,Nat.reduceBEq,Nat.reduceAdd,Int.reduceBEq,Int.reduceBNe,Int.reduceLT,Zu,Zz,tup,tyf]
   exact ⟨⟨y,true,rfl,fun _=>ci.clr,nofun⟩,hE0.trans hE⟩
end Go.Proofs.Tryd.Am.Tf
namespace Go.Proofs.Tryd.Am.Tf
open Go.Proofs.Tryd.Am
open Go.Am
set_option maxRecDepth 100000
set_option maxHeartbeats 4000000
def updB {α:Type} (now best:List α):List α:=if best.length<now.length then now else best
def gl {α:Type} (ok:α→α→Bool):List α→List α→List α→List α
 | [],_,b=>b
 | x::tl,now,b=>gl ok tl now (if (now.any fun p=>!ok p x)=true then b else gl ok tl (now++[x]) (updB (now++[x]) b))
theorem OwnP_one {e:TypeId} {h:Yc} {v:Value} {ps:List (Int×Int)} (ho:OwnP e h v ps):one v=true:=by
 rcases ho with ⟨rfl,_⟩ | ⟨b,ys,rfl,_⟩ <;> rfl
theorem Wd {e:TypeId} {h:Yc} {v:Value} {ps:List (Int×Int)} {b:Nat} {c:List Value} {ty:TypeId} {ro:Bool} (ho:OwnP e h v ps) (hb:h[b]? = some (.cells c ty ro)):Yk v≠some b:=by
 rcases ho with ⟨rfl,_⟩ | ⟨b',ys,rfl,hb'⟩
 · intro h1; cases h1
 · intro h1
   obtain rfl:b' = b:=by simpa [Yk] using h1
   rw [hb] at hb'; cases hb'
def gfV (n b3 b6 b7:Nat):Value:=.func (.func 39) #[] #[pt (n+1),pt n,pt b7,pt b6,pt b3,pt (n+2)]
structure FH (H:Yc) (x:Int) (t:List (List Int)) (v av:Value) (al:List (Int×Int)) (b3 b6 b7:Nat):Prop where
 tab:TabS H v t
 ok:Tab t
 all:PairSl H av al
 c3:H[b3]? = some (.cells [Zx x] 3 false)
 c6:H[b6]? = some (.cells [v] 70 false)
 c7:H[b7]? = some (.cells [av] 26 false)
 inT : ∀ p∈al,InT t p
 len:al.length≤16
structure FS (H:Yc) (n b3 b6 b7:Nat) (al now best:List (Int×Int)) (nv bv:Value) (z:Yc):Prop where
 ext:Ext (fun _=>False) H z
 ge:H.length≤n
 c8:z[n]? = some (.cells [bv] 26 false)
 c9:z[n+1]? = some (.cells [nv] 26 false)
 c10:z[n+2]? = some (.cells [gfV n b3 b6 b7] 72 false)
 oN:OwnP 28 z nv now
 new : ∀ b,Yk nv=some b→H.length≤b
 oB:OwnP 28 z bv best
 dis : ∀ b,Yk nv=some b→Yk bv≠some b
 sub : ∀ p∈now,p∈al
section
variable {H:Yc} {n b3 b6 b7:Nat} {al now best now' : List (Int×Int)} {nv bv w r:Value} {z z1:Yc}
theorem FS.more (s:FS H n b3 b6 b7 al now best nv bv z) (hE:Ext (fun _=>False) z z1):FS H n b3 b6 b7 al now best nv bv z1 :=
 ⟨s.ext.trans hE,s.ge,(hE.2 _ (Yp s.c8) id).trans s.c8,(hE.2 _ (Yp s.c9) id).trans s.c9,(hE.2 _ (Yp s.c10) id).trans s.c10,s.oN.ext hE,s.new,s.oB.ext hE,s.dis,s.sub⟩
theorem FS.put9 (s:FS H n b3 b6 b7 al now best nv bv z) (hE:Ext (fun b=>Yk nv=some b) z z1) (ho:OwnP 28 z1 w now') (hn : ∀ b,Yk w=some b→Yk nv=some b∨z.length≤b) (hs : ∀ p∈now',p∈al) :
  FS H n b3 b6 b7 al now' best w bv (z1.set (n+1) (.cells [w] 26 false)):=by
 have e8:=(hE.2 _ (Yp s.c8) (Wd s.oN s.c8)).trans s.c8
 have e9:=(hE.2 _ (Yp s.c9) (Wd s.oN s.c9)).trans s.c9
 have e10:=(hE.2 _ (Yp s.c10) (Wd s.oN s.c10)).trans s.c10
 have old : ∀ {b:Nat},b≠n+1→(z1.set (n+1) (Blk.cells [w] 26 false))[b]? = z1[b]?:=fun h=>List.getElem?_set_ne (Ne.symm h)
 have hge:=s.ge
 have eb:OwnP 28 z1 bv best:=s.oB.same fun b hb=>hE.2 b (s.oB.lt hb) fun hc=>s.dis b hc hb
 refine ⟨⟨by rw [List.length_set]; exact Nat.le_trans s.ext.1 hE.1,fun q hq _=>?_⟩,s.ge,by rw [old (by omega)]; exact e8,Xy (Yp e9) _,by rw [old (by omega)]; exact e10,ho.same fun b hb=>old fun hc=>Wd ho e9 (hc▸hb),fun b hb=>?_,eb.same fun b hb=>old fun hc=>Wd eb e9 (hc▸hb),fun b hb=>?_,hs⟩
 · rw [old (by omega),hE.2 q (Nat.lt_of_lt_of_le hq s.ext.1) (fun hc=>by have:=s.new q hc; omega)]
   exact s.ext.2 q hq id
 · rcases hn b hb with h1 | h1
   · exact s.new b h1
   · exact Nat.le_trans s.ext.1 h1
 · rcases hn b hb with h1 | h1
   · exact s.dis b h1
   · intro hc; have:=s.oB.lt hc; omega
theorem FS.put8 (s:FS H n b3 b6 b7 al now best nv bv z) (hE:Ext (fun _=>False) z z1) (ho:OwnP 28 z1 r now') (hn : ∀ b,Yk r=some b→z.length≤b) :
  FS H n b3 b6 b7 al now now' nv r (z1.set n (.cells [r] 26 false)):=by
 have s1:=s.more hE
 have old : ∀ {b:Nat},b≠n→(z1.set n (Blk.cells [r] 26 false))[b]? = z1[b]?:=fun h=>List.getElem?_set_ne (Ne.symm h)
 have hge:=s.ge
 refine ⟨⟨by rw [List.length_set]; exact s1.ext.1,fun q hq _=>?_⟩,s.ge,Xy (Yp s1.c8) _,by rw [old (by omega)]; exact s1.c9,by rw [old (by omega)]; exact s1.c10,s1.oN.same fun b hb=>old fun hc=>Wd s1.oN s1.c8 (hc▸hb),s.new,ho.same fun b hb=>old fun hc=>Wd ho s1.c8 (hc▸hb),fun b hb hc=>?_,s.sub⟩
 · rw [old (by omega)]
   exact s1.ext.2 q hq id
 · have:=hn b hc
   have:=s.oN.lt hb
   omega
end
def KF (n:Nat) (nv:Value) (b:Nat):Prop:=b=n∨b=n+1∨Yk nv=some b
def FPost (H:Yc) (n b3 b6 b7:Nat) (al:List (Int×Int)) (t:List (List Int)) (x:Int) (j:Nat) (now best:List (Int×Int)) (nv:Value) (z z' : Yc):Prop :=
 ∃ nv' bv',FS H n b3 b6 b7 al now (gl (Wy t x) (al.drop j) now best) nv' bv' z'∧Ext (KF n nv) z z'∧∀ b,Yk nv' = some b→Yk nv=some b∨z.length≤b
def GrowOK [Tabs prog] (H:Yc) (n b3 b6 b7:Nat) (al:List (Int×Int)) (t:List (List Int)) (x:Int) (j:Nat):Prop :=
 ∀ now best nv bv z,FS H n b3 b6 b7 al now best nv bv z→now.length≤j→ACall prog 39 [Zx (j:Nat),pt (n+1),pt n,pt b7,pt b6,pt b3,pt (n+2)] z fun _ z'=>FPost H n b3 b6 b7 al t x j now (updB now best) nv z z'
theorem setLast {h:Yc} {k:Int} {K:Yc→Prop}:Xu prog (h++[Blk.cells [.int .i64 0] 3 false]) 3 (.pointer (some ⟨h.length,0,none⟩)) (Zx k) K=K (h++[Blk.cells [Zx k] 3 false]):=by
 rw [store1 (Yj _ _) Yw rfl]; simp
theorem take_step [Tabs prog] {H z:Yc} {n b3 b6 b7 i bi:Nat} {x:Int} {t:List (List Int)} {v av nv bv:Value} {al now best:List (Int×Int)} (hH:FH H x t v av al b3 b6 b7) (ih:GrowOK H n b3 b6 b7 al t x (i+1)) (s:FS H n b3 b6 b7 al now best nv bv z) (hni:now.length≤i) (hi:i<al.length)
  (ci:z[bi]? = some (.cells [Zx (i:Nat)] 3 false)) (hbi:bi≠n∧bi≠n+1) {Q:Exit→Env→Yc→Prop} {j0:Int}
  (hN : ∀ e z' nv' bv',FS H n b3 b6 b7 al now (gl (Wy t x) (al.drop (i+1)) (now++[al.getD i (0,0)]) (updB (now++[al.getD i (0,0)]) best)) nv' bv' z'→Ext (KF n nv) z z'→(∀ b,Yk nv' = some b→Yk nv=some b∨z.length≤b)→z'[bi]? = some (.cells [Zx (i:Nat)] 3 false)→ELe e [(0,Zx j0),(1,pt (n+1)),(2,pt n),(3,pt b7),(4,pt b6),(5,pt b3),(6,pt (n+2)),(8,pt bi)]→Q .normal e z') :
  AWS prog 44 (.seq q39_6 (.seq q39_7 q39_8)) Q [(0,Zx j0),(1,pt (n+1)),(2,pt n),(3,pt b7),(4,pt b6),(5,pt b3),(6,pt (n+2)),(8,pt bi)] z:=by
 have hl16:=hH.len
 have e7:=(s.ext.2 _ (Yp hH.c7) id).trans hH.c7
 have ha:=hH.all.ext s.ext
 have hq:al.getD i (0,0)∈al:=by rw [List.getD,List.getElem?_eq_getElem hi]; exact List.getElem_mem hi
 generalize hqe:al.getD i (0,0)=q at hN hq
 refine Yb fun N1 hN1=>?_
 simp only [q39_6]
 refine aw_drawR (fun z=>z[n+1]? = some (.cells [nv] 26 false)) [(0,5),(6,6)] (by kernel_rfl) (by kernel_rfl) (by kernel_rfl) (by kernel_rfl) s.c9 ?_
 simp (maxSteps:=2000000) only [s39,↓Za,↓Zk,↓Zr,↓Ze,↓Zm,↓Zs,↓Zf,↓Zh,↓Zg,↓Zc,↓Zb,↓vdn,vup,Zn,Zl,Zo,Zi,Zj,List.map_cons,List.map_nil,cond_true,cond_false,aop,Zv,Zq,Zp,ev,sput,Zt,Zy,Ya,unK,Zd,Zw,Nat.reduceBEq,Nat.reduceAdd,Int.reduceBEq,Int.reduceBNe,Int.reduceLT,Zu,Zz,tup,tyf,Nat.reduceLT,Bool.false_or,Bool.true_or]
 refine ⟨nv,fun hp hhp=>by simp only [Xa hhp Vj],?_⟩
 simp (maxSteps:=2000000) only [s39,↓Za,↓Zk,↓Zr,↓Ze,↓Zm,↓Zs,↓Zf,↓Zh,↓Zg,↓Zc,↓Zb,↓vdn,vup,Zn,Zl,Zo,Zi,Zj,List.map_cons,List.map_nil,cond_true,cond_false,aop,Zv,Zq,Zp,ev,sput,Zt,Zy,Ya,unK,Zd,Zw,Nat.reduceBEq,Nat.reduceAdd,Int.reduceBEq,Int.reduceBNe,Int.reduceLT,Zu,Zz,tup,tyf,Nat.reduceLT,Bool.false_or,Bool.true_or,Xa e7 Vj,Xa ci Yw,ha.idx el_26 Vk hi,ha.load shp_28 hi,hqe,litP]
 refine ⟨Xi s.c9 _,?_⟩
 refine (s.oN.ext (Ext.app _ _ _)).append app_26_26 (by omega) (Yj _ _) ?_
 intro w z1 ho hE hb
 have hE1:Ext (fun b=>Yk nv=some b) z z1:=⟨by have:=hE.1; rw [List.length_append] at this; omega,fun b hb hf=>(hE.2 b (by rw [List.length_append]; omega) hf).trans (List.getElem?_append_left hb)⟩
 have hw : ∀ b,Yk w=some b→Yk nv=some b∨z.length≤b:=fun b hb1=>by
  rcases hb with h1 | ⟨b',h1,h2⟩
  · exact .inl (h1▸hb1)
  · rw [h1] at hb1; cases hb1
    rw [List.length_append] at h2; exact .inr (by omega)
 have e9:=(hE1.2 _ (Yp s.c9) (Wd s.oN s.c9)).trans s.c9
 have ci1:=(hE1.2 _ (Yp ci) (Wd s.oN ci)).trans ci
 simp (maxSteps:=2000000) only [s39,↓Za,↓Zk,↓Zr,↓Ze,↓Zm,↓Zs,↓Zf,↓Zh,↓Zg,↓Zc,↓Zb,↓vdn,vup,Zn,Zl,Zo,Zi,Zj,List.map_cons,List.map_nil,cond_true,cond_false,aop,Zv,Zq,Zp,ev,sput,Zt,Zy,Ya,unK,Zd,Zw,Nat.reduceBEq,Nat.reduceAdd,Int.reduceBEq,Int.reduceBNe,Int.reduceLT,Zu,Zz,tup,tyf,Nat.reduceLT,Bool.false_or,Bool.true_or,store1 e9 Vj (OwnP_one ho)]
 have s1:=s.put9 hE1 ho hw (fun p hp=>by
  rcases List.mem_append.1 hp with h1 | h1
  · exact s.sub p h1
  · rw [List.mem_singleton] at h1; exact h1▸hq)
 have ci2:(z1.set (n+1) (Blk.cells [w] 26 false))[bi]? = some (.cells [Zx (i:Nat)] 3 false):=by rw [List.getElem?_set_ne (Ne.symm hbi.2)]; exact ci1
 have hE2:Ext (KF n nv) z (z1.set (n+1) (Blk.cells [w] 26 false)):=⟨by rw [List.length_set]; exact hE1.1,fun b hb hf=>by
  rw [List.getElem?_set_ne fun hc=>hf (.inr (.inl hc.symm))]
  exact hE1.2 b hb fun hc=>hf (.inr (.inr hc))⟩
 generalize z1.set (n+1) (Blk.cells [w] 26 false)=z2 at s1 ci2 hE2 ⊢
 refine hN1 [(0,Zx j0),(1,pt (n+1)),(2,pt n),(3,pt b7),(4,pt b6),(5,pt b3),(6,pt (n+2)),(8,pt bi)] _ _ ?_ (by simp (maxSteps:=2000000) only [↓Za,↓Zk,↓Zr,↓Ze,↓Zm,↓Zs,↓Zf,↓Zh,↓Zg,↓Zc,↓Zb,↓vdn,vup,Zn,Zl,Zo,Zi,Zj,List.map_cons,List.map_nil,cond_true,cond_false,aop,Zv,Zq,Zp,ev,sput,Zt,Zy,Ya,unK,Zd,Zw,Nat.reduceBEq,Nat.reduceAdd,Int.reduceBEq,Int.reduceBNe,Int.reduceLT,Zu,Zz,tup,tyf])
 clear hN1
 try clear N1
 refine Yb fun N2 hN2=>?_
 simp (maxSteps:=2000000) only [s39,↓Za,↓Zk,↓Zr,↓Ze,↓Zm,↓Zs,↓Zf,↓Zh,↓Zg,↓Zc,↓Zb,↓vdn,vup,Zn,Zl,Zo,Zi,Zj,List.map_cons,List.map_nil,cond_true,cond_false,aop,Zv,Zq,Zp,ev,sput,Zt,Zy,Ya,unK,Zd,Zw,Nat.reduceBEq,Nat.reduceAdd,Int.reduceBEq,Int.reduceBNe,Int.reduceLT,Zu,Zz,tup,tyf,Yz,List.nil_append,List.append_nil,List.toList_toArray,List.cons_append,Xa s1.c10 shp_72,gfV,Xa ci2 Yw,Vd (show i<9223372036854775807 by omega)]
 refine (ih _ _ _ _ _ s1 (by rw [List.length_append,List.length_singleton]; omega)).mono ?_
 rintro _ z3 ⟨nv3,bv3,s3,hE3,hb3⟩
 refine hN2 [(0,Zx j0),(1,pt (n+1)),(2,pt n),(3,pt b7),(4,pt b6),(5,pt b3),(6,pt (n+2)),(8,pt bi)] _ _ ?_ (by simp (maxSteps:=2000000) only [↓Za,↓Zk,↓Zr,↓Ze,↓Zm,↓Zs,↓Zf,↓Zh,↓Zg,↓Zc,↓Zb,↓vdn,vup,Zn,Zl,Zo,Zi,Zj,List.map_cons,List.map_nil,cond_true,cond_false,aop,Zv,Zq,Zp,ev,sput,Zt,Zy,Ya,unK,Zd,Zw,Nat.reduceBEq,Nat.reduceAdd,Int.reduceBEq,Int.reduceBNe,Int.reduceLT,Zu,Zz,tup,tyf])
 clear hN2
 try clear N2
 have ci3:=(hE3.2 _ (Yp ci2) (fun hc=>by
  rcases hc with h1 | h1 | h1
  · exact hbi.1 h1
  · exact hbi.2 h1
  · exact Wd s1.oN ci2 h1)).trans ci2
 have hE4:Ext (KF n nv) z z3:=⟨Nat.le_trans hE2.1 hE3.1,fun b hb hf=>by
  rw [hE3.2 b (Nat.lt_of_lt_of_le hb hE2.1) fun hc=>?_]
  · exact hE2.2 b hb hf
  · rcases hc with h1 | h1 | h1
    · exact hf (.inl h1)
    · exact hf (.inr (.inl h1))
    · rcases hw b h1 with h2 | h2
      · exact hf (.inr (.inr h2))
      · omega⟩
 have hb4 : ∀ b,Yk nv3=some b→Yk nv=some b∨z.length≤b:=fun b hb=>by
  rcases hb3 b hb with h1 | h1
  · exact hw b h1
  · exact .inr (Nat.le_trans hE2.1 h1)
 have hsub:subV .i64 ((now.length:Int)+1) 1=(now.length:Int):=by rw [subV_id (by omega) (by omega)]; omega
 have hl1:((now++[q]).length:Int)=(now.length:Int)+1:=by rw [List.length_append,List.length_singleton]; omega
 refine Yd ?_
 simp (maxSteps:=2000000) only [s39,↓Za,↓Zk,↓Zr,↓Ze,↓Zm,↓Zs,↓Zf,↓Zh,↓Zg,↓Zc,↓Zb,↓vdn,vup,Zn,Zl,Zo,Zi,Zj,List.map_cons,List.map_nil,cond_true,cond_false,aop,Zv,Zq,Zp,ev,sput,Zt,Zy,Ya,unK,Zd,Zw,Nat.reduceBEq,Nat.reduceAdd,Int.reduceBEq,Int.reduceBNe,Int.reduceLT,Zu,Zz,tup,tyf,Xa s3.c9 Vj,s3.oN.pair.len,hl1,hsub,Option.map_none,Option.map_some]
 refine OwnP_cut s3.oN el_26 Vk ?_
 intro w4 ho4 hb5
 simp (maxSteps:=2000000) only [s39,↓Za,↓Zk,↓Zr,↓Ze,↓Zm,↓Zs,↓Zf,↓Zh,↓Zg,↓Zc,↓Zb,↓vdn,vup,Zn,Zl,Zo,Zi,Zj,List.map_cons,List.map_nil,cond_true,cond_false,aop,Zv,Zq,Zp,ev,sput,Zt,Zy,Ya,unK,Zd,Zw,Nat.reduceBEq,Nat.reduceAdd,Int.reduceBEq,Int.reduceBNe,Int.reduceLT,Zu,Zz,tup,tyf,store1 s3.c9 Vj (OwnP_one ho4)]
 have s4:=s3.put9 (Ext.refl _ _) ho4 (fun b hb=>.inl (hb5▸hb)) s.sub
 refine hN _ _ _ _ s4 ⟨by rw [List.length_set]; exact hE4.1,fun b hb hf=>?_⟩ (fun b hb=>hb4 b (hb5▸hb)) ?_ (by simp (maxSteps:=2000000) only [↓Za,↓Zk,↓Zr,↓Ze,↓Zm,↓Zs,↓Zf,↓Zh,↓Zg,↓Zc,↓Zb,↓vdn,vup,Zn,Zl,Zo,Zi,Zj,List.map_cons,List.map_nil,cond_true,cond_false,aop,Zv,Zq,Zp,ev,sput,Zt,Zy,Ya,unK,Zd,Zw,Nat.reduceBEq,Nat.reduceAdd,Int.reduceBEq,Int.reduceBNe,Int.reduceLT,Zu,Zz,tup,tyf])
 · rw [List.getElem?_set_ne fun hc=>hf (.inr (.inl hc.symm))]
   exact hE4.2 b hb hf
 · rw [List.getElem?_set_ne (Ne.symm hbi.2)]; exact ci3
end Go.Proofs.Tryd.Am.Tf
namespace Go.Proofs.Tryd.Am.Tf
open Go.Proofs.Tryd.Am
open Go.Am
set_option maxRecDepth 100000
set_option maxHeartbeats 4000000
theorem KF.trans {n:Nat} {nv nv' : Value} {z z1 z2:Yc} (h1:Ext (KF n nv) z z1) (h2:Ext (KF n nv') z1 z2) (hb : ∀ b,Yk nv' = some b→Yk nv=some b∨z.length≤b):Ext (KF n nv) z z2 :=
 ⟨Nat.le_trans h1.1 h2.1,fun b hlt hf=>by
  rw [h2.2 b (Nat.lt_of_lt_of_le hlt h1.1) fun hc=>?_]
  · exact h1.2 b hlt hf
  · rcases hc with e | e | e
    · exact hf (.inl e)
    · exact hf (.inr (.inl e))
    · rcases hb b e with h | h
      · exact hf (.inr (.inr h))
      · omega⟩
theorem drop_get {al:List (Int×Int)} {i:Nat} (hi:i<al.length):al.drop i=al.getD i (0,0)::al.drop (i+1):=by
 rw [List.getD,List.getElem?_eq_getElem hi]; exact List.drop_eq_getElem_cons hi
theorem bump {h:Yc} {i:Nat} {K:Yc→Prop}:Xu prog (h++[Blk.cells [Zx (i:Nat)] 3 false]) 3 (.pointer (some ⟨h.length,0,none⟩)) (Zx ((i+1:Nat):Int)) K=K (h++[Blk.cells [Zx ((i+1:Nat):Int)] 3 false]):=by
 rw [store1 (Yj _ _) Yw rfl]; simp
theorem rounds [Tabs prog] {H z:Yc} {n b3 b6 b7 j:Nat} {x:Int} {t:List (List Int)} {v av nv bv:Value} {al now best:List (Int×Int)} (hH:FH H x t v av al b3 b6 b7) (ih : ∀ i,j<i→i≤al.length→GrowOK H n b3 b6 b7 al t x i) (s:FS H n b3 b6 b7 al now best nv bv z) (hnj:now.length≤j) (hj:j≤al.length)
  {Q:Value→Yc→Prop} (hQ : ∀ r z',FPost H n b3 b6 b7 al t x j now best nv z z'→Q r z') :
  AWS prog 44 (.seq q39_2 (.block 0 (.loop l39_0))) (Zu prog [] Q) [(0,Zx (j:Nat)),(1,pt (n+1)),(2,pt n),(3,pt b7),(4,pt b6),(5,pt b3),(6,pt (n+2))] z:=by
 have hl16:=hH.len
 have hn2:=Yp s.c10
 refine Yb fun N1 hN1=>?_
 simp (maxSteps:=2000000) only [s39,↓Za,↓Zk,↓Zr,↓Ze,↓Zm,↓Zs,↓Zf,↓Zh,↓Zg,↓Zc,↓Zb,↓vdn,vup,Zn,Zl,Zo,Zi,Zj,List.map_cons,List.map_nil,cond_true,cond_false,aop,Zv,Zq,Zp,ev,sput,Zt,Zy,Ya,unK,Zd,Zw,Nat.reduceBEq,Nat.reduceAdd,Int.reduceBEq,Int.reduceBNe,Int.reduceLT,Zu,Zz,tup,tyf,Xx,Xd,zero_3,setLast]
 have hEz:Ext (fun _=>False) z (z++[Blk.cells [Zx (j:Nat)] 3 false]):=Ext.app _ _ _
 have s1:=s.more hEz
 have ci0:=Yj z (Blk.cells [Zx (j:Nat)] 3 false)
 generalize z++[Blk.cells [Zx (j:Nat)] 3 false]=z1 at hEz s1 ci0 ⊢
 refine hN1 [(0,Zx (j:Nat)),(1,pt (n+1)),(2,pt n),(3,pt b7),(4,pt b6),(5,pt b3),(6,pt (n+2)),(8,pt z.length)] _ _ ?_ (by simp (maxSteps:=2000000) only [↓Za,↓Zk,↓Zr,↓Ze,↓Zm,↓Zs,↓Zf,↓Zh,↓Zg,↓Zc,↓Zb,↓vdn,vup,Zn,Zl,Zo,Zi,Zj,List.map_cons,List.map_nil,cond_true,cond_false,aop,Zv,Zq,Zp,ev,sput,Zt,Zy,Ya,unK,Zd,Zw,Nat.reduceBEq,Nat.reduceAdd,Int.reduceBEq,Int.reduceBNe,Int.reduceLT,Zu,Zz,tup,tyf])
 clear hN1
 try clear N1
 refine Yh ?_
 refine Yf fun Q1 hQ1=>?_
 refine Xh (γ:=Nat×Nat×Value×Value×List (Int×Int)×Yc)
  (fun s=>j≤s.1∧s.1≤al.length∧z.length≤s.2.1∧FS H n b3 b6 b7 al now s.2.2.2.2.1 s.2.2.1 s.2.2.2.1 s.2.2.2.2.2∧s.2.2.2.2.2[s.2.1]? = some (.cells [Zx (s.1:Nat)] 3 false)∧Ext (KF n nv) z s.2.2.2.2.2∧(∀ b,Yk s.2.2.1=some b→Yk nv=some b∨z.length≤b)∧gl (Wy t x) (al.drop s.1) now s.2.2.2.2.1=gl (Wy t x) (al.drop j) now best)
  (fun s=>([(0,Zx (j:Nat)),(1,pt (n+1)),(2,pt n),(3,pt b7),(4,pt b6),(5,pt b3),(6,pt (n+2)),(8,pt s.2.1)],s.2.2.2.2.2)) (fun s=>al.length-s.1) (j,z.length,nv,bv,best,z1) ⟨Nat.le_refl _,hj,Nat.le_refl _,s1,ci0,hEz.mono fun _ h=>h.elim,fun b hb=>.inl hb,rfl⟩ (by simp (maxSteps:=2000000) only [↓Za,↓Zk,↓Zr,↓Ze,↓Zm,↓Zs,↓Zf,↓Zh,↓Zg,↓Zc,↓Zb,↓vdn,vup,Zn,Zl,Zo,Zi,Zj,List.map_cons,List.map_nil,cond_true,cond_false,aop,Zv,Zq,Zp,ev,sput,Zt,Zy,Ya,unK,Zd,Zw,Nat.reduceBEq,Nat.reduceAdd,Int.reduceBEq,Int.reduceBNe,Int.reduceLT,Zu,Zz,tup,tyf]) rfl ?_
 rintro ⟨i,bi,nv,bv,best,z⟩ ⟨hji,hi,hbi,s,ci,hE,hb,hg⟩
 simp only at hji hi hbi s ci hE hb hg
 refine Yf fun Q2 hQ2=>?_
 simp only [l39_0]
 have e7:=(s.ext.2 _ (Yp hH.c7) id).trans hH.c7
 have hall:=hH.all.ext s.ext
 refine Ye fun A hA=>?_
 by_cases hin:(i:Int)<al.length
 · have hi' : i<al.length:=by omega
   refine Yb fun N2 hN2=>?_
   simp (maxSteps:=2000000) only [s39,↓Za,↓Zk,↓Zr,↓Ze,↓Zm,↓Zs,↓Zf,↓Zh,↓Zg,↓Zc,↓Zb,↓vdn,vup,Zn,Zl,Zo,Zi,Zj,List.map_cons,List.map_nil,cond_true,cond_false,aop,Zv,Zq,Zp,ev,sput,Zt,Zy,Ya,unK,Zd,Zw,Nat.reduceBEq,Nat.reduceAdd,Int.reduceBEq,Int.reduceBNe,Int.reduceLT,Zu,Zz,tup,tyf,Xa ci Yw,Xa e7 Vj,hall.len,hin]
   refine hN2 [(0,Zx (j:Nat)),(1,pt (n+1)),(2,pt n),(3,pt b7),(4,pt b6),(5,pt b3),(6,pt (n+2)),(8,pt bi),(20,.bool true)] _ _ ?_ (by simp (maxSteps:=2000000) only [↓Za,↓Zk,↓Zr,↓Ze,↓Zm,↓Zs,↓Zf,↓Zh,↓Zg,↓Zc,↓Zb,↓vdn,vup,Zn,Zl,Zo,Zi,Zj,List.map_cons,List.map_nil,cond_true,cond_false,aop,Zv,Zq,Zp,ev,sput,Zt,Zy,Ya,unK,Zd,Zw,Nat.reduceBEq,Nat.reduceAdd,Int.reduceBEq,Int.reduceBNe,Int.reduceLT,Zu,Zz,tup,tyf])
   clear hN2
   try clear N2
   refine Xe rfl ?_
   refine Yd ?_
   simp (maxSteps:=2000000) only [s39,↓Za,↓Zk,↓Zr,↓Ze,↓Zm,↓Zs,↓Zf,↓Zh,↓Zg,↓Zc,↓Zb,↓vdn,vup,Zn,Zl,Zo,Zi,Zj,List.map_cons,List.map_nil,cond_true,cond_false,aop,Zv,Zq,Zp,ev,sput,Zt,Zy,Ya,unK,Zd,Zw,Nat.reduceBEq,Nat.reduceAdd,Int.reduceBEq,Int.reduceBNe,Int.reduceLT,Zu,Zz,tup,tyf]
   refine hA [(0,Zx (j:Nat)),(1,pt (n+1)),(2,pt n),(3,pt b7),(4,pt b6),(5,pt b3),(6,pt (n+2)),(8,pt bi)] _ _ ?_ (by simp (maxSteps:=2000000) only [↓Za,↓Zk,↓Zr,↓Ze,↓Zm,↓Zs,↓Zf,↓Zh,↓Zg,↓Zc,↓Zb,↓vdn,vup,Zn,Zl,Zo,Zi,Zj,List.map_cons,List.map_nil,cond_true,cond_false,aop,Zv,Zq,Zp,ev,sput,Zt,Zy,Ya,unK,Zd,Zw,Nat.reduceBEq,Nat.reduceAdd,Int.reduceBEq,Int.reduceBNe,Int.reduceLT,Zu,Zz,tup,tyf])
   clear hA
   try clear A
   have e6:=(s.ext.2 _ (Yp hH.c6) id).trans hH.c6
   have e3:=(s.ext.2 _ (Yp hH.c3) id).trans hH.c3
   have hdrop:=drop_get hi'
   rw [hdrop,gl] at hg
   have hc:=containsP_call (h:=z) (v:=nv) (ps:=now) (fn:=42) (cap:=#[pt b6,pt b3,pt b7,pt bi]) (by omega) (fun p=>!Wy t x p (al.getD i (0,0))) (fun hp=>Ext (fun _=>False) z hp) (fun hp hE=>s.oN.pair.ext hE)
    (fun p hp zq hEq=>(lit_call ((hH.tab.ext s.ext).ext hEq) hH.ok (hall.ext hEq) hi' hH.inT ((hEq.2 _ (Yp e3) id).trans e3) ((hEq.2 _ (Yp e6) id).trans e6) ((hEq.2 _ (Yp e7) id).trans e7) ((hEq.2 _ (Yp ci) id).trans ci) (s.sub p hp)).mono fun r h2 hh=>⟨hh.1,hEq.trans hh.2⟩) (Ext.refl _ _)
   refine Ye fun B hB=>?_
   refine Yh ?_
   refine Yb fun N3 hN3=>?_
   simp (maxSteps:=2000000) only [s39,↓Za,↓Zk,↓Zr,↓Ze,↓Zm,↓Zs,↓Zf,↓Zh,↓Zg,↓Zc,↓Zb,↓vdn,vup,Zn,Zl,Zo,Zi,Zj,List.map_cons,List.map_nil,cond_true,cond_false,aop,Zv,Zq,Zp,ev,sput,Zt,Zy,Ya,unK,Zd,Zw,Nat.reduceBEq,Nat.reduceAdd,Int.reduceBEq,Int.reduceBNe,Int.reduceLT,Zu,Zz,tup,tyf,Yz,List.nil_append,List.append_nil,List.toList_toArray,List.cons_append,Xa s.c9 Vj,List.map_toArray]
   refine (hc).mono ?_
   rintro _ z2 ⟨rfl,hE2⟩
   simp (maxSteps:=2000000) only [s39,↓Za,↓Zk,↓Zr,↓Ze,↓Zm,↓Zs,↓Zf,↓Zh,↓Zg,↓Zc,↓Zb,↓vdn,vup,Zn,Zl,Zo,Zi,Zj,List.map_cons,List.map_nil,cond_true,cond_false,aop,Zv,Zq,Zp,ev,sput,Zt,Zy,Ya,unK,Zd,Zw,Nat.reduceBEq,Nat.reduceAdd,Int.reduceBEq,Int.reduceBNe,Int.reduceLT,Zu,Zz,tup,tyf]
   refine hN3 [(0,Zx (j:Nat)),(1,pt (n+1)),(2,pt n),(3,pt b7),(4,pt b6),(5,pt b3),(6,pt (n+2)),(8,pt bi),(26,.bool (!now.any fun p=>!Wy t x p (al.getD i (0,0))))] _ _ ?_ (by simp (maxSteps:=2000000) only [↓Za,↓Zk,↓Zr,↓Ze,↓Zm,↓Zs,↓Zf,↓Zh,↓Zg,↓Zc,↓Zb,↓vdn,vup,Zn,Zl,Zo,Zi,Zj,List.map_cons,List.map_nil,cond_true,cond_false,aop,Zv,Zq,Zp,ev,sput,Zt,Zy,Ya,unK,Zd,Zw,Nat.reduceBEq,Nat.reduceAdd,Int.reduceBEq,Int.reduceBNe,Int.reduceLT,Zu,Zz,tup,tyf])
   clear hN3
   try clear N3
   have s2:=s.more hE2
   have ci2:=(hE2.2 _ (Yp ci) id).trans ci
   have hE2' : Ext (KF n nv) z z2:=hE2.mono fun _ h=>h.elim
   cases hany:(now.any fun p=>!Wy t x p (al.getD i (0,0))) with
   | true =>
     rw [if_pos hany] at hg
     refine Yq rfl ?_
     refine Yd ?_
     simp (maxSteps:=2000000) only [s39,↓Za,↓Zk,↓Zr,↓Ze,↓Zm,↓Zs,↓Zf,↓Zh,↓Zg,↓Zc,↓Zb,↓vdn,vup,Zn,Zl,Zo,Zi,Zj,List.map_cons,List.map_nil,cond_true,cond_false,aop,Zv,Zq,Zp,ev,sput,Zt,Zy,Ya,unK,Zd,Zw,Nat.reduceBEq,Nat.reduceAdd,Int.reduceBEq,Int.reduceBNe,Int.reduceLT,Zu,Zz,tup,tyf]
     refine hB [(0,Zx (j:Nat)),(1,pt (n+1)),(2,pt n),(3,pt b7),(4,pt b6),(5,pt b3),(6,pt (n+2)),(8,pt bi)] _ _ ?_ (by simp (maxSteps:=2000000) only [↓Za,↓Zk,↓Zr,↓Ze,↓Zm,↓Zs,↓Zf,↓Zh,↓Zg,↓Zc,↓Zb,↓vdn,vup,Zn,Zl,Zo,Zi,Zj,List.map_cons,List.map_nil,cond_true,cond_false,aop,Zv,Zq,Zp,ev,sput,Zt,Zy,Ya,unK,Zd,Zw,Nat.reduceBEq,Nat.reduceAdd,Int.reduceBEq,Int.reduceBNe,Int.reduceLT,Zu,Zz,tup,tyf])
     clear hB
     try clear B
     refine Ye fun C hC=>?_
     refine Yb fun N4 hN4=>?_
     simp (maxSteps:=2000000) only [s39,↓Za,↓Zk,↓Zr,↓Ze,↓Zm,↓Zs,↓Zf,↓Zh,↓Zg,↓Zc,↓Zb,↓vdn,vup,Zn,Zl,Zo,Zi,Zj,List.map_cons,List.map_nil,cond_true,cond_false,aop,Zv,Zq,Zp,ev,sput,Zt,Zy,Ya,unK,Zd,Zw,Nat.reduceBEq,Nat.reduceAdd,Int.reduceBEq,Int.reduceBNe,Int.reduceLT,Zu,Zz,tup,tyf,Xa ci2 Yw]
     refine hN4 [(0,Zx (j:Nat)),(1,pt (n+1)),(2,pt n),(3,pt b7),(4,pt b6),(5,pt b3),(6,pt (n+2)),(8,pt bi),(43,Zx (i:Nat))] _ _ ?_ (by simp (maxSteps:=2000000) only [↓Za,↓Zk,↓Zr,↓Ze,↓Zm,↓Zs,↓Zf,↓Zh,↓Zg,↓Zc,↓Zb,↓vdn,vup,Zn,Zl,Zo,Zi,Zj,List.map_cons,List.map_nil,cond_true,cond_false,aop,Zv,Zq,Zp,ev,sput,Zt,Zy,Ya,unK,Zd,Zw,Nat.reduceBEq,Nat.reduceAdd,Int.reduceBEq,Int.reduceBNe,Int.reduceLT,Zu,Zz,tup,tyf])
     clear hN4
     try clear N4
     refine Yd ?_
     simp (maxSteps:=2000000) only [s39,↓Za,↓Zk,↓Zr,↓Ze,↓Zm,↓Zs,↓Zf,↓Zh,↓Zg,↓Zc,↓Zb,↓vdn,vup,Zn,Zl,Zo,Zi,Zj,List.map_cons,List.map_nil,cond_true,cond_false,aop,Zv,Zq,Zp,ev,sput,Zt,Zy,Ya,unK,Zd,Zw,Nat.reduceBEq,Nat.reduceAdd,Int.reduceBEq,Int.reduceBNe,Int.reduceLT,Zu,Zz,tup,tyf,Xx,Xd,zero_3,setLast]
     refine hC [(0,Zx (j:Nat)),(1,pt (n+1)),(2,pt n),(3,pt b7),(4,pt b6),(5,pt b3),(6,pt (n+2)),(8,pt z2.length)] _ _ ?_ (by simp (maxSteps:=2000000) only [↓Za,↓Zk,↓Zr,↓Ze,↓Zm,↓Zs,↓Zf,↓Zh,↓Zg,↓Zc,↓Zb,↓vdn,vup,Zn,Zl,Zo,Zi,Zj,List.map_cons,List.map_nil,cond_true,cond_false,aop,Zv,Zq,Zp,ev,sput,Zt,Zy,Ya,unK,Zd,Zw,Nat.reduceBEq,Nat.reduceAdd,Int.reduceBEq,Int.reduceBNe,Int.reduceLT,Zu,Zz,tup,tyf])
     clear hC
     try clear C
     refine Yd ?_
     simp (maxSteps:=2000000) only [s39,↓Za,↓Zk,↓Zr,↓Ze,↓Zm,↓Zs,↓Zf,↓Zh,↓Zg,↓Zc,↓Zb,↓vdn,vup,Zn,Zl,Zo,Zi,Zj,List.map_cons,List.map_nil,cond_true,cond_false,aop,Zv,Zq,Zp,ev,sput,Zt,Zy,Ya,unK,Zd,Zw,Nat.reduceBEq,Nat.reduceAdd,Int.reduceBEq,Int.reduceBNe,Int.reduceLT,Zu,Zz,tup,tyf,Xa (Yj _ _) Yw,Vd (show i<9223372036854775807 by omega),bump]
     have hE3:Ext (fun _=>False) z2 (z2++[Blk.cells [Zx ((i+1:Nat):Int)] 3 false]):=Ext.app _ _ _
     exact hQ2 _ _ _ ⟨(i+1,z2.length,nv,bv,best,_),⟨by omega,hi',Nat.le_trans hE.1 hE2.1,s2.more hE3,Yj _ _,KF.trans hE (hE2'.trans (hE3.mono fun _ h=>h.elim)) hb,hb,hg⟩,by simp only; omega,by simp (maxSteps:=2000000) only [↓Za,↓Zk,↓Zr,↓Ze,↓Zm,↓Zs,↓Zf,↓Zh,↓Zg,↓Zc,↓Zb,↓vdn,vup,Zn,Zl,Zo,Zi,Zj,List.map_cons,List.map_nil,cond_true,cond_false,aop,Zv,Zq,Zp,ev,sput,Zt,Zy,Ya,unK,Zd,Zw,Nat.reduceBEq,Nat.reduceAdd,Int.reduceBEq,Int.reduceBNe,Int.reduceLT,Zu,Zz,tup,tyf],rfl⟩
   | false =>
     rw [if_neg (by rw [hany]; decide)] at hg
     refine Xe rfl ?_
     have hbn:bi≠n∧bi≠n+1:=by omega
     refine aws_le (?_:AWS prog 44 _ _ [(0,Zx (j:Nat)),(1,pt (n+1)),(2,pt n),(3,pt b7),(4,pt b6),(5,pt b3),(6,pt (n+2)),(8,pt bi)] z2) (by simp (maxSteps:=2000000) only [↓Za,↓Zk,↓Zr,↓Ze,↓Zm,↓Zs,↓Zf,↓Zh,↓Zg,↓Zc,↓Zb,↓vdn,vup,Zn,Zl,Zo,Zi,Zj,List.map_cons,List.map_nil,cond_true,cond_false,aop,Zv,Zq,Zp,ev,sput,Zt,Zy,Ya,unK,Zd,Zw,Nat.reduceBEq,Nat.reduceAdd,Int.reduceBEq,Int.reduceBNe,Int.reduceLT,Zu,Zz,tup,tyf])
     refine take_step hH (ih (i+1) (by omega) hi') s2 (by omega) hi' ci2 hbn ?_
     intro e z3 nv3 bv3 s3 hE3 hb3 ci3 he
     refine hB [(0,Zx (j:Nat)),(1,pt (n+1)),(2,pt n),(3,pt b7),(4,pt b6),(5,pt b3),(6,pt (n+2)),(8,pt bi)] _ _ ?_ he
     clear hB
     refine Ye fun C hC=>?_
     refine Yb fun N5 hN5=>?_
     simp (maxSteps:=2000000) only [s39,↓Za,↓Zk,↓Zr,↓Ze,↓Zm,↓Zs,↓Zf,↓Zh,↓Zg,↓Zc,↓Zb,↓vdn,vup,Zn,Zl,Zo,Zi,Zj,List.map_cons,List.map_nil,cond_true,cond_false,aop,Zv,Zq,Zp,ev,sput,Zt,Zy,Ya,unK,Zd,Zw,Nat.reduceBEq,Nat.reduceAdd,Int.reduceBEq,Int.reduceBNe,Int.reduceLT,Zu,Zz,tup,tyf,Xa ci3 Yw]
     refine hN5 [(0,Zx (j:Nat)),(1,pt (n+1)),(2,pt n),(3,pt b7),(4,pt b6),(5,pt b3),(6,pt (n+2)),(8,pt bi),(43,Zx (i:Nat))] _ _ ?_ (by simp (maxSteps:=2000000) only [↓Za,↓Zk,↓Zr,↓Ze,↓Zm,↓Zs,↓Zf,↓Zh,↓Zg,↓Zc,↓Zb,↓vdn,vup,Zn,Zl,Zo,Zi,Zj,List.map_cons,List.map_nil,cond_true,cond_false,aop,Zv,Zq,Zp,ev,sput,Zt,Zy,Ya,unK,Zd,Zw,Nat.reduceBEq,Nat.reduceAdd,Int.reduceBEq,Int.reduceBNe,Int.reduceLT,Zu,Zz,tup,tyf])
     clear hN5
     try clear N5
     refine Yd ?_
     simp (maxSteps:=2000000) only [s39,↓Za,↓Zk,↓Zr,↓Ze,↓Zm,↓Zs,↓Zf,↓Zh,↓Zg,↓Zc,↓Zb,↓vdn,vup,Zn,Zl,Zo,Zi,Zj,List.map_cons,List.map_nil,cond_true,cond_false,aop,Zv,Zq,Zp,ev,sput,Zt,Zy,Ya,unK,Zd,Zw,Nat.reduceBEq,Nat.reduceAdd,Int.reduceBEq,Int.reduceBNe,Int.reduceLT,Zu,Zz,tup,tyf,Xx,Xd,zero_3,setLast]
     refine hC [(0,Zx (j:Nat)),(1,pt (n+1)),(2,pt n),(3,pt b7),(4,pt b6),(5,pt b3),(6,pt (n+2)),(8,pt z3.length)] _ _ ?_ (by simp (maxSteps:=2000000) only [↓Za,↓Zk,↓Zr,↓Ze,↓Zm,↓Zs,↓Zf,↓Zh,↓Zg,↓Zc,↓Zb,↓vdn,vup,Zn,Zl,Zo,Zi,Zj,List.map_cons,List.map_nil,cond_true,cond_false,aop,Zv,Zq,Zp,ev,sput,Zt,Zy,Ya,unK,Zd,Zw,Nat.reduceBEq,Nat.reduceAdd,Int.reduceBEq,Int.reduceBNe,Int.reduceLT,Zu,Zz,tup,tyf])
     clear hC
     try clear C
     refine Yd ?_
     simp (maxSteps:=2000000) only [s39,↓Za,↓Zk,↓Zr,↓Ze,↓Zm,↓Zs,↓Zf,↓Zh,↓Zg,↓Zc,↓Zb,↓vdn,vup,Zn,Zl,Zo,Zi,Zj,List.map_cons,List.map_nil,cond_true,cond_false,aop,Zv,Zq,Zp,ev,sput,Zt,Zy,Ya,unK,Zd,Zw,Nat.reduceBEq,Nat.reduceAdd,Int.reduceBEq,Int.reduceBNe,Int.reduceLT,Zu,Zz,tup,tyf,Xa (Yj _ _) Yw,Vd (show i<9223372036854775807 by omega),bump]
     have hE4:Ext (fun _=>False) z3 (z3++[Blk.cells [Zx ((i+1:Nat):Int)] 3 false]):=Ext.app _ _ _
     refine hQ2 _ _ _ ⟨(i+1,z3.length,nv3,bv3,_,_),⟨by omega,hi',?_,s3.more hE4,Yj _ _,?_,?_,hg⟩,by simp only; omega,by simp (maxSteps:=2000000) only [↓Za,↓Zk,↓Zr,↓Ze,↓Zm,↓Zs,↓Zf,↓Zh,↓Zg,↓Zc,↓Zb,↓vdn,vup,Zn,Zl,Zo,Zi,Zj,List.map_cons,List.map_nil,cond_true,cond_false,aop,Zv,Zq,Zp,ev,sput,Zt,Zy,Ya,unK,Zd,Zw,Nat.reduceBEq,Nat.reduceAdd,Int.reduceBEq,Int.reduceBNe,Int.reduceLT,Zu,Zz,tup,tyf],rfl⟩
     · exact Nat.le_trans hE.1 (Nat.le_trans hE2.1 hE3.1)
     · exact KF.trans hE (KF.trans hE2' (KF.trans hE3 (hE4.mono fun _ h=>h.elim) fun b h=>.inl h) fun b h=>.inl h) hb
     · intro b h
       rcases hb3 b h with h1 | h1
       · exact hb b h1
       · exact .inr (Nat.le_trans hE.1 (Nat.le_trans hE2.1 h1))
 · obtain rfl:i=al.length:=by omega
   refine Yb fun N6 hN6=>?_
   simp (maxSteps:=2000000) only [s39,↓Za,↓Zk,↓Zr,↓Ze,↓Zm,↓Zs,↓Zf,↓Zh,↓Zg,↓Zc,↓Zb,↓vdn,vup,Zn,Zl,Zo,Zi,Zj,List.map_cons,List.map_nil,cond_true,cond_false,aop,Zv,Zq,Zp,ev,sput,Zt,Zy,Ya,unK,Zd,Zw,Nat.reduceBEq,Nat.reduceAdd,Int.reduceBEq,Int.reduceBNe,Int.reduceLT,Zu,Zz,tup,tyf,Xa ci Yw,Xa e7 Vj,hall.len,hin]
   refine hN6 [(0,Zx (j:Nat)),(1,pt (n+1)),(2,pt n),(3,pt b7),(4,pt b6),(5,pt b3),(6,pt (n+2)),(8,pt bi),(20,.bool false)] _ _ ?_ (by simp (maxSteps:=2000000) only [↓Za,↓Zk,↓Zr,↓Ze,↓Zm,↓Zs,↓Zf,↓Zh,↓Zg,↓Zc,↓Zb,↓vdn,vup,Zn,Zl,Zo,Zi,Zj,List.map_cons,List.map_nil,cond_true,cond_false,aop,Zv,Zq,Zp,ev,sput,Zt,Zy,Ya,unK,Zd,Zw,Nat.reduceBEq,Nat.reduceAdd,Int.reduceBEq,Int.reduceBNe,Int.reduceLT,Zu,Zz,tup,tyf])
   clear hN6
   try clear N6
   refine Yq rfl ?_
   refine Yd ?_
   simp (maxSteps:=2000000) only [s39,↓Za,↓Zk,↓Zr,↓Ze,↓Zm,↓Zs,↓Zf,↓Zh,↓Zg,↓Zc,↓Zb,↓vdn,vup,Zn,Zl,Zo,Zi,Zj,List.map_cons,List.map_nil,cond_true,cond_false,aop,Zv,Zq,Zp,ev,sput,Zt,Zy,Ya,unK,Zd,Zw,Nat.reduceBEq,Nat.reduceAdd,Int.reduceBEq,Int.reduceBNe,Int.reduceLT,Zu,Zz,tup,tyf]
   refine hQ2 _ _ _ (hQ1 _ _ _ ?_)
   simp (maxSteps:=2000000) only [s39,↓Za,↓Zk,↓Zr,↓Ze,↓Zm,↓Zs,↓Zf,↓Zh,↓Zg,↓Zc,↓Zb,↓vdn,vup,Zn,Zl,Zo,Zi,Zj,List.map_cons,List.map_nil,cond_true,cond_false,aop,Zv,Zq,Zp,ev,sput,Zt,Zy,Ya,unK,Zd,Zw,Nat.reduceBEq,Nat.reduceAdd,Int.reduceBEq,Int.reduceBNe,Int.reduceLT,Zu,Zz,tup,tyf,if_true]
   rw [List.drop_length,gl] at hg
   exact hQ _ _ ⟨nv,bv,hg▸s,hE,hb⟩
theorem s39_callW [Tabs Tryd.prog] {args:List Value} {h:Yc} {Q:Value→Yc→Prop} (hsz:args.length≤44) (hk:AWS Tryd.prog 44 s39 (Zu Tryd.prog [] Q) (Zp 0 args) h):ACall Tryd.prog 39 args h Q :=
 Xg Tryd.func39 rfl (enters_of Tryd.func39 (by kernel_rfl) rfl) rfl rfl (by decide) s39_strip s39_ok hsz hk
theorem grow_step [Tabs prog] {H:Yc} {n b3 b6 b7 j:Nat} {x:Int} {t:List (List Int)} {v av:Value} {al:List (Int×Int)} (hH:FH H x t v av al b3 b6 b7) (ih : ∀ i,j<i→i≤al.length→GrowOK H n b3 b6 b7 al t x i) (hj:j≤al.length):GrowOK H n b3 b6 b7 al t x j:=by
 intro now best nv bv z s hnj
 have hl16:=hH.len
 refine s39_callW (by simp) ?_
 simp only [s39]
 refine Ye fun A hA=>?_
 by_cases hlt:best.length<now.length
 · have hlt' : (best.length:Int)<now.length:=by omega
   refine Yb fun N7 hN7=>?_
   simp (maxSteps:=2000000) only [s39,↓Za,↓Zk,↓Zr,↓Ze,↓Zm,↓Zs,↓Zf,↓Zh,↓Zg,↓Zc,↓Zb,↓vdn,vup,Zn,Zl,Zo,Zi,Zj,List.map_cons,List.map_nil,cond_true,cond_false,aop,Zv,Zq,Zp,ev,sput,Zt,Zy,Ya,unK,Zd,Zw,Nat.reduceBEq,Nat.reduceAdd,Int.reduceBEq,Int.reduceBNe,Int.reduceLT,Zu,Zz,tup,tyf,Xa s.c9 Vj,s.oN.pair.len,Xa s.c8 Vj,s.oB.pair.len,gt_iff_lt,hlt']
   refine hN7 [(0,Zx (j:Nat)),(1,pt (n+1)),(2,pt n),(3,pt b7),(4,pt b6),(5,pt b3),(6,pt (n+2)),(13,.bool true)] _ _ ?_ (by simp (maxSteps:=2000000) only [↓Za,↓Zk,↓Zr,↓Ze,↓Zm,↓Zs,↓Zf,↓Zh,↓Zg,↓Zc,↓Zb,↓vdn,vup,Zn,Zl,Zo,Zi,Zj,List.map_cons,List.map_nil,cond_true,cond_false,aop,Zv,Zq,Zp,ev,sput,Zt,Zy,Ya,unK,Zd,Zw,Nat.reduceBEq,Nat.reduceAdd,Int.reduceBEq,Int.reduceBNe,Int.reduceLT,Zu,Zz,tup,tyf])
   clear hN7
   try clear N7
   refine Xe rfl ?_
   refine Yd ?_
   have hne:now≠[]:=fun hc=>by rw [hc] at hlt; simp at hlt
   simp (maxSteps:=2000000) only [s39,↓Za,↓Zk,↓Zr,↓Ze,↓Zm,↓Zs,↓Zf,↓Zh,↓Zg,↓Zc,↓Zb,↓vdn,vup,Zn,Zl,Zo,Zi,Zj,List.map_cons,List.map_nil,cond_true,cond_false,aop,Zv,Zq,Zp,ev,sput,Zt,Zy,Ya,unK,Zd,Zw,Nat.reduceBEq,Nat.reduceAdd,Int.reduceBEq,Int.reduceBNe,Int.reduceLT,Zu,Zz,tup,tyf,Yz,List.nil_append,List.append_nil,List.toList_toArray,List.cons_append,Xa s.c9 Vj]
   refine (clone_call s.oN.pair hne (by omega)).mono ?_
   rintro r z1 s1
   have e8:=(s1.ext.2 _ (Yp s.c8) id).trans s.c8
   simp (maxSteps:=2000000) only [s39,↓Za,↓Zk,↓Zr,↓Ze,↓Zm,↓Zs,↓Zf,↓Zh,↓Zg,↓Zc,↓Zb,↓vdn,vup,Zn,Zl,Zo,Zi,Zj,List.map_cons,List.map_nil,cond_true,cond_false,aop,Zv,Zq,Zp,ev,sput,Zt,Zy,Ya,unK,Zd,Zw,Nat.reduceBEq,Nat.reduceAdd,Int.reduceBEq,Int.reduceBNe,Int.reduceLT,Zu,Zz,tup,tyf,store1 e8 Vj (OwnP_one s1.own)]
   refine hA [(0,Zx (j:Nat)),(1,pt (n+1)),(2,pt n),(3,pt b7),(4,pt b6),(5,pt b3),(6,pt (n+2))] _ _ ?_ (by simp (maxSteps:=2000000) only [↓Za,↓Zk,↓Zr,↓Ze,↓Zm,↓Zs,↓Zf,↓Zh,↓Zg,↓Zc,↓Zb,↓vdn,vup,Zn,Zl,Zo,Zi,Zj,List.map_cons,List.map_nil,cond_true,cond_false,aop,Zv,Zq,Zp,ev,sput,Zt,Zy,Ya,unK,Zd,Zw,Nat.reduceBEq,Nat.reduceAdd,Int.reduceBEq,Int.reduceBNe,Int.reduceLT,Zu,Zz,tup,tyf])
   clear hA
   try clear A
   have s2:=s.put8 s1.ext s1.own s1.new
   refine rounds hH ih s2 hnj hj ?_
   rintro r' z' ⟨nv',bv',s',hE',hb'⟩
   refine ⟨nv',bv',by rw [updB,if_pos hlt]; exact s',KF.trans ⟨by rw [List.length_set]; exact s1.ext.1,fun b hb hf=>?_⟩ hE' (fun b h=>.inl h),fun b h=>(hb' b h).imp id fun h1=>?_⟩
   · rw [List.getElem?_set_ne fun hc=>hf (.inl hc.symm)]
     exact s1.ext.2 b hb id
   · rw [List.length_set] at h1; exact Nat.le_trans s1.ext.1 h1
 · have hlt' : ¬ (best.length:Int)<now.length:=by omega
   refine Yb fun N8 hN8=>?_
   simp (maxSteps:=2000000) only [s39,↓Za,↓Zk,↓Zr,↓Ze,↓Zm,↓Zs,↓Zf,↓Zh,↓Zg,↓Zc,↓Zb,↓vdn,vup,Zn,Zl,Zo,Zi,Zj,List.map_cons,List.map_nil,cond_true,cond_false,aop,Zv,Zq,Zp,ev,sput,Zt,Zy,Ya,unK,Zd,Zw,Nat.reduceBEq,Nat.reduceAdd,Int.reduceBEq,Int.reduceBNe,Int.reduceLT,Zu,Zz,tup,tyf,Xa s.c9 Vj,s.oN.pair.len,Xa s.c8 Vj,s.oB.pair.len,gt_iff_lt,hlt']
   refine hN8 [(0,Zx (j:Nat)),(1,pt (n+1)),(2,pt n),(3,pt b7),(4,pt b6),(5,pt b3),(6,pt (n+2)),(13,.bool false)] _ _ ?_ (by simp (maxSteps:=2000000) only [↓Za,↓Zk,↓Zr,↓Ze,↓Zm,↓Zs,↓Zf,↓Zh,↓Zg,↓Zc,↓Zb,↓vdn,vup,Zn,Zl,Zo,Zi,Zj,List.map_cons,List.map_nil,cond_true,cond_false,aop,Zv,Zq,Zp,ev,sput,Zt,Zy,Ya,unK,Zd,Zw,Nat.reduceBEq,Nat.reduceAdd,Int.reduceBEq,Int.reduceBNe,Int.reduceLT,Zu,Zz,tup,tyf])
   clear hN8
   try clear N8
   refine Yq rfl ?_
   refine Yd ?_
   simp (maxSteps:=2000000) only [s39,↓Za,↓Zk,↓Zr,↓Ze,↓Zm,↓Zs,↓Zf,↓Zh,↓Zg,↓Zc,↓Zb,↓vdn,vup,Zn,Zl,Zo,Zi,Zj,List.map_cons,List.map_nil,cond_true,cond_false,aop,Zv,Zq,Zp,ev,sput,Zt,Zy,Ya,unK,Zd,Zw,Nat.reduceBEq,Nat.reduceAdd,Int.reduceBEq,Int.reduceBNe,Int.reduceLT,Zu,Zz,tup,tyf]
   refine hA [(0,Zx (j:Nat)),(1,pt (n+1)),(2,pt n),(3,pt b7),(4,pt b6),(5,pt b3),(6,pt (n+2))] _ _ ?_ (by simp (maxSteps:=2000000) only [↓Za,↓Zk,↓Zr,↓Ze,↓Zm,↓Zs,↓Zf,↓Zh,↓Zg,↓Zc,↓Zb,↓vdn,vup,Zn,Zl,Zo,Zi,Zj,List.map_cons,List.map_nil,cond_true,cond_false,aop,Zv,Zq,Zp,ev,sput,Zt,Zy,Ya,unK,Zd,Zw,Nat.reduceBEq,Nat.reduceAdd,Int.reduceBEq,Int.reduceBNe,Int.reduceLT,Zu,Zz,tup,tyf])
   clear hA
   try clear A
   refine rounds hH ih s hnj hj ?_
   intro r' z' hz
   rw [updB,if_neg hlt]; exact hz
theorem grow_all [Tabs prog] {H:Yc} {n b3 b6 b7:Nat} {x:Int} {t:List (List Int)} {v av:Value} {al:List (Int×Int)} (hH:FH H x t v av al b3 b6 b7) : ∀ m j,al.length-j≤m→j≤al.length→GrowOK H n b3 b6 b7 al t x j
 | 0,j,hm,hj=>grow_step hH (fun i h1 h2=>by omega) hj
 | m+1,j,hm,hj=>grow_step hH (fun i h1 h2=>grow_all hH m i (by omega) h2) hj
theorem boxI3 {h:Yc} {x:Int} {K:Value→Yc→Prop}:boxK prog h 3 (Zx x) K=K (Xd h) (h++[.cells [Zx x] 3 false]):=by
 simp only [boxK,Xk,Option.isSome_some,true_and,cellsOf]
theorem storeN {h:Yc} {u w:Value} {ty:TypeId} {K:Yc→Prop} (hs:shp prog ty=some none) (hw:one w=true):Xu prog (h++[Blk.cells [u] ty false]) ty (.pointer (some ⟨h.length,0,none⟩)) w K=K (h++[Blk.cells [w] ty false]):=by
 rw [store1 (Yj _ _) hs hw]; simp
theorem s10_callW [Tabs Tryd.prog] {args:List Value} {h:Yc} {Q:Value→Yc→Prop} (hsz:args.length≤23) (hk:AWS Tryd.prog 23 s10 (Zu Tryd.prog [.tmp 4,.tmp 5] Q) (Zp 0 args) h):ACall Tryd.prog 10 args h Q :=
 Xg Tryd.func10 rfl (enters_of Tryd.func10 (by kernel_rfl) rfl) rfl rfl (by decide) s10_strip s10_ok hsz hk
theorem fool_call [Tabs prog] {h:Yc} {v:Value} {t:List (List Int)} {x:Int} (hv:TabS h v t) (ht:Tab t) (hx:x=0∨x=1):ACall prog 10 [v,Zx x] h fun r h'=>∃ w,r = .tuple #[w,.int .i64 0]∧OwnP 28 h' w (gl (Wy t x) (entL t x) [] [])∧Ext (fun _=>False) h h':=by
 have hv1:one v=true:=by
  obtain ⟨ws,h1,_⟩:=hv
  rcases h1 with ⟨rfl,_⟩ | ⟨b,o,sp,cap,c,e,ro,rfl,_⟩ <;> rfl
 refine s10_callW (by simp) ?_
 simp only [s10]
 refine Yb fun N9 hN9=>?_
 simp (maxSteps:=2000000) only [s10,↓Za,↓Zk,↓Zr,↓Ze,↓Zm,↓Zs,↓Zf,↓Zh,↓Zg,↓Zc,↓Zb,↓vdn,vup,Zn,Zl,Zo,Zi,Zj,List.map_cons,List.map_nil,cond_true,cond_false,aop,Zv,Zq,Zp,ev,sput,Zt,Zy,Ya,unK,Zd,Zw,Nat.reduceBEq,Nat.reduceAdd,Int.reduceBEq,Int.reduceBNe,Int.reduceLT,Zu,Zz,tup,tyf,boxI3,Xd]
 have hE1:Ext (fun _=>False) h (h++[Blk.cells [Zx x] 3 false]):=Ext.app _ _ _
 have c3:=Yj h (Blk.cells [Zx x] 3 false)
 generalize h++[Blk.cells [Zx x] 3 false]=h1 at hE1 c3 ⊢
 generalize h.length=b3 at c3 ⊢
 refine hN9 [(0,v),(1,Zx x),(3,pt b3),(4,.slice none 0 0),(5,.int .i64 0)] _ _ ?_ (by simp (maxSteps:=2000000) only [↓Za,↓Zk,↓Zr,↓Ze,↓Zm,↓Zs,↓Zf,↓Zh,↓Zg,↓Zc,↓Zb,↓vdn,vup,Zn,Zl,Zo,Zi,Zj,List.map_cons,List.map_nil,cond_true,cond_false,aop,Zv,Zq,Zp,ev,sput,Zt,Zy,Ya,unK,Zd,Zw,Nat.reduceBEq,Nat.reduceAdd,Int.reduceBEq,Int.reduceBNe,Int.reduceLT,Zu,Zz,tup,tyf])
 clear hN9
 try clear N9
 refine Yb fun N10 hN10=>?_
 simp (maxSteps:=2000000) only [s10,↓Za,↓Zk,↓Zr,↓Ze,↓Zm,↓Zs,↓Zf,↓Zh,↓Zg,↓Zc,↓Zb,↓vdn,vup,Zn,Zl,Zo,Zi,Zj,List.map_cons,List.map_nil,cond_true,cond_false,aop,Zv,Zq,Zp,ev,sput,Zt,Zy,Ya,unK,Zd,Zw,Nat.reduceBEq,Nat.reduceAdd,Int.reduceBEq,Int.reduceBNe,Int.reduceLT,Zu,Zz,tup,tyf,Xx,Xd,zero_70,storeN shp_70 hv1]
 have hE2:Ext (fun _=>False) h1 (h1++[Blk.cells [v] 70 false]):=Ext.app _ _ _
 have c6:=Yj h1 (Blk.cells [v] 70 false)
 have d3:=Xi c3 [Blk.cells [v] 70 false]
 generalize h1++[Blk.cells [v] 70 false]=h2 at hE2 c6 d3 ⊢
 generalize h1.length=b6 at c6 ⊢
 refine hN10 [(0,v),(1,Zx x),(3,pt b3),(4,.slice none 0 0),(5,.int .i64 0),(6,pt b6)] _ _ ?_ (by simp (maxSteps:=2000000) only [↓Za,↓Zk,↓Zr,↓Ze,↓Zm,↓Zs,↓Zf,↓Zh,↓Zg,↓Zc,↓Zb,↓vdn,vup,Zn,Zl,Zo,Zi,Zj,List.map_cons,List.map_nil,cond_true,cond_false,aop,Zv,Zq,Zp,ev,sput,Zt,Zy,Ya,unK,Zd,Zw,Nat.reduceBEq,Nat.reduceAdd,Int.reduceBEq,Int.reduceBNe,Int.reduceLT,Zu,Zz,tup,tyf])
 clear hN10
 try clear N10
 have hE:=hE1.trans hE2
 refine Ye fun M hM=>?_
 refine Yb fun N11 hN11=>?_
 simp (maxSteps:=2000000) only [s10,↓Za,↓Zk,↓Zr,↓Ze,↓Zm,↓Zs,↓Zf,↓Zh,↓Zg,↓Zc,↓Zb,↓vdn,vup,Zn,Zl,Zo,Zi,Zj,List.map_cons,List.map_nil,cond_true,cond_false,aop,Zv,Zq,Zp,ev,sput,Zt,Zy,Ya,unK,Zd,Zw,Nat.reduceBEq,Nat.reduceAdd,Int.reduceBEq,Int.reduceBNe,Int.reduceLT,Zu,Zz,tup,tyf,Yz,List.nil_append,List.append_nil,List.toList_toArray,List.cons_append,Xa c6 shp_70,Xa d3 Yw]
 refine (isvalue_call (hv.ext hE) ht hx).mono ?_
 rintro _ h3 ⟨rfl,hE3⟩
 simp (maxSteps:=2000000) only [s10,↓Za,↓Zk,↓Zr,↓Ze,↓Zm,↓Zs,↓Zf,↓Zh,↓Zg,↓Zc,↓Zb,↓vdn,vup,Zn,Zl,Zo,Zi,Zj,List.map_cons,List.map_nil,cond_true,cond_false,aop,Zv,Zq,Zp,ev,sput,Zt,Zy,Ya,unK,Zd,Zw,Nat.reduceBEq,Nat.reduceAdd,Int.reduceBEq,Int.reduceBNe,Int.reduceLT,Zu,Zz,tup,tyf,Bool.not_true]
 refine hN11 [(0,v),(1,Zx x),(3,pt b3),(4,.slice none 0 0),(5,.int .i64 0),(6,pt b6),(15,.bool false)] _ _ ?_ (by simp (maxSteps:=2000000) only [↓Za,↓Zk,↓Zr,↓Ze,↓Zm,↓Zs,↓Zf,↓Zh,↓Zg,↓Zc,↓Zb,↓vdn,vup,Zn,Zl,Zo,Zi,Zj,List.map_cons,List.map_nil,cond_true,cond_false,aop,Zv,Zq,Zp,ev,sput,Zt,Zy,Ya,unK,Zd,Zw,Nat.reduceBEq,Nat.reduceAdd,Int.reduceBEq,Int.reduceBNe,Int.reduceLT,Zu,Zz,tup,tyf])
 clear hN11
 try clear N11
 refine Yq rfl ?_
 refine Yd ?_
 simp (maxSteps:=2000000) only [s10,↓Za,↓Zk,↓Zr,↓Ze,↓Zm,↓Zs,↓Zf,↓Zh,↓Zg,↓Zc,↓Zb,↓vdn,vup,Zn,Zl,Zo,Zi,Zj,List.map_cons,List.map_nil,cond_true,cond_false,aop,Zv,Zq,Zp,ev,sput,Zt,Zy,Ya,unK,Zd,Zw,Nat.reduceBEq,Nat.reduceAdd,Int.reduceBEq,Int.reduceBNe,Int.reduceLT,Zu,Zz,tup,tyf]
 refine hM [(0,v),(1,Zx x),(3,pt b3),(4,.slice none 0 0),(5,.int .i64 0),(6,pt b6)] _ _ ?_ (by simp (maxSteps:=2000000) only [↓Za,↓Zk,↓Zr,↓Ze,↓Zm,↓Zs,↓Zf,↓Zh,↓Zg,↓Zc,↓Zb,↓vdn,vup,Zn,Zl,Zo,Zi,Zj,List.map_cons,List.map_nil,cond_true,cond_false,aop,Zv,Zq,Zp,ev,sput,Zt,Zy,Ya,unK,Zd,Zw,Nat.reduceBEq,Nat.reduceAdd,Int.reduceBEq,Int.reduceBNe,Int.reduceLT,Zu,Zz,tup,tyf])
 clear hM
 try clear M
 have e6:=(hE3.2 _ (Yp c6) id).trans c6
 have e3:=(hE3.2 _ (Yp d3) id).trans d3
 have hE4:=hE.trans hE3
 refine Yb fun N12 hN12=>?_
 simp (maxSteps:=2000000) only [s10,↓Za,↓Zk,↓Zr,↓Ze,↓Zm,↓Zs,↓Zf,↓Zh,↓Zg,↓Zc,↓Zb,↓vdn,vup,Zn,Zl,Zo,Zi,Zj,List.map_cons,List.map_nil,cond_true,cond_false,aop,Zv,Zq,Zp,ev,sput,Zt,Zy,Ya,unK,Zd,Zw,Nat.reduceBEq,Nat.reduceAdd,Int.reduceBEq,Int.reduceBNe,Int.reduceLT,Zu,Zz,tup,tyf,Yz,List.nil_append,List.append_nil,List.toList_toArray,List.cons_append,Xa e6 shp_70,Xa e3 Yw]
 refine (entries_call (hv.ext hE4) ht).mono ?_
 rintro av h4 s
 have hE5:=hE4.trans s.ext
 simp (maxSteps:=2000000) only [s10,↓Za,↓Zk,↓Zr,↓Ze,↓Zm,↓Zs,↓Zf,↓Zh,↓Zg,↓Zc,↓Zb,↓vdn,vup,Zn,Zl,Zo,Zi,Zj,List.map_cons,List.map_nil,cond_true,cond_false,aop,Zv,Zq,Zp,ev,sput,Zt,Zy,Ya,unK,Zd,Zw,Nat.reduceBEq,Nat.reduceAdd,Int.reduceBEq,Int.reduceBNe,Int.reduceLT,Zu,Zz,tup,tyf,Xx,Xd,zero_26,storeN Vj (OwnP_one s.own)]
 have hE6:Ext (fun _=>False) h4 (h4++[Blk.cells [av] 26 false]):=Ext.app _ _ _
 have c7:=Yj h4 (Blk.cells [av] 26 false)
 have f6:=Xi ((s.ext.2 _ (Yp e6) id).trans e6) [Blk.cells [av] 26 false]
 have f3:=Xi ((s.ext.2 _ (Yp e3) id).trans e3) [Blk.cells [av] 26 false]
 have ha:=s.own.pair.ext hE6
 generalize h4++[Blk.cells [av] 26 false]=H at hE6 c7 f6 f3 ha ⊢
 generalize h4.length=b7 at c7 ⊢
 refine hN12 [(0,v),(1,Zx x),(3,pt b3),(4,.slice none 0 0),(5,.int .i64 0),(6,pt b6),(7,pt b7)] _ _ ?_ (by simp (maxSteps:=2000000) only [↓Za,↓Zk,↓Zr,↓Ze,↓Zm,↓Zs,↓Zf,↓Zh,↓Zg,↓Zc,↓Zb,↓vdn,vup,Zn,Zl,Zo,Zi,Zj,List.map_cons,List.map_nil,cond_true,cond_false,aop,Zv,Zq,Zp,ev,sput,Zt,Zy,Ya,unK,Zd,Zw,Nat.reduceBEq,Nat.reduceAdd,Int.reduceBEq,Int.reduceBNe,Int.reduceLT,Zu,Zz,tup,tyf])
 clear hN12
 try clear N12
 have hE7:=hE5.trans hE6
 have hlen:=ents_len ht x t.length
 have hH:FH H x t v av (entL t x) b3 b6 b7:=⟨hv.ext hE7,ht,ha,f3,f6,c7,fun p hp=>(entL_in ht hp).1,by unfold entL; have:=ht.n4; omega⟩
 clear s c7 f6 f3 ha e6 e3 c6 d3
 have l1:(H++[Blk.cells [.slice none 0 0] 26 false]).length=H.length+1:=by simp
 have l2:(H++[Blk.cells [.slice none 0 0] 26 false]++[Blk.cells [.slice none 0 0] 26 false]).length=H.length+2:=by simp
 refine Yb fun N13 hN13=>?_
 simp (maxSteps:=2000000) only [s10,↓Za,↓Zk,↓Zr,↓Ze,↓Zm,↓Zs,↓Zf,↓Zh,↓Zg,↓Zc,↓Zb,↓vdn,vup,Zn,Zl,Zo,Zi,Zj,List.map_cons,List.map_nil,cond_true,cond_false,aop,Zv,Zq,Zp,ev,sput,Zt,Zy,Ya,unK,Zd,Zw,Nat.reduceBEq,Nat.reduceAdd,Int.reduceBEq,Int.reduceBNe,Int.reduceLT,Zu,Zz,tup,tyf,Xx,Xd,zero_26,l1]
 refine hN13 [(0,v),(1,Zx x),(3,pt b3),(4,.slice none 0 0),(5,.int .i64 0),(6,pt b6),(7,pt b7),(8,pt H.length),(9,pt (H.length+1))] _ _ ?_ (by simp (maxSteps:=2000000) only [↓Za,↓Zk,↓Zr,↓Ze,↓Zm,↓Zs,↓Zf,↓Zh,↓Zg,↓Zc,↓Zb,↓vdn,vup,Zn,Zl,Zo,Zi,Zj,List.map_cons,List.map_nil,cond_true,cond_false,aop,Zv,Zq,Zp,ev,sput,Zt,Zy,Ya,unK,Zd,Zw,Nat.reduceBEq,Nat.reduceAdd,Int.reduceBEq,Int.reduceBNe,Int.reduceLT,Zu,Zz,tup,tyf])
 clear hN13
 try clear N13
 refine Yb fun N14 hN14=>?_
 simp (maxSteps:=2000000) only [s10,↓Za,↓Zk,↓Zr,↓Ze,↓Zm,↓Zs,↓Zf,↓Zh,↓Zg,↓Zc,↓Zb,↓vdn,vup,Zn,Zl,Zo,Zi,Zj,List.map_cons,List.map_nil,cond_true,cond_false,aop,Zv,Zq,Zp,ev,sput,Zt,Zy,Ya,unK,Zd,Zw,Nat.reduceBEq,Nat.reduceAdd,Int.reduceBEq,Int.reduceBNe,Int.reduceLT,Zu,Zz,tup,tyf,Xx,Xd,zero_72,l2]
 refine hN14 [(0,v),(1,Zx x),(3,pt b3),(4,.slice none 0 0),(5,.int .i64 0),(6,pt b6),(7,pt b7),(8,pt H.length),(9,pt (H.length+1)),(10,pt (H.length+2))] _ _ ?_ (by simp (maxSteps:=2000000) only [↓Za,↓Zk,↓Zr,↓Ze,↓Zm,↓Zs,↓Zf,↓Zh,↓Zg,↓Zc,↓Zb,↓vdn,vup,Zn,Zl,Zo,Zi,Zj,List.map_cons,List.map_nil,cond_true,cond_false,aop,Zv,Zq,Zp,ev,sput,Zt,Zy,Ya,unK,Zd,Zw,Nat.reduceBEq,Nat.reduceAdd,Int.reduceBEq,Int.reduceBNe,Int.reduceLT,Zu,Zz,tup,tyf])
 clear hN14
 try clear N14
 have g8:=Xi (Xi (Yj H (Blk.cells [.slice none 0 0] 26 false)) [Blk.cells [.slice none 0 0] 26 false]) [Blk.cells [.nilFunc] 72 false]
 have g9:=Xi (Yj (H++[Blk.cells [.slice none 0 0] 26 false]) (Blk.cells [.slice none 0 0] 26 false)) [Blk.cells [.nilFunc] 72 false]
 have g10:=Yj (H++[Blk.cells [.slice none 0 0] 26 false]++[Blk.cells [.slice none 0 0] 26 false]) (Blk.cells [.nilFunc] 72 false)
 have hEZ:Ext (fun _=>False) H (H++[Blk.cells [.slice none 0 0] 26 false]++[Blk.cells [.slice none 0 0] 26 false]++[Blk.cells [.nilFunc] 72 false]):=by rw [List.append_assoc,List.append_assoc]; exact Ext.app _ _ _
 rw [l1] at g9
 rw [l2] at g10
 generalize H++[Blk.cells [.slice none 0 0] 26 false]++[Blk.cells [.slice none 0 0] 26 false]++[Blk.cells [.nilFunc] 72 false]=Z at g8 g9 g10 hEZ ⊢
 refine Yb fun N15 hN15=>?_
 simp (maxSteps:=2000000) only [s10,↓Za,↓Zk,↓Zr,↓Ze,↓Zm,↓Zs,↓Zf,↓Zh,↓Zg,↓Zc,↓Zb,↓vdn,vup,Zn,Zl,Zo,Zi,Zj,List.map_cons,List.map_nil,cond_true,cond_false,aop,Zv,Zq,Zp,ev,sput,Zt,Zy,Ya,unK,Zd,Zw,Nat.reduceBEq,Nat.reduceAdd,Int.reduceBEq,Int.reduceBNe,Int.reduceLT,Zu,Zz,tup,tyf,List.map_toArray]
 show Xu prog Z 72 (pt (H.length+2)) (gfV H.length b3 b6 b7) _
 rw [store1 g10 shp_72 rfl]
 have s0:FS H H.length b3 b6 b7 (entL t x) [] [] (.slice none 0 0) (.slice none 0 0) (Z.set (H.length+2) (Blk.cells [gfV H.length b3 b6 b7] 72 false)) :=
  ⟨⟨by rw [List.length_set]; exact hEZ.1,fun q hq _=>by rw [List.getElem?_set_ne (by omega)]; exact hEZ.2 q hq id⟩,Nat.le_refl _,by rw [List.getElem?_set_ne (by omega)]; exact g8,by rw [List.getElem?_set_ne (by omega)]; exact g9,Xy (Yp g10) _,.inl ⟨rfl,rfl⟩,nofun,.inl ⟨rfl,rfl⟩,nofun,nofun⟩
 generalize Z.set (H.length+2) (Blk.cells [gfV H.length b3 b6 b7] 72 false)=z at s0 ⊢
 refine hN15 [(0,v),(1,Zx x),(3,pt b3),(4,.slice none 0 0),(5,.int .i64 0),(6,pt b6),(7,pt b7),(8,pt H.length),(9,pt (H.length+1)),(10,pt (H.length+2))] _ _ ?_ (by simp (maxSteps:=2000000) only [↓Za,↓Zk,↓Zr,↓Ze,↓Zm,↓Zs,↓Zf,↓Zh,↓Zg,↓Zc,↓Zb,↓vdn,vup,Zn,Zl,Zo,Zi,Zj,List.map_cons,List.map_nil,cond_true,cond_false,aop,Zv,Zq,Zp,ev,sput,Zt,Zy,Ya,unK,Zd,Zw,Nat.reduceBEq,Nat.reduceAdd,Int.reduceBEq,Int.reduceBNe,Int.reduceLT,Zu,Zz,tup,tyf])
 clear hN15
 try clear N15
 refine Yb fun N16 hN16=>?_
 simp (maxSteps:=2000000) only [s10,↓Za,↓Zk,↓Zr,↓Ze,↓Zm,↓Zs,↓Zf,↓Zh,↓Zg,↓Zc,↓Zb,↓vdn,vup,Zn,Zl,Zo,Zi,Zj,List.map_cons,List.map_nil,cond_true,cond_false,aop,Zv,Zq,Zp,ev,sput,Zt,Zy,Ya,unK,Zd,Zw,Nat.reduceBEq,Nat.reduceAdd,Int.reduceBEq,Int.reduceBNe,Int.reduceLT,Zu,Zz,tup,tyf,Yz,List.nil_append,List.append_nil,List.toList_toArray,List.cons_append,Xa s0.c10 shp_72,gfV]
 refine (grow_all hH _ 0 (Nat.le_refl _) (Nat.zero_le _) _ _ _ _ _ s0 (Nat.le_refl _)).mono ?_
 rintro r z' ⟨nv',bv',s',_,_⟩
 refine hN16 [(0,v),(1,Zx x),(3,pt b3),(4,.slice none 0 0),(5,.int .i64 0),(6,pt b6),(7,pt b7),(8,pt H.length),(9,pt (H.length+1)),(10,pt (H.length+2))] _ _ ?_ (by simp (maxSteps:=2000000) only [↓Za,↓Zk,↓Zr,↓Ze,↓Zm,↓Zs,↓Zf,↓Zh,↓Zg,↓Zc,↓Zb,↓vdn,vup,Zn,Zl,Zo,Zi,Zj,List.map_cons,List.map_nil,cond_true,cond_false,aop,Zv,Zq,Zp,ev,sput,Zt,Zy,Ya,unK,Zd,Zw,Nat.reduceBEq,Nat.reduceAdd,Int.reduceBEq,Int.reduceBNe,Int.reduceLT,Zu,Zz,tup,tyf])
 clear hN16
 try clear N16
 refine Yd ?_
 simp (maxSteps:=2000000) only [s10,↓Za,↓Zk,↓Zr,↓Ze,↓Zm,↓Zs,↓Zf,↓Zh,↓Zg,↓Zc,↓Zb,↓vdn,vup,Zn,Zl,Zo,Zi,Zj,List.map_cons,List.map_nil,cond_true,cond_false,aop,Zv,Zq,Zp,ev,sput,Zt,Zy,Ya,unK,Zd,Zw,Nat.reduceBEq,Nat.reduceAdd,Int.reduceBEq,Int.reduceBNe,Int.reduceLT,Zu,Zz,tup,tyf,Xa s'.c8 Vj]
 exact ⟨_,rfl,s'.oB,hE7.trans s'.ext⟩
end Go.Proofs.Tryd.Am.Tf
namespace Go.Proofs.Tryd.Am.Tf
open Go.Proofs.Tryd
open Go.RowKit Go.Am
attribute [local go_sem] Oper.semAt_some
def rrow (i j:Nat):List (Nat×Nat):=(List.range j).map fun j=>(i+1,j+1)
theorem rects_succ (i C:Nat):Vg (i+1) C=Vg i C++rrow i C:=by
 simp only [Vg,rrow,List.range_succ,List.flatMap_append,List.flatMap_cons,List.flatMap_nil,List.append_nil]
theorem rrow_succ (i j:Nat):rrow i (j+1)=rrow i j++[(i+1,j+1)]:=by
 simp only [rrow,List.range_succ,List.map_append,List.map_cons,List.map_nil]
theorem rrow_le {i j C:Nat} (h:j≤C):rrow i j <+: rrow i C:=by
 obtain ⟨k,rfl⟩:=Nat.exists_eq_add_of_le h
 refine ⟨(List.range k).map fun x=>(i+1,(j+x)+1),?_⟩
 simp only [rrow,List.range_add,List.map_append,List.map_map]
 rfl
theorem rects_le {i R C:Nat} (h:i≤R):Vg i C <+: Vg R C:=by
 obtain ⟨k,rfl⟩:=Nat.exists_eq_add_of_le h
 induction k with
 | zero=>exact List.prefix_refl _
 | succ k ih=>exact (ih (by omega)).trans ⟨rrow (i+k) C,(rects_succ (i+k) C).symm⟩
theorem rects_pre {i j R C:Nat} (hi:i<R) (hj:j<C):(Vg i C++rrow i j)++[(i+1,j+1)] <+: Vg R C:=by
 have h1:Vg (i+1) C <+: Vg R C:=rects_le hi
 refine List.IsPrefix.trans ?_ h1
 rw [rects_succ,List.append_assoc,← rrow_succ]
 exact (List.prefix_append_right_inj _).2 (rrow_le hj)
def iOf:Value→Int | .int _ q=>q | _=>0
theorem cell_of {W:World} {B:Nat} {R C:Nat} (h:W.heap[B]? = some (.cells #[.int .i64 R,.int .i64 C] 81 (0,0))):W.cell? ⟨B,0,none⟩=some (.int .i64 R)∧W.cell? ⟨B,1,none⟩=some (.int .i64 C):=by
 simp only [World.cell?,h]; exact ⟨rfl,rfl⟩
set_option maxRecDepth 100000
set_option maxHeartbeats 4000000
theorem rect1 (l R C:Nat) (tv:Value) (J0:World→Prop) (J:Nat→List (Nat×Nat)→World→Prop) (Jx:World→Prop) (W:World) (hR:R<4294967296) (hC:C<4294967296)
  (hwh : ∀ W,J0 W→CallsIn Fence.wide 0 prog 134 #[tv] W fun en W'=>en = .returned (rVm (R,C))∧J0 W')
  (hal : ∀ W W',J0 W→(∀ k,k<W.heap.size→W'.heap[k]? = W.heap[k]?)→W.heap.size<W'.heap.size→W'.os=W.os→W'.tape=W.tape→W'.output=W.output→J W.heap.size [] W')
  (hY : ∀ B pre x W,J B pre W→pre++[x] <+: Vg R C→YieldAt Fence.wide 0 prog l #[rVm x] W fun en W' =>
   (en = .returned (.bool true)∧J B (pre++[x]) W'∧W'.heap[B]? = W.heap[B]?)∨(en = .returned (.bool false)∧Jx W'))
  (h0:J0 W) :
  CallsIn Fence.wide 1 prog 92 #[tv,.func (.yield l) #[] #[]] W fun en W'=>(∃ v,en = .returned v)∧((∃ B,J B (Vg R C) W')∨Jx W'):=by
 refine callsIn_of_wp func92 rfl trivial ?_ rfl
 simp only [ntmps92,List.size_toArray,List.length_cons,List.length_nil,Nat.reduceAdd,Nat.reduceSub,Array.replicate_succ,Array.replicate_zero,List.push_toArray,List.append_toArray,List.nil_append,List.cons_append]
 have e134 : ∀ args w,(callFunc 134 args).run prog w = .ok (.enter 134 args) w:=enters_of func134 (by kernel_rfl) rfl
 have hw:=hwh W h0
 gi_wp2
 refine ⟨trivial,hw.mono ?_⟩
 rintro e w2 ⟨rfl,hJ0⟩
 gi_wp2
 have hJ:=hal w2 (w2.alloc (Obj.cells #[Value.int IntKind.i64 ↑R,Value.int IntKind.i64 ↑C] 81)) hJ0 (fun k hk=>Go.RowKit.Below.heap_alloc _ _ _ hk) (by simp) rfl rfl rfl
 have hB:(w2.alloc (Obj.cells #[Value.int IntKind.i64 ↑R,Value.int IntKind.i64 ↑C] 81)).heap[w2.heap.size]? = some (.cells #[.int .i64 R,.int .i64 C] 81 (0,0)):=World.alloc_heap_new _ _
 generalize w2.alloc (Obj.cells #[Value.int IntKind.i64 ↑R,Value.int IntKind.i64 ↑C] 81)=W3 at hJ hB ⊢
 generalize w2.heap.size=B at hJ hB ⊢
 clear hw hwh hal h0 hJ0
 gi_loopw [5] (fun vi wr=>∃ i:Nat,vi = .int .i64 ((i:Int)+1)∧i≤R∧J B (Vg i C) wr∧wr.heap[B]? = some (.cells #[.int .i64 R,.int .i64 C] 81 (0,0)))
  (fun vi _=>R+1-(iOf vi).toNat)
 case atStart=>exact ⟨0,rfl,Nat.zero_le _,hJ,hB⟩
 case round =>
  obtain ⟨i,rfl,hi,hJi,hBi⟩:=hrel
  obtain ⟨k0,k1⟩:=cell_of hBi
  by_cases hiR:i<R
  · have hle:(i:Int)+1≤R:=by omega
    gi_wp2
    gi_loopw [6] (fun vj wr2=>∃ j:Nat,vj = .int .i64 ((j:Int)+1)∧j≤C∧J B (Vg i C++rrow i j) wr2∧wr2.heap[B]? = some (.cells #[.int .i64 R,.int .i64 C] 81 (0,0)))
     (fun vj _=>C+1-(iOf vj).toNat)
    case atStart=>exact ⟨0,rfl,Nat.zero_le _,by simpa [rrow] using hJi,hBi⟩
    case round =>
     obtain ⟨j,rfl,hj,hJj,hBj⟩:=hrel
     obtain ⟨q0,q1⟩:=cell_of hBj
     by_cases hjC:j<C
     · have hle2:(j:Int)+1≤C:=by omega
       have hy:=hY B _ (i+1,j+1) _ hJj (rects_pre hiR hjC)
       obtain ⟨fn,tmps,assign,body,hy1,hR1⟩:=hy
       rw [List.append_assoc,← rrow_succ] at hR1
       have hcast:rVm (i+1,j+1)=Value.agg #[.int .i64 ((i:Int)+1),.int .i64 ((j:Int)+1)]:=rfl
       rw [hcast] at hy1
       gi_wp2
       refine hR1.mono ?_
       rintro e W4 (⟨rfl,hJ4,hB4⟩ | ⟨rfl,hJx4⟩)
       · rw [hBj] at hB4
         gi_wp2
         exact ⟨⟨_,_,_,_,_,_,_,_,_,_,_,_,_,⟨j+1,by congr 1,hjC,hJ4,hB4⟩,rfl⟩,by simp [iOf]; omega⟩
       · gi_wp2
         refine bodyPost_ret (results_none rfl _ _ _) rfl ?_
         exact ⟨⟨_,rfl⟩,.inr hJx4⟩
     · have hle2 : ¬ (j:Int)+1≤C:=by omega
       obtain rfl:j=C:=by omega
       gi_wp2
       refine ⟨⟨i+1,by omega,hiR,by rw [rects_succ]; exact hJj⟩,by simp [iOf]; omega⟩
  · have hle : ¬ (i:Int)+1≤R:=by omega
    obtain rfl:i=R:=by omega
    gi_wp2
    go_end0
    exact ⟨⟨_,rfl⟩,.inl ⟨B,hJi⟩⟩
theorem rectIter [Tabs prog]:RectIter prog 92 134:=by
 refine ⟨enters_of func92 (by kernel_rfl) rfl,?_⟩
 intro r l R C tv J0 J Jx W hR hC hwh hal hY h0
 cases r with
 | none=>exact rect1 l R C tv J0 J Jx W hR hC hwh hal hY h0
 | some l0=>exact CallsIn.inRound l0 (rect1 l R C tv J0 J Jx W hR hC hwh hal hY h0)
end Go.Proofs.Tryd.Am.Tf
