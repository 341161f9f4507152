/-
  top: Least, without lies.
  order: the most even pair, of the code and of the reference.
  order: the library's stable sort of a short slice of pairs, by any function: it keeps the pairs.
  order: slices of pairs: copies, whether they are pairs of elements.
  order, plain: how many comparisons sort an order.
  order: what a sorter knows; the comparison of pairs by their unevenness.
  order: the trial of a pair; all free pairs.
-/
import Derived.Test.YtmjpngmoankpkaaDoorPk8
import Derived.Test.YtmjpngmoankpkaaDoorPk7
import Derived.Test.YtmjpngmoankpkaaDoorPk6
import Derived.Test.YtmjpngmoankpkaaDoorPk4
import Derived.Test.YtmjpngmoankpkaaDoorPk5
set_option linter.all false
namespace Go.Proofs.Tryd.Am.Tg
open Go.Proofs.Tryd.Am
open Go.Am
set_option maxRecDepth 100000
set_option maxHeartbeats 4000000
def leastQ (n:Nat):Nat:=((List.range 7).find? fun q=>decide (n≤2 ^ q)).getD 0
theorem leastQ_of {n q:Nat} (hq:q<7) (h:n≤2 ^ q) (h0 : ∀ k,k<q→¬ n≤2 ^ k):leastQ n=q:=by
 have:(List.range 7).find? (fun q=>decide (n≤2 ^ q))=some q:=by
  rw [List.find?_range_eq_some]
  exact ⟨decide_eq_true h,List.mem_range.2 hq,fun k hk=>by rw [decide_eq_false (h0 k hk)]; rfl⟩
 rw [leastQ,this]; rfl
theorem leastQ_le {n k:Nat} (hn:n≤40) (h:n≤2 ^ k):leastQ n≤k:=by
 have h6:n≤2 ^ 6:=Nat.le_trans hn (by decide)
 have key : ∀ d,d≤6→(∀ j,j<6-d→¬ n≤2 ^ j)→∃ q,q<7∧n≤2 ^ q∧∀ j,j<q→¬ n≤2 ^ j:=by
  intro d
  induction d with
  | zero=>exact fun _ h=>⟨6,by decide,h6,h⟩
  | succ d ih =>
    intro hd h
    by_cases hb:n≤2 ^ (6-(d+1))
    · exact ⟨_,by omega,hb,h⟩
    · refine ih (by omega) fun k hk=>?_
      by_cases he:k=6-(d+1)
      · rw [he]; exact hb
      · exact h k (by omega)
 obtain ⟨q,h1,h2,h3⟩:=key 6 (Nat.le_refl _) fun j hj=>absurd hj (Nat.not_lt_zero j)
 rw [leastQ_of h1 h2 h3]
 rcases Nat.lt_or_ge k q with h4 | h4
 · exact absurd h (h3 k h4)
 · exact h4
theorem bld109 {b:Nat} {K:Value→Prop}:Wt prog 109 [(0,.map (some b))] K=K (.agg #[.map (some b)]):=by
 simp [Wt,zero_109,fillL,pl_109_0,Ww,cellsOf,Yk]
def leastV (c:Nat):Value:=if 1≤c∧c≤40 then .tuple #[Zx (leastQ c),.int .i64 0] else .tuple #[.int .i64 0,.int .i64 2]
theorem s20_callW [Tabs Tryd.prog] {args:List Value} {h:Yb} {Q:Value→Yb→Prop} (hsz:args.length≤40) (hk:AWS Tryd.prog 40 s20 (Zu Tryd.prog [.tmp 4,.tmp 5] Q) (Zp 0 args) h):ACall Tryd.prog 20 args h Q :=
 Xy Tryd.func20 rfl (enters_of Tryd.func20 (by kernel_rfl) rfl) rfl rfl (by decide) s20_strip s20_ok hsz hk
theorem least_call [Tabs prog] {h:Yb} {c:Nat}:APure prog 20 [Zx (c:Nat),.int .i64 0] h (leastV c):=by
 have z0 : ¬ (0:Int)<0:=Int.lt_irrefl 0
 have z2 : ¬ (2:Int)<0:=by decide
 refine ACall.forget (by unfold leastV; split <;> exact .pair (.int _ _) (.int _ _)) ?_
 refine s20_callW (by simp) ?_
 simp only [s20]
 refine Yc fun N1 hN1=>?_
 simp (maxSteps:=2000000) only [s20,↓Za,↓Zj,↓Zr,↓Ze,↓Zi,↓Zs,↓Zf,↓Zo,↓Zg,↓Zb,↓Zc,↓vdn,vup,Zh,Zn,Zl,Zm,Zk,List.map_cons,List.map_nil,cond_true,cond_false,aop,Zv,Zq,Zp,ev,sput,Zt,Zy,Ya,unK,Zd,Zw,Nat.reduceBEq,Nat.reduceAdd,Int.reduceBEq,Int.reduceBNe,Int.reduceLT,Zu,Zz,tup,tyf]
 refine hN1 [(0,Zx (c:Nat)),(1,.int .i64 0),(4,.int .i64 0),(5,.int .i64 0)] _ _ ?_ (by simp (maxSteps:=2000000) only [↓Za,↓Zj,↓Zr,↓Ze,↓Zi,↓Zs,↓Zf,↓Zo,↓Zg,↓Zb,↓Zc,↓vdn,vup,Zh,Zn,Zl,Zm,Zk,List.map_cons,List.map_nil,cond_true,cond_false,aop,Zv,Zq,Zp,ev,sput,Zt,Zy,Ya,unK,Zd,Zw,Nat.reduceBEq,Nat.reduceAdd,Int.reduceBEq,Int.reduceBNe,Int.reduceLT,Zu,Zz,tup,tyf])
 clear hN1
 try clear N1
 refine Yg fun A hA=>?_
 by_cases h1:c<1
 · have q1:((c:Nat):Int)<1:=by omega
   refine Yc fun N2 hN2=>?_
   refine Xo 3 fun N1 hN1=>?_
   simp (maxSteps:=2000000) only [s20,↓Za,↓Zj,↓Zr,↓Ze,↓Zi,↓Zs,↓Zf,↓Zo,↓Zg,↓Zb,↓Zc,↓vdn,vup,Zh,Zn,Zl,Zm,Zk,List.map_cons,List.map_nil,cond_true,cond_false,aop,Zv,Zq,Zp,ev,sput,Zt,Zy,Ya,unK,Zd,Zw,Nat.reduceBEq,Nat.reduceAdd,Int.reduceBEq,Int.reduceBNe,Int.reduceLT,Zu,Zz,tup,tyf,List.take_succ_cons,List.take_zero,q1,decide_true]
   refine hN1 _ _ ?_
   clear hN1 N1
   simp only [List.drop_succ_cons,List.drop_zero]
   refine Xo 2 fun N1 hN1=>?_
   simp (maxSteps:=2000000) only [s20,↓Za,↓Zj,↓Zr,↓Ze,↓Zi,↓Zs,↓Zf,↓Zo,↓Zg,↓Zb,↓Zc,↓vdn,vup,Zh,Zn,Zl,Zm,Zk,List.map_cons,List.map_nil,cond_true,cond_false,aop,Zv,Zq,Zp,ev,sput,Zt,Zy,Ya,unK,Zd,Zw,Nat.reduceBEq,Nat.reduceAdd,Int.reduceBEq,Int.reduceBNe,Int.reduceLT,Zu,Zz,tup,tyf,List.take_succ_cons,List.take_zero]
   refine hN1 _ _ ?_
   clear hN1 N1
   simp only [List.drop_succ_cons,List.drop_zero]
   refine Xo 2 fun N1 hN1=>?_
   simp (maxSteps:=2000000) only [s20,↓Za,↓Zj,↓Zr,↓Ze,↓Zi,↓Zs,↓Zf,↓Zo,↓Zg,↓Zb,↓Zc,↓vdn,vup,Zh,Zn,Zl,Zm,Zk,List.map_cons,List.map_nil,cond_true,cond_false,aop,Zv,Zq,Zp,ev,sput,Zt,Zy,Ya,unK,Zd,Zw,Nat.reduceBEq,Nat.reduceAdd,Int.reduceBEq,Int.reduceBNe,Int.reduceLT,Zu,Zz,tup,tyf,List.take_succ_cons,List.take_zero]
   refine hN1 _ _ ?_
   clear hN1 N1
   simp only [List.drop_succ_cons,List.drop_zero]
   refine Xo 2 fun N1 hN1=>?_
   simp (maxSteps:=2000000) only [s20,↓Za,↓Zj,↓Zr,↓Ze,↓Zi,↓Zs,↓Zf,↓Zo,↓Zg,↓Zb,↓Zc,↓vdn,vup,Zh,Zn,Zl,Zm,Zk,List.map_cons,List.map_nil,cond_true,cond_false,aop,Zv,Zq,Zp,ev,sput,Zt,Zy,Ya,unK,Zd,Zw,Nat.reduceBEq,Nat.reduceAdd,Int.reduceBEq,Int.reduceBNe,Int.reduceLT,Zu,Zz,tup,tyf,List.take_succ_cons,List.take_zero]
   refine hN1 _ _ ?_
   clear hN1 N1
   simp only [List.drop_succ_cons,List.drop_zero]
   refine Xo 2 fun N1 hN1=>?_
   simp (maxSteps:=2000000) only [s20,↓Za,↓Zj,↓Zr,↓Ze,↓Zi,↓Zs,↓Zf,↓Zo,↓Zg,↓Zb,↓Zc,↓vdn,vup,Zh,Zn,Zl,Zm,Zk,List.map_cons,List.map_nil,cond_true,cond_false,aop,Zv,Zq,Zp,ev,sput,Zt,Zy,Ya,unK,Zd,Zw,Nat.reduceBEq,Nat.reduceAdd,Int.reduceBEq,Int.reduceBNe,Int.reduceLT,Zu,Zz,tup,tyf,List.take_succ_cons,List.take_zero]
   refine hN1 _ _ ?_
   clear hN1 N1
   simp only [List.drop_succ_cons,List.drop_zero]
   refine Xo 2 fun N1 hN1=>?_
   simp (maxSteps:=2000000) only [s20,↓Za,↓Zj,↓Zr,↓Ze,↓Zi,↓Zs,↓Zf,↓Zo,↓Zg,↓Zb,↓Zc,↓vdn,vup,Zh,Zn,Zl,Zm,Zk,List.map_cons,List.map_nil,cond_true,cond_false,aop,Zv,Zq,Zp,ev,sput,Zt,Zy,Ya,unK,Zd,Zw,Nat.reduceBEq,Nat.reduceAdd,Int.reduceBEq,Int.reduceBNe,Int.reduceLT,Zu,Zz,tup,tyf,List.take_succ_cons,List.take_zero]
   refine hN1 _ _ ?_
   clear hN1 N1
   simp only [List.drop_succ_cons,List.drop_zero]
   try simp (maxSteps:=2000000) only [s20,↓Za,↓Zj,↓Zr,↓Ze,↓Zi,↓Zs,↓Zf,↓Zo,↓Zg,↓Zb,↓Zc,↓vdn,vup,Zh,Zn,Zl,Zm,Zk,List.map_cons,List.map_nil,cond_true,cond_false,aop,Zv,Zq,Zp,ev,sput,Zt,Zy,Ya,unK,Zd,Zw,Nat.reduceBEq,Nat.reduceAdd,Int.reduceBEq,Int.reduceBNe,Int.reduceLT,Zu,Zz,tup,tyf]
   refine hN2 [(0,Zx (c:Nat)),(1,.int .i64 0),(4,.int .i64 0),(5,.int .i64 0),(22,.bool true)] _ _ ?_ (by simp (maxSteps:=2000000) only [↓Za,↓Zj,↓Zr,↓Ze,↓Zi,↓Zs,↓Zf,↓Zo,↓Zg,↓Zb,↓Zc,↓vdn,vup,Zh,Zn,Zl,Zm,Zk,List.map_cons,List.map_nil,cond_true,cond_false,aop,Zv,Zq,Zp,ev,sput,Zt,Zy,Ya,unK,Zd,Zw,Nat.reduceBEq,Nat.reduceAdd,Int.reduceBEq,Int.reduceBNe,Int.reduceLT,Zu,Zz,tup,tyf])
   clear hN2
   try clear N2
   refine Xl rfl ?_
   refine Yf ?_
   try simp (maxSteps:=2000000) only [s20,↓Za,↓Zj,↓Zr,↓Ze,↓Zi,↓Zs,↓Zf,↓Zo,↓Zg,↓Zb,↓Zc,↓vdn,vup,Zh,Zn,Zl,Zm,Zk,List.map_cons,List.map_nil,cond_true,cond_false,aop,Zv,Zq,Zp,ev,sput,Zt,Zy,Ya,unK,Zd,Zw,Nat.reduceBEq,Nat.reduceAdd,Int.reduceBEq,Int.reduceBNe,Int.reduceLT,Zu,Zz,tup,tyf]
   exact ⟨by rw [leastV,if_neg (by omega)],Ext.refl _ _⟩
 have q1 : ¬ ((c:Nat):Int)<1:=by omega
 by_cases h2:40<c
 · have q2:(40:Int)<((c:Nat):Int):=by omega
   refine Yc fun N3 hN3=>?_
   refine Xo 3 fun N1 hN1=>?_
   simp (maxSteps:=2000000) only [s20,↓Za,↓Zj,↓Zr,↓Ze,↓Zi,↓Zs,↓Zf,↓Zo,↓Zg,↓Zb,↓Zc,↓vdn,vup,Zh,Zn,Zl,Zm,Zk,List.map_cons,List.map_nil,cond_true,cond_false,aop,Zv,Zq,Zp,ev,sput,Zt,Zy,Ya,unK,Zd,Zw,Nat.reduceBEq,Nat.reduceAdd,Int.reduceBEq,Int.reduceBNe,Int.reduceLT,Zu,Zz,tup,tyf,List.take_succ_cons,List.take_zero,q1,decide_false]
   refine hN1 _ _ ?_
   clear hN1 N1
   simp only [List.drop_succ_cons,List.drop_zero]
   refine Xo 3 fun N1 hN1=>?_
   simp (maxSteps:=2000000) only [s20,↓Za,↓Zj,↓Zr,↓Ze,↓Zi,↓Zs,↓Zf,↓Zo,↓Zg,↓Zb,↓Zc,↓vdn,vup,Zh,Zn,Zl,Zm,Zk,List.map_cons,List.map_nil,cond_true,cond_false,aop,Zv,Zq,Zp,ev,sput,Zt,Zy,Ya,unK,Zd,Zw,Nat.reduceBEq,Nat.reduceAdd,Int.reduceBEq,Int.reduceBNe,Int.reduceLT,Zu,Zz,tup,tyf,List.take_succ_cons,List.take_zero,gt_iff_lt,q2,decide_true]
   refine hN1 _ _ ?_
   clear hN1 N1
   simp only [List.drop_succ_cons,List.drop_zero]
   refine Xo 3 fun N1 hN1=>?_
   simp (maxSteps:=2000000) only [s20,↓Za,↓Zj,↓Zr,↓Ze,↓Zi,↓Zs,↓Zf,↓Zo,↓Zg,↓Zb,↓Zc,↓vdn,vup,Zh,Zn,Zl,Zm,Zk,List.map_cons,List.map_nil,cond_true,cond_false,aop,Zv,Zq,Zp,ev,sput,Zt,Zy,Ya,unK,Zd,Zw,Nat.reduceBEq,Nat.reduceAdd,Int.reduceBEq,Int.reduceBNe,Int.reduceLT,Zu,Zz,tup,tyf,List.take_succ_cons,List.take_zero]
   refine hN1 _ _ ?_
   clear hN1 N1
   simp only [List.drop_succ_cons,List.drop_zero]
   refine Xo 3 fun N1 hN1=>?_
   simp (maxSteps:=2000000) only [s20,↓Za,↓Zj,↓Zr,↓Ze,↓Zi,↓Zs,↓Zf,↓Zo,↓Zg,↓Zb,↓Zc,↓vdn,vup,Zh,Zn,Zl,Zm,Zk,List.map_cons,List.map_nil,cond_true,cond_false,aop,Zv,Zq,Zp,ev,sput,Zt,Zy,Ya,unK,Zd,Zw,Nat.reduceBEq,Nat.reduceAdd,Int.reduceBEq,Int.reduceBNe,Int.reduceLT,Zu,Zz,tup,tyf,List.take_succ_cons,List.take_zero]
   refine hN1 _ _ ?_
   clear hN1 N1
   simp only [List.drop_succ_cons,List.drop_zero]
   refine Xo 2 fun N1 hN1=>?_
   simp (maxSteps:=2000000) only [s20,↓Za,↓Zj,↓Zr,↓Ze,↓Zi,↓Zs,↓Zf,↓Zo,↓Zg,↓Zb,↓Zc,↓vdn,vup,Zh,Zn,Zl,Zm,Zk,List.map_cons,List.map_nil,cond_true,cond_false,aop,Zv,Zq,Zp,ev,sput,Zt,Zy,Ya,unK,Zd,Zw,Nat.reduceBEq,Nat.reduceAdd,Int.reduceBEq,Int.reduceBNe,Int.reduceLT,Zu,Zz,tup,tyf,List.take_succ_cons,List.take_zero]
   refine hN1 _ _ ?_
   clear hN1 N1
   simp only [List.drop_succ_cons,List.drop_zero]
   try simp (maxSteps:=2000000) only [s20,↓Za,↓Zj,↓Zr,↓Ze,↓Zi,↓Zs,↓Zf,↓Zo,↓Zg,↓Zb,↓Zc,↓vdn,vup,Zh,Zn,Zl,Zm,Zk,List.map_cons,List.map_nil,cond_true,cond_false,aop,Zv,Zq,Zp,ev,sput,Zt,Zy,Ya,unK,Zd,Zw,Nat.reduceBEq,Nat.reduceAdd,Int.reduceBEq,Int.reduceBNe,Int.reduceLT,Zu,Zz,tup,tyf]
   refine hN3 [(0,Zx (c:Nat)),(1,.int .i64 0),(4,.int .i64 0),(5,.int .i64 0),(22,.bool true)] _ _ ?_ (by simp (maxSteps:=2000000) only [↓Za,↓Zj,↓Zr,↓Ze,↓Zi,↓Zs,↓Zf,↓Zo,↓Zg,↓Zb,↓Zc,↓vdn,vup,Zh,Zn,Zl,Zm,Zk,List.map_cons,List.map_nil,cond_true,cond_false,aop,Zv,Zq,Zp,ev,sput,Zt,Zy,Ya,unK,Zd,Zw,Nat.reduceBEq,Nat.reduceAdd,Int.reduceBEq,Int.reduceBNe,Int.reduceLT,Zu,Zz,tup,tyf])
   clear hN3
   try clear N3
   refine Xl rfl ?_
   refine Yf ?_
   try simp (maxSteps:=2000000) only [s20,↓Za,↓Zj,↓Zr,↓Ze,↓Zi,↓Zs,↓Zf,↓Zo,↓Zg,↓Zb,↓Zc,↓vdn,vup,Zh,Zn,Zl,Zm,Zk,List.map_cons,List.map_nil,cond_true,cond_false,aop,Zv,Zq,Zp,ev,sput,Zt,Zy,Ya,unK,Zd,Zw,Nat.reduceBEq,Nat.reduceAdd,Int.reduceBEq,Int.reduceBNe,Int.reduceLT,Zu,Zz,tup,tyf]
   exact ⟨by rw [leastV,if_neg (by omega)],Ext.refl _ _⟩
 have q2 : ¬ (40:Int)<((c:Nat):Int):=by omega
 have hc40:c≤40:=by omega
 refine Yc fun N4 hN4=>?_
 refine Xo 3 fun N1 hN1=>?_
 simp (maxSteps:=2000000) only [s20,↓Za,↓Zj,↓Zr,↓Ze,↓Zi,↓Zs,↓Zf,↓Zo,↓Zg,↓Zb,↓Zc,↓vdn,vup,Zh,Zn,Zl,Zm,Zk,List.map_cons,List.map_nil,cond_true,cond_false,aop,Zv,Zq,Zp,ev,sput,Zt,Zy,Ya,unK,Zd,Zw,Nat.reduceBEq,Nat.reduceAdd,Int.reduceBEq,Int.reduceBNe,Int.reduceLT,Zu,Zz,tup,tyf,List.take_succ_cons,List.take_zero,q1,decide_false]
 refine hN1 _ _ ?_
 clear hN1 N1
 simp only [List.drop_succ_cons,List.drop_zero]
 refine Xo 3 fun N1 hN1=>?_
 simp (maxSteps:=2000000) only [s20,↓Za,↓Zj,↓Zr,↓Ze,↓Zi,↓Zs,↓Zf,↓Zo,↓Zg,↓Zb,↓Zc,↓vdn,vup,Zh,Zn,Zl,Zm,Zk,List.map_cons,List.map_nil,cond_true,cond_false,aop,Zv,Zq,Zp,ev,sput,Zt,Zy,Ya,unK,Zd,Zw,Nat.reduceBEq,Nat.reduceAdd,Int.reduceBEq,Int.reduceBNe,Int.reduceLT,Zu,Zz,tup,tyf,List.take_succ_cons,List.take_zero,gt_iff_lt,q2,decide_false]
 refine hN1 _ _ ?_
 clear hN1 N1
 simp only [List.drop_succ_cons,List.drop_zero]
 refine Xo 3 fun N1 hN1=>?_
 simp (maxSteps:=2000000) only [s20,↓Za,↓Zj,↓Zr,↓Ze,↓Zi,↓Zs,↓Zf,↓Zo,↓Zg,↓Zb,↓Zc,↓vdn,vup,Zh,Zn,Zl,Zm,Zk,List.map_cons,List.map_nil,cond_true,cond_false,aop,Zv,Zq,Zp,ev,sput,Zt,Zy,Ya,unK,Zd,Zw,Nat.reduceBEq,Nat.reduceAdd,Int.reduceBEq,Int.reduceBNe,Int.reduceLT,Zu,Zz,tup,tyf,List.take_succ_cons,List.take_zero,z0,decide_false]
 refine hN1 _ _ ?_
 clear hN1 N1
 simp only [List.drop_succ_cons,List.drop_zero]
 refine Xo 3 fun N1 hN1=>?_
 simp (maxSteps:=2000000) only [s20,↓Za,↓Zj,↓Zr,↓Ze,↓Zi,↓Zs,↓Zf,↓Zo,↓Zg,↓Zb,↓Zc,↓vdn,vup,Zh,Zn,Zl,Zm,Zk,List.map_cons,List.map_nil,cond_true,cond_false,aop,Zv,Zq,Zp,ev,sput,Zt,Zy,Ya,unK,Zd,Zw,Nat.reduceBEq,Nat.reduceAdd,Int.reduceBEq,Int.reduceBNe,Int.reduceLT,Zu,Zz,tup,tyf,List.take_succ_cons,List.take_zero,gt_iff_lt,z2,decide_false]
 refine hN1 _ _ ?_
 clear hN1 N1
 simp only [List.drop_succ_cons,List.drop_zero]
 refine Xo 1 fun N1 hN1=>?_
 simp (maxSteps:=2000000) only [s20,↓Za,↓Zj,↓Zr,↓Ze,↓Zi,↓Zs,↓Zf,↓Zo,↓Zg,↓Zb,↓Zc,↓vdn,vup,Zh,Zn,Zl,Zm,Zk,List.map_cons,List.map_nil,cond_true,cond_false,aop,Zv,Zq,Zp,ev,sput,Zt,Zy,Ya,unK,Zd,Zw,Nat.reduceBEq,Nat.reduceAdd,Int.reduceBEq,Int.reduceBNe,Int.reduceLT,Zu,Zz,tup,tyf,List.take_succ_cons,List.take_zero,gt_iff_lt,show ¬ (2:Int)<0 by decide,decide_false]
 refine hN1 _ _ ?_
 clear hN1 N1
 simp only [List.drop_succ_cons,List.drop_zero]
 try simp (maxSteps:=2000000) only [s20,↓Za,↓Zj,↓Zr,↓Ze,↓Zi,↓Zs,↓Zf,↓Zo,↓Zg,↓Zb,↓Zc,↓vdn,vup,Zh,Zn,Zl,Zm,Zk,List.map_cons,List.map_nil,cond_true,cond_false,aop,Zv,Zq,Zp,ev,sput,Zt,Zy,Ya,unK,Zd,Zw,Nat.reduceBEq,Nat.reduceAdd,Int.reduceBEq,Int.reduceBNe,Int.reduceLT,Zu,Zz,tup,tyf,gt_iff_lt,show ¬ (2:Int)<0 by decide,decide_false]
 refine hN4 [(0,Zx (c:Nat)),(1,.int .i64 0),(4,.int .i64 0),(5,.int .i64 0),(22,.bool false)] _ _ ?_ (by simp (maxSteps:=2000000) only [↓Za,↓Zj,↓Zr,↓Ze,↓Zi,↓Zs,↓Zf,↓Zo,↓Zg,↓Zb,↓Zc,↓vdn,vup,Zh,Zn,Zl,Zm,Zk,List.map_cons,List.map_nil,cond_true,cond_false,aop,Zv,Zq,Zp,ev,sput,Zt,Zy,Ya,unK,Zd,Zw,Nat.reduceBEq,Nat.reduceAdd,Int.reduceBEq,Int.reduceBNe,Int.reduceLT,Zu,Zz,tup,tyf])
 clear hN4
 try clear N4
 refine Xe rfl ?_
 refine Yf ?_
 try simp (maxSteps:=2000000) only [s20,↓Za,↓Zj,↓Zr,↓Ze,↓Zi,↓Zs,↓Zf,↓Zo,↓Zg,↓Zb,↓Zc,↓vdn,vup,Zh,Zn,Zl,Zm,Zk,List.map_cons,List.map_nil,cond_true,cond_false,aop,Zv,Zq,Zp,ev,sput,Zt,Zy,Ya,unK,Zd,Zw,Nat.reduceBEq,Nat.reduceAdd,Int.reduceBEq,Int.reduceBNe,Int.reduceLT,Zu,Zz,tup,tyf]
 refine hA [(0,Zx (c:Nat)),(1,.int .i64 0),(4,.int .i64 0),(5,.int .i64 0)] _ _ ?_ (by simp (maxSteps:=2000000) only [↓Za,↓Zj,↓Zr,↓Ze,↓Zi,↓Zs,↓Zf,↓Zo,↓Zg,↓Zb,↓Zc,↓vdn,vup,Zh,Zn,Zl,Zm,Zk,List.map_cons,List.map_nil,cond_true,cond_false,aop,Zv,Zq,Zp,ev,sput,Zt,Zy,Ya,unK,Zd,Zw,Nat.reduceBEq,Nat.reduceAdd,Int.reduceBEq,Int.reduceBNe,Int.reduceLT,Zu,Zz,tup,tyf])
 clear hA
 try clear A
 have hmk : ∀ {K:Value→Yb→Prop},makeK prog h 105 (.int .i64 1) (.int .i64 1) K=K (.slice (some ⟨h.length,0,none⟩) 1 1) (h++[.ints [0] 3 false]):=fun {K}=>makeI el_105 zero_3 info_3 (by decide) (by decide)
 obtain ⟨b0,hb0⟩ : ∃ b0,b0=h.length:=⟨_,rfl⟩
 refine Yc fun N5 hN5=>?_
 simp (maxSteps:=2000000) only [s20,↓Za,↓Zj,↓Zr,↓Ze,↓Zi,↓Zs,↓Zf,↓Zo,↓Zg,↓Zb,↓Zc,↓vdn,vup,Zh,Zn,Zl,Zm,Zk,List.map_cons,List.map_nil,cond_true,cond_false,aop,Zv,Zq,Zp,ev,sput,Zt,Zy,Ya,unK,Zd,Zw,Nat.reduceBEq,Nat.reduceAdd,Int.reduceBEq,Int.reduceBNe,Int.reduceLT,Zu,Zz,tup,tyf,show addV .i64 0 1=1 from rfl,hmk]
 rw [← hb0]
 refine hN5 [(0,Zx (c:Nat)),(1,.int .i64 0),(4,.int .i64 0),(5,.int .i64 0),(6,.slice (some ⟨b0,0,none⟩) 1 1)] _ _ ?_ (by simp (maxSteps:=2000000) only [↓Za,↓Zj,↓Zr,↓Ze,↓Zi,↓Zs,↓Zf,↓Zo,↓Zg,↓Zb,↓Zc,↓vdn,vup,Zh,Zn,Zl,Zm,Zk,List.map_cons,List.map_nil,cond_true,cond_false,aop,Zv,Zq,Zp,ev,sput,Zt,Zy,Ya,unK,Zd,Zw,Nat.reduceBEq,Nat.reduceAdd,Int.reduceBEq,Int.reduceBNe,Int.reduceLT,Zu,Zz,tup,tyf])
 clear hN5
 try clear N5
 have hst : ∀ {K:Yb→Prop},Xt prog (h++[Blk.ints [0] 3 false]) 3 (.pointer (some ⟨b0,0,none⟩)) (Zx (c:Nat)) K=K (h++[Blk.ints [(c:Int)] 3 false]):=fun {K}=>by
  rw [Or.storeX (show (h++[Blk.ints [0] 3 false])[b0]? = some (.ints [0] 3 false) by rw [hb0]; exact Yt _ _) Xc (by simp),hb0,setEnd]; rfl
 refine Yc fun N6 hN6=>?_
 simp (maxSteps:=2000000) only [s20,↓Za,↓Zj,↓Zr,↓Ze,↓Zi,↓Zs,↓Zf,↓Zo,↓Zg,↓Zb,↓Zc,↓vdn,vup,Zh,Zn,Zl,Zm,Zk,List.map_cons,List.map_nil,cond_true,cond_false,aop,Zv,Zq,Zp,ev,sput,Zt,Zy,Ya,unK,Zd,Zw,Nat.reduceBEq,Nat.reduceAdd,Int.reduceBEq,Int.reduceBNe,Int.reduceLT,Zu,Zz,tup,tyf,idx0,hst]
 have hv:IntSl (h++[.ints [(c:Int)] 3 false]) (.slice (some ⟨b0,0,none⟩) 1 1) [(c:Int)]:=by rw [hb0]; exact newSl h c
 have hE1:Ext (fun _=>False) h (h++[.ints [(c:Int)] 3 false]):=Ext.app _ _ _
 generalize h++[.ints [(c:Int)] 3 false]=H1 at hv hE1 ⊢
 refine hN6 [(0,Zx (c:Nat)),(1,.int .i64 0),(4,.int .i64 0),(5,.int .i64 0),(6,.slice (some ⟨b0,0,none⟩) 1 1)] _ _ ?_ (by simp (maxSteps:=2000000) only [↓Za,↓Zj,↓Zr,↓Ze,↓Zi,↓Zs,↓Zf,↓Zo,↓Zg,↓Zb,↓Zc,↓vdn,vup,Zh,Zn,Zl,Zm,Zk,List.map_cons,List.map_nil,cond_true,cond_false,aop,Zv,Zq,Zp,ev,sput,Zt,Zy,Ya,unK,Zd,Zw,Nat.reduceBEq,Nat.reduceAdd,Int.reduceBEq,Int.reduceBNe,Int.reduceLT,Zu,Zz,tup,tyf])
 clear hN6
 try clear N6
 have d1:WK (H1.length+1) H1.length (H1++[Blk.map []]++[Blk.cells [.map (some H1.length)] 109 false]):=by
  refine ⟨?_,[],Yp (Yt _ _) _,fun p hp=>(List.not_mem_nil hp).elim,fun n q v hv=>by cases hv⟩
  have:=Yt (H1++[Blk.map []]) (Blk.cells [.map (some H1.length)] 109 false)
  rw [List.length_append,List.length_singleton] at this
  exact this
 have hE2:Ext (fun _=>False) H1 (H1++[Blk.map []]++[Blk.cells [.map (some H1.length)] 109 false]):=by rw [List.append_assoc]; exact Ext.app _ _ _
 refine Yc fun N7 hN7=>?_
 simp (maxSteps:=2000000) only [s20,↓Za,↓Zj,↓Zr,↓Ze,↓Zi,↓Zs,↓Zf,↓Zo,↓Zg,↓Zb,↓Zc,↓vdn,vup,Zh,Zn,Zl,Zm,Zk,List.map_cons,List.map_nil,cond_true,cond_false,aop,Zv,Zq,Zp,ev,sput,Zt,Zy,Ya,unK,Zd,Zw,Nat.reduceBEq,Nat.reduceAdd,Int.reduceBEq,Int.reduceBNe,Int.reduceLT,Zu,Zz,tup,tyf,isPick_map,makeMapK,bld109,boxK,esz_109,cellsOf,Option.isSome_some,Xh,List.length_append,List.length_cons,List.length_nil,Nat.zero_add]
 have hv2:=Or.IntSl_ext hv hE2
 have hlm:h.length≤H1.length:=hE1.1
 have hEh:=hE1.trans hE2
 generalize H1++[Blk.map []]++[Blk.cells [.map (some H1.length)] 109 false]=H2 at d1 hE2 hv2 hEh ⊢
 generalize H1.length=bm at d1 hlm ⊢
 refine hN7 [(0,Zx (c:Nat)),(1,.int .i64 0),(4,.int .i64 0),(5,.int .i64 0),(6,.slice (some ⟨b0,0,none⟩) 1 1),(7,ptB (bm+1))] _ _ ?_ (by simp (maxSteps:=2000000) only [↓Za,↓Zj,↓Zr,↓Ze,↓Zi,↓Zs,↓Zf,↓Zo,↓Zg,↓Zb,↓Zc,↓vdn,vup,Zh,Zn,Zl,Zm,Zk,List.map_cons,List.map_nil,cond_true,cond_false,aop,Zv,Zq,Zp,ev,sput,Zt,Zy,Ya,unK,Zd,Zw,Nat.reduceBEq,Nat.reduceAdd,Int.reduceBEq,Int.reduceBNe,Int.reduceLT,Zu,Zz,tup,tyf])
 clear hN7
 try clear N7
 refine Yc fun N8 hN8=>?_
 simp (maxSteps:=2000000) only [s20,↓Za,↓Zj,↓Zr,↓Ze,↓Zi,↓Zs,↓Zf,↓Zo,↓Zg,↓Zb,↓Zc,↓vdn,vup,Zh,Zn,Zl,Zm,Zk,List.map_cons,List.map_nil,cond_true,cond_false,aop,Zv,Zq,Zp,ev,sput,Zt,Zy,Ya,unK,Zd,Zw,Nat.reduceBEq,Nat.reduceAdd,Int.reduceBEq,Int.reduceBNe,Int.reduceLT,Zu,Zz,tup,tyf]
 refine hN8 [(0,Zx (c:Nat)),(1,.int .i64 0),(4,.int .i64 0),(5,.int .i64 0),(6,.slice (some ⟨b0,0,none⟩) 1 1),(7,ptB (bm+1)),(8,.int .i64 0)] _ _ ?_ (by simp (maxSteps:=2000000) only [↓Za,↓Zj,↓Zr,↓Ze,↓Zi,↓Zs,↓Zf,↓Zo,↓Zg,↓Zb,↓Zc,↓vdn,vup,Zh,Zn,Zl,Zm,Zk,List.map_cons,List.map_nil,cond_true,cond_false,aop,Zv,Zq,Zp,ev,sput,Zt,Zy,Ya,unK,Zd,Zw,Nat.reduceBEq,Nat.reduceAdd,Int.reduceBEq,Int.reduceBNe,Int.reduceLT,Zu,Zz,tup,tyf])
 clear hN8
 try clear N8
 refine Yg fun M hM=>?_
 refine Yo ?_
 refine Yn fun Q hQ=>?_
 refine Xx (γ:=Nat×Yb) (fun s=>s.1≤6∧WK (bm+1) bm s.2∧Ext (fun b=>b=bm) H2 s.2∧∀ k,k<s.1→¬ c≤2 ^ k)
  (fun s=>([(0,Zx (c:Nat)),(1,.int .i64 0),(4,.int .i64 0),(5,.int .i64 0),(6,.slice (some ⟨b0,0,none⟩) 1 1),(7,ptB (bm+1)),(8,Zx (s.1:Nat))],s.2)) (fun s=>7-s.1) (0,H2) ⟨Nat.zero_le _,d1,Ext.refl _ _,fun k hk=>absurd hk (Nat.not_lt_zero k)⟩ (by simp (maxSteps:=2000000) only [↓Za,↓Zj,↓Zr,↓Ze,↓Zi,↓Zs,↓Zf,↓Zo,↓Zg,↓Zb,↓Zc,↓vdn,vup,Zh,Zn,Zl,Zm,Zk,List.map_cons,List.map_nil,cond_true,cond_false,aop,Zv,Zq,Zp,ev,sput,Zt,Zy,Ya,unK,Zd,Zw,Nat.reduceBEq,Nat.reduceAdd,Int.reduceBEq,Int.reduceBNe,Int.reduceLT,Zu,Zz,tup,tyf,Int.natCast_zero]) rfl ?_
 rintro ⟨q,H⟩ ⟨hq,hkH,hEH,hno⟩
 simp only at hq hkH hEH hno
 refine Yn fun Q2 hQ2=>?_
 simp only [l20_0]
 refine Yg fun C hC=>?_
 refine Yc fun N9 hN9=>?_
 simp (maxSteps:=2000000) only [s20,↓Za,↓Zj,↓Zr,↓Ze,↓Zi,↓Zs,↓Zf,↓Zo,↓Zg,↓Zb,↓Zc,↓vdn,vup,Zh,Zn,Zl,Zm,Zk,List.map_cons,List.map_nil,cond_true,cond_false,aop,Zv,Zq,Zp,ev,sput,Zt,Zy,Ya,unK,Zd,Zw,Nat.reduceBEq,Nat.reduceAdd,Int.reduceBEq,Int.reduceBNe,Int.reduceLT,Zu,Zz,tup,tyf,Yz,List.nil_append,List.append_nil,List.toList_toArray,List.cons_append]
 refine (wins_call q (by omega) H (.slice (some ⟨b0,0,none⟩) 1 1) c (by omega) (d1.keep hv2 hEH) hkH).mono ?_
 rintro _ H3 ⟨rfl,hk3,hE3⟩
 by_cases hw:c≤2 ^ q
 · rw [decide_eq_true hw]
   try simp (maxSteps:=2000000) only [s20,↓Za,↓Zj,↓Zr,↓Ze,↓Zi,↓Zs,↓Zf,↓Zo,↓Zg,↓Zb,↓Zc,↓vdn,vup,Zh,Zn,Zl,Zm,Zk,List.map_cons,List.map_nil,cond_true,cond_false,aop,Zv,Zq,Zp,ev,sput,Zt,Zy,Ya,unK,Zd,Zw,Nat.reduceBEq,Nat.reduceAdd,Int.reduceBEq,Int.reduceBNe,Int.reduceLT,Zu,Zz,tup,tyf]
   refine hN9 [(0,Zx (c:Nat)),(1,.int .i64 0),(4,.int .i64 0),(5,.int .i64 0),(6,.slice (some ⟨b0,0,none⟩) 1 1),(7,ptB (bm+1)),(8,Zx (q:Nat)),(36,.bool false)] _ _ ?_ (by simp (maxSteps:=2000000) only [↓Za,↓Zj,↓Zr,↓Ze,↓Zi,↓Zs,↓Zf,↓Zo,↓Zg,↓Zb,↓Zc,↓vdn,vup,Zh,Zn,Zl,Zm,Zk,List.map_cons,List.map_nil,cond_true,cond_false,aop,Zv,Zq,Zp,ev,sput,Zt,Zy,Ya,unK,Zd,Zw,Nat.reduceBEq,Nat.reduceAdd,Int.reduceBEq,Int.reduceBNe,Int.reduceLT,Zu,Zz,tup,tyf])
   clear hN9
   try clear N9
   refine Xe rfl ?_
   refine Yf ?_
   try simp (maxSteps:=2000000) only [s20,↓Za,↓Zj,↓Zr,↓Ze,↓Zi,↓Zs,↓Zf,↓Zo,↓Zg,↓Zb,↓Zc,↓vdn,vup,Zh,Zn,Zl,Zm,Zk,List.map_cons,List.map_nil,cond_true,cond_false,aop,Zv,Zq,Zp,ev,sput,Zt,Zy,Ya,unK,Zd,Zw,Nat.reduceBEq,Nat.reduceAdd,Int.reduceBEq,Int.reduceBNe,Int.reduceLT,Zu,Zz,tup,tyf]
   refine hQ2 _ _ _ (hQ _ _ _ ?_)
   simp (maxSteps:=2000000) only [s20,↓Za,↓Zj,↓Zr,↓Ze,↓Zi,↓Zs,↓Zf,↓Zo,↓Zg,↓Zb,↓Zc,↓vdn,vup,Zh,Zn,Zl,Zm,Zk,List.map_cons,List.map_nil,cond_true,cond_false,aop,Zv,Zq,Zp,ev,sput,Zt,Zy,Ya,unK,Zd,Zw,Nat.reduceBEq,Nat.reduceAdd,Int.reduceBEq,Int.reduceBNe,Int.reduceLT,Zu,Zz,tup,tyf,if_true]
   refine hM [(0,Zx (c:Nat)),(1,.int .i64 0),(4,.int .i64 0),(5,.int .i64 0),(6,.slice (some ⟨b0,0,none⟩) 1 1),(7,ptB (bm+1)),(8,Zx (q:Nat)),(36,.bool false)] _ _ ?_ (by simp (maxSteps:=2000000) only [↓Za,↓Zj,↓Zr,↓Ze,↓Zi,↓Zs,↓Zf,↓Zo,↓Zg,↓Zb,↓Zc,↓vdn,vup,Zh,Zn,Zl,Zm,Zk,List.map_cons,List.map_nil,cond_true,cond_false,aop,Zv,Zq,Zp,ev,sput,Zt,Zy,Ya,unK,Zd,Zw,Nat.reduceBEq,Nat.reduceAdd,Int.reduceBEq,Int.reduceBNe,Int.reduceLT,Zu,Zz,tup,tyf])
   clear hM
   try clear M
   refine Yf ?_
   try simp (maxSteps:=2000000) only [s20,↓Za,↓Zj,↓Zr,↓Ze,↓Zi,↓Zs,↓Zf,↓Zo,↓Zg,↓Zb,↓Zc,↓vdn,vup,Zh,Zn,Zl,Zm,Zk,List.map_cons,List.map_nil,cond_true,cond_false,aop,Zv,Zq,Zp,ev,sput,Zt,Zy,Ya,unK,Zd,Zw,Nat.reduceBEq,Nat.reduceAdd,Int.reduceBEq,Int.reduceBNe,Int.reduceLT,Zu,Zz,tup,tyf]
   refine ⟨by rw [leastV,if_pos ⟨by omega,hc40⟩,leastQ_of (by omega) hw hno],⟨Nat.le_trans hEh.1 (Nat.le_trans hEH.1 hE3.1),fun i hi hf=>?_⟩⟩
   rw [hE3.2 i (Nat.lt_of_lt_of_le hi (Nat.le_trans hEh.1 hEH.1)) (by omega),hEH.2 i (Nat.lt_of_lt_of_le hi hEh.1) (by omega)]
   exact hEh.2 i hi hf
 · rw [decide_eq_false hw]
   have hq5:q<6:=by
    apply Classical.byContradiction
    intro hc
    obtain rfl:q=6:=by omega
    exact hw (Nat.le_trans hc40 (by decide))
   try simp (maxSteps:=2000000) only [s20,↓Za,↓Zj,↓Zr,↓Ze,↓Zi,↓Zs,↓Zf,↓Zo,↓Zg,↓Zb,↓Zc,↓vdn,vup,Zh,Zn,Zl,Zm,Zk,List.map_cons,List.map_nil,cond_true,cond_false,aop,Zv,Zq,Zp,ev,sput,Zt,Zy,Ya,unK,Zd,Zw,Nat.reduceBEq,Nat.reduceAdd,Int.reduceBEq,Int.reduceBNe,Int.reduceLT,Zu,Zz,tup,tyf]
   refine hN9 [(0,Zx (c:Nat)),(1,.int .i64 0),(4,.int .i64 0),(5,.int .i64 0),(6,.slice (some ⟨b0,0,none⟩) 1 1),(7,ptB (bm+1)),(8,Zx (q:Nat)),(36,.bool true)] _ _ ?_ (by simp (maxSteps:=2000000) only [↓Za,↓Zj,↓Zr,↓Ze,↓Zi,↓Zs,↓Zf,↓Zo,↓Zg,↓Zb,↓Zc,↓vdn,vup,Zh,Zn,Zl,Zm,Zk,List.map_cons,List.map_nil,cond_true,cond_false,aop,Zv,Zq,Zp,ev,sput,Zt,Zy,Ya,unK,Zd,Zw,Nat.reduceBEq,Nat.reduceAdd,Int.reduceBEq,Int.reduceBNe,Int.reduceLT,Zu,Zz,tup,tyf])
   clear hN9
   try clear N9
   refine Xl rfl ?_
   refine Yf ?_
   try simp (maxSteps:=2000000) only [s20,↓Za,↓Zj,↓Zr,↓Ze,↓Zi,↓Zs,↓Zf,↓Zo,↓Zg,↓Zb,↓Zc,↓vdn,vup,Zh,Zn,Zl,Zm,Zk,List.map_cons,List.map_nil,cond_true,cond_false,aop,Zv,Zq,Zp,ev,sput,Zt,Zy,Ya,unK,Zd,Zw,Nat.reduceBEq,Nat.reduceAdd,Int.reduceBEq,Int.reduceBNe,Int.reduceLT,Zu,Zz,tup,tyf]
   refine hC [(0,Zx (c:Nat)),(1,.int .i64 0),(4,.int .i64 0),(5,.int .i64 0),(6,.slice (some ⟨b0,0,none⟩) 1 1),(7,ptB (bm+1)),(8,Zx (q:Nat))] _ _ ?_ (by simp (maxSteps:=2000000) only [↓Za,↓Zj,↓Zr,↓Ze,↓Zi,↓Zs,↓Zf,↓Zo,↓Zg,↓Zb,↓Zc,↓vdn,vup,Zh,Zn,Zl,Zm,Zk,List.map_cons,List.map_nil,cond_true,cond_false,aop,Zv,Zq,Zp,ev,sput,Zt,Zy,Ya,unK,Zd,Zw,Nat.reduceBEq,Nat.reduceAdd,Int.reduceBEq,Int.reduceBNe,Int.reduceLT,Zu,Zz,tup,tyf])
   clear hC
   try clear C
   refine Yo ?_
   refine Yf ?_
   simp (maxSteps:=2000000) only [s20,↓Za,↓Zj,↓Zr,↓Ze,↓Zi,↓Zs,↓Zf,↓Zo,↓Zg,↓Zb,↓Zc,↓vdn,vup,Zh,Zn,Zl,Zm,Zk,List.map_cons,List.map_nil,cond_true,cond_false,aop,Zv,Zq,Zp,ev,sput,Zt,Zy,Ya,unK,Zd,Zw,Nat.reduceBEq,Nat.reduceAdd,Int.reduceBEq,Int.reduceBNe,Int.reduceLT,Zu,Zz,tup,tyf,add1 (show q<9223372036854775807 by omega)]
   refine hQ2 _ _ _ ⟨(q+1,H3),⟨hq5,hk3,hEH.trans hE3,fun k hk=>?_⟩,by simp only; omega,by simp (maxSteps:=2000000) only [↓Za,↓Zj,↓Zr,↓Ze,↓Zi,↓Zs,↓Zf,↓Zo,↓Zg,↓Zb,↓Zc,↓vdn,vup,Zh,Zn,Zl,Zm,Zk,List.map_cons,List.map_nil,cond_true,cond_false,aop,Zv,Zq,Zp,ev,sput,Zt,Zy,Ya,unK,Zd,Zw,Nat.reduceBEq,Nat.reduceAdd,Int.reduceBEq,Int.reduceBNe,Int.reduceLT,Zu,Zz,tup,tyf],rfl⟩
   by_cases he:k=q
   · rw [he]; exact hw
   · exact hno k (by simp only at hk; omega)
end Go.Proofs.Tryd.Am.Tg
namespace Go.Proofs.Tryd.Am.Or
open Go.Proofs.Tryd.Am
open Go.Am Ord
set_option maxRecDepth 100000
set_option maxHeartbeats 1000000
theorem bld2 {a b:Nat} {K:Value→Prop}:Wt prog 28 [(0,Zx (a:Nat)),(1,Zx (b:Nat))] K=K (.agg #[Zx (a:Nat),Zx (b:Nat)]):=by
 simp [Wt,zero_28,fillL,pl_28_0,pl_28_1,Ww,cellsOf,Yk]
end Go.Proofs.Tryd.Am.Or
namespace Go.Proofs.Tryd.Am.Or
open Go.Proofs.Tryd.Am
open Go.Am Ord
set_option maxRecDepth 100000
set_option maxHeartbeats 1000000
abbrev pV (p:Int×Int):Value:=.agg #[Zx p.1,Zx p.2]
def swP (L:List (Int×Int)) (j:Nat):List (Int×Int):=(L.set j (L.getD (j-1) (0,0))).set (j-1) (L.getD j (0,0))
theorem swP_perm {L:List (Int×Int)} {j:Nat} (h1:1≤j) (h2:j<L.length):(swP L j).Perm L:=by
 have:=Array.swap_perm (xs:=L.toArray) (i:=j) (j:=j-1) (by simpa using h2) (by simp; omega)
 rw [Array.perm_iff_toList_perm,Array.toList_swap] at this
 simpa [swP,List.getD,List.getElem?_eq_getElem h2,List.getElem?_eq_getElem (show j-1<L.length by omega)] using this
abbrev ovP (b n m:Nat):Value:=.slice (some ⟨b,0,some 0⟩) n (n+m)
theorem ovP_own {h:Yb} {b n:Nat} {L ys:List (Int×Int)} (hb:b<h.length) (hn:L.length=n):OwnP 28 (h.set b (.ints (Ym L++Ym ys) 28 false)) (ovP b n ys.length) L :=
 .inr ⟨b,ys,by rw [hn],Xf hb _⟩
theorem elemP_ovP (b n m i:Nat):Wq (ovP b n m) 2 i = .pointer (some ⟨b,i*2,none⟩):=by simp [Wq]
theorem ovP_load {h:Yb} {b n:Nat} {L ys:List (Int×Int)} {i:Nat} (hb:b<h.length) (hn:L.length=n) (hi:i<n) {K:Value→Prop} :
  Xu prog (h.set b (.ints (Ym L++Ym ys) 28 false)) 28 (.pointer (some ⟨b,i*2,none⟩)) K=K (pV (L.getD i (0,0))):=by
 have:=(ovP_own (h:=h) (b:=b) (n:=n) (L:=L) (ys:=ys) hb hn).pair.load shp_28 (i:=i) (by omega) K
 rw [elemP_ovP] at this
 exact this
theorem ovP_store {h:Yb} {b:Nat} {L ys:List (Int×Int)} {i:Nat} {p:Int×Int} (hb:b<h.length) (hi:i<L.length) {K:Yb→Prop} :
  Xt prog (h.set b (.ints (Ym L++Ym ys) 28 false)) 28 (.pointer (some ⟨b,i*2,none⟩)) (pV p) K=K (h.set b (.ints (Ym (L.set i p)++Ym ys) 28 false)):=by
 have:=storePI (P:=prog) (t:=28) (e:=28) (ps:=L) (x:=p.1) (y:=p.2) (i:=i) (ys:=Ym ys) (K:=K) (Xf hb _) shp_28 hi
 rw [List.set_set] at this
 exact this
theorem ovP_idx {b n m i:Nat} (hi:i<n) {K:Value→Prop}:Ys prog 26 (ovP b n m) (Zx (i:Nat)) K=K (.pointer (some ⟨b,i*2,none⟩)):=by
 simp only [Ys,el_26,esz_28,Int.natCast_nonneg,Int.toNat_natCast,Nat.zero_add,true_and,Int.ofNat_lt.2 hi]
theorem s176_callW [Tabs Tryd.prog] {args:List Value} {h:Yb} {Q:Value→Yb→Prop} (hsz:args.length≤53) (hk:AWS Tryd.prog 53 s176 (Zu Tryd.prog [] Q) (Zp 0 args) h):ACall Tryd.prog 176 args h Q :=
 Xy Tryd.func176 rfl (enters_of Tryd.func176 (by kernel_rfl) rfl) rfl rfl (by decide) s176_strip s176_ok hsz hk
theorem isortP_call [Tabs prog] {h:Yb} {b:Nat} {L0 ys:List (Int×Int)} {g:FuncId} {cap:Array Value} (hc : ∀ L x y,x∈L0→y∈L0→∃ r:Int,APure prog g ([pV x,pV y]++cap.toList) (h.set b (.ints (Ym L++Ym ys) 28 false)) (Zx r)) (hb:h[b]? = some (.ints (Ym L0++Ym ys) 28 false)) (hl:L0.length≤15) :
  ACall prog 176 [ovP b L0.length ys.length,.int .i64 0,Zx L0.length,.func (.func g) #[] cap] h fun _ h'=>∃ L:List (Int×Int),L.Perm L0∧h' = h.set b (.ints (Ym L++Ym ys) 28 false):=by
 have hlt:=Yu hb
 have h0:h=h.set b (.ints (Ym L0++Ym ys) 28 false):=by
  apply List.ext_getElem?
  intro i
  by_cases hi:b=i
  · subst hi; rw [Xf hlt,hb]
  · rw [List.getElem?_set_ne hi]
 obtain ⟨n,hn⟩ : ∃ n,L0.length=n:=⟨_,rfl⟩
 rw [hn] at hl ⊢
 refine s176_callW (by simp) ?_
 simp only [s176]
 have e01:addV .i64 0 1=1:=rfl
 refine Yc fun N1 hN1=>?_
 simp (maxSteps:=2000000) only [s176,↓Za,↓Zj,↓Zr,↓Ze,↓Zi,↓Zs,↓Zf,↓Zo,↓Zg,↓Zb,↓Zc,↓vdn,vup,Zh,Zn,Zl,Zm,Zk,List.map_cons,List.map_nil,cond_true,cond_false,aop,Zv,Zq,Zp,ev,sput,Zt,Zy,Ya,unK,Zd,Zw,Nat.reduceBEq,Nat.reduceAdd,Int.reduceBEq,Int.reduceBNe,Int.reduceLT,Zu,Zz,tup,tyf,e01]
 refine hN1 [(0,ovP b n ys.length),(1,.int .i64 0),(2,Zx n),(3,.func (.func g) #[] cap),(8,.int .i64 1)] _ _ ?_ (by simp (maxSteps:=2000000) only [↓Za,↓Zj,↓Zr,↓Ze,↓Zi,↓Zs,↓Zf,↓Zo,↓Zg,↓Zb,↓Zc,↓vdn,vup,Zh,Zn,Zl,Zm,Zk,List.map_cons,List.map_nil,cond_true,cond_false,aop,Zv,Zq,Zp,ev,sput,Zt,Zy,Ya,unK,Zd,Zw,Nat.reduceBEq,Nat.reduceAdd,Int.reduceBEq,Int.reduceBNe,Int.reduceLT,Zu,Zz,tup,tyf])
 clear hN1
 try clear N1
 refine Yo ?_
 refine Yn fun Q hQ=>?_
 refine Xx (γ:=Nat×List (Int×Int)) (fun s=>1≤s.1∧(s.1≤n∨s.1=1)∧s.2.Perm L0)
  (fun s=>([(0,ovP b n ys.length),(1,.int .i64 0),(2,Zx n),(3,.func (.func g) #[] cap),(8,Zx s.1)],h.set b (.ints (Ym s.2++Ym ys) 28 false))) (fun s=>n-s.1) (1,L0) ⟨Nat.le_refl _,.inr rfl,.refl _⟩ (by simp (maxSteps:=2000000) only [↓Za,↓Zj,↓Zr,↓Ze,↓Zi,↓Zs,↓Zf,↓Zo,↓Zg,↓Zb,↓Zc,↓vdn,vup,Zh,Zn,Zl,Zm,Zk,List.map_cons,List.map_nil,cond_true,cond_false,aop,Zv,Zq,Zp,ev,sput,Zt,Zy,Ya,unK,Zd,Zw,Nat.reduceBEq,Nat.reduceAdd,Int.reduceBEq,Int.reduceBNe,Int.reduceLT,Zu,Zz,tup,tyf,Int.natCast_one]) h0 ?_
 rintro ⟨i,L⟩ ⟨hi1,hi,hp⟩
 simp only at hi1 hi hp
 refine Yn fun Q2 hQ2=>?_
 simp only [l176_1]
 by_cases hin:(i:Int)<n
 · have hi' : i<n:=by omega
   refine Yc fun N2 hN2=>?_
   simp (maxSteps:=2000000) only [s176,↓Za,↓Zj,↓Zr,↓Ze,↓Zi,↓Zs,↓Zf,↓Zo,↓Zg,↓Zb,↓Zc,↓vdn,vup,Zh,Zn,Zl,Zm,Zk,List.map_cons,List.map_nil,cond_true,cond_false,aop,Zv,Zq,Zp,ev,sput,Zt,Zy,Ya,unK,Zd,Zw,Nat.reduceBEq,Nat.reduceAdd,Int.reduceBEq,Int.reduceBNe,Int.reduceLT,Zu,Zz,tup,tyf,hin]
   refine hN2 [(0,ovP b n ys.length),(1,.int .i64 0),(2,Zx n),(3,.func (.func g) #[] cap),(8,Zx i)] _ _ ?_ (by simp (maxSteps:=2000000) only [↓Za,↓Zj,↓Zr,↓Ze,↓Zi,↓Zs,↓Zf,↓Zo,↓Zg,↓Zb,↓Zc,↓vdn,vup,Zh,Zn,Zl,Zm,Zk,List.map_cons,List.map_nil,cond_true,cond_false,aop,Zv,Zq,Zp,ev,sput,Zt,Zy,Ya,unK,Zd,Zw,Nat.reduceBEq,Nat.reduceAdd,Int.reduceBEq,Int.reduceBNe,Int.reduceLT,Zu,Zz,tup,tyf])
   clear hN2
   try clear N2
   refine Yg fun M hM=>?_
   refine Yo ?_
   refine Yc fun N3 hN3=>?_
   simp (maxSteps:=2000000) only [s176,↓Za,↓Zj,↓Zr,↓Ze,↓Zi,↓Zs,↓Zf,↓Zo,↓Zg,↓Zb,↓Zc,↓vdn,vup,Zh,Zn,Zl,Zm,Zk,List.map_cons,List.map_nil,cond_true,cond_false,aop,Zv,Zq,Zp,ev,sput,Zt,Zy,Ya,unK,Zd,Zw,Nat.reduceBEq,Nat.reduceAdd,Int.reduceBEq,Int.reduceBNe,Int.reduceLT,Zu,Zz,tup,tyf]
   refine hN3 [(0,ovP b n ys.length),(1,.int .i64 0),(2,Zx n),(3,.func (.func g) #[] cap),(8,Zx i),(9,Zx i)] _ _ ?_ (by simp (maxSteps:=2000000) only [↓Za,↓Zj,↓Zr,↓Ze,↓Zi,↓Zs,↓Zf,↓Zo,↓Zg,↓Zb,↓Zc,↓vdn,vup,Zh,Zn,Zl,Zm,Zk,List.map_cons,List.map_nil,cond_true,cond_false,aop,Zv,Zq,Zp,ev,sput,Zt,Zy,Ya,unK,Zd,Zw,Nat.reduceBEq,Nat.reduceAdd,Int.reduceBEq,Int.reduceBNe,Int.reduceLT,Zu,Zz,tup,tyf])
   clear hN3
   try clear N3
   refine Yo ?_
   refine Yn fun Q3 hQ3=>?_
   refine Xx (γ:=Nat×List (Int×Int)) (fun s=>s.1≤i∧s.2.Perm L0)
    (fun s=>([(0,ovP b n ys.length),(1,.int .i64 0),(2,Zx n),(3,.func (.func g) #[] cap),(8,Zx i),(9,Zx s.1)],h.set b (.ints (Ym s.2++Ym ys) 28 false))) (fun s=>s.1) (i,L) ⟨Nat.le_refl _,hp⟩ (by simp (maxSteps:=2000000) only [↓Za,↓Zj,↓Zr,↓Ze,↓Zi,↓Zs,↓Zf,↓Zo,↓Zg,↓Zb,↓Zc,↓vdn,vup,Zh,Zn,Zl,Zm,Zk,List.map_cons,List.map_nil,cond_true,cond_false,aop,Zv,Zq,Zp,ev,sput,Zt,Zy,Ya,unK,Zd,Zw,Nat.reduceBEq,Nat.reduceAdd,Int.reduceBEq,Int.reduceBNe,Int.reduceLT,Zu,Zz,tup,tyf]) rfl ?_
   clear hp
   rintro ⟨j,L⟩ ⟨hj,hp⟩
   simp only at hj hp
   have hLn:L.length=n:=hp.length_eq.trans hn
   refine Yn fun Q4 hQ4=>?_
   simp only [l176_0]
   have fin : ∀ e,ELe e [(0,ovP b n ys.length),(1,.int .i64 0),(2,Zx n),(3,.func (.func g) #[] cap),(8,Zx i)]→M e (h.set b (.ints (Ym L++Ym ys) 28 false)):=by
    intro e he
    refine hM [(0,ovP b n ys.length),(1,.int .i64 0),(2,Zx n),(3,.func (.func g) #[] cap),(8,Zx i)] _ _ ?_ he
    refine Yf ?_
    simp (maxSteps:=2000000) only [s176,↓Za,↓Zj,↓Zr,↓Ze,↓Zi,↓Zs,↓Zf,↓Zo,↓Zg,↓Zb,↓Zc,↓vdn,vup,Zh,Zn,Zl,Zm,Zk,List.map_cons,List.map_nil,cond_true,cond_false,aop,Zv,Zq,Zp,ev,sput,Zt,Zy,Ya,unK,Zd,Zw,Nat.reduceBEq,Nat.reduceAdd,Int.reduceBEq,Int.reduceBNe,Int.reduceLT,Zu,Zz,tup,tyf,add1 (show i<9223372036854775807 by omega)]
    exact hQ2 _ _ _ ⟨(i+1,L),⟨by simp only; omega,.inl (by simp only; omega),hp⟩,by simp only; omega,by simp (maxSteps:=2000000) only [↓Za,↓Zj,↓Zr,↓Ze,↓Zi,↓Zs,↓Zf,↓Zo,↓Zg,↓Zb,↓Zc,↓vdn,vup,Zh,Zn,Zl,Zm,Zk,List.map_cons,List.map_nil,cond_true,cond_false,aop,Zv,Zq,Zp,ev,sput,Zt,Zy,Ya,unK,Zd,Zw,Nat.reduceBEq,Nat.reduceAdd,Int.reduceBEq,Int.reduceBNe,Int.reduceLT,Zu,Zz,tup,tyf],rfl⟩
   by_cases hj0:j=0
   · subst hj0
     refine Yc fun N4 hN4=>?_
     simp (maxSteps:=2000000) only [s176,↓Za,↓Zj,↓Zr,↓Ze,↓Zi,↓Zs,↓Zf,↓Zo,↓Zg,↓Zb,↓Zc,↓vdn,vup,Zh,Zn,Zl,Zm,Zk,List.map_cons,List.map_nil,cond_true,cond_false,aop,Zv,Zq,Zp,ev,sput,Zt,Zy,Ya,unK,Zd,Zw,Nat.reduceBEq,Nat.reduceAdd,Int.reduceBEq,Int.reduceBNe,Int.reduceLT,Zu,Zz,tup,tyf]
     refine Xi [(14,1)] (by kernel_rfl) (by kernel_rfl) (by kernel_rfl) (by kernel_rfl) ?_
     simp (maxSteps:=2000000) only [s176,↓Za,↓Zj,↓Zr,↓Ze,↓Zi,↓Zs,↓Zf,↓Zo,↓Zg,↓Zb,↓Zc,↓vdn,vup,Zh,Zn,Zl,Zm,Zk,List.map_cons,List.map_nil,cond_true,cond_false,aop,Zv,Zq,Zp,ev,sput,Zt,Zy,Ya,unK,Zd,Zw,Nat.reduceBEq,Nat.reduceAdd,Int.reduceBEq,Int.reduceBNe,Int.reduceLT,Zu,Zz,tup,tyf,gt_iff_lt,Int.natCast_zero,Int.lt_irrefl]
     refine hQ4 _ _ _ (hQ3 _ _ _ ?_)
     simp (maxSteps:=2000000) only [s176,↓Za,↓Zj,↓Zr,↓Ze,↓Zi,↓Zs,↓Zf,↓Zo,↓Zg,↓Zb,↓Zc,↓vdn,vup,Zh,Zn,Zl,Zm,Zk,List.map_cons,List.map_nil,cond_true,cond_false,aop,Zv,Zq,Zp,ev,sput,Zt,Zy,Ya,unK,Zd,Zw,Nat.reduceBEq,Nat.reduceAdd,Int.reduceBEq,Int.reduceBNe,Int.reduceLT,Zu,Zz,tup,tyf,if_true]
     exact fin _ (by simp (maxSteps:=2000000) only [↓Za,↓Zj,↓Zr,↓Ze,↓Zi,↓Zs,↓Zf,↓Zo,↓Zg,↓Zb,↓Zc,↓vdn,vup,Zh,Zn,Zl,Zm,Zk,List.map_cons,List.map_nil,cond_true,cond_false,aop,Zv,Zq,Zp,ev,sput,Zt,Zy,Ya,unK,Zd,Zw,Nat.reduceBEq,Nat.reduceAdd,Int.reduceBEq,Int.reduceBNe,Int.reduceLT,Zu,Zz,tup,tyf])
   · have hjp:(0:Int)<(j:Int):=by omega
     have hin1 : ∀ i,i<n→L.getD i (0,0)∈L0:=fun i hi=>hp.mem_iff.1 (by rw [List.getD,List.getElem?_eq_getElem (by omega),Option.getD_some]; exact List.getElem_mem _)
     obtain ⟨r,c1⟩:=hc L _ _ (hin1 j (by omega)) (hin1 (j-1) (by omega))
     have hsub:subV .i64 (j:Int) 1=((j-1:Nat):Int):=by rw [subV_id (by omega) (by omega)]; omega
     by_cases hneg:r<0
     · refine Yc fun N5 hN5=>?_
       simp (maxSteps:=2000000) only [s176,↓Za,↓Zj,↓Zr,↓Ze,↓Zi,↓Zs,↓Zf,↓Zo,↓Zg,↓Zb,↓Zc,↓vdn,vup,Zh,Zn,Zl,Zm,Zk,List.map_cons,List.map_nil,cond_true,cond_false,aop,Zv,Zq,Zp,ev,sput,Zt,Zy,Ya,unK,Zd,Zw,Nat.reduceBEq,Nat.reduceAdd,Int.reduceBEq,Int.reduceBNe,Int.reduceLT,Zu,Zz,tup,tyf]
       refine Xi [(14,1)] (by kernel_rfl) (by kernel_rfl) (by kernel_rfl) (by kernel_rfl) ?_
       simp (maxSteps:=2000000) only [s176,↓Za,↓Zj,↓Zr,↓Ze,↓Zi,↓Zs,↓Zf,↓Zo,↓Zg,↓Zb,↓Zc,↓vdn,vup,Zh,Zn,Zl,Zm,Zk,List.map_cons,List.map_nil,cond_true,cond_false,aop,Zv,Zq,Zp,ev,sput,Zt,Zy,Ya,unK,Zd,Zw,Nat.reduceBEq,Nat.reduceAdd,Int.reduceBEq,Int.reduceBNe,Int.reduceLT,Zu,Zz,tup,tyf,gt_iff_lt,hjp,hsub,ovP_idx (show j<n by omega),ovP_idx (show j-1<n by omega),ovP_load hlt hLn (show j<n by omega),ovP_load hlt hLn (show j-1<n by omega),Yz,List.nil_append,List.append_nil,List.toList_toArray,List.cons_append]
       refine ⟨_,_,c1,rfl,?_⟩
       simp (maxSteps:=2000000) only [s176,↓Za,↓Zj,↓Zr,↓Ze,↓Zi,↓Zs,↓Zf,↓Zo,↓Zg,↓Zb,↓Zc,↓vdn,vup,Zh,Zn,Zl,Zm,Zk,List.map_cons,List.map_nil,cond_true,cond_false,aop,Zv,Zq,Zp,ev,sput,Zt,Zy,Ya,unK,Zd,Zw,Nat.reduceBEq,Nat.reduceAdd,Int.reduceBEq,Int.reduceBNe,Int.reduceLT,Zu,Zz,tup,tyf,hneg,decide_true,decide_false]
       refine hN5 [(0,ovP b n ys.length),(1,.int .i64 0),(2,Zx n),(3,.func (.func g) #[] cap),(8,Zx i),(9,Zx j)] _ _ ?_ (by simp (maxSteps:=2000000) only [↓Za,↓Zj,↓Zr,↓Ze,↓Zi,↓Zs,↓Zf,↓Zo,↓Zg,↓Zb,↓Zc,↓vdn,vup,Zh,Zn,Zl,Zm,Zk,List.map_cons,List.map_nil,cond_true,cond_false,aop,Zv,Zq,Zp,ev,sput,Zt,Zy,Ya,unK,Zd,Zw,Nat.reduceBEq,Nat.reduceAdd,Int.reduceBEq,Int.reduceBNe,Int.reduceLT,Zu,Zz,tup,tyf])
       clear hN5
       try clear N5
       refine Yf ?_
       simp (maxSteps:=2000000) only [s176,↓Za,↓Zj,↓Zr,↓Ze,↓Zi,↓Zs,↓Zf,↓Zo,↓Zg,↓Zb,↓Zc,↓vdn,vup,Zh,Zn,Zl,Zm,Zk,List.map_cons,List.map_nil,cond_true,cond_false,aop,Zv,Zq,Zp,ev,sput,Zt,Zy,Ya,unK,Zd,Zw,Nat.reduceBEq,Nat.reduceAdd,Int.reduceBEq,Int.reduceBNe,Int.reduceLT,Zu,Zz,tup,tyf]
       refine Xi [] (by kernel_rfl) (by kernel_rfl) (by kernel_rfl) (by kernel_rfl) ?_
       have hjL:j<L.length:=by omega
       simp (maxSteps:=2000000) only [s176,↓Za,↓Zj,↓Zr,↓Ze,↓Zi,↓Zs,↓Zf,↓Zo,↓Zg,↓Zb,↓Zc,↓vdn,vup,Zh,Zn,Zl,Zm,Zk,List.map_cons,List.map_nil,cond_true,cond_false,aop,Zv,Zq,Zp,ev,sput,Zt,Zy,Ya,unK,Zd,Zw,Nat.reduceBEq,Nat.reduceAdd,Int.reduceBEq,Int.reduceBNe,Int.reduceLT,Zu,Zz,tup,tyf,hsub,ovP_idx (show j<n by omega),ovP_idx (show j-1<n by omega),ovP_load hlt hLn (show j<n by omega),ovP_load hlt hLn (show j-1<n by omega),ovP_store hlt hjL,ovP_store hlt (show j-1<(L.set j (L.getD (j-1) (0,0))).length by rw [List.length_set]; omega)]
       refine hQ4 _ _ _ ⟨(j-1,swP L j),⟨by simp only; omega,(swP_perm (by omega) hjL).trans hp⟩,by simp only; omega,by simp (maxSteps:=2000000) only [↓Za,↓Zj,↓Zr,↓Ze,↓Zi,↓Zs,↓Zf,↓Zo,↓Zg,↓Zb,↓Zc,↓vdn,vup,Zh,Zn,Zl,Zm,Zk,List.map_cons,List.map_nil,cond_true,cond_false,aop,Zv,Zq,Zp,ev,sput,Zt,Zy,Ya,unK,Zd,Zw,Nat.reduceBEq,Nat.reduceAdd,Int.reduceBEq,Int.reduceBNe,Int.reduceLT,Zu,Zz,tup,tyf],rfl⟩
     · refine Yc fun N6 hN6=>?_
       simp (maxSteps:=2000000) only [s176,↓Za,↓Zj,↓Zr,↓Ze,↓Zi,↓Zs,↓Zf,↓Zo,↓Zg,↓Zb,↓Zc,↓vdn,vup,Zh,Zn,Zl,Zm,Zk,List.map_cons,List.map_nil,cond_true,cond_false,aop,Zv,Zq,Zp,ev,sput,Zt,Zy,Ya,unK,Zd,Zw,Nat.reduceBEq,Nat.reduceAdd,Int.reduceBEq,Int.reduceBNe,Int.reduceLT,Zu,Zz,tup,tyf]
       refine Xi [(14,1)] (by kernel_rfl) (by kernel_rfl) (by kernel_rfl) (by kernel_rfl) ?_
       simp (maxSteps:=2000000) only [s176,↓Za,↓Zj,↓Zr,↓Ze,↓Zi,↓Zs,↓Zf,↓Zo,↓Zg,↓Zb,↓Zc,↓vdn,vup,Zh,Zn,Zl,Zm,Zk,List.map_cons,List.map_nil,cond_true,cond_false,aop,Zv,Zq,Zp,ev,sput,Zt,Zy,Ya,unK,Zd,Zw,Nat.reduceBEq,Nat.reduceAdd,Int.reduceBEq,Int.reduceBNe,Int.reduceLT,Zu,Zz,tup,tyf,gt_iff_lt,hjp,hsub,ovP_idx (show j<n by omega),ovP_idx (show j-1<n by omega),ovP_load hlt hLn (show j<n by omega),ovP_load hlt hLn (show j-1<n by omega),Yz,List.nil_append,List.append_nil,List.toList_toArray,List.cons_append]
       refine ⟨_,_,c1,rfl,?_⟩
       simp (maxSteps:=2000000) only [s176,↓Za,↓Zj,↓Zr,↓Ze,↓Zi,↓Zs,↓Zf,↓Zo,↓Zg,↓Zb,↓Zc,↓vdn,vup,Zh,Zn,Zl,Zm,Zk,List.map_cons,List.map_nil,cond_true,cond_false,aop,Zv,Zq,Zp,ev,sput,Zt,Zy,Ya,unK,Zd,Zw,Nat.reduceBEq,Nat.reduceAdd,Int.reduceBEq,Int.reduceBNe,Int.reduceLT,Zu,Zz,tup,tyf,hneg,decide_true,decide_false]
       refine hQ4 _ _ _ (hQ3 _ _ _ ?_)
       simp (maxSteps:=2000000) only [s176,↓Za,↓Zj,↓Zr,↓Ze,↓Zi,↓Zs,↓Zf,↓Zo,↓Zg,↓Zb,↓Zc,↓vdn,vup,Zh,Zn,Zl,Zm,Zk,List.map_cons,List.map_nil,cond_true,cond_false,aop,Zv,Zq,Zp,ev,sput,Zt,Zy,Ya,unK,Zd,Zw,Nat.reduceBEq,Nat.reduceAdd,Int.reduceBEq,Int.reduceBNe,Int.reduceLT,Zu,Zz,tup,tyf,if_true]
       exact fin _ (by simp (maxSteps:=2000000) only [↓Za,↓Zj,↓Zr,↓Ze,↓Zi,↓Zs,↓Zf,↓Zo,↓Zg,↓Zb,↓Zc,↓vdn,vup,Zh,Zn,Zl,Zm,Zk,List.map_cons,List.map_nil,cond_true,cond_false,aop,Zv,Zq,Zp,ev,sput,Zt,Zy,Ya,unK,Zd,Zw,Nat.reduceBEq,Nat.reduceAdd,Int.reduceBEq,Int.reduceBNe,Int.reduceLT,Zu,Zz,tup,tyf])
 · refine Yc fun M hM=>?_
   simp (maxSteps:=2000000) only [s176,↓Za,↓Zj,↓Zr,↓Ze,↓Zi,↓Zs,↓Zf,↓Zo,↓Zg,↓Zb,↓Zc,↓vdn,vup,Zh,Zn,Zl,Zm,Zk,List.map_cons,List.map_nil,cond_true,cond_false,aop,Zv,Zq,Zp,ev,sput,Zt,Zy,Ya,unK,Zd,Zw,Nat.reduceBEq,Nat.reduceAdd,Int.reduceBEq,Int.reduceBNe,Int.reduceLT,Zu,Zz,tup,tyf,hin]
   refine hQ2 _ _ _ (hQ _ _ _ ?_)
   simp (maxSteps:=2000000) only [s176,↓Za,↓Zj,↓Zr,↓Ze,↓Zi,↓Zs,↓Zf,↓Zo,↓Zg,↓Zb,↓Zc,↓vdn,vup,Zh,Zn,Zl,Zm,Zk,List.map_cons,List.map_nil,cond_true,cond_false,aop,Zv,Zq,Zp,ev,sput,Zt,Zy,Ya,unK,Zd,Zw,Nat.reduceBEq,Nat.reduceAdd,Int.reduceBEq,Int.reduceBNe,Int.reduceLT,Zu,Zz,tup,tyf,if_true]
   exact ⟨L,hp,rfl⟩
theorem s173_callW [Tabs Tryd.prog] {args:List Value} {h:Yb} {Q:Value→Yb→Prop} (hsz:args.length≤63) (hk:AWS Tryd.prog 63 s173 (Zu Tryd.prog [] Q) (Zp 0 args) h):ACall Tryd.prog 173 args h Q :=
 Xy Tryd.func173 rfl (enters_of Tryd.func173 (by kernel_rfl) rfl) rfl rfl (by decide) s173_strip s173_ok hsz hk
theorem stableP_call [Tabs prog] {h:Yb} {b:Nat} {L0 ys:List (Int×Int)} {g:FuncId} {cap:Array Value} (hc : ∀ L x y,x∈L0→y∈L0→∃ r:Int,APure prog g ([pV x,pV y]++cap.toList) (h.set b (.ints (Ym L++Ym ys) 28 false)) (Zx r)) (hb:h[b]? = some (.ints (Ym L0++Ym ys) 28 false)) (hl:L0.length≤15) :
  ACall prog 173 [ovP b L0.length ys.length,Zx L0.length,.func (.func g) #[] cap] h fun _ h'=>∃ L:List (Int×Int),L.Perm L0∧h' = h.set b (.ints (Ym L++Ym ys) 28 false):=by
 have n20 : ¬ (20:Int)≤(L0.length:Int):=by omega
 have n20' : ¬ (20:Int)<(L0.length:Int):=by omega
 refine s173_callW (by simp) ?_
 simp only [s173]
 refine Yc fun N7 hN7=>?_
 simp (maxSteps:=2000000) only [s173,↓Za,↓Zj,↓Zr,↓Ze,↓Zi,↓Zs,↓Zf,↓Zo,↓Zg,↓Zb,↓Zc,↓vdn,vup,Zh,Zn,Zl,Zm,Zk,List.map_cons,List.map_nil,cond_true,cond_false,aop,Zv,Zq,Zp,ev,sput,Zt,Zy,Ya,unK,Zd,Zw,Nat.reduceBEq,Nat.reduceAdd,Int.reduceBEq,Int.reduceBNe,Int.reduceLT,Zu,Zz,tup,tyf]
 refine hN7 [(0,ovP b L0.length ys.length),(1,Zx L0.length),(2,.func (.func g) #[] cap),(6,.int .i64 20)] _ _ ?_ (by simp (maxSteps:=2000000) only [↓Za,↓Zj,↓Zr,↓Ze,↓Zi,↓Zs,↓Zf,↓Zo,↓Zg,↓Zb,↓Zc,↓vdn,vup,Zh,Zn,Zl,Zm,Zk,List.map_cons,List.map_nil,cond_true,cond_false,aop,Zv,Zq,Zp,ev,sput,Zt,Zy,Ya,unK,Zd,Zw,Nat.reduceBEq,Nat.reduceAdd,Int.reduceBEq,Int.reduceBNe,Int.reduceLT,Zu,Zz,tup,tyf])
 clear hN7
 try clear N7
 refine Yc fun N8 hN8=>?_
 simp (maxSteps:=2000000) only [s173,↓Za,↓Zj,↓Zr,↓Ze,↓Zi,↓Zs,↓Zf,↓Zo,↓Zg,↓Zb,↓Zc,↓vdn,vup,Zh,Zn,Zl,Zm,Zk,List.map_cons,List.map_nil,cond_true,cond_false,aop,Zv,Zq,Zp,ev,sput,Zt,Zy,Ya,unK,Zd,Zw,Nat.reduceBEq,Nat.reduceAdd,Int.reduceBEq,Int.reduceBNe,Int.reduceLT,Zu,Zz,tup,tyf]
 refine hN8 [(0,ovP b L0.length ys.length),(1,Zx L0.length),(2,.func (.func g) #[] cap),(6,.int .i64 20),(7,.int .i64 0),(8,.int .i64 20)] _ _ ?_ (by simp (maxSteps:=2000000) only [↓Za,↓Zj,↓Zr,↓Ze,↓Zi,↓Zs,↓Zf,↓Zo,↓Zg,↓Zb,↓Zc,↓vdn,vup,Zh,Zn,Zl,Zm,Zk,List.map_cons,List.map_nil,cond_true,cond_false,aop,Zv,Zq,Zp,ev,sput,Zt,Zy,Ya,unK,Zd,Zw,Nat.reduceBEq,Nat.reduceAdd,Int.reduceBEq,Int.reduceBNe,Int.reduceLT,Zu,Zz,tup,tyf])
 clear hN8
 try clear N8
 refine Yg fun M hM=>?_
 refine Yo ?_
 refine Yn fun Q hQ=>?_
 refine Xx (γ:=Unit) (fun _=>True) (fun _=>([(0,ovP b L0.length ys.length),(1,Zx L0.length),(2,.func (.func g) #[] cap),(6,.int .i64 20),(7,.int .i64 0),(8,.int .i64 20)],h)) (fun _=>0) () trivial (by simp (maxSteps:=2000000) only [↓Za,↓Zj,↓Zr,↓Ze,↓Zi,↓Zs,↓Zf,↓Zo,↓Zg,↓Zb,↓Zc,↓vdn,vup,Zh,Zn,Zl,Zm,Zk,List.map_cons,List.map_nil,cond_true,cond_false,aop,Zv,Zq,Zp,ev,sput,Zt,Zy,Ya,unK,Zd,Zw,Nat.reduceBEq,Nat.reduceAdd,Int.reduceBEq,Int.reduceBNe,Int.reduceLT,Zu,Zz,tup,tyf]) rfl ?_
 rintro _ _
 refine Yn fun Q2 hQ2=>?_
 simp only [l173_0]
 refine Yc fun N9 hN9=>?_
 simp (maxSteps:=2000000) only [s173,↓Za,↓Zj,↓Zr,↓Ze,↓Zi,↓Zs,↓Zf,↓Zo,↓Zg,↓Zb,↓Zc,↓vdn,vup,Zh,Zn,Zl,Zm,Zk,List.map_cons,List.map_nil,cond_true,cond_false,aop,Zv,Zq,Zp,ev,sput,Zt,Zy,Ya,unK,Zd,Zw,Nat.reduceBEq,Nat.reduceAdd,Int.reduceBEq,Int.reduceBNe,Int.reduceLT,Zu,Zz,tup,tyf,n20]
 refine hQ2 _ _ _ (hQ _ _ _ ?_)
 simp (maxSteps:=2000000) only [s173,↓Za,↓Zj,↓Zr,↓Ze,↓Zi,↓Zs,↓Zf,↓Zo,↓Zg,↓Zb,↓Zc,↓vdn,vup,Zh,Zn,Zl,Zm,Zk,List.map_cons,List.map_nil,cond_true,cond_false,aop,Zv,Zq,Zp,ev,sput,Zt,Zy,Ya,unK,Zd,Zw,Nat.reduceBEq,Nat.reduceAdd,Int.reduceBEq,Int.reduceBNe,Int.reduceLT,Zu,Zz,tup,tyf,if_true]
 refine hM [(0,ovP b L0.length ys.length),(1,Zx L0.length),(2,.func (.func g) #[] cap),(6,.int .i64 20),(7,.int .i64 0),(8,.int .i64 20)] _ _ ?_ (by simp (maxSteps:=2000000) only [↓Za,↓Zj,↓Zr,↓Ze,↓Zi,↓Zs,↓Zf,↓Zo,↓Zg,↓Zb,↓Zc,↓vdn,vup,Zh,Zn,Zl,Zm,Zk,List.map_cons,List.map_nil,cond_true,cond_false,aop,Zv,Zq,Zp,ev,sput,Zt,Zy,Ya,unK,Zd,Zw,Nat.reduceBEq,Nat.reduceAdd,Int.reduceBEq,Int.reduceBNe,Int.reduceLT,Zu,Zz,tup,tyf])
 clear hM
 try clear M
 refine Yc fun N10 hN10=>?_
 simp (maxSteps:=2000000) only [s173,↓Za,↓Zj,↓Zr,↓Ze,↓Zi,↓Zs,↓Zf,↓Zo,↓Zg,↓Zb,↓Zc,↓vdn,vup,Zh,Zn,Zl,Zm,Zk,List.map_cons,List.map_nil,cond_true,cond_false,aop,Zv,Zq,Zp,ev,sput,Zt,Zy,Ya,unK,Zd,Zw,Nat.reduceBEq,Nat.reduceAdd,Int.reduceBEq,Int.reduceBNe,Int.reduceLT,Zu,Zz,tup,tyf,Yz,List.nil_append,List.append_nil,List.toList_toArray,List.cons_append]
 refine (isortP_call hc hb hl).mono ?_
 rintro r h' hr
 refine hN10 [(0,ovP b L0.length ys.length),(1,Zx L0.length),(2,.func (.func g) #[] cap),(6,.int .i64 20),(7,.int .i64 0),(8,.int .i64 20)] _ _ ?_ (by simp (maxSteps:=2000000) only [↓Za,↓Zj,↓Zr,↓Ze,↓Zi,↓Zs,↓Zf,↓Zo,↓Zg,↓Zb,↓Zc,↓vdn,vup,Zh,Zn,Zl,Zm,Zk,List.map_cons,List.map_nil,cond_true,cond_false,aop,Zv,Zq,Zp,ev,sput,Zt,Zy,Ya,unK,Zd,Zw,Nat.reduceBEq,Nat.reduceAdd,Int.reduceBEq,Int.reduceBNe,Int.reduceLT,Zu,Zz,tup,tyf])
 clear hN10
 try clear N10
 refine Yo ?_
 refine Yn fun Q hQ=>?_
 refine Xx (γ:=Unit) (fun _=>True) (fun _=>([(0,ovP b L0.length ys.length),(1,Zx L0.length),(2,.func (.func g) #[] cap),(6,.int .i64 20),(7,.int .i64 0),(8,.int .i64 20)],h')) (fun _=>0) () trivial (by simp (maxSteps:=2000000) only [↓Za,↓Zj,↓Zr,↓Ze,↓Zi,↓Zs,↓Zf,↓Zo,↓Zg,↓Zb,↓Zc,↓vdn,vup,Zh,Zn,Zl,Zm,Zk,List.map_cons,List.map_nil,cond_true,cond_false,aop,Zv,Zq,Zp,ev,sput,Zt,Zy,Ya,unK,Zd,Zw,Nat.reduceBEq,Nat.reduceAdd,Int.reduceBEq,Int.reduceBNe,Int.reduceLT,Zu,Zz,tup,tyf]) rfl ?_
 rintro _ _
 refine Yn fun Q2 hQ2=>?_
 simp only [l173_2]
 refine Yc fun N11 hN11=>?_
 simp (maxSteps:=2000000) only [s173,↓Za,↓Zj,↓Zr,↓Ze,↓Zi,↓Zs,↓Zf,↓Zo,↓Zg,↓Zb,↓Zc,↓vdn,vup,Zh,Zn,Zl,Zm,Zk,List.map_cons,List.map_nil,cond_true,cond_false,aop,Zv,Zq,Zp,ev,sput,Zt,Zy,Ya,unK,Zd,Zw,Nat.reduceBEq,Nat.reduceAdd,Int.reduceBEq,Int.reduceBNe,Int.reduceLT,Zu,Zz,tup,tyf,n20']
 refine hQ2 _ _ _ (hQ _ _ _ ?_)
 simp (maxSteps:=2000000) only [s173,↓Za,↓Zj,↓Zr,↓Ze,↓Zi,↓Zs,↓Zf,↓Zo,↓Zg,↓Zb,↓Zc,↓vdn,vup,Zh,Zn,Zl,Zm,Zk,List.map_cons,List.map_nil,cond_true,cond_false,aop,Zv,Zq,Zp,ev,sput,Zt,Zy,Ya,unK,Zd,Zw,Nat.reduceBEq,Nat.reduceAdd,Int.reduceBEq,Int.reduceBNe,Int.reduceLT,Zu,Zz,tup,tyf,if_true]
 exact hr
theorem s162_callW [Tabs Tryd.prog] {args:List Value} {h:Yb} {Q:Value→Yb→Prop} (hsz:args.length≤9) (hk:AWS Tryd.prog 9 s162 (Zu Tryd.prog [] Q) (Zp 0 args) h):ACall Tryd.prog 162 args h Q :=
 Xy Tryd.func162 rfl (enters_of Tryd.func162 (by kernel_rfl) rfl) rfl rfl (by decide) s162_strip s162_ok hsz hk
theorem sortP_call [Tabs prog] {h:Yb} {b:Nat} {L0 ys:List (Int×Int)} {g:FuncId} {cap:Array Value} (hc : ∀ L x y,x∈L0→y∈L0→∃ r:Int,APure prog g ([pV x,pV y]++cap.toList) (h.set b (.ints (Ym L++Ym ys) 28 false)) (Zx r)) (hb:h[b]? = some (.ints (Ym L0++Ym ys) 28 false)) (hl:L0.length≤15) :
  ACall prog 162 [ovP b L0.length ys.length,.func (.func g) #[] cap] h fun _ h'=>∃ L:List (Int×Int),L.Perm L0∧h' = h.set b (.ints (Ym L++Ym ys) 28 false):=by
 refine s162_callW (by simp) ?_
 refine Yf ?_
 simp (maxSteps:=2000000) only [s162,↓Za,↓Zj,↓Zr,↓Ze,↓Zi,↓Zs,↓Zf,↓Zo,↓Zg,↓Zb,↓Zc,↓vdn,vup,Zh,Zn,Zl,Zm,Zk,List.map_cons,List.map_nil,cond_true,cond_false,aop,Zv,Zq,Zp,ev,sput,Zt,Zy,Ya,unK,Zd,Zw,Nat.reduceBEq,Nat.reduceAdd,Int.reduceBEq,Int.reduceBNe,Int.reduceLT,Zu,Zz,tup,tyf,Yz,List.nil_append,List.append_nil,List.toList_toArray,List.cons_append,lenK]
 refine (stableP_call hc hb hl).mono ?_
 rintro r h' hr
 exact hr
end Go.Proofs.Tryd.Am.Or
namespace Go.Proofs.Tryd.Am.Or
open Go.Proofs.Tryd.Am
open Go.Am Ord
set_option maxRecDepth 100000
set_option maxHeartbeats 1000000
section
variable {h:Yb} {b:Nat} {e:TypeId} {ro:Bool} {x y:Int} {K:Value→Prop}
theorem pidx0 {p:Nat}:Ys prog 28 (.pointer (some ⟨p,0,none⟩)) (.int .i64 0) K=K (.pointer (some ⟨p,0,none⟩)):=idxA (k:=0) und_28 Wc (by decide)
theorem pidx1 {p:Nat}:Ys prog 28 (.pointer (some ⟨p,0,none⟩)) (.int .i64 1) K=K (.pointer (some ⟨p,1,none⟩)):=idxA (k:=1) und_28 Wc (by decide)
theorem pl0 (hb:h[b]? = some (.cells [.int .i64 x,.int .i64 y] e ro)):Xu prog h 3 (.pointer (some ⟨b,0,none⟩)) K=K (.int .i64 x):=loadC hb Xc rfl
theorem pl1 (hb:h[b]? = some (.cells [.int .i64 x,.int .i64 y] e ro)):Xu prog h 3 (.pointer (some ⟨b,1,none⟩)) K=K (.int .i64 y):=loadC hb Xc rfl
theorem pst {c:List Value} {K:Yb→Prop} (hb:h[b]? = some (.cells c e false)) (hc:c.length=2):Xt prog h 28 (.pointer (some ⟨b,0,none⟩)) (.agg #[.int .i64 x,.int .i64 y]) K=K (h.set b (.cells [.int .i64 x,.int .i64 y] e false)) :=
 storeA (vs:=[.int .i64 x,.int .i64 y]) hb (by rw [shp_28]; rfl) rfl (by rw [hc]; rfl)
end
end Go.Proofs.Tryd.Am.Or
namespace Ord
set_option maxRecDepth 100000
def srtb:Nat→List Int→Bool
 | 0,o=>cn o==1
 | n+1,o=>cn o==1 || (decide (cn o≤2 ^ (n+1))&&(List.range o.length).any fun i=>(List.range o.length).any fun j=>decide (i<j)&&(fr o i j&&(srtb n (addL o i j)&&srtb n (addL o j i))))
theorem fr_comm (o:List Int) (i j:Nat):fr o i j=fr o j i:=by
 rw [fr,fr,show decide (i≠j)=decide (j≠i) from decide_eq_decide.2 ⟨Ne.symm,Ne.symm⟩,Bool.and_assoc,Bool.and_assoc,Bool.and_comm (!ab o i j)]
theorem fr_out {o:List Int} {i j:Nat} (h:fr o i j=true):i≠j∧ab o i j=false∧ab o j i=false:=by
 simp only [fr,Bool.and_eq_true,decide_eq_true_eq,Bool.not_eq_true'] at h
 exact ⟨h.1.1,h.1.2,h.2⟩
theorem fr_sum {o:List Int} (ho:ord o=true) {i j:Nat} (hi:i<o.length) (hj:j<o.length) (h:fr o i j=true):cn (addL o i j)+cn (addL o j i)=cn o:=by
 obtain ⟨h1,h2,h3⟩:=fr_out h
 have:=befN_two ho hi hj h1
 rwa [befN,befN,if_neg (by rw [h2]; decide),if_pos h,if_neg (by rw [h3]; decide),if_pos (by rw [fr_comm]; exact h)] at this
theorem srtb_cn : ∀ {n:Nat} {o:List Int},srtb n o=true→cn o≤2 ^ n
 | 0,o,h=>by rw [srtb,beq_iff_eq] at h; rw [h]; decide
 | n+1,o,h=>by
   rw [srtb,Bool.or_eq_true,Bool.and_eq_true,beq_iff_eq,decide_eq_true_eq] at h
   rcases h with h | h
   · rw [h]; exact Nat.one_le_two_pow
   · exact h.1
def prsN (n:Nat):List (Nat×Nat):=(List.range n).flatMap fun i=>((List.range n).filter fun j=>decide (i<j)).map fun j=>(i,j)
theorem mem_prsN {n:Nat} {p:Nat×Nat}:p∈prsN n↔p.1<p.2∧p.2<n:=by
 simp only [prsN,List.mem_flatMap,List.mem_range,List.mem_map,List.mem_filter,decide_eq_true_eq]
 constructor
 · rintro ⟨i,hi,j,⟨hj,hij⟩,rfl⟩; exact ⟨hij,hj⟩
 · rintro ⟨h1,h2⟩; exact ⟨p.1,by omega,p.2,⟨h2,h1⟩,rfl⟩
def frees (o:List Int):Nat:=(prsN o.length).countP fun p=>fr o p.1 p.2
theorem fr_add {o:List Int} (ho:ord o=true) {i j:Nat} (hi:i<o.length) {x y:Nat} (h:fr (addL o i j) x y=true):fr o x y=true:=by
 obtain ⟨h1,h2,h3⟩:=fr_out h
 rw [addL_ab hi ho,addR,Bool.or_eq_false_iff] at h2 h3
 simp [fr,h1,h2.1,h3.1]
theorem fr_add_self {o:List Int} (ho:ord o=true) {i j:Nat} (hi:i<o.length):fr (addL o i j) i j=false:=by
 cases h:fr (addL o i j) i j with
 | false=>rfl
 | true =>
   obtain ⟨_,h2,_⟩:=fr_out h
   rw [addL_ab hi ho,addR] at h2
   simp at h2
theorem cP_lt {α:Type} {p q:α→Bool} : ∀ {l:List α} {x:α},(∀ y∈l,p y=true→q y=true)→x∈l→p x=false→q x=true→l.countP p<l.countP q
 | a::l,x,h,hx,h1,h2=>by
   have hle:l.countP p≤l.countP q:=List.countP_mono_left fun y hy=>h y (by simp [hy])
   rw [List.countP_cons,List.countP_cons]
   rcases List.mem_cons.1 hx with rfl | hx
   · rw [h1,h2]; simp; omega
   · have ih:=cP_lt (fun y hy=>h y (by simp [hy])) hx h1 h2
     have:(if p a=true then 1 else 0)≤if q a=true then 1 else 0:=by
      by_cases ha:p a=true
      · rw [if_pos ha,if_pos (h a (by simp) ha)]; exact Nat.le_refl _
      · rw [if_neg ha]; exact Nat.zero_le _
     omega
theorem frees_add {o:List Int} (ho:ord o=true) {i j:Nat} (hij:i<j) (hj:j<o.length) (h:fr o i j=true):frees (addL o i j)<frees o∧frees (addL o j i)<frees o:=by
 rw [frees,frees,frees,addL_len,addL_len]
 refine ⟨cP_lt (x:=(i,j)) (fun p _ hp=>fr_add ho (by omega) hp) (mem_prsN.2 ⟨hij,hj⟩) (fr_add_self ho (by omega)) h,cP_lt (x:=(i,j)) (fun p _ hp=>fr_add ho hj hp) (mem_prsN.2 ⟨hij,hj⟩) ?_ h⟩
 show fr (addL o j i) i j=false
 rw [fr_comm]; exact fr_add_self ho hj
theorem one_le1 {α:Type} {l:List α} (hn:l.Nodup) (h : ∀ a∈l,∀ b∈l,a=b):l.length≤1:=by
 match l,hn,h with
 | [],_,_=>exact Nat.zero_le _
 | [a],_,_=>exact Nat.le_refl _
 | a::b::l,hn,h =>
   rw [List.nodup_cons] at hn
   exact absurd (by rw [h a (by simp) b (by simp)]; simp) hn.1
theorem cnt_one {r:Nat→Nat→Bool} : ∀ (k:Nat) (S:List Nat),S.Nodup→(∀ i∈S,∀ j∈S,i≠j→r i j=true∨r j i=true)→cnt r k S≤1
 | 0,_,_,_=>Nat.le_refl _
 | k+1,S,hn,h=>by
   rw [cnt]
   have hf:(firsts r S).length≤1:=one_le1 (List.nodup_iff_pairwise_ne.2 ((List.nodup_iff_pairwise_ne.1 hn).filter _)) fun a ha b hb=>by
    apply Classical.byContradiction
    intro hne
    obtain ⟨a1,a2⟩:=mem_firsts.1 ha
    obtain ⟨b1,b2⟩:=mem_firsts.1 hb
    rcases h a a1 b b1 hne with g | g
    · rw [b2 a a1] at g; cases g
    · rw [a2 b b1] at g; cases g
   match hF:firsts r S,hf with
   | [],_=>simp
   | [x],_ =>
     have:=cnt_one k (S.erase x) (hn.erase x) fun i hi j hj=>h i (List.mem_of_mem_erase hi) j (List.mem_of_mem_erase hj)
     simpa using this
   | _::_::_,hf=>simp at hf
theorem free_pair {o:List Int} (h1:1<cn o) : ∃ i j,i<j∧j<o.length∧fr o i j=true:=by
 apply Classical.byContradiction
 intro hno
 have:=cnt_one (r:=ab o) o.length (List.range o.length) List.nodup_range fun i hi j hj hne=>by
  apply Classical.byContradiction
  intro hc
  have hf:fr o i j=true:=by cases g1:ab o i j <;> cases g2:ab o j i <;> simp_all [fr]
  rcases Nat.lt_or_gt_of_ne hne with g | g
  · exact hno ⟨i,j,g,List.mem_range.1 hj,hf⟩
  · exact hno ⟨j,i,g,List.mem_range.1 hi,by rw [fr_comm]; exact hf⟩
 have:cn o≤1:=this
 omega
theorem srtb_free : ∀ (f:Nat) (o:List Int),ord o=true→frees o≤f→srtb f o=true
 | 0,o,ho,hf=>by
   rw [srtb,beq_iff_eq]
   apply Classical.byContradiction
   intro hne
   have:=cn_pos ho
   obtain ⟨i,j,hij,hj,h⟩:=free_pair (o:=o) (by omega)
   have:=(frees_add ho hij hj h).1
   omega
 | f+1,o,ho,hf=>by
   by_cases h1:cn o=1
   · rw [srtb,h1]; rfl
   · have:=cn_pos ho
     obtain ⟨i,j,hij,hj,h⟩:=free_pair (o:=o) (by omega)
     obtain ⟨g1,g2⟩:=frees_add ho hij hj h
     obtain ⟨k1,k2,k3⟩:=fr_out h
     have s1:=srtb_free f (addL o i j) (addL_ord ho (by omega) hj k1 k3) (by omega)
     have s2:=srtb_free f (addL o j i) (addL_ord ho hj (by omega) (Ne.symm k1) k2) (by omega)
     have hc:=fr_sum ho (by omega) hj h
     have c1:=srtb_cn s1
     have c2:=srtb_cn s2
     rw [srtb,Bool.or_eq_true,Bool.and_eq_true,decide_eq_true_eq]
     refine .inr ⟨by rw [Nat.pow_succ]; omega,List.any_eq_true.2 ⟨i,List.mem_range.2 (by omega),List.any_eq_true.2 ⟨j,List.mem_range.2 hj,?_⟩⟩⟩
     rw [Bool.and_eq_true,Bool.and_eq_true,Bool.and_eq_true]
     exact ⟨decide_eq_true hij,h,s1,s2⟩
end Ord
namespace Go.Proofs.Tryd.Am.Or
open Go.Proofs.Tryd.Am
open Go.Am Ord
set_option maxRecDepth 100000
set_option maxHeartbeats 1000000
theorem keyT_33:KeyT Tryd.prog 28 2:=keyT_ints (d:=3) (m:=3) (by kernel_rfl) (by kernel_rfl) (by have:3≤Tryd.prog.types.size+1:=of_decide_eq_true (by kernel_rfl); exact this) (by decide) (by kernel_rfl) (by kernel_rfl) (by kernel_rfl) (by kernel_rfl)
theorem keyT_136:KeyT Tryd.prog 172 8:=keyT_ints (d:=5) (m:=5) (by kernel_rfl) (by kernel_rfl) (by have:5≤Tryd.prog.types.size+1:=of_decide_eq_true (by kernel_rfl); exact this) (by decide) (by kernel_rfl) (by kernel_rfl) (by kernel_rfl) (by kernel_rfl)
theorem zvB:zeroV Tryd.prog 4=some (.bool false):=by kernel_rfl
theorem zvI:zeroV Tryd.prog 3=some (.int .i64 0):=by kernel_rfl
abbrev ptB (b:Nat):Value:=.pointer (some ⟨b,0,none⟩)
def encN (o:List Int) (n:Nat):List Int:=(o.length:Int)::(sixs o++[(n:Int)])
theorem encN_len {o:List Int} (h:o.length≤6) (n:Nat):(encN o n).length=8:=by simp [encN,sixs_len h]
theorem encN_inj {o o' : List Int} {n n' : Nat} (h:o.length≤6) (h' : o'.length≤6) (e:encN o n=encN o' n'):o=o'∧n=n':=by
 simp only [encN,List.cons.injEq] at e
 obtain ⟨e1,e2⟩:=e
 have hl:o.length=o'.length:=by omega
 obtain ⟨e3,e4⟩:=List.append_inj e2 (by rw [sixs_len h,sixs_len h'])
 refine ⟨?_,by have:=(List.cons.inj e4).1; omega⟩
 rw [sixs,sixs] at e3
 exact (List.append_inj e3 hl).1
theorem encN_in {o:List Int} (ho:ord o=true) {n:Nat} (hn:n≤62):inR64 (encN o n):=by
 have hl:=Xq ho
 intro x hx
 rcases List.mem_cons.1 hx with rfl | hx
 · omega
 rcases List.mem_append.1 hx with hx | hx
 · rw [sixs] at hx
   rcases List.mem_append.1 hx with hx | hx
   · obtain ⟨i,hi,rfl⟩:=List.mem_iff_getElem.1 hx
     obtain ⟨h1,h2⟩:=ord_nat ho hi
     have:=pow6 hl.2
     rw [List.getD,List.getElem?_eq_getElem hi,Option.getD_some] at h1
     rw [h1]; omega
   · rw [(List.mem_replicate.1 hx).2]; omega
 · rw [List.mem_singleton.1 hx]; omega
theorem bldT {o:List Int} (h:o.length≤6) {n:Nat} {K:Value→Prop}:Wt prog 172 [(0,ordV o),(1,Zx (n:Nat))] K=K (.agg ((encN o n).map Zx).toArray):=by
 have h7:=Xk h
 have e1:cellsOf (ordV o)=We o:=rfl
 have e2:Yk (Yk [Value.int .i64 0,.int .i64 0,.int .i64 0,.int .i64 0,.int .i64 0,.int .i64 0,.int .i64 0,.int .i64 0] 0 (We o)) 7 [Zx (n:Nat)]=(encN o n).map Zx:=by
  have e3:(encN o n).map Zx=We o++[Zx (n:Nat)]:=by simp [encN,We]
  rw [e3]
  generalize We o=c at h7 ⊢
  match c,h7 with
  | [a,b,c,d,e,f,g],_=>rfl
 have e4:(Yk [Value.int .i64 0,Value.int .i64 0,Value.int .i64 0,Value.int .i64 0,Value.int .i64 0,Value.int .i64 0,Value.int .i64 0,Value.int .i64 0] 0 (We o)).length=8:=by
  clear e1 e2
  generalize We o=c at h7 ⊢
  match c,h7 with
  | [a,b,c,d,e,f,g],_=>rfl
 simp only [Wt,zero_172,fillL,pl_172_0,pl_172_1,e1,h7]
 simp [Ww,cellsOf,ordV,e2,e4]
def SK (bs bm:Nat) (h:Yb):Prop:=h[bs]? = some (.cells [.map (some bm)] 103 false)∧∃ l:List (List Int×Bool),h[bm]? = some (.map (mA Value.bool l))∧KeysN 8 l∧∀ o n v,ord o=true→aget (encN o n) l=some v→v=srtb n o
theorem SK.ext {bs bm:Nat} {h h' : Yb} (hs:SK bs bm h) (he:Ext (fun _=>False) h h'):SK bs bm h':=by
 obtain ⟨h1,l,h2,h3⟩:=hs
 exact ⟨(he.2 _ (Yu h1) id).trans h1,l,(he.2 _ (Yu h2) id).trans h2,h3⟩
theorem SK.ne {bs bm b:Nat} {h:Yb} (hs:SK bs bm h) {c:List Value} {t:TypeId} {ro:Bool} (hb:h[b]? = some (.cells c t ro)):b≠bm:=by
 obtain ⟨_,l,h2,_⟩:=hs
 rintro rfl
 rw [h2] at hb; cases hb
theorem boxPr {h:Yb} {p:Int×Int} {K:Value→Yb→Prop}:boxK prog h 28 (pV p) K=K (Xh h) (h++[.cells [Zx p.1,Zx p.2] 28 false]):=by
 simp only [boxK,pV,esz_28,Option.isSome_some,true_and,cellsOf]
theorem loadPr {h:Yb} {b:Nat} {ro:Bool} {x y:Int} {K:Value→Prop} (hb:h[b]? = some (.cells [Zx x,Zx y] 28 ro)):Xu prog h 28 (ptB b) K=K (pV (x,y)) :=
 loadA hb (by rw [shp_28]; rfl)
def inR2 (p:Int×Int):Prop:=inR64 [p.1,p.2]
theorem pV_ints (p:Int×Int):Yx (#[Zx p.1,Zx p.2]:Array Value).toList=some [p.1,p.2]:=Xv [p.1,p.2]
theorem s163_callW [Tabs Tryd.prog] {args:List Value} {h:Yb} {Q:Value→Yb→Prop} (hsz:args.length≤13) (hk:AWS Tryd.prog 13 s163 (Zu Tryd.prog [.tmp 5] Q) (Zp 0 args) h):ACall Tryd.prog 163 args h Q :=
 Xy Tryd.func163 rfl (enters_of Tryd.func163 (by kernel_rfl) rfl) rfl rfl (by decide) s163_strip s163_ok hsz hk
theorem uneven_call [Tabs prog] {h:Yb} {bu bm:Nat} {l:List (List Int×Int)} {p q:Int×Int} (hb:h[bu]? = some (.cells [.map (some bm)] 187 false)) (hm:h[bm]? = some (.map (mA Zx l))) (hl:KeysN 2 l) (hp:inR2 p) (hq:inR2 q) :
  ∃ r:Int,APure prog 163 ([pV p,pV q]++[ptB bu]) h (Zx r):=by
 refine ⟨subV .i64 ((aget [p.1,p.2] l).getD 0) ((aget [q.1,q.2] l).getD 0),?_⟩
 have hg : ∀ k:List Int,((aget k l).map Zx).getD (.int .i64 0)=Zx ((aget k l).getD 0):=fun k=>by cases aget k l <;> rfl
 refine ACall.forget (Low.int _ _) ?_
 refine s163_callW (by simp) ?_
 simp only [s163]
 refine Yc fun N1 hN1=>?_
 simp (maxSteps:=2000000) only [s163,↓Za,↓Zj,↓Zr,↓Ze,↓Zi,↓Zs,↓Zf,↓Zo,↓Zg,↓Zb,↓Zc,↓vdn,vup,Zh,Zn,Zl,Zm,Zk,List.map_cons,List.map_nil,cond_true,cond_false,aop,Zv,Zq,Zp,ev,sput,Zt,Zy,Ya,unK,Zd,Zw,Nat.reduceBEq,Nat.reduceAdd,Int.reduceBEq,Int.reduceBNe,Int.reduceLT,Zu,Zz,tup,tyf,Yz,List.nil_append,List.append_nil,List.toList_toArray,List.cons_append,boxPr,Xh]
 have c0:(h++[Blk.cells [Zx p.1,Zx p.2] 28 false]++[Blk.cells [Zx q.1,Zx q.2] 28 false])[h.length]? = some (.cells [Zx p.1,Zx p.2] 28 false):=Yp (Yt _ _) _
 have c1:=Yt (h++[Blk.cells [Zx p.1,Zx p.2] 28 false]) (Blk.cells [Zx q.1,Zx q.2] 28 false)
 have d0:(h++[Blk.cells [Zx p.1,Zx p.2] 28 false]++[Blk.cells [Zx q.1,Zx q.2] 28 false])[bu]? = some (.cells [.map (some bm)] 187 false):=Yp (Yp hb _) _
 have d1:(h++[Blk.cells [Zx p.1,Zx p.2] 28 false]++[Blk.cells [Zx q.1,Zx q.2] 28 false])[bm]? = some (.map (mA Zx l)):=Yp (Yp hm _) _
 have hE:Ext (fun _=>False) h (h++[Blk.cells [Zx p.1,Zx p.2] 28 false]++[Blk.cells [Zx q.1,Zx q.2] 28 false]):=by rw [List.append_assoc]; exact Ext.app _ _ _
 generalize h++[Blk.cells [Zx p.1,Zx p.2] 28 false]++[Blk.cells [Zx q.1,Zx q.2] 28 false]=G at c0 c1 d0 d1 hE ⊢
 generalize (h++[Blk.cells [Zx p.1,Zx p.2] 28 false]).length=b1 at c1 ⊢
 generalize h.length=b0 at c0 ⊢
 refine hN1 [(0,pV p),(1,pV q),(2,ptB bu),(3,ptB b0),(4,ptB b1),(5,.int .i64 0)] _ _ ?_ (by simp (maxSteps:=2000000) only [↓Za,↓Zj,↓Zr,↓Ze,↓Zi,↓Zs,↓Zf,↓Zo,↓Zg,↓Zb,↓Zc,↓vdn,vup,Zh,Zn,Zl,Zm,Zk,List.map_cons,List.map_nil,cond_true,cond_false,aop,Zv,Zq,Zp,ev,sput,Zt,Zy,Ya,unK,Zd,Zw,Nat.reduceBEq,Nat.reduceAdd,Int.reduceBEq,Int.reduceBNe,Int.reduceLT,Zu,Zz,tup,tyf])
 clear hN1
 try clear N1
 refine Yf ?_
 simp (maxSteps:=2000000) only [s163,↓Za,↓Zj,↓Zr,↓Ze,↓Zi,↓Zs,↓Zf,↓Zo,↓Zg,↓Zb,↓Zc,↓vdn,vup,Zh,Zn,Zl,Zm,Zk,List.map_cons,List.map_nil,cond_true,cond_false,aop,Zv,Zq,Zp,ev,sput,Zt,Zy,Ya,unK,Zd,Zw,Nat.reduceBEq,Nat.reduceAdd,Int.reduceBEq,Int.reduceBNe,Int.reduceLT,Zu,Zz,tup,tyf]
 simp only [q163_1]
 refine Xi [] (by kernel_rfl) (by kernel_rfl) (by kernel_rfl) (by kernel_rfl) ?_
 simp (maxSteps:=2000000) only [s163,↓Za,↓Zj,↓Zr,↓Ze,↓Zi,↓Zs,↓Zf,↓Zo,↓Zg,↓Zb,↓Zc,↓vdn,vup,Zh,Zn,Zl,Zm,Zk,List.map_cons,List.map_nil,cond_true,cond_false,aop,Zv,Zq,Zp,ev,sput,Zt,Zy,Ya,unK,Zd,Zw,Nat.reduceBEq,Nat.reduceAdd,Int.reduceBEq,Int.reduceBNe,Int.reduceLT,Zu,Zz,tup,tyf,↓Vn,↓Wp,Xb d0 shp_187,loadPr c0,loadPr c1]
 refine lookupA d1 und_187 keyT_33 zvI hl (pV_ints p) rfl hp ?_
 simp (maxSteps:=2000000) only [s163,↓Za,↓Zj,↓Zr,↓Ze,↓Zi,↓Zs,↓Zf,↓Zo,↓Zg,↓Zb,↓Zc,↓vdn,vup,Zh,Zn,Zl,Zm,Zk,List.map_cons,List.map_nil,cond_true,cond_false,aop,Zv,Zq,Zp,ev,sput,Zt,Zy,Ya,unK,Zd,Zw,Nat.reduceBEq,Nat.reduceAdd,Int.reduceBEq,Int.reduceBNe,Int.reduceLT,Zu,Zz,tup,tyf,↓Vn,↓Wp,Xb d0 shp_187,loadPr c0,loadPr c1]
 refine lookupA d1 und_187 keyT_33 zvI hl (pV_ints q) rfl hq ?_
 simp (maxSteps:=2000000) only [s163,↓Za,↓Zj,↓Zr,↓Ze,↓Zi,↓Zs,↓Zf,↓Zo,↓Zg,↓Zb,↓Zc,↓vdn,vup,Zh,Zn,Zl,Zm,Zk,List.map_cons,List.map_nil,cond_true,cond_false,aop,Zv,Zq,Zp,ev,sput,Zt,Zy,Ya,unK,Zd,Zw,Nat.reduceBEq,Nat.reduceAdd,Int.reduceBEq,Int.reduceBNe,Int.reduceLT,Zu,Zz,tup,tyf,hg]
 exact hE
theorem s91_callW [Tabs Tryd.prog] {args:List Value} {h:Yb} {Q:Value→Yb→Prop} (hsz:args.length≤19) (hk:AWS Tryd.prog 19 s91 (Zu Tryd.prog [.tmp 4] Q) (Zp 0 args) h):ACall Tryd.prog 91 args h Q :=
 Xy Tryd.func91 rfl (enters_of Tryd.func91 (by kernel_rfl) rfl) rfl rfl (by decide) s91_strip s91_ok hsz hk
theorem indexP_call [Tabs prog] {h:Yb} {v:Value} {ps:List (Int×Int)} {fn:FuncId} {cap:Array Value} (hl:ps.length<9223372036854775808) (I J:Nat→Yb→Prop) (hI : ∀ k hp,I k hp→PairSl hp v ps)
  (step : ∀ k,k<ps.length→∀ hp,I k hp→ACall prog fn (([]:List Value)++[pV (ps.getD k (0,0))]++cap.toList) hp fun r h2=>∃ b,r = .bool b∧(b=true→J k h2)∧(b=false→I (k+1) h2)) (h0:I 0 h) :
  ACall prog 91 [v,.func (.func fn) #[] cap] h fun r h'=>(∃ k,k<ps.length∧r=Zx (k:Nat)∧J k h')∨(r = .int .i64 (-1)∧I ps.length h'):=by
 refine s91_callW (by simp) ?_
 simp only [s91]
 refine Yc fun N2 hN2=>?_
 simp (maxSteps:=2000000) only [s91,↓Za,↓Zj,↓Zr,↓Ze,↓Zi,↓Zs,↓Zf,↓Zo,↓Zg,↓Zb,↓Zc,↓vdn,vup,Zh,Zn,Zl,Zm,Zk,List.map_cons,List.map_nil,cond_true,cond_false,aop,Zv,Zq,Zp,ev,sput,Zt,Zy,Ya,unK,Zd,Zw,Nat.reduceBEq,Nat.reduceAdd,Int.reduceBEq,Int.reduceBNe,Int.reduceLT,Zu,Zz,tup,tyf]
 refine hN2 [(0,v),(1,.func (.func fn) #[] cap),(4,.int .i64 0)] _ _ ?_ (by simp (maxSteps:=2000000) only [↓Za,↓Zj,↓Zr,↓Ze,↓Zi,↓Zs,↓Zf,↓Zo,↓Zg,↓Zb,↓Zc,↓vdn,vup,Zh,Zn,Zl,Zm,Zk,List.map_cons,List.map_nil,cond_true,cond_false,aop,Zv,Zq,Zp,ev,sput,Zt,Zy,Ya,unK,Zd,Zw,Nat.reduceBEq,Nat.reduceAdd,Int.reduceBEq,Int.reduceBNe,Int.reduceLT,Zu,Zz,tup,tyf])
 clear hN2
 try clear N2
 refine Yg fun M hM=>?_
 refine Yc fun N3 hN3=>?_
 simp (maxSteps:=2000000) only [s91,↓Za,↓Zj,↓Zr,↓Ze,↓Zi,↓Zs,↓Zf,↓Zo,↓Zg,↓Zb,↓Zc,↓vdn,vup,Zh,Zn,Zl,Zm,Zk,List.map_cons,List.map_nil,cond_true,cond_false,aop,Zv,Zq,Zp,ev,sput,Zt,Zy,Ya,unK,Zd,Zw,Nat.reduceBEq,Nat.reduceAdd,Int.reduceBEq,Int.reduceBNe,Int.reduceLT,Zu,Zz,tup,tyf,(hI _ _ h0).len]
 refine hN3 [(0,v),(1,.func (.func fn) #[] cap),(4,.int .i64 0),(7,Zx ps.length),(8,.int .i64 0)] _ _ ?_ (by simp (maxSteps:=2000000) only [↓Za,↓Zj,↓Zr,↓Ze,↓Zi,↓Zs,↓Zf,↓Zo,↓Zg,↓Zb,↓Zc,↓vdn,vup,Zh,Zn,Zl,Zm,Zk,List.map_cons,List.map_nil,cond_true,cond_false,aop,Zv,Zq,Zp,ev,sput,Zt,Zy,Ya,unK,Zd,Zw,Nat.reduceBEq,Nat.reduceAdd,Int.reduceBEq,Int.reduceBNe,Int.reduceLT,Zu,Zz,tup,tyf])
 clear hN3
 try clear N3
 refine Yo ?_
 refine Yn fun Q hQ=>?_
 refine Xx (γ:=Nat×Yb) (fun s=>s.1≤ps.length∧I s.1 s.2)
  (fun s=>([(0,v),(1,.func (.func fn) #[] cap),(4,.int .i64 0),(7,Zx ps.length),(8,Zx (s.1:Nat))],s.2)) (fun s=>ps.length-s.1) (0,h) ⟨Nat.zero_le _,h0⟩ (by simp (maxSteps:=2000000) only [↓Za,↓Zj,↓Zr,↓Ze,↓Zi,↓Zs,↓Zf,↓Zo,↓Zg,↓Zb,↓Zc,↓vdn,vup,Zh,Zn,Zl,Zm,Zk,List.map_cons,List.map_nil,cond_true,cond_false,aop,Zv,Zq,Zp,ev,sput,Zt,Zy,Ya,unK,Zd,Zw,Nat.reduceBEq,Nat.reduceAdd,Int.reduceBEq,Int.reduceBNe,Int.reduceLT,Zu,Zz,tup,tyf,Int.natCast_zero]) rfl ?_
 rintro ⟨k,hp⟩ ⟨hk,hik⟩
 simp only at hk hik
 refine Yn fun Q2 hQ2=>?_
 simp only [l91_0]
 have hv:=hI _ _ hik
 by_cases hin:(k:Int)<ps.length
 · have hk' : k<ps.length:=by omega
   refine Yc fun N4 hN4=>?_
   simp (maxSteps:=2000000) only [s91,↓Za,↓Zj,↓Zr,↓Ze,↓Zi,↓Zs,↓Zf,↓Zo,↓Zg,↓Zb,↓Zc,↓vdn,vup,Zh,Zn,Zl,Zm,Zk,List.map_cons,List.map_nil,cond_true,cond_false,aop,Zv,Zq,Zp,ev,sput,Zt,Zy,Ya,unK,Zd,Zw,Nat.reduceBEq,Nat.reduceAdd,Int.reduceBEq,Int.reduceBNe,Int.reduceLT,Zu,Zz,tup,tyf,hin]
   refine hN4 [(0,v),(1,.func (.func fn) #[] cap),(4,.int .i64 0),(7,Zx ps.length),(8,Zx (k:Nat)),(9,.bool true)] _ _ ?_ (by simp (maxSteps:=2000000) only [↓Za,↓Zj,↓Zr,↓Ze,↓Zi,↓Zs,↓Zf,↓Zo,↓Zg,↓Zb,↓Zc,↓vdn,vup,Zh,Zn,Zl,Zm,Zk,List.map_cons,List.map_nil,cond_true,cond_false,aop,Zv,Zq,Zp,ev,sput,Zt,Zy,Ya,unK,Zd,Zw,Nat.reduceBEq,Nat.reduceAdd,Int.reduceBEq,Int.reduceBNe,Int.reduceLT,Zu,Zz,tup,tyf])
   clear hN4
   try clear N4
   refine Yc fun N5 hN5=>?_
   simp (maxSteps:=2000000) only [s91,↓Za,↓Zj,↓Zr,↓Ze,↓Zi,↓Zs,↓Zf,↓Zo,↓Zg,↓Zb,↓Zc,↓vdn,vup,Zh,Zn,Zl,Zm,Zk,List.map_cons,List.map_nil,cond_true,cond_false,aop,Zv,Zq,Zp,ev,sput,Zt,Zy,Ya,unK,Zd,Zw,Nat.reduceBEq,Nat.reduceAdd,Int.reduceBEq,Int.reduceBNe,Int.reduceLT,Zu,Zz,tup,tyf]
   refine hN5 [(0,v),(1,.func (.func fn) #[] cap),(4,.int .i64 0),(7,Zx ps.length),(8,Zx (k:Nat))] _ _ ?_ (by simp (maxSteps:=2000000) only [↓Za,↓Zj,↓Zr,↓Ze,↓Zi,↓Zs,↓Zf,↓Zo,↓Zg,↓Zb,↓Zc,↓vdn,vup,Zh,Zn,Zl,Zm,Zk,List.map_cons,List.map_nil,cond_true,cond_false,aop,Zv,Zq,Zp,ev,sput,Zt,Zy,Ya,unK,Zd,Zw,Nat.reduceBEq,Nat.reduceAdd,Int.reduceBEq,Int.reduceBNe,Int.reduceLT,Zu,Zz,tup,tyf])
   clear hN5
   try clear N5
   refine Yg fun B hB=>?_
   refine Yo ?_
   refine Yc fun N6 hN6=>?_
   simp (maxSteps:=2000000) only [s91,↓Za,↓Zj,↓Zr,↓Ze,↓Zi,↓Zs,↓Zf,↓Zo,↓Zg,↓Zb,↓Zc,↓vdn,vup,Zh,Zn,Zl,Zm,Zk,List.map_cons,List.map_nil,cond_true,cond_false,aop,Zv,Zq,Zp,ev,sput,Zt,Zy,Ya,unK,Zd,Zw,Nat.reduceBEq,Nat.reduceAdd,Int.reduceBEq,Int.reduceBNe,Int.reduceLT,Zu,Zz,tup,tyf]
   refine hN6 [(0,v),(1,.func (.func fn) #[] cap),(4,.int .i64 0),(5,Zx (k:Nat)),(7,Zx ps.length),(8,Zx (k:Nat))] _ _ ?_ (by simp (maxSteps:=2000000) only [↓Za,↓Zj,↓Zr,↓Ze,↓Zi,↓Zs,↓Zf,↓Zo,↓Zg,↓Zb,↓Zc,↓vdn,vup,Zh,Zn,Zl,Zm,Zk,List.map_cons,List.map_nil,cond_true,cond_false,aop,Zv,Zq,Zp,ev,sput,Zt,Zy,Ya,unK,Zd,Zw,Nat.reduceBEq,Nat.reduceAdd,Int.reduceBEq,Int.reduceBNe,Int.reduceLT,Zu,Zz,tup,tyf])
   clear hN6
   try clear N6
   refine Yc fun N7 hN7=>?_
   simp (maxSteps:=2000000) only [s91,↓Za,↓Zj,↓Zr,↓Ze,↓Zi,↓Zs,↓Zf,↓Zo,↓Zg,↓Zb,↓Zc,↓vdn,vup,Zh,Zn,Zl,Zm,Zk,List.map_cons,List.map_nil,cond_true,cond_false,aop,Zv,Zq,Zp,ev,sput,Zt,Zy,Ya,unK,Zd,Zw,Nat.reduceBEq,Nat.reduceAdd,Int.reduceBEq,Int.reduceBNe,Int.reduceLT,Zu,Zz,tup,tyf,Yz,List.nil_append,List.append_nil,List.toList_toArray,List.cons_append,hv.idx el_26 esz_28 hk',hv.load shp_28 hk']
   refine (step k hk' hp hik).mono ?_
   rintro _ h2 ⟨b,rfl,hJ,hI2⟩
   cases b with
   | true =>
     refine hN7 [(0,v),(1,.func (.func fn) #[] cap),(4,.int .i64 0),(5,Zx (k:Nat)),(7,Zx ps.length),(8,Zx (k:Nat)),(16,.bool true)] _ _ ?_ (by simp (maxSteps:=2000000) only [↓Za,↓Zj,↓Zr,↓Ze,↓Zi,↓Zs,↓Zf,↓Zo,↓Zg,↓Zb,↓Zc,↓vdn,vup,Zh,Zn,Zl,Zm,Zk,List.map_cons,List.map_nil,cond_true,cond_false,aop,Zv,Zq,Zp,ev,sput,Zt,Zy,Ya,unK,Zd,Zw,Nat.reduceBEq,Nat.reduceAdd,Int.reduceBEq,Int.reduceBNe,Int.reduceLT,Zu,Zz,tup,tyf])
     clear hN7
     try clear N7
     refine Xl rfl ?_
     refine Yf ?_
     simp (maxSteps:=2000000) only [s91,↓Za,↓Zj,↓Zr,↓Ze,↓Zi,↓Zs,↓Zf,↓Zo,↓Zg,↓Zb,↓Zc,↓vdn,vup,Zh,Zn,Zl,Zm,Zk,List.map_cons,List.map_nil,cond_true,cond_false,aop,Zv,Zq,Zp,ev,sput,Zt,Zy,Ya,unK,Zd,Zw,Nat.reduceBEq,Nat.reduceAdd,Int.reduceBEq,Int.reduceBNe,Int.reduceLT,Zu,Zz,tup,tyf]
     refine hQ2 _ _ _ (hQ _ _ _ ?_)
     simp (maxSteps:=2000000) only [s91,↓Za,↓Zj,↓Zr,↓Ze,↓Zi,↓Zs,↓Zf,↓Zo,↓Zg,↓Zb,↓Zc,↓vdn,vup,Zh,Zn,Zl,Zm,Zk,List.map_cons,List.map_nil,cond_true,cond_false,aop,Zv,Zq,Zp,ev,sput,Zt,Zy,Ya,unK,Zd,Zw,Nat.reduceBEq,Nat.reduceAdd,Int.reduceBEq,Int.reduceBNe,Int.reduceLT,Zu,Zz,tup,tyf]
     exact .inl ⟨k,hk',rfl,hJ rfl⟩
   | false =>
     refine hN7 [(0,v),(1,.func (.func fn) #[] cap),(4,.int .i64 0),(5,Zx (k:Nat)),(7,Zx ps.length),(8,Zx (k:Nat)),(16,.bool false)] _ _ ?_ (by simp (maxSteps:=2000000) only [↓Za,↓Zj,↓Zr,↓Ze,↓Zi,↓Zs,↓Zf,↓Zo,↓Zg,↓Zb,↓Zc,↓vdn,vup,Zh,Zn,Zl,Zm,Zk,List.map_cons,List.map_nil,cond_true,cond_false,aop,Zv,Zq,Zp,ev,sput,Zt,Zy,Ya,unK,Zd,Zw,Nat.reduceBEq,Nat.reduceAdd,Int.reduceBEq,Int.reduceBNe,Int.reduceLT,Zu,Zz,tup,tyf])
     clear hN7
     try clear N7
     refine Xe rfl ?_
     refine Yf ?_
     simp (maxSteps:=2000000) only [s91,↓Za,↓Zj,↓Zr,↓Ze,↓Zi,↓Zs,↓Zf,↓Zo,↓Zg,↓Zb,↓Zc,↓vdn,vup,Zh,Zn,Zl,Zm,Zk,List.map_cons,List.map_nil,cond_true,cond_false,aop,Zv,Zq,Zp,ev,sput,Zt,Zy,Ya,unK,Zd,Zw,Nat.reduceBEq,Nat.reduceAdd,Int.reduceBEq,Int.reduceBNe,Int.reduceLT,Zu,Zz,tup,tyf]
     refine hB [(0,v),(1,.func (.func fn) #[] cap),(4,.int .i64 0),(7,Zx ps.length),(8,Zx (k:Nat))] _ _ ?_ (by simp (maxSteps:=2000000) only [↓Za,↓Zj,↓Zr,↓Ze,↓Zi,↓Zs,↓Zf,↓Zo,↓Zg,↓Zb,↓Zc,↓vdn,vup,Zh,Zn,Zl,Zm,Zk,List.map_cons,List.map_nil,cond_true,cond_false,aop,Zv,Zq,Zp,ev,sput,Zt,Zy,Ya,unK,Zd,Zw,Nat.reduceBEq,Nat.reduceAdd,Int.reduceBEq,Int.reduceBNe,Int.reduceLT,Zu,Zz,tup,tyf])
     clear hB
     try clear B
     refine Yf ?_
     simp (maxSteps:=2000000) only [s91,↓Za,↓Zj,↓Zr,↓Ze,↓Zi,↓Zs,↓Zf,↓Zo,↓Zg,↓Zb,↓Zc,↓vdn,vup,Zh,Zn,Zl,Zm,Zk,List.map_cons,List.map_nil,cond_true,cond_false,aop,Zv,Zq,Zp,ev,sput,Zt,Zy,Ya,unK,Zd,Zw,Nat.reduceBEq,Nat.reduceAdd,Int.reduceBEq,Int.reduceBNe,Int.reduceLT,Zu,Zz,tup,tyf,add1 (show k<9223372036854775807 by omega)]
     exact hQ2 _ _ _ ⟨(k+1,h2),⟨hk',hI2 rfl⟩,by simp only; omega,by simp (maxSteps:=2000000) only [↓Za,↓Zj,↓Zr,↓Ze,↓Zi,↓Zs,↓Zf,↓Zo,↓Zg,↓Zb,↓Zc,↓vdn,vup,Zh,Zn,Zl,Zm,Zk,List.map_cons,List.map_nil,cond_true,cond_false,aop,Zv,Zq,Zp,ev,sput,Zt,Zy,Ya,unK,Zd,Zw,Nat.reduceBEq,Nat.reduceAdd,Int.reduceBEq,Int.reduceBNe,Int.reduceLT,Zu,Zz,tup,tyf],rfl⟩
 · obtain rfl:k=ps.length:=by omega
   refine Yc fun N8 hN8=>?_
   simp (maxSteps:=2000000) only [s91,↓Za,↓Zj,↓Zr,↓Ze,↓Zi,↓Zs,↓Zf,↓Zo,↓Zg,↓Zb,↓Zc,↓vdn,vup,Zh,Zn,Zl,Zm,Zk,List.map_cons,List.map_nil,cond_true,cond_false,aop,Zv,Zq,Zp,ev,sput,Zt,Zy,Ya,unK,Zd,Zw,Nat.reduceBEq,Nat.reduceAdd,Int.reduceBEq,Int.reduceBNe,Int.reduceLT,Zu,Zz,tup,tyf,hin]
   refine hN8 [(0,v),(1,.func (.func fn) #[] cap),(4,.int .i64 0),(7,Zx ps.length),(8,Zx (ps.length:Nat)),(9,.bool false)] _ _ ?_ (by simp (maxSteps:=2000000) only [↓Za,↓Zj,↓Zr,↓Ze,↓Zi,↓Zs,↓Zf,↓Zo,↓Zg,↓Zb,↓Zc,↓vdn,vup,Zh,Zn,Zl,Zm,Zk,List.map_cons,List.map_nil,cond_true,cond_false,aop,Zv,Zq,Zp,ev,sput,Zt,Zy,Ya,unK,Zd,Zw,Nat.reduceBEq,Nat.reduceAdd,Int.reduceBEq,Int.reduceBNe,Int.reduceLT,Zu,Zz,tup,tyf])
   clear hN8
   try clear N8
   refine Yc fun N9 hN9=>?_
   simp (maxSteps:=2000000) only [s91,↓Za,↓Zj,↓Zr,↓Ze,↓Zi,↓Zs,↓Zf,↓Zo,↓Zg,↓Zb,↓Zc,↓vdn,vup,Zh,Zn,Zl,Zm,Zk,List.map_cons,List.map_nil,cond_true,cond_false,aop,Zv,Zq,Zp,ev,sput,Zt,Zy,Ya,unK,Zd,Zw,Nat.reduceBEq,Nat.reduceAdd,Int.reduceBEq,Int.reduceBNe,Int.reduceLT,Zu,Zz,tup,tyf]
   refine hQ2 _ _ _ (hQ _ _ _ ?_)
   simp (maxSteps:=2000000) only [s91,↓Za,↓Zj,↓Zr,↓Ze,↓Zi,↓Zs,↓Zf,↓Zo,↓Zg,↓Zb,↓Zc,↓vdn,vup,Zh,Zn,Zl,Zm,Zk,List.map_cons,List.map_nil,cond_true,cond_false,aop,Zv,Zq,Zp,ev,sput,Zt,Zy,Ya,unK,Zd,Zw,Nat.reduceBEq,Nat.reduceAdd,Int.reduceBEq,Int.reduceBNe,Int.reduceLT,Zu,Zz,tup,tyf,if_true]
   refine hM [(0,v),(1,.func (.func fn) #[] cap),(4,.int .i64 0),(7,Zx ps.length),(8,Zx (ps.length:Nat)),(9,.bool false)] _ _ ?_ (by simp (maxSteps:=2000000) only [↓Za,↓Zj,↓Zr,↓Ze,↓Zi,↓Zs,↓Zf,↓Zo,↓Zg,↓Zb,↓Zc,↓vdn,vup,Zh,Zn,Zl,Zm,Zk,List.map_cons,List.map_nil,cond_true,cond_false,aop,Zv,Zq,Zp,ev,sput,Zt,Zy,Ya,unK,Zd,Zw,Nat.reduceBEq,Nat.reduceAdd,Int.reduceBEq,Int.reduceBNe,Int.reduceLT,Zu,Zz,tup,tyf])
   clear hM
   try clear M
   refine Yf ?_
   simp (maxSteps:=2000000) only [s91,↓Za,↓Zj,↓Zr,↓Ze,↓Zi,↓Zs,↓Zf,↓Zo,↓Zg,↓Zb,↓Zc,↓vdn,vup,Zh,Zn,Zl,Zm,Zk,List.map_cons,List.map_nil,cond_true,cond_false,aop,Zv,Zq,Zp,ev,sput,Zt,Zy,Ya,unK,Zd,Zw,Nat.reduceBEq,Nat.reduceAdd,Int.reduceBEq,Int.reduceBNe,Int.reduceLT,Zu,Zz,tup,tyf]
   exact .inr hik
end Go.Proofs.Tryd.Am.Or
namespace Go.Proofs.Tryd.Am.Or
open Go.Proofs.Tryd.Am
open Go.Am Ord
set_option maxRecDepth 100000
set_option maxHeartbeats 2000000
def SortsOK [BitTab prog 0] (bs bm m:Nat):Prop:=∀ (h:Yb) (o:List Int),ord o=true→SK bs bm h →
 ACall prog 102 [ptB bs,ordV o,Zx (m:Nat)] h fun r h'=>r = .bool (srtb m o)∧SK bs bm h'∧Ext (fun b=>b=bm) h h'
def bothB (m:Nat) (o:List Int) (i j:Nat):Bool:=srtb m (addL o i j)&&srtb m (addL o j i)
theorem s164_callW [Tabs Tryd.prog] {args:List Value} {h:Yb} {Q:Value→Yb→Prop} (hsz:args.length≤28) (hk:AWS Tryd.prog 28 s164 (Zu Tryd.prog [.tmp 5] Q) (Zp 0 args) h):ACall Tryd.prog 164 args h Q :=
 Xy Tryd.func164 rfl (enters_of Tryd.func164 (by kernel_rfl) rfl) rfl rfl (by decide) s164_strip s164_ok hsz hk
theorem try_call [BitTab prog 0] {bs bm m:Nat} (ih:SortsOK bs bm m) (hm:m≤60) {h:Yb} {o:List Int} (ho:ord o=true) (hs:SK bs bm h) {i j:Nat} (hi:i<o.length) (hj:j<o.length) (hf:fr o i j=true) {b3 b4 b5:Nat}
  (h3:h[b3]? = some (.cells [ptB bs] 100 false)) (h4:h[b4]? = some (.cells (We o) 97 false)) (h5:h[b5]? = some (.cells [Zx ((m+1:Nat):Int)] 3 false)) :
  ACall prog 164 (([]:List Value)++[pV ((i:Int),(j:Int))]++[ptB b3,ptB b4,ptB b5]) h fun r h'=>r = .bool (bothB m o i j)∧SK bs bm h'∧Ext (fun b=>b=bm) h h':=by
 have hl:=Xq ho
 obtain ⟨f1,f2,f3⟩:=fr_out hf
 have o1:=addL_ord ho hi hj f1 f3
 have o2:=addL_ord ho hj hi (Ne.symm f1) f2
 have hsub:subV .i64 ((m+1:Nat):Int) 1=(m:Int):=by rw [subV_id (by omega) (by omega)]; omega
 refine s164_callW (by simp) ?_
 simp only [s164]
 refine Yc fun N1 hN1=>?_
 simp (maxSteps:=2000000) only [s164,↓Za,↓Zj,↓Zr,↓Ze,↓Zi,↓Zs,↓Zf,↓Zo,↓Zg,↓Zb,↓Zc,↓vdn,vup,Zh,Zn,Zl,Zm,Zk,List.map_cons,List.map_nil,cond_true,cond_false,aop,Zv,Zq,Zp,ev,sput,Zt,Zy,Ya,unK,Zd,Zw,Nat.reduceBEq,Nat.reduceAdd,Int.reduceBEq,Int.reduceBNe,Int.reduceLT,Zu,Zz,tup,tyf,Yz,List.nil_append,List.append_nil,List.toList_toArray,List.cons_append,boxPr,Xh]
 have c0:=Yt h (Blk.cells [Zx ((i:Nat):Int),Zx ((j:Nat):Int)] 28 false)
 have hE0:Ext (fun _=>False) h (h++[Blk.cells [Zx ((i:Nat):Int),Zx ((j:Nat):Int)] 28 false]):=Ext.app _ _ _
 have g3:=Yp h3 [Blk.cells [Zx ((i:Nat):Int),Zx ((j:Nat):Int)] 28 false]
 have g4:=Yp h4 [Blk.cells [Zx ((i:Nat):Int),Zx ((j:Nat):Int)] 28 false]
 have g5:=Yp h5 [Blk.cells [Zx ((i:Nat):Int),Zx ((j:Nat):Int)] 28 false]
 have hsG:=hs.ext hE0
 generalize h++[Blk.cells [Zx ((i:Nat):Int),Zx ((j:Nat):Int)] 28 false]=G at c0 hE0 g3 g4 g5 hsG ⊢
 generalize h.length=b0 at c0 ⊢
 refine hN1 [(0,pV ((i:Int),(j:Int))),(1,ptB b3),(2,ptB b4),(3,ptB b5),(4,ptB b0),(5,.bool false)] _ _ ?_ (by simp (maxSteps:=2000000) only [↓Za,↓Zj,↓Zr,↓Ze,↓Zi,↓Zs,↓Zf,↓Zo,↓Zg,↓Zb,↓Zc,↓vdn,vup,Zh,Zn,Zl,Zm,Zk,List.map_cons,List.map_nil,cond_true,cond_false,aop,Zv,Zq,Zp,ev,sput,Zt,Zy,Ya,unK,Zd,Zw,Nat.reduceBEq,Nat.reduceAdd,Int.reduceBEq,Int.reduceBNe,Int.reduceLT,Zu,Zz,tup,tyf])
 clear hN1
 try clear N1
 refine Yf ?_
 simp (maxSteps:=2000000) only [s164,↓Za,↓Zj,↓Zr,↓Ze,↓Zi,↓Zs,↓Zf,↓Zo,↓Zg,↓Zb,↓Zc,↓vdn,vup,Zh,Zn,Zl,Zm,Zk,List.map_cons,List.map_nil,cond_true,cond_false,aop,Zv,Zq,Zp,ev,sput,Zt,Zy,Ya,unK,Zd,Zw,Nat.reduceBEq,Nat.reduceAdd,Int.reduceBEq,Int.reduceBNe,Int.reduceLT,Zu,Zz,tup,tyf]
 refine Xi [(6,1),(9,4),(17,1),(20,4)] (by kernel_rfl) (by kernel_rfl) (by kernel_rfl) (by kernel_rfl) ?_
 simp (maxSteps:=2000000) only [s164,↓Za,↓Zj,↓Zr,↓Ze,↓Zi,↓Zs,↓Zf,↓Zo,↓Zg,↓Zb,↓Zc,↓vdn,vup,Zh,Zn,Zl,Zm,Zk,List.map_cons,List.map_nil,cond_true,cond_false,aop,Zv,Zq,Zp,ev,sput,Zt,Zy,Ya,unK,Zd,Zw,Nat.reduceBEq,Nat.reduceAdd,Int.reduceBEq,Int.reduceBNe,Int.reduceLT,Zu,Zz,tup,tyf,Xb g3 shp_100,loadO g4 Xd hl.2,pidx0,pidx1,pl0 c0,pl1 c0,Yz,List.nil_append,List.append_nil,List.toList_toArray,List.cons_append]
 refine ⟨_,_,add_call ho hi hj,rfl,?_⟩
 simp (maxSteps:=2000000) only [s164,↓Za,↓Zj,↓Zr,↓Ze,↓Zi,↓Zs,↓Zf,↓Zo,↓Zg,↓Zb,↓Zc,↓vdn,vup,Zh,Zn,Zl,Zm,Zk,List.map_cons,List.map_nil,cond_true,cond_false,aop,Zv,Zq,Zp,ev,sput,Zt,Zy,Ya,unK,Zd,Zw,Nat.reduceBEq,Nat.reduceAdd,Int.reduceBEq,Int.reduceBNe,Int.reduceLT,Zu,Zz,tup,tyf,Xb g5 Xc,hsub,Yz,List.nil_append,List.append_nil,List.toList_toArray,List.cons_append]
 refine (ih G _ o1 hsG).mono ?_
 rintro _ G2 ⟨rfl,hs2,hE2⟩
 have k0:=(hE2.2 _ (Yu c0) (hsG.ne c0)).trans c0
 have k3:=(hE2.2 _ (Yu g3) (hsG.ne g3)).trans g3
 have k4:=(hE2.2 _ (Yu g4) (hsG.ne g4)).trans g4
 have k5:=(hE2.2 _ (Yu g5) (hsG.ne g5)).trans g5
 have hE3:Ext (fun b=>b=bm) h G2:=(hE0.mono fun _ h=>h.elim).trans hE2
 cases hb:srtb m (addL o i j) with
 | false =>
   simp (maxSteps:=2000000) only [s164,↓Za,↓Zj,↓Zr,↓Ze,↓Zi,↓Zs,↓Zf,↓Zo,↓Zg,↓Zb,↓Zc,↓vdn,vup,Zh,Zn,Zl,Zm,Zk,List.map_cons,List.map_nil,cond_true,cond_false,aop,Zv,Zq,Zp,ev,sput,Zt,Zy,Ya,unK,Zd,Zw,Nat.reduceBEq,Nat.reduceAdd,Int.reduceBEq,Int.reduceBNe,Int.reduceLT,Zu,Zz,tup,tyf,hb]
   exact ⟨by rw [bothB,hb]; rfl,hs2,hE3⟩
 | true =>
   simp (maxSteps:=2000000) only [s164,↓Za,↓Zj,↓Zr,↓Ze,↓Zi,↓Zs,↓Zf,↓Zo,↓Zg,↓Zb,↓Zc,↓vdn,vup,Zh,Zn,Zl,Zm,Zk,List.map_cons,List.map_nil,cond_true,cond_false,aop,Zv,Zq,Zp,ev,sput,Zt,Zy,Ya,unK,Zd,Zw,Nat.reduceBEq,Nat.reduceAdd,Int.reduceBEq,Int.reduceBNe,Int.reduceLT,Zu,Zz,tup,tyf,hb,Xb k3 shp_100,loadO k4 Xd hl.2,pidx0,pidx1,pl0 k0,pl1 k0,Yz,List.nil_append,List.append_nil,List.toList_toArray,List.cons_append]
   refine ⟨_,_,add_call ho hj hi,rfl,?_⟩
   simp (maxSteps:=2000000) only [s164,↓Za,↓Zj,↓Zr,↓Ze,↓Zi,↓Zs,↓Zf,↓Zo,↓Zg,↓Zb,↓Zc,↓vdn,vup,Zh,Zn,Zl,Zm,Zk,List.map_cons,List.map_nil,cond_true,cond_false,aop,Zv,Zq,Zp,ev,sput,Zt,Zy,Ya,unK,Zd,Zw,Nat.reduceBEq,Nat.reduceAdd,Int.reduceBEq,Int.reduceBNe,Int.reduceLT,Zu,Zz,tup,tyf,Xb k5 Xc,hsub,Yz,List.nil_append,List.append_nil,List.toList_toArray,List.cons_append]
   refine (ih G2 _ o2 hs2).mono ?_
   rintro _ G4 ⟨rfl,hs4,hE4⟩
   try simp (maxSteps:=2000000) only [s164,↓Za,↓Zj,↓Zr,↓Ze,↓Zi,↓Zs,↓Zf,↓Zo,↓Zg,↓Zb,↓Zc,↓vdn,vup,Zh,Zn,Zl,Zm,Zk,List.map_cons,List.map_nil,cond_true,cond_false,aop,Zv,Zq,Zp,ev,sput,Zt,Zy,Ya,unK,Zd,Zw,Nat.reduceBEq,Nat.reduceAdd,Int.reduceBEq,Int.reduceBNe,Int.reduceLT,Zu,Zz,tup,tyf]
   exact ⟨by rw [bothB,hb]; rfl,hs4,hE3.trans hE4⟩
def rowF (o:List Int) (i j:Nat):List (Nat×Nat):=(((List.range j).filter fun b=>decide (i<b)).filter fun b=>fr o i b).map fun b=>(i,b)
def allF (o:List Int):Nat→List (Nat×Nat)
 | 0=>[]
 | i+1=>allF o i++rowF o i o.length
theorem rowF_le (o:List Int) (i:Nat):(rowF o i (i+1))=[]:=by
 rw [rowF]
 have:(List.range (i+1)).filter (fun b=>decide (i<b))=[]:=by
  rw [List.filter_eq_nil_iff]
  intro b hb
  have:=List.mem_range.1 hb
  simp; omega
 rw [this]; rfl
theorem rowF_succ (o:List Int) {i j:Nat} (h:i<j):rowF o i (j+1)=rowF o i j++if fr o i j=true then [(i,j)] else []:=by
 rw [rowF,List.range_succ,List.filter_append,List.filter_append,List.map_append,rowF]
 simp [h,List.filter_cons]
 split <;> simp
theorem row_len (i:Nat) : ∀ j,((List.range j).filter fun b=>decide (i<b)).length≤j-1-i
 | 0=>by simp
 | j+1=>by
   have:=row_len i j
   rw [List.range_succ,List.filter_append,List.length_append,List.filter_cons]
   by_cases h:i<j
   · rw [if_pos (by simpa using h)]; simp; omega
   · rw [if_neg (by simpa using h)]; simp; omega
theorem rowF_len (o:List Int) (i j:Nat):(rowF o i j).length≤j-1-i:=by
 rw [rowF,List.length_map]
 exact Nat.le_trans (List.length_filter_le _ _) (row_len i j)
def triN (n:Nat):Nat→Nat
 | 0=>0
 | i+1=>triN n i+(n-1-i)
theorem allF_len (o:List Int) : ∀ i,(allF o i).length≤triN o.length i
 | 0=>Nat.le_refl _
 | i+1=>by
   have h1:=allF_len o i
   have h2:=rowF_len o i o.length
   rw [allF,List.length_append,triN]; omega
theorem tri_le : ∀ n,n<7→triN n n≤15:=by decide
theorem allF_15 {o:List Int} (h:o.length≤6):(allF o o.length).length≤15:=Nat.le_trans (allF_len o _) (tri_le _ (by omega))
theorem mem_rowF {o:List Int} {i j:Nat} {p:Nat×Nat}:p∈rowF o i j↔p.1=i∧i<p.2∧p.2<j∧fr o i p.2=true:=by
 simp only [rowF,List.mem_map,List.mem_filter,List.mem_range,decide_eq_true_eq]
 constructor
 · rintro ⟨b,⟨⟨h1,h2⟩,h3⟩,rfl⟩; exact ⟨rfl,h2,h1,h3⟩
 · rintro ⟨rfl,h2,h1,h3⟩; exact ⟨p.2,⟨⟨h1,h2⟩,h3⟩,rfl⟩
theorem mem_allF {o:List Int} {p:Nat×Nat} : ∀ {i},p∈allF o i↔p.1<i∧p.1<p.2∧p.2<o.length∧fr o p.1 p.2=true
 | 0=>by simp [allF]
 | i+1=>by
   rw [allF,List.mem_append,mem_allF,mem_rowF]
   constructor
   · rintro (⟨h1,h2⟩ | ⟨rfl,h2⟩)
     · exact ⟨by omega,h2⟩
     · exact ⟨by omega,h2⟩
   · rintro ⟨h1,h2,h3,h4⟩
     by_cases hp:p.1=i
     · exact .inr ⟨hp,by omega,h3,by rw [← hp]; exact h4⟩
     · exact .inl ⟨by omega,h2,h3,h4⟩
def pairB (m:Nat) (o:List Int):Bool:=(List.range o.length).any fun i=>(List.range o.length).any fun j=>decide (i<j)&&(fr o i j&&(srtb m (addL o i j)&&srtb m (addL o j i)))
theorem pairB_true {m:Nat} {o:List Int} {i j:Nat} (hij:i<j) (hj:j<o.length) (hf:fr o i j=true) (hb:bothB m o i j=true):pairB m o=true:=by
 refine List.any_eq_true.2 ⟨i,List.mem_range.2 (by omega),List.any_eq_true.2 ⟨j,List.mem_range.2 hj,?_⟩⟩
 rw [show decide (i<j)=true from decide_eq_true hij,hf]; exact hb
theorem pairB_false {m:Nat} {o:List Int} (h : ∀ i j,i<j→j<o.length→fr o i j=true→bothB m o i j=false):pairB m o=false:=by
 cases hb:pairB m o with
 | false=>rfl
 | true =>
   obtain ⟨i,hi,h1⟩:=List.any_eq_true.1 hb
   obtain ⟨j,hj,h2⟩:=List.any_eq_true.1 h1
   rw [Bool.and_eq_true,Bool.and_eq_true,decide_eq_true_eq] at h2
   have:=h i j h2.1 (List.mem_range.1 hj) h2.2.1
   rw [bothB,h2.2.2] at this; cases this
theorem srtb_succ (m:Nat) (o:List Int):srtb (m+1) o=(cn o==1 || (decide (cn o≤2 ^ (m+1))&&pairB m o)):=rfl
def iPP (l:List (Nat×Nat)):List (Int×Int):=l.map fun p=>((p.1:Int),(p.2:Int))
theorem iPP_len (l:List (Nat×Nat)):(iPP l).length=l.length:=List.length_map _
theorem iPP_app (a b:List (Nat×Nat)):iPP (a++b)=iPP a++iPP b:=List.map_append
theorem mem_iPP {l:List (Nat×Nat)} {p:Int×Int} (h:p∈iPP l) : ∃ a b:Nat,p=((a:Int),(b:Int))∧(a,b)∈l:=by
 obtain ⟨q,hq,rfl⟩:=List.mem_map.1 h
 exact ⟨q.1,q.2,rfl,hq⟩
end Go.Proofs.Tryd.Am.Or
