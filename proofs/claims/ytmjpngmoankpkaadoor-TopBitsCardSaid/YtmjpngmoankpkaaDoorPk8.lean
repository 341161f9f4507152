/-
  top: guessing without lies: a state is how many numbers are still possible; its sum, weight, and what it becomes.
  top: guessing without lies: what a state becomes; which numbers of questions win; the least.
  top: guessing without lies: the question that wins.
  top: guessing without lies: wins, and the least number of questions.
  top: guessing without lies: ask, wins, Least.
-/
import Derived.Test.YtmjpngmoankpkaaDoorPk4
import Derived.Test.YtmjpngmoankpkaaDoorPk5
import Derived.Test.YtmjpngmoankpkaaDoorPk6
import Derived.Test.YtmjpngmoankpkaaDoorPk7
set_option linter.all false
namespace Go.Proofs.Tryd.Am.Tg
open Go.Proofs.Tryd.Am
open Go.Am
set_option maxRecDepth 100000
set_option maxHeartbeats 2000000
theorem s105_callW [Tabs Tryd.prog] {args:List Value} {h:Yb} {Q:Value→Yb→Prop} (hsz:args.length≤17) (hk:AWS Tryd.prog 17 s105 (Zu Tryd.prog [.tmp 2] Q) (Zp 0 args) h):ACall Tryd.prog 105 args h Q :=
 Xy Tryd.func105 rfl (enters_of Tryd.func105 (by kernel_rfl) rfl) rfl rfl (by decide) s105_strip s105_ok hsz hk
theorem sum_call [Tabs prog] {h:Yb} {v:Value} {n:Nat} (hv:IntSl h v [(n:Int)]) (hn:n≤1000):APure prog 105 [v] h (Zx (n:Nat)):=by
 have hz:addV .i64 0 ((n:Nat):Int)=(n:Int):=by rw [addV_id (by omega) (by omega)]; omega
 refine s105_callW (by simp) ?_
 simp only [s105]
 refine Yc fun N1 hN1=>?_
 simp (maxSteps:=2000000) only [s105,↓Za,↓Zj,↓Zr,↓Ze,↓Zi,↓Zs,↓Zf,↓Zo,↓Zg,↓Zb,↓Zc,↓vdn,vup,Zh,Zn,Zl,Zm,Zk,List.map_cons,List.map_nil,cond_true,cond_false,aop,Zv,Zq,Zp,ev,sput,Zt,Zy,Ya,unK,Zd,Zw,Nat.reduceBEq,Nat.reduceAdd,Int.reduceBEq,Int.reduceBNe,Int.reduceLT,Zu,Zz,tup,tyf]
 refine hN1 [(0,v),(2,.int .i64 0)] _ _ ?_ (by simp (maxSteps:=2000000) only [↓Za,↓Zj,↓Zr,↓Ze,↓Zi,↓Zs,↓Zf,↓Zo,↓Zg,↓Zb,↓Zc,↓vdn,vup,Zh,Zn,Zl,Zm,Zk,List.map_cons,List.map_nil,cond_true,cond_false,aop,Zv,Zq,Zp,ev,sput,Zt,Zy,Ya,unK,Zd,Zw,Nat.reduceBEq,Nat.reduceAdd,Int.reduceBEq,Int.reduceBNe,Int.reduceLT,Zu,Zz,tup,tyf])
 clear hN1
 try clear N1
 refine Yc fun N2 hN2=>?_
 simp (maxSteps:=2000000) only [s105,↓Za,↓Zj,↓Zr,↓Ze,↓Zi,↓Zs,↓Zf,↓Zo,↓Zg,↓Zb,↓Zc,↓vdn,vup,Zh,Zn,Zl,Zm,Zk,List.map_cons,List.map_nil,cond_true,cond_false,aop,Zv,Zq,Zp,ev,sput,Zt,Zy,Ya,unK,Zd,Zw,Nat.reduceBEq,Nat.reduceAdd,Int.reduceBEq,Int.reduceBNe,Int.reduceLT,Zu,Zz,tup,tyf]
 refine hN2 [(0,v),(2,.int .i64 0),(3,.int .i64 0)] _ _ ?_ (by simp (maxSteps:=2000000) only [↓Za,↓Zj,↓Zr,↓Ze,↓Zi,↓Zs,↓Zf,↓Zo,↓Zg,↓Zb,↓Zc,↓vdn,vup,Zh,Zn,Zl,Zm,Zk,List.map_cons,List.map_nil,cond_true,cond_false,aop,Zv,Zq,Zp,ev,sput,Zt,Zy,Ya,unK,Zd,Zw,Nat.reduceBEq,Nat.reduceAdd,Int.reduceBEq,Int.reduceBNe,Int.reduceLT,Zu,Zz,tup,tyf])
 clear hN2
 try clear N2
 refine Yg fun M hM=>?_
 refine Yc fun N3 hN3=>?_
 simp (maxSteps:=2000000) only [s105,↓Za,↓Zj,↓Zr,↓Ze,↓Zi,↓Zs,↓Zf,↓Zo,↓Zg,↓Zb,↓Zc,↓vdn,vup,Zh,Zn,Zl,Zm,Zk,List.map_cons,List.map_nil,cond_true,cond_false,aop,Zv,Zq,Zp,ev,sput,Zt,Zy,Ya,unK,Zd,Zw,Nat.reduceBEq,Nat.reduceAdd,Int.reduceBEq,Int.reduceBNe,Int.reduceLT,Zu,Zz,tup,tyf,hv.len,List.length_singleton]
 refine hN3 [(0,v),(2,.int .i64 0),(3,.int .i64 0),(6,v),(7,Zx ((1:Nat):Int)),(8,.int .i64 0)] _ _ ?_ (by simp (maxSteps:=2000000) only [↓Za,↓Zj,↓Zr,↓Ze,↓Zi,↓Zs,↓Zf,↓Zo,↓Zg,↓Zb,↓Zc,↓vdn,vup,Zh,Zn,Zl,Zm,Zk,List.map_cons,List.map_nil,cond_true,cond_false,aop,Zv,Zq,Zp,ev,sput,Zt,Zy,Ya,unK,Zd,Zw,Nat.reduceBEq,Nat.reduceAdd,Int.reduceBEq,Int.reduceBNe,Int.reduceLT,Zu,Zz,tup,tyf])
 clear hN3
 try clear N3
 refine Yo ?_
 refine Yn fun Q hQ=>?_
 refine Xx (γ:=Nat) (fun s=>s≤1) (fun s=>([(0,v),(2,.int .i64 0),(3,Zx ((s*n:Nat):Int)),(6,v),(7,Zx ((1:Nat):Int)),(8,Zx (s:Nat))],h)) (fun s=>1-s) 0 (Nat.zero_le _) (by simp (maxSteps:=2000000) only [↓Za,↓Zj,↓Zr,↓Ze,↓Zi,↓Zs,↓Zf,↓Zo,↓Zg,↓Zb,↓Zc,↓vdn,vup,Zh,Zn,Zl,Zm,Zk,List.map_cons,List.map_nil,cond_true,cond_false,aop,Zv,Zq,Zp,ev,sput,Zt,Zy,Ya,unK,Zd,Zw,Nat.reduceBEq,Nat.reduceAdd,Int.reduceBEq,Int.reduceBNe,Int.reduceLT,Zu,Zz,tup,tyf,Nat.zero_mul,Int.natCast_zero]) rfl ?_
 rintro k hk
 refine Yn fun Q2 hQ2=>?_
 simp only [l105_0]
 rcases k with _ | _ | k
 · have hl : ∀ K,Xu prog h 3 (Wq v 1 0) K=K (Zx (n:Nat)):=fun K=>hv.load Xc (i:=0) Nat.zero_lt_one K
   have hi:=hv.idx el_105 Wc (i:=0) (k:=.i64) Nat.zero_lt_one
   rw [Int.natCast_zero] at hi
   refine Yc fun N4 hN4=>?_
   simp (maxSteps:=2000000) only [s105,↓Za,↓Zj,↓Zr,↓Ze,↓Zi,↓Zs,↓Zf,↓Zo,↓Zg,↓Zb,↓Zc,↓vdn,vup,Zh,Zn,Zl,Zm,Zk,List.map_cons,List.map_nil,cond_true,cond_false,aop,Zv,Zq,Zp,ev,sput,Zt,Zy,Ya,unK,Zd,Zw,Nat.reduceBEq,Nat.reduceAdd,Int.reduceBEq,Int.reduceBNe,Int.reduceLT,Zu,Zz,tup,tyf,Nat.zero_mul,Int.natCast_zero,show (0:Int)<((1:Nat):Int) by decide]
   refine hN4 [(0,v),(2,.int .i64 0),(3,.int .i64 0),(6,v),(7,Zx ((1:Nat):Int)),(8,.int .i64 0),(9,.bool true)] _ _ ?_ (by simp (maxSteps:=2000000) only [↓Za,↓Zj,↓Zr,↓Ze,↓Zi,↓Zs,↓Zf,↓Zo,↓Zg,↓Zb,↓Zc,↓vdn,vup,Zh,Zn,Zl,Zm,Zk,List.map_cons,List.map_nil,cond_true,cond_false,aop,Zv,Zq,Zp,ev,sput,Zt,Zy,Ya,unK,Zd,Zw,Nat.reduceBEq,Nat.reduceAdd,Int.reduceBEq,Int.reduceBNe,Int.reduceLT,Zu,Zz,tup,tyf])
   clear hN4
   try clear N4
   refine Yc fun N5 hN5=>?_
   simp (maxSteps:=2000000) only [s105,↓Za,↓Zj,↓Zr,↓Ze,↓Zi,↓Zs,↓Zf,↓Zo,↓Zg,↓Zb,↓Zc,↓vdn,vup,Zh,Zn,Zl,Zm,Zk,List.map_cons,List.map_nil,cond_true,cond_false,aop,Zv,Zq,Zp,ev,sput,Zt,Zy,Ya,unK,Zd,Zw,Nat.reduceBEq,Nat.reduceAdd,Int.reduceBEq,Int.reduceBNe,Int.reduceLT,Zu,Zz,tup,tyf]
   refine hN5 [(0,v),(2,.int .i64 0),(3,.int .i64 0),(6,v),(7,Zx ((1:Nat):Int)),(8,.int .i64 0)] _ _ ?_ (by simp (maxSteps:=2000000) only [↓Za,↓Zj,↓Zr,↓Ze,↓Zi,↓Zs,↓Zf,↓Zo,↓Zg,↓Zb,↓Zc,↓vdn,vup,Zh,Zn,Zl,Zm,Zk,List.map_cons,List.map_nil,cond_true,cond_false,aop,Zv,Zq,Zp,ev,sput,Zt,Zy,Ya,unK,Zd,Zw,Nat.reduceBEq,Nat.reduceAdd,Int.reduceBEq,Int.reduceBNe,Int.reduceLT,Zu,Zz,tup,tyf])
   clear hN5
   try clear N5
   refine Yg fun Y hY=>?_
   refine Yo ?_
   refine Yc fun N6 hN6=>?_
   simp (maxSteps:=2000000) only [s105,↓Za,↓Zj,↓Zr,↓Ze,↓Zi,↓Zs,↓Zf,↓Zo,↓Zg,↓Zb,↓Zc,↓vdn,vup,Zh,Zn,Zl,Zm,Zk,List.map_cons,List.map_nil,cond_true,cond_false,aop,Zv,Zq,Zp,ev,sput,Zt,Zy,Ya,unK,Zd,Zw,Nat.reduceBEq,Nat.reduceAdd,Int.reduceBEq,Int.reduceBNe,Int.reduceLT,Zu,Zz,tup,tyf,hi,hl]
   refine hN6 [(0,v),(2,.int .i64 0),(3,.int .i64 0),(5,Zx (n:Nat)),(6,v),(7,Zx ((1:Nat):Int)),(8,.int .i64 0)] _ _ ?_ (by simp (maxSteps:=2000000) only [↓Za,↓Zj,↓Zr,↓Ze,↓Zi,↓Zs,↓Zf,↓Zo,↓Zg,↓Zb,↓Zc,↓vdn,vup,Zh,Zn,Zl,Zm,Zk,List.map_cons,List.map_nil,cond_true,cond_false,aop,Zv,Zq,Zp,ev,sput,Zt,Zy,Ya,unK,Zd,Zw,Nat.reduceBEq,Nat.reduceAdd,Int.reduceBEq,Int.reduceBNe,Int.reduceLT,Zu,Zz,tup,tyf])
   clear hN6
   try clear N6
   refine Yf ?_
   simp (maxSteps:=2000000) only [s105,↓Za,↓Zj,↓Zr,↓Ze,↓Zi,↓Zs,↓Zf,↓Zo,↓Zg,↓Zb,↓Zc,↓vdn,vup,Zh,Zn,Zl,Zm,Zk,List.map_cons,List.map_nil,cond_true,cond_false,aop,Zv,Zq,Zp,ev,sput,Zt,Zy,Ya,unK,Zd,Zw,Nat.reduceBEq,Nat.reduceAdd,Int.reduceBEq,Int.reduceBNe,Int.reduceLT,Zu,Zz,tup,tyf,hz]
   refine hY [(0,v),(2,.int .i64 0),(3,Zx (n:Nat)),(6,v),(7,Zx ((1:Nat):Int)),(8,.int .i64 0)] _ _ ?_ (by simp (maxSteps:=2000000) only [↓Za,↓Zj,↓Zr,↓Ze,↓Zi,↓Zs,↓Zf,↓Zo,↓Zg,↓Zb,↓Zc,↓vdn,vup,Zh,Zn,Zl,Zm,Zk,List.map_cons,List.map_nil,cond_true,cond_false,aop,Zv,Zq,Zp,ev,sput,Zt,Zy,Ya,unK,Zd,Zw,Nat.reduceBEq,Nat.reduceAdd,Int.reduceBEq,Int.reduceBNe,Int.reduceLT,Zu,Zz,tup,tyf])
   clear hY
   try clear Y
   refine Yf ?_
   simp (maxSteps:=2000000) only [s105,↓Za,↓Zj,↓Zr,↓Ze,↓Zi,↓Zs,↓Zf,↓Zo,↓Zg,↓Zb,↓Zc,↓vdn,vup,Zh,Zn,Zl,Zm,Zk,List.map_cons,List.map_nil,cond_true,cond_false,aop,Zv,Zq,Zp,ev,sput,Zt,Zy,Ya,unK,Zd,Zw,Nat.reduceBEq,Nat.reduceAdd,Int.reduceBEq,Int.reduceBNe,Int.reduceLT,Zu,Zz,tup,tyf,show addV .i64 0 1=1 from rfl]
   exact hQ2 _ _ _ ⟨1,Nat.le_refl _,by decide,by simp (maxSteps:=2000000) only [↓Za,↓Zj,↓Zr,↓Ze,↓Zi,↓Zs,↓Zf,↓Zo,↓Zg,↓Zb,↓Zc,↓vdn,vup,Zh,Zn,Zl,Zm,Zk,List.map_cons,List.map_nil,cond_true,cond_false,aop,Zv,Zq,Zp,ev,sput,Zt,Zy,Ya,unK,Zd,Zw,Nat.reduceBEq,Nat.reduceAdd,Int.reduceBEq,Int.reduceBNe,Int.reduceLT,Zu,Zz,tup,tyf,Int.natCast_one,Nat.one_mul],rfl⟩
 · skip
   refine Yc fun N7 hN7=>?_
   simp (maxSteps:=2000000) only [s105,↓Za,↓Zj,↓Zr,↓Ze,↓Zi,↓Zs,↓Zf,↓Zo,↓Zg,↓Zb,↓Zc,↓vdn,vup,Zh,Zn,Zl,Zm,Zk,List.map_cons,List.map_nil,cond_true,cond_false,aop,Zv,Zq,Zp,ev,sput,Zt,Zy,Ya,unK,Zd,Zw,Nat.reduceBEq,Nat.reduceAdd,Int.reduceBEq,Int.reduceBNe,Int.reduceLT,Zu,Zz,tup,tyf,Nat.zero_add,Nat.one_mul,show ¬ (((1:Nat):Int)<((1:Nat):Int)) by decide]
   refine hN7 [(0,v),(2,.int .i64 0),(3,Zx (n:Nat)),(6,v),(7,Zx ((1:Nat):Int)),(8,Zx ((1:Nat):Int)),(9,.bool false)] _ _ ?_ (by simp (maxSteps:=2000000) only [↓Za,↓Zj,↓Zr,↓Ze,↓Zi,↓Zs,↓Zf,↓Zo,↓Zg,↓Zb,↓Zc,↓vdn,vup,Zh,Zn,Zl,Zm,Zk,List.map_cons,List.map_nil,cond_true,cond_false,aop,Zv,Zq,Zp,ev,sput,Zt,Zy,Ya,unK,Zd,Zw,Nat.reduceBEq,Nat.reduceAdd,Int.reduceBEq,Int.reduceBNe,Int.reduceLT,Zu,Zz,tup,tyf])
   clear hN7
   try clear N7
   refine Yc fun N8 hN8=>?_
   try simp (maxSteps:=2000000) only [s105,↓Za,↓Zj,↓Zr,↓Ze,↓Zi,↓Zs,↓Zf,↓Zo,↓Zg,↓Zb,↓Zc,↓vdn,vup,Zh,Zn,Zl,Zm,Zk,List.map_cons,List.map_nil,cond_true,cond_false,aop,Zv,Zq,Zp,ev,sput,Zt,Zy,Ya,unK,Zd,Zw,Nat.reduceBEq,Nat.reduceAdd,Int.reduceBEq,Int.reduceBNe,Int.reduceLT,Zu,Zz,tup,tyf]
   refine hQ2 _ _ _ (hQ _ _ _ ?_)
   simp (maxSteps:=2000000) only [s105,↓Za,↓Zj,↓Zr,↓Ze,↓Zi,↓Zs,↓Zf,↓Zo,↓Zg,↓Zb,↓Zc,↓vdn,vup,Zh,Zn,Zl,Zm,Zk,List.map_cons,List.map_nil,cond_true,cond_false,aop,Zv,Zq,Zp,ev,sput,Zt,Zy,Ya,unK,Zd,Zw,Nat.reduceBEq,Nat.reduceAdd,Int.reduceBEq,Int.reduceBNe,Int.reduceLT,Zu,Zz,tup,tyf,if_true]
   refine hM [(0,v),(2,.int .i64 0),(3,Zx (n:Nat)),(9,.bool false)] _ _ ?_ (by simp (maxSteps:=2000000) only [↓Za,↓Zj,↓Zr,↓Ze,↓Zi,↓Zs,↓Zf,↓Zo,↓Zg,↓Zb,↓Zc,↓vdn,vup,Zh,Zn,Zl,Zm,Zk,List.map_cons,List.map_nil,cond_true,cond_false,aop,Zv,Zq,Zp,ev,sput,Zt,Zy,Ya,unK,Zd,Zw,Nat.reduceBEq,Nat.reduceAdd,Int.reduceBEq,Int.reduceBNe,Int.reduceLT,Zu,Zz,tup,tyf])
   clear hM
   try clear M
   refine Yf ?_
   try simp (maxSteps:=2000000) only [s105,↓Za,↓Zj,↓Zr,↓Ze,↓Zi,↓Zs,↓Zf,↓Zo,↓Zg,↓Zb,↓Zc,↓vdn,vup,Zh,Zn,Zl,Zm,Zk,List.map_cons,List.map_nil,cond_true,cond_false,aop,Zv,Zq,Zp,ev,sput,Zt,Zy,Ya,unK,Zd,Zw,Nat.reduceBEq,Nat.reduceAdd,Int.reduceBEq,Int.reduceBNe,Int.reduceLT,Zu,Zz,tup,tyf]
 · omega
theorem s141_callW [Tabs Tryd.prog] {args:List Value} {h:Yb} {Q:Value→Yb→Prop} (hsz:args.length≤21) (hk:AWS Tryd.prog 21 s141 (Zu Tryd.prog [.tmp 4] Q) (Zp 0 args) h):ACall Tryd.prog 141 args h Q :=
 Xy Tryd.func141 rfl (enters_of Tryd.func141 (by kernel_rfl) rfl) rfl rfl (by decide) s141_strip s141_ok hsz hk
theorem choose_call [Tabs prog] {h:Yb} {q:Int}:APure prog 141 [Zx q,.int .i64 0] h (Zx 1):=by
 refine s141_callW (by simp) ?_
 simp only [s141]
 refine Yc fun N9 hN9=>?_
 simp (maxSteps:=2000000) only [s141,↓Za,↓Zj,↓Zr,↓Ze,↓Zi,↓Zs,↓Zf,↓Zo,↓Zg,↓Zb,↓Zc,↓vdn,vup,Zh,Zn,Zl,Zm,Zk,List.map_cons,List.map_nil,cond_true,cond_false,aop,Zv,Zq,Zp,ev,sput,Zt,Zy,Ya,unK,Zd,Zw,Nat.reduceBEq,Nat.reduceAdd,Int.reduceBEq,Int.reduceBNe,Int.reduceLT,Zu,Zz,tup,tyf]
 refine hN9 [(0,Zx q),(1,.int .i64 0),(4,.int .i64 0)] _ _ ?_ (by simp (maxSteps:=2000000) only [↓Za,↓Zj,↓Zr,↓Ze,↓Zi,↓Zs,↓Zf,↓Zo,↓Zg,↓Zb,↓Zc,↓vdn,vup,Zh,Zn,Zl,Zm,Zk,List.map_cons,List.map_nil,cond_true,cond_false,aop,Zv,Zq,Zp,ev,sput,Zt,Zy,Ya,unK,Zd,Zw,Nat.reduceBEq,Nat.reduceAdd,Int.reduceBEq,Int.reduceBNe,Int.reduceLT,Zu,Zz,tup,tyf])
 clear hN9
 try clear N9
 refine Yc fun N10 hN10=>?_
 simp (maxSteps:=2000000) only [s141,↓Za,↓Zj,↓Zr,↓Ze,↓Zi,↓Zs,↓Zf,↓Zo,↓Zg,↓Zb,↓Zc,↓vdn,vup,Zh,Zn,Zl,Zm,Zk,List.map_cons,List.map_nil,cond_true,cond_false,aop,Zv,Zq,Zp,ev,sput,Zt,Zy,Ya,unK,Zd,Zw,Nat.reduceBEq,Nat.reduceAdd,Int.reduceBEq,Int.reduceBNe,Int.reduceLT,Zu,Zz,tup,tyf]
 refine hN10 [(0,Zx q),(1,.int .i64 0),(4,.int .i64 0),(5,.int .i64 1)] _ _ ?_ (by simp (maxSteps:=2000000) only [↓Za,↓Zj,↓Zr,↓Ze,↓Zi,↓Zs,↓Zf,↓Zo,↓Zg,↓Zb,↓Zc,↓vdn,vup,Zh,Zn,Zl,Zm,Zk,List.map_cons,List.map_nil,cond_true,cond_false,aop,Zv,Zq,Zp,ev,sput,Zt,Zy,Ya,unK,Zd,Zw,Nat.reduceBEq,Nat.reduceAdd,Int.reduceBEq,Int.reduceBNe,Int.reduceLT,Zu,Zz,tup,tyf])
 clear hN10
 try clear N10
 refine Yg fun M hM=>?_
 refine Yc fun N11 hN11=>?_
 simp (maxSteps:=2000000) only [s141,↓Za,↓Zj,↓Zr,↓Ze,↓Zi,↓Zs,↓Zf,↓Zo,↓Zg,↓Zb,↓Zc,↓vdn,vup,Zh,Zn,Zl,Zm,Zk,List.map_cons,List.map_nil,cond_true,cond_false,aop,Zv,Zq,Zp,ev,sput,Zt,Zy,Ya,unK,Zd,Zw,Nat.reduceBEq,Nat.reduceAdd,Int.reduceBEq,Int.reduceBNe,Int.reduceLT,Zu,Zz,tup,tyf]
 refine hN11 [(0,Zx q),(1,.int .i64 0),(4,.int .i64 0),(5,.int .i64 1),(7,.int .i64 0),(8,.int .i64 0)] _ _ ?_ (by simp (maxSteps:=2000000) only [↓Za,↓Zj,↓Zr,↓Ze,↓Zi,↓Zs,↓Zf,↓Zo,↓Zg,↓Zb,↓Zc,↓vdn,vup,Zh,Zn,Zl,Zm,Zk,List.map_cons,List.map_nil,cond_true,cond_false,aop,Zv,Zq,Zp,ev,sput,Zt,Zy,Ya,unK,Zd,Zw,Nat.reduceBEq,Nat.reduceAdd,Int.reduceBEq,Int.reduceBNe,Int.reduceLT,Zu,Zz,tup,tyf])
 clear hN11
 try clear N11
 refine Yo ?_
 refine Yn fun Q hQ=>?_
 refine Xx (γ:=Unit) (fun _=>True) (fun _=>([(0,Zx q),(1,.int .i64 0),(4,.int .i64 0),(5,.int .i64 1),(7,.int .i64 0),(8,.int .i64 0)],h)) (fun _=>0) () trivial (by simp (maxSteps:=2000000) only [↓Za,↓Zj,↓Zr,↓Ze,↓Zi,↓Zs,↓Zf,↓Zo,↓Zg,↓Zb,↓Zc,↓vdn,vup,Zh,Zn,Zl,Zm,Zk,List.map_cons,List.map_nil,cond_true,cond_false,aop,Zv,Zq,Zp,ev,sput,Zt,Zy,Ya,unK,Zd,Zw,Nat.reduceBEq,Nat.reduceAdd,Int.reduceBEq,Int.reduceBNe,Int.reduceLT,Zu,Zz,tup,tyf]) rfl ?_
 rintro _ _
 refine Yn fun Q2 hQ2=>?_
 simp only [l141_0]
 refine Yc fun N12 hN12=>?_
 simp (maxSteps:=2000000) only [s141,↓Za,↓Zj,↓Zr,↓Ze,↓Zi,↓Zs,↓Zf,↓Zo,↓Zg,↓Zb,↓Zc,↓vdn,vup,Zh,Zn,Zl,Zm,Zk,List.map_cons,List.map_nil,cond_true,cond_false,aop,Zv,Zq,Zp,ev,sput,Zt,Zy,Ya,unK,Zd,Zw,Nat.reduceBEq,Nat.reduceAdd,Int.reduceBEq,Int.reduceBNe,Int.reduceLT,Zu,Zz,tup,tyf,Int.lt_irrefl]
 refine hN12 [(0,Zx q),(1,.int .i64 0),(4,.int .i64 0),(5,.int .i64 1),(7,.int .i64 0),(8,.int .i64 0),(9,.bool false)] _ _ ?_ (by simp (maxSteps:=2000000) only [↓Za,↓Zj,↓Zr,↓Ze,↓Zi,↓Zs,↓Zf,↓Zo,↓Zg,↓Zb,↓Zc,↓vdn,vup,Zh,Zn,Zl,Zm,Zk,List.map_cons,List.map_nil,cond_true,cond_false,aop,Zv,Zq,Zp,ev,sput,Zt,Zy,Ya,unK,Zd,Zw,Nat.reduceBEq,Nat.reduceAdd,Int.reduceBEq,Int.reduceBNe,Int.reduceLT,Zu,Zz,tup,tyf])
 clear hN12
 try clear N12
 refine Yc fun N13 hN13=>?_
 try simp (maxSteps:=2000000) only [s141,↓Za,↓Zj,↓Zr,↓Ze,↓Zi,↓Zs,↓Zf,↓Zo,↓Zg,↓Zb,↓Zc,↓vdn,vup,Zh,Zn,Zl,Zm,Zk,List.map_cons,List.map_nil,cond_true,cond_false,aop,Zv,Zq,Zp,ev,sput,Zt,Zy,Ya,unK,Zd,Zw,Nat.reduceBEq,Nat.reduceAdd,Int.reduceBEq,Int.reduceBNe,Int.reduceLT,Zu,Zz,tup,tyf]
 refine hQ2 _ _ _ (hQ _ _ _ ?_)
 simp (maxSteps:=2000000) only [s141,↓Za,↓Zj,↓Zr,↓Ze,↓Zi,↓Zs,↓Zf,↓Zo,↓Zg,↓Zb,↓Zc,↓vdn,vup,Zh,Zn,Zl,Zm,Zk,List.map_cons,List.map_nil,cond_true,cond_false,aop,Zv,Zq,Zp,ev,sput,Zt,Zy,Ya,unK,Zd,Zw,Nat.reduceBEq,Nat.reduceAdd,Int.reduceBEq,Int.reduceBNe,Int.reduceLT,Zu,Zz,tup,tyf,if_true]
 refine hM [(0,Zx q),(1,.int .i64 0),(4,.int .i64 0),(5,.int .i64 1),(7,.int .i64 0),(8,.int .i64 0),(9,.bool false)] _ _ ?_ (by simp (maxSteps:=2000000) only [↓Za,↓Zj,↓Zr,↓Ze,↓Zi,↓Zs,↓Zf,↓Zo,↓Zg,↓Zb,↓Zc,↓vdn,vup,Zh,Zn,Zl,Zm,Zk,List.map_cons,List.map_nil,cond_true,cond_false,aop,Zv,Zq,Zp,ev,sput,Zt,Zy,Ya,unK,Zd,Zw,Nat.reduceBEq,Nat.reduceAdd,Int.reduceBEq,Int.reduceBNe,Int.reduceLT,Zu,Zz,tup,tyf])
 clear hM
 try clear M
 refine Yf ?_
 try simp (maxSteps:=2000000) only [s141,↓Za,↓Zj,↓Zr,↓Ze,↓Zi,↓Zs,↓Zf,↓Zo,↓Zg,↓Zb,↓Zc,↓vdn,vup,Zh,Zn,Zl,Zm,Zk,List.map_cons,List.map_nil,cond_true,cond_false,aop,Zv,Zq,Zp,ev,sput,Zt,Zy,Ya,unK,Zd,Zw,Nat.reduceBEq,Nat.reduceAdd,Int.reduceBEq,Int.reduceBNe,Int.reduceLT,Zu,Zz,tup,tyf]
theorem s106_callW [Tabs Tryd.prog] {args:List Value} {h:Yb} {Q:Value→Yb→Prop} (hsz:args.length≤33) (hk:AWS Tryd.prog 33 s106 (Zu Tryd.prog [.tmp 4] Q) (Zp 0 args) h):ACall Tryd.prog 106 args h Q :=
 Xy Tryd.func106 rfl (enters_of Tryd.func106 (by kernel_rfl) rfl) rfl rfl (by decide) s106_strip s106_ok hsz hk
theorem weight_call [Tabs prog] {h:Yb} {v:Value} {n:Nat} {q:Int} (hv:IntSl h v [(n:Int)]) (hn:n≤1000):APure prog 106 [v,Zx q] h (Zx (n:Nat)):=by
 have hm:mulV .i64 ((n:Nat):Int) 1=(n:Int):=by
  rw [mulV_id (by omega) (by omega)]; omega
 have hz:addV .i64 0 ((n:Nat):Int)=(n:Int):=by rw [addV_id (by omega) (by omega)]; omega
 refine s106_callW (by simp) ?_
 simp only [s106]
 refine Yc fun N14 hN14=>?_
 simp (maxSteps:=2000000) only [s106,↓Za,↓Zj,↓Zr,↓Ze,↓Zi,↓Zs,↓Zf,↓Zo,↓Zg,↓Zb,↓Zc,↓vdn,vup,Zh,Zn,Zl,Zm,Zk,List.map_cons,List.map_nil,cond_true,cond_false,aop,Zv,Zq,Zp,ev,sput,Zt,Zy,Ya,unK,Zd,Zw,Nat.reduceBEq,Nat.reduceAdd,Int.reduceBEq,Int.reduceBNe,Int.reduceLT,Zu,Zz,tup,tyf]
 refine hN14 [(0,v),(1,Zx q),(4,.int .i64 0)] _ _ ?_ (by simp (maxSteps:=2000000) only [↓Za,↓Zj,↓Zr,↓Ze,↓Zi,↓Zs,↓Zf,↓Zo,↓Zg,↓Zb,↓Zc,↓vdn,vup,Zh,Zn,Zl,Zm,Zk,List.map_cons,List.map_nil,cond_true,cond_false,aop,Zv,Zq,Zp,ev,sput,Zt,Zy,Ya,unK,Zd,Zw,Nat.reduceBEq,Nat.reduceAdd,Int.reduceBEq,Int.reduceBNe,Int.reduceLT,Zu,Zz,tup,tyf])
 clear hN14
 try clear N14
 refine Yc fun N15 hN15=>?_
 simp (maxSteps:=2000000) only [s106,↓Za,↓Zj,↓Zr,↓Ze,↓Zi,↓Zs,↓Zf,↓Zo,↓Zg,↓Zb,↓Zc,↓vdn,vup,Zh,Zn,Zl,Zm,Zk,List.map_cons,List.map_nil,cond_true,cond_false,aop,Zv,Zq,Zp,ev,sput,Zt,Zy,Ya,unK,Zd,Zw,Nat.reduceBEq,Nat.reduceAdd,Int.reduceBEq,Int.reduceBNe,Int.reduceLT,Zu,Zz,tup,tyf]
 refine hN15 [(0,v),(1,Zx q),(4,.int .i64 0),(5,.int .i64 0)] _ _ ?_ (by simp (maxSteps:=2000000) only [↓Za,↓Zj,↓Zr,↓Ze,↓Zi,↓Zs,↓Zf,↓Zo,↓Zg,↓Zb,↓Zc,↓vdn,vup,Zh,Zn,Zl,Zm,Zk,List.map_cons,List.map_nil,cond_true,cond_false,aop,Zv,Zq,Zp,ev,sput,Zt,Zy,Ya,unK,Zd,Zw,Nat.reduceBEq,Nat.reduceAdd,Int.reduceBEq,Int.reduceBNe,Int.reduceLT,Zu,Zz,tup,tyf])
 clear hN15
 try clear N15
 refine Yg fun M hM=>?_
 refine Yc fun N16 hN16=>?_
 simp (maxSteps:=2000000) only [s106,↓Za,↓Zj,↓Zr,↓Ze,↓Zi,↓Zs,↓Zf,↓Zo,↓Zg,↓Zb,↓Zc,↓vdn,vup,Zh,Zn,Zl,Zm,Zk,List.map_cons,List.map_nil,cond_true,cond_false,aop,Zv,Zq,Zp,ev,sput,Zt,Zy,Ya,unK,Zd,Zw,Nat.reduceBEq,Nat.reduceAdd,Int.reduceBEq,Int.reduceBNe,Int.reduceLT,Zu,Zz,tup,tyf,hv.len,List.length_singleton]
 refine hN16 [(0,v),(1,Zx q),(4,.int .i64 0),(5,.int .i64 0),(9,v),(10,Zx ((1:Nat):Int)),(11,.int .i64 0)] _ _ ?_ (by simp (maxSteps:=2000000) only [↓Za,↓Zj,↓Zr,↓Ze,↓Zi,↓Zs,↓Zf,↓Zo,↓Zg,↓Zb,↓Zc,↓vdn,vup,Zh,Zn,Zl,Zm,Zk,List.map_cons,List.map_nil,cond_true,cond_false,aop,Zv,Zq,Zp,ev,sput,Zt,Zy,Ya,unK,Zd,Zw,Nat.reduceBEq,Nat.reduceAdd,Int.reduceBEq,Int.reduceBNe,Int.reduceLT,Zu,Zz,tup,tyf])
 clear hN16
 try clear N16
 refine Yo ?_
 refine Yn fun Q hQ=>?_
 refine Xx (γ:=Nat) (fun s=>s≤1) (fun s=>([(0,v),(1,Zx q),(4,.int .i64 0),(5,Zx ((s*n:Nat):Int)),(9,v),(10,Zx ((1:Nat):Int)),(11,Zx (s:Nat))],h)) (fun s=>1-s) 0 (Nat.zero_le _) (by simp (maxSteps:=2000000) only [↓Za,↓Zj,↓Zr,↓Ze,↓Zi,↓Zs,↓Zf,↓Zo,↓Zg,↓Zb,↓Zc,↓vdn,vup,Zh,Zn,Zl,Zm,Zk,List.map_cons,List.map_nil,cond_true,cond_false,aop,Zv,Zq,Zp,ev,sput,Zt,Zy,Ya,unK,Zd,Zw,Nat.reduceBEq,Nat.reduceAdd,Int.reduceBEq,Int.reduceBNe,Int.reduceLT,Zu,Zz,tup,tyf,Nat.zero_mul,Int.natCast_zero]) rfl ?_
 rintro k hk
 refine Yn fun Q2 hQ2=>?_
 simp only [l106_1]
 rcases k with _ | _ | k
 · have hl : ∀ K,Xu prog h 3 (Wq v 1 0) K=K (Zx (n:Nat)):=fun K=>hv.load Xc (i:=0) Nat.zero_lt_one K
   have hi:=hv.idx el_105 Wc (i:=0) (k:=.i64) Nat.zero_lt_one
   rw [Int.natCast_zero] at hi
   refine Yc fun N17 hN17=>?_
   simp (maxSteps:=2000000) only [s106,↓Za,↓Zj,↓Zr,↓Ze,↓Zi,↓Zs,↓Zf,↓Zo,↓Zg,↓Zb,↓Zc,↓vdn,vup,Zh,Zn,Zl,Zm,Zk,List.map_cons,List.map_nil,cond_true,cond_false,aop,Zv,Zq,Zp,ev,sput,Zt,Zy,Ya,unK,Zd,Zw,Nat.reduceBEq,Nat.reduceAdd,Int.reduceBEq,Int.reduceBNe,Int.reduceLT,Zu,Zz,tup,tyf,Nat.zero_mul,Int.natCast_zero,show (0:Int)<((1:Nat):Int) by decide]
   refine hN17 [(0,v),(1,Zx q),(4,.int .i64 0),(5,.int .i64 0),(9,v),(10,Zx ((1:Nat):Int)),(11,.int .i64 0),(12,.bool true)] _ _ ?_ (by simp (maxSteps:=2000000) only [↓Za,↓Zj,↓Zr,↓Ze,↓Zi,↓Zs,↓Zf,↓Zo,↓Zg,↓Zb,↓Zc,↓vdn,vup,Zh,Zn,Zl,Zm,Zk,List.map_cons,List.map_nil,cond_true,cond_false,aop,Zv,Zq,Zp,ev,sput,Zt,Zy,Ya,unK,Zd,Zw,Nat.reduceBEq,Nat.reduceAdd,Int.reduceBEq,Int.reduceBNe,Int.reduceLT,Zu,Zz,tup,tyf])
   clear hN17
   try clear N17
   refine Yc fun N18 hN18=>?_
   simp (maxSteps:=2000000) only [s106,↓Za,↓Zj,↓Zr,↓Ze,↓Zi,↓Zs,↓Zf,↓Zo,↓Zg,↓Zb,↓Zc,↓vdn,vup,Zh,Zn,Zl,Zm,Zk,List.map_cons,List.map_nil,cond_true,cond_false,aop,Zv,Zq,Zp,ev,sput,Zt,Zy,Ya,unK,Zd,Zw,Nat.reduceBEq,Nat.reduceAdd,Int.reduceBEq,Int.reduceBNe,Int.reduceLT,Zu,Zz,tup,tyf]
   refine hN18 [(0,v),(1,Zx q),(4,.int .i64 0),(5,.int .i64 0),(9,v),(10,Zx ((1:Nat):Int)),(11,.int .i64 0)] _ _ ?_ (by simp (maxSteps:=2000000) only [↓Za,↓Zj,↓Zr,↓Ze,↓Zi,↓Zs,↓Zf,↓Zo,↓Zg,↓Zb,↓Zc,↓vdn,vup,Zh,Zn,Zl,Zm,Zk,List.map_cons,List.map_nil,cond_true,cond_false,aop,Zv,Zq,Zp,ev,sput,Zt,Zy,Ya,unK,Zd,Zw,Nat.reduceBEq,Nat.reduceAdd,Int.reduceBEq,Int.reduceBNe,Int.reduceLT,Zu,Zz,tup,tyf])
   clear hN18
   try clear N18
   refine Yg fun Y hY=>?_
   refine Yo ?_
   refine Yc fun N19 hN19=>?_
   simp (maxSteps:=2000000) only [s106,↓Za,↓Zj,↓Zr,↓Ze,↓Zi,↓Zs,↓Zf,↓Zo,↓Zg,↓Zb,↓Zc,↓vdn,vup,Zh,Zn,Zl,Zm,Zk,List.map_cons,List.map_nil,cond_true,cond_false,aop,Zv,Zq,Zp,ev,sput,Zt,Zy,Ya,unK,Zd,Zw,Nat.reduceBEq,Nat.reduceAdd,Int.reduceBEq,Int.reduceBNe,Int.reduceLT,Zu,Zz,tup,tyf,hi,hl]
   refine hN19 [(0,v),(1,Zx q),(4,.int .i64 0),(5,.int .i64 0),(6,.int .i64 0),(7,Zx (n:Nat)),(9,v),(10,Zx ((1:Nat):Int)),(11,.int .i64 0)] _ _ ?_ (by simp (maxSteps:=2000000) only [↓Za,↓Zj,↓Zr,↓Ze,↓Zi,↓Zs,↓Zf,↓Zo,↓Zg,↓Zb,↓Zc,↓vdn,vup,Zh,Zn,Zl,Zm,Zk,List.map_cons,List.map_nil,cond_true,cond_false,aop,Zv,Zq,Zp,ev,sput,Zt,Zy,Ya,unK,Zd,Zw,Nat.reduceBEq,Nat.reduceAdd,Int.reduceBEq,Int.reduceBNe,Int.reduceLT,Zu,Zz,tup,tyf])
   clear hN19
   try clear N19
   refine Yc fun N20 hN20=>?_
   simp (maxSteps:=2000000) only [s106,↓Za,↓Zj,↓Zr,↓Ze,↓Zi,↓Zs,↓Zf,↓Zo,↓Zg,↓Zb,↓Zc,↓vdn,vup,Zh,Zn,Zl,Zm,Zk,List.map_cons,List.map_nil,cond_true,cond_false,aop,Zv,Zq,Zp,ev,sput,Zt,Zy,Ya,unK,Zd,Zw,Nat.reduceBEq,Nat.reduceAdd,Int.reduceBEq,Int.reduceBNe,Int.reduceLT,Zu,Zz,tup,tyf,hv.len,List.length_singleton,show subV .i64 ((1:Nat):Int) 0=((1:Nat):Int) from rfl]
   refine hN20 [(0,v),(1,Zx q),(4,.int .i64 0),(5,.int .i64 0),(6,.int .i64 0),(7,Zx (n:Nat)),(9,v),(10,Zx ((1:Nat):Int)),(11,.int .i64 0),(19,Zx ((1:Nat):Int)),(20,.int .i64 0)] _ _ ?_ (by simp (maxSteps:=2000000) only [↓Za,↓Zj,↓Zr,↓Ze,↓Zi,↓Zs,↓Zf,↓Zo,↓Zg,↓Zb,↓Zc,↓vdn,vup,Zh,Zn,Zl,Zm,Zk,List.map_cons,List.map_nil,cond_true,cond_false,aop,Zv,Zq,Zp,ev,sput,Zt,Zy,Ya,unK,Zd,Zw,Nat.reduceBEq,Nat.reduceAdd,Int.reduceBEq,Int.reduceBNe,Int.reduceLT,Zu,Zz,tup,tyf])
   clear hN20
   try clear N20
   refine Yo ?_
   refine Yn fun Qa hQa=>?_
   refine Xx (γ:=Nat) (fun s=>s≤1) (fun s=>([(0,v),(1,Zx q),(4,.int .i64 0),(5,Zx ((s*n:Nat):Int)),(6,.int .i64 0),(7,Zx (n:Nat)),(9,v),(10,Zx ((1:Nat):Int)),(11,.int .i64 0),(19,Zx ((1:Nat):Int)),(20,Zx (s:Nat))],h)) (fun s=>1-s) 0 (Nat.zero_le _) (by simp (maxSteps:=2000000) only [↓Za,↓Zj,↓Zr,↓Ze,↓Zi,↓Zs,↓Zf,↓Zo,↓Zg,↓Zb,↓Zc,↓vdn,vup,Zh,Zn,Zl,Zm,Zk,List.map_cons,List.map_nil,cond_true,cond_false,aop,Zv,Zq,Zp,ev,sput,Zt,Zy,Ya,unK,Zd,Zw,Nat.reduceBEq,Nat.reduceAdd,Int.reduceBEq,Int.reduceBNe,Int.reduceLT,Zu,Zz,tup,tyf,Nat.zero_mul,Int.natCast_zero]) rfl ?_
   rintro j hj
   refine Yn fun Qb hQb=>?_
   simp only [l106_0]
   rcases j with _ | _ | j
   · refine Yc fun N21 hN21=>?_
     simp (maxSteps:=2000000) only [s106,↓Za,↓Zj,↓Zr,↓Ze,↓Zi,↓Zs,↓Zf,↓Zo,↓Zg,↓Zb,↓Zc,↓vdn,vup,Zh,Zn,Zl,Zm,Zk,List.map_cons,List.map_nil,cond_true,cond_false,aop,Zv,Zq,Zp,ev,sput,Zt,Zy,Ya,unK,Zd,Zw,Nat.reduceBEq,Nat.reduceAdd,Int.reduceBEq,Int.reduceBNe,Int.reduceLT,Zu,Zz,tup,tyf,Nat.zero_mul,Int.natCast_zero,show (0:Int)<((1:Nat):Int) by decide]
     refine hN21 [(0,v),(1,Zx q),(4,.int .i64 0),(5,.int .i64 0),(6,.int .i64 0),(7,Zx (n:Nat)),(9,v),(10,Zx ((1:Nat):Int)),(11,.int .i64 0),(19,Zx ((1:Nat):Int)),(20,.int .i64 0),(21,.bool true)] _ _ ?_ (by simp (maxSteps:=2000000) only [↓Za,↓Zj,↓Zr,↓Ze,↓Zi,↓Zs,↓Zf,↓Zo,↓Zg,↓Zb,↓Zc,↓vdn,vup,Zh,Zn,Zl,Zm,Zk,List.map_cons,List.map_nil,cond_true,cond_false,aop,Zv,Zq,Zp,ev,sput,Zt,Zy,Ya,unK,Zd,Zw,Nat.reduceBEq,Nat.reduceAdd,Int.reduceBEq,Int.reduceBNe,Int.reduceLT,Zu,Zz,tup,tyf])
     clear hN21
     try clear N21
     refine Yc fun N22 hN22=>?_
     simp (maxSteps:=2000000) only [s106,↓Za,↓Zj,↓Zr,↓Ze,↓Zi,↓Zs,↓Zf,↓Zo,↓Zg,↓Zb,↓Zc,↓vdn,vup,Zh,Zn,Zl,Zm,Zk,List.map_cons,List.map_nil,cond_true,cond_false,aop,Zv,Zq,Zp,ev,sput,Zt,Zy,Ya,unK,Zd,Zw,Nat.reduceBEq,Nat.reduceAdd,Int.reduceBEq,Int.reduceBNe,Int.reduceLT,Zu,Zz,tup,tyf]
     refine hN22 [(0,v),(1,Zx q),(4,.int .i64 0),(5,.int .i64 0),(6,.int .i64 0),(7,Zx (n:Nat)),(9,v),(10,Zx ((1:Nat):Int)),(11,.int .i64 0),(19,Zx ((1:Nat):Int)),(20,.int .i64 0)] _ _ ?_ (by simp (maxSteps:=2000000) only [↓Za,↓Zj,↓Zr,↓Ze,↓Zi,↓Zs,↓Zf,↓Zo,↓Zg,↓Zb,↓Zc,↓vdn,vup,Zh,Zn,Zl,Zm,Zk,List.map_cons,List.map_nil,cond_true,cond_false,aop,Zv,Zq,Zp,ev,sput,Zt,Zy,Ya,unK,Zd,Zw,Nat.reduceBEq,Nat.reduceAdd,Int.reduceBEq,Int.reduceBNe,Int.reduceLT,Zu,Zz,tup,tyf])
     clear hN22
     try clear N22
     refine Yg fun Z hZ=>?_
     refine Yo ?_
     refine Yc fun N23 hN23=>?_
     simp (maxSteps:=2000000) only [s106,↓Za,↓Zj,↓Zr,↓Ze,↓Zi,↓Zs,↓Zf,↓Zo,↓Zg,↓Zb,↓Zc,↓vdn,vup,Zh,Zn,Zl,Zm,Zk,List.map_cons,List.map_nil,cond_true,cond_false,aop,Zv,Zq,Zp,ev,sput,Zt,Zy,Ya,unK,Zd,Zw,Nat.reduceBEq,Nat.reduceAdd,Int.reduceBEq,Int.reduceBNe,Int.reduceLT,Zu,Zz,tup,tyf]
     refine hN23 [(0,v),(1,Zx q),(4,.int .i64 0),(5,.int .i64 0),(6,.int .i64 0),(7,Zx (n:Nat)),(8,.int .i64 0),(9,v),(10,Zx ((1:Nat):Int)),(11,.int .i64 0),(19,Zx ((1:Nat):Int)),(20,.int .i64 0)] _ _ ?_ (by simp (maxSteps:=2000000) only [↓Za,↓Zj,↓Zr,↓Ze,↓Zi,↓Zs,↓Zf,↓Zo,↓Zg,↓Zb,↓Zc,↓vdn,vup,Zh,Zn,Zl,Zm,Zk,List.map_cons,List.map_nil,cond_true,cond_false,aop,Zv,Zq,Zp,ev,sput,Zt,Zy,Ya,unK,Zd,Zw,Nat.reduceBEq,Nat.reduceAdd,Int.reduceBEq,Int.reduceBNe,Int.reduceLT,Zu,Zz,tup,tyf])
     clear hN23
     try clear N23
     refine Yf ?_
     simp (maxSteps:=2000000) only [s106,↓Za,↓Zj,↓Zr,↓Ze,↓Zi,↓Zs,↓Zf,↓Zo,↓Zg,↓Zb,↓Zc,↓vdn,vup,Zh,Zn,Zl,Zm,Zk,List.map_cons,List.map_nil,cond_true,cond_false,aop,Zv,Zq,Zp,ev,sput,Zt,Zy,Ya,unK,Zd,Zw,Nat.reduceBEq,Nat.reduceAdd,Int.reduceBEq,Int.reduceBNe,Int.reduceLT,Zu,Zz,tup,tyf,Yz,List.nil_append,List.append_nil,List.toList_toArray,List.cons_append]
     refine (choose_call).mono ?_
     rintro _ h ⟨rfl,rfl⟩
     simp (maxSteps:=2000000) only [s106,↓Za,↓Zj,↓Zr,↓Ze,↓Zi,↓Zs,↓Zf,↓Zo,↓Zg,↓Zb,↓Zc,↓vdn,vup,Zh,Zn,Zl,Zm,Zk,List.map_cons,List.map_nil,cond_true,cond_false,aop,Zv,Zq,Zp,ev,sput,Zt,Zy,Ya,unK,Zd,Zw,Nat.reduceBEq,Nat.reduceAdd,Int.reduceBEq,Int.reduceBNe,Int.reduceLT,Zu,Zz,tup,tyf,hm,hz]
     refine hZ [(0,v),(1,Zx q),(4,.int .i64 0),(5,Zx (n:Nat)),(6,.int .i64 0),(7,Zx (n:Nat)),(9,v),(10,Zx ((1:Nat):Int)),(11,.int .i64 0),(19,Zx ((1:Nat):Int)),(20,.int .i64 0)] _ _ ?_ (by simp (maxSteps:=2000000) only [↓Za,↓Zj,↓Zr,↓Ze,↓Zi,↓Zs,↓Zf,↓Zo,↓Zg,↓Zb,↓Zc,↓vdn,vup,Zh,Zn,Zl,Zm,Zk,List.map_cons,List.map_nil,cond_true,cond_false,aop,Zv,Zq,Zp,ev,sput,Zt,Zy,Ya,unK,Zd,Zw,Nat.reduceBEq,Nat.reduceAdd,Int.reduceBEq,Int.reduceBNe,Int.reduceLT,Zu,Zz,tup,tyf])
     clear hZ
     try clear Z
     refine Yf ?_
     simp (maxSteps:=2000000) only [s106,↓Za,↓Zj,↓Zr,↓Ze,↓Zi,↓Zs,↓Zf,↓Zo,↓Zg,↓Zb,↓Zc,↓vdn,vup,Zh,Zn,Zl,Zm,Zk,List.map_cons,List.map_nil,cond_true,cond_false,aop,Zv,Zq,Zp,ev,sput,Zt,Zy,Ya,unK,Zd,Zw,Nat.reduceBEq,Nat.reduceAdd,Int.reduceBEq,Int.reduceBNe,Int.reduceLT,Zu,Zz,tup,tyf,show addV .i64 0 1=1 from rfl]
     exact hQb _ _ _ ⟨1,Nat.le_refl _,by decide,by simp (maxSteps:=2000000) only [↓Za,↓Zj,↓Zr,↓Ze,↓Zi,↓Zs,↓Zf,↓Zo,↓Zg,↓Zb,↓Zc,↓vdn,vup,Zh,Zn,Zl,Zm,Zk,List.map_cons,List.map_nil,cond_true,cond_false,aop,Zv,Zq,Zp,ev,sput,Zt,Zy,Ya,unK,Zd,Zw,Nat.reduceBEq,Nat.reduceAdd,Int.reduceBEq,Int.reduceBNe,Int.reduceLT,Zu,Zz,tup,tyf,Int.natCast_one,Nat.one_mul],rfl⟩
   · skip
     refine Yc fun N24 hN24=>?_
     simp (maxSteps:=2000000) only [s106,↓Za,↓Zj,↓Zr,↓Ze,↓Zi,↓Zs,↓Zf,↓Zo,↓Zg,↓Zb,↓Zc,↓vdn,vup,Zh,Zn,Zl,Zm,Zk,List.map_cons,List.map_nil,cond_true,cond_false,aop,Zv,Zq,Zp,ev,sput,Zt,Zy,Ya,unK,Zd,Zw,Nat.reduceBEq,Nat.reduceAdd,Int.reduceBEq,Int.reduceBNe,Int.reduceLT,Zu,Zz,tup,tyf,Nat.zero_add,Nat.one_mul,show ¬ (((1:Nat):Int)<((1:Nat):Int)) by decide]
     refine hN24 [(0,v),(1,Zx q),(4,.int .i64 0),(5,Zx (n:Nat)),(6,.int .i64 0),(7,Zx (n:Nat)),(9,v),(10,Zx ((1:Nat):Int)),(11,.int .i64 0),(19,Zx ((1:Nat):Int)),(20,Zx ((1:Nat):Int)),(21,.bool false)] _ _ ?_ (by simp (maxSteps:=2000000) only [↓Za,↓Zj,↓Zr,↓Ze,↓Zi,↓Zs,↓Zf,↓Zo,↓Zg,↓Zb,↓Zc,↓vdn,vup,Zh,Zn,Zl,Zm,Zk,List.map_cons,List.map_nil,cond_true,cond_false,aop,Zv,Zq,Zp,ev,sput,Zt,Zy,Ya,unK,Zd,Zw,Nat.reduceBEq,Nat.reduceAdd,Int.reduceBEq,Int.reduceBNe,Int.reduceLT,Zu,Zz,tup,tyf])
     clear hN24
     try clear N24
     refine Yc fun N25 hN25=>?_
     try simp (maxSteps:=2000000) only [s106,↓Za,↓Zj,↓Zr,↓Ze,↓Zi,↓Zs,↓Zf,↓Zo,↓Zg,↓Zb,↓Zc,↓vdn,vup,Zh,Zn,Zl,Zm,Zk,List.map_cons,List.map_nil,cond_true,cond_false,aop,Zv,Zq,Zp,ev,sput,Zt,Zy,Ya,unK,Zd,Zw,Nat.reduceBEq,Nat.reduceAdd,Int.reduceBEq,Int.reduceBNe,Int.reduceLT,Zu,Zz,tup,tyf]
     refine hQb _ _ _ (hQa _ _ _ ?_)
     simp (maxSteps:=2000000) only [s106,↓Za,↓Zj,↓Zr,↓Ze,↓Zi,↓Zs,↓Zf,↓Zo,↓Zg,↓Zb,↓Zc,↓vdn,vup,Zh,Zn,Zl,Zm,Zk,List.map_cons,List.map_nil,cond_true,cond_false,aop,Zv,Zq,Zp,ev,sput,Zt,Zy,Ya,unK,Zd,Zw,Nat.reduceBEq,Nat.reduceAdd,Int.reduceBEq,Int.reduceBNe,Int.reduceLT,Zu,Zz,tup,tyf,if_true]
     refine hY [(0,v),(1,Zx q),(4,.int .i64 0),(5,Zx (n:Nat)),(9,v),(10,Zx ((1:Nat):Int)),(11,.int .i64 0),(21,.bool false)] _ _ ?_ (by simp (maxSteps:=2000000) only [↓Za,↓Zj,↓Zr,↓Ze,↓Zi,↓Zs,↓Zf,↓Zo,↓Zg,↓Zb,↓Zc,↓vdn,vup,Zh,Zn,Zl,Zm,Zk,List.map_cons,List.map_nil,cond_true,cond_false,aop,Zv,Zq,Zp,ev,sput,Zt,Zy,Ya,unK,Zd,Zw,Nat.reduceBEq,Nat.reduceAdd,Int.reduceBEq,Int.reduceBNe,Int.reduceLT,Zu,Zz,tup,tyf])
     clear hY
     try clear Y
     refine Yf ?_
     simp (maxSteps:=2000000) only [s106,↓Za,↓Zj,↓Zr,↓Ze,↓Zi,↓Zs,↓Zf,↓Zo,↓Zg,↓Zb,↓Zc,↓vdn,vup,Zh,Zn,Zl,Zm,Zk,List.map_cons,List.map_nil,cond_true,cond_false,aop,Zv,Zq,Zp,ev,sput,Zt,Zy,Ya,unK,Zd,Zw,Nat.reduceBEq,Nat.reduceAdd,Int.reduceBEq,Int.reduceBNe,Int.reduceLT,Zu,Zz,tup,tyf,show addV .i64 0 1=1 from rfl]
     exact hQ2 _ _ _ ⟨1,Nat.le_refl _,by decide,by simp (maxSteps:=2000000) only [↓Za,↓Zj,↓Zr,↓Ze,↓Zi,↓Zs,↓Zf,↓Zo,↓Zg,↓Zb,↓Zc,↓vdn,vup,Zh,Zn,Zl,Zm,Zk,List.map_cons,List.map_nil,cond_true,cond_false,aop,Zv,Zq,Zp,ev,sput,Zt,Zy,Ya,unK,Zd,Zw,Nat.reduceBEq,Nat.reduceAdd,Int.reduceBEq,Int.reduceBNe,Int.reduceLT,Zu,Zz,tup,tyf,Int.natCast_one,Nat.one_mul],rfl⟩
   · omega
 · skip
   refine Yc fun N26 hN26=>?_
   simp (maxSteps:=2000000) only [s106,↓Za,↓Zj,↓Zr,↓Ze,↓Zi,↓Zs,↓Zf,↓Zo,↓Zg,↓Zb,↓Zc,↓vdn,vup,Zh,Zn,Zl,Zm,Zk,List.map_cons,List.map_nil,cond_true,cond_false,aop,Zv,Zq,Zp,ev,sput,Zt,Zy,Ya,unK,Zd,Zw,Nat.reduceBEq,Nat.reduceAdd,Int.reduceBEq,Int.reduceBNe,Int.reduceLT,Zu,Zz,tup,tyf,Nat.zero_add,Nat.one_mul,show ¬ (((1:Nat):Int)<((1:Nat):Int)) by decide]
   refine hN26 [(0,v),(1,Zx q),(4,.int .i64 0),(5,Zx (n:Nat)),(9,v),(10,Zx ((1:Nat):Int)),(11,Zx ((1:Nat):Int)),(12,.bool false)] _ _ ?_ (by simp (maxSteps:=2000000) only [↓Za,↓Zj,↓Zr,↓Ze,↓Zi,↓Zs,↓Zf,↓Zo,↓Zg,↓Zb,↓Zc,↓vdn,vup,Zh,Zn,Zl,Zm,Zk,List.map_cons,List.map_nil,cond_true,cond_false,aop,Zv,Zq,Zp,ev,sput,Zt,Zy,Ya,unK,Zd,Zw,Nat.reduceBEq,Nat.reduceAdd,Int.reduceBEq,Int.reduceBNe,Int.reduceLT,Zu,Zz,tup,tyf])
   clear hN26
   try clear N26
   refine Yc fun N27 hN27=>?_
   try simp (maxSteps:=2000000) only [s106,↓Za,↓Zj,↓Zr,↓Ze,↓Zi,↓Zs,↓Zf,↓Zo,↓Zg,↓Zb,↓Zc,↓vdn,vup,Zh,Zn,Zl,Zm,Zk,List.map_cons,List.map_nil,cond_true,cond_false,aop,Zv,Zq,Zp,ev,sput,Zt,Zy,Ya,unK,Zd,Zw,Nat.reduceBEq,Nat.reduceAdd,Int.reduceBEq,Int.reduceBNe,Int.reduceLT,Zu,Zz,tup,tyf]
   refine hQ2 _ _ _ (hQ _ _ _ ?_)
   simp (maxSteps:=2000000) only [s106,↓Za,↓Zj,↓Zr,↓Ze,↓Zi,↓Zs,↓Zf,↓Zo,↓Zg,↓Zb,↓Zc,↓vdn,vup,Zh,Zn,Zl,Zm,Zk,List.map_cons,List.map_nil,cond_true,cond_false,aop,Zv,Zq,Zp,ev,sput,Zt,Zy,Ya,unK,Zd,Zw,Nat.reduceBEq,Nat.reduceAdd,Int.reduceBEq,Int.reduceBNe,Int.reduceLT,Zu,Zz,tup,tyf,if_true]
   refine hM [(0,v),(1,Zx q),(4,.int .i64 0),(5,Zx (n:Nat)),(12,.bool false)] _ _ ?_ (by simp (maxSteps:=2000000) only [↓Za,↓Zj,↓Zr,↓Ze,↓Zi,↓Zs,↓Zf,↓Zo,↓Zg,↓Zb,↓Zc,↓vdn,vup,Zh,Zn,Zl,Zm,Zk,List.map_cons,List.map_nil,cond_true,cond_false,aop,Zv,Zq,Zp,ev,sput,Zt,Zy,Ya,unK,Zd,Zw,Nat.reduceBEq,Nat.reduceAdd,Int.reduceBEq,Int.reduceBNe,Int.reduceLT,Zu,Zz,tup,tyf])
   clear hM
   try clear M
   refine Yf ?_
   try simp (maxSteps:=2000000) only [s106,↓Za,↓Zj,↓Zr,↓Ze,↓Zi,↓Zs,↓Zf,↓Zo,↓Zg,↓Zb,↓Zc,↓vdn,vup,Zh,Zn,Zl,Zm,Zk,List.map_cons,List.map_nil,cond_true,cond_false,aop,Zv,Zq,Zp,ev,sput,Zt,Zy,Ya,unK,Zd,Zw,Nat.reduceBEq,Nat.reduceAdd,Int.reduceBEq,Int.reduceBNe,Int.reduceLT,Zu,Zz,tup,tyf]
 · omega
end Go.Proofs.Tryd.Am.Tg
namespace Go.Proofs.Tryd.Am.Tg
open Go.Proofs.Tryd.Am
open Go.Am
set_option maxRecDepth 100000
set_option maxHeartbeats 4000000
abbrev ptB (b:Nat):Value:=.pointer (some ⟨b,0,none⟩)
theorem shl2 (n:Nat) (h:n≤62):shlV .i64 1 (n:Int)=((2 ^ n:Nat):Int):=by
 rw [Or.shl1 h]; simp
theorem setEnd (g:Yb) (B C:Blk):(g++[B]).set g.length C=g++[C]:=by rw [List.set_append_right _ _ (Nat.le_refl _),Nat.sub_self]; rfl
theorem idx0 {b c:Nat} {K:Value→Prop}:Ys prog 105 (.slice (some ⟨b,0,none⟩) 1 c) (.int .i64 0) K=K (.pointer (some ⟨b,0,none⟩)):=Or.idxS (k:=0) el_105 Wc (by decide)
theorem s143_callW [Tabs Tryd.prog] {args:List Value} {h:Yb} {Q:Value→Yb→Prop} (hsz:args.length≤55) (hk:AWS Tryd.prog 55 s143 (Zu Tryd.prog [.tmp 6] Q) (Zp 0 args) h):ACall Tryd.prog 143 args h Q :=
 Xy Tryd.func143 rfl (enters_of Tryd.func143 (by kernel_rfl) rfl) rfl rfl (by decide) s143_strip s143_ok hsz hk
theorem after_call [Tabs prog] {h:Yb} {v w:Value} {n x y:Nat} {b:Bool} (hv:IntSl h v [(n:Int)]) (hw:IntSl h w [(x:Int)]) (hn:n≤1000) (hx:x≤n) (hy:y=if b=true then x else n-x) :
  ADet prog 143 [v,w,.bool b] h (.slice (some ⟨h.length,0,none⟩) 1 1) (h++[.ints [(y:Int)] 3 false]):=by
 have hmk : ∀ {K:Value→Yb→Prop},makeK prog h 105 (Zx ((1:Nat):Int)) (Zx ((1:Nat):Int)) K=K (.slice (some ⟨h.length,0,none⟩) 1 1) (h++[.ints [0] 3 false]):=fun {K}=>makeI el_105 zero_3 info_3 (by decide) (by decide)
 have hsub:subV .i64 ((n:Nat):Int) ((x:Nat):Int)=((n-x:Nat):Int):=by rw [subV_id (by omega) (by omega)]; omega
 have hz : ∀ k:Nat,k≤1000→addV .i64 0 ((k:Nat):Int)=(k:Int):=fun k hk=>by rw [addV_id (by omega) (by omega)]; omega
 have old : ∀ {u:Value} {k z:Nat},IntSl h u [(k:Int)]→IntSl (h++[.ints [(z:Int)] 3 false]) u [(k:Int)]:=fun hu=>hu.grow _
 refine s143_callW (by simp) ?_
 simp only [s143]
 refine Yc fun N1 hN1=>?_
 simp (maxSteps:=2000000) only [s143,↓Za,↓Zj,↓Zr,↓Ze,↓Zi,↓Zs,↓Zf,↓Zo,↓Zg,↓Zb,↓Zc,↓vdn,vup,Zh,Zn,Zl,Zm,Zk,List.map_cons,List.map_nil,cond_true,cond_false,aop,Zv,Zq,Zp,ev,sput,Zt,Zy,Ya,unK,Zd,Zw,Nat.reduceBEq,Nat.reduceAdd,Int.reduceBEq,Int.reduceBNe,Int.reduceLT,Zu,Zz,tup,tyf]
 refine hN1 [(0,v),(1,w),(2,.bool b),(6,.slice none 0 0)] _ _ ?_ (by simp (maxSteps:=2000000) only [↓Za,↓Zj,↓Zr,↓Ze,↓Zi,↓Zs,↓Zf,↓Zo,↓Zg,↓Zb,↓Zc,↓vdn,vup,Zh,Zn,Zl,Zm,Zk,List.map_cons,List.map_nil,cond_true,cond_false,aop,Zv,Zq,Zp,ev,sput,Zt,Zy,Ya,unK,Zd,Zw,Nat.reduceBEq,Nat.reduceAdd,Int.reduceBEq,Int.reduceBNe,Int.reduceLT,Zu,Zz,tup,tyf])
 clear hN1
 try clear N1
 refine Yc fun N2 hN2=>?_
 simp (maxSteps:=2000000) only [s143,↓Za,↓Zj,↓Zr,↓Ze,↓Zi,↓Zs,↓Zf,↓Zo,↓Zg,↓Zb,↓Zc,↓vdn,vup,Zh,Zn,Zl,Zm,Zk,List.map_cons,List.map_nil,cond_true,cond_false,aop,Zv,Zq,Zp,ev,sput,Zt,Zy,Ya,unK,Zd,Zw,Nat.reduceBEq,Nat.reduceAdd,Int.reduceBEq,Int.reduceBNe,Int.reduceLT,Zu,Zz,tup,tyf,hv.len,List.length_singleton,hmk]
 obtain ⟨bo,hbo⟩ : ∃ bo,bo=h.length:=⟨_,rfl⟩
 rw [← hbo]
 refine hN2 [(0,v),(1,w),(2,.bool b),(6,.slice none 0 0),(7,.slice (some ⟨bo,0,none⟩) 1 1)] _ _ ?_ (by simp (maxSteps:=2000000) only [↓Za,↓Zj,↓Zr,↓Ze,↓Zi,↓Zs,↓Zf,↓Zo,↓Zg,↓Zb,↓Zc,↓vdn,vup,Zh,Zn,Zl,Zm,Zk,List.map_cons,List.map_nil,cond_true,cond_false,aop,Zv,Zq,Zp,ev,sput,Zt,Zy,Ya,unK,Zd,Zw,Nat.reduceBEq,Nat.reduceAdd,Int.reduceBEq,Int.reduceBNe,Int.reduceLT,Zu,Zz,tup,tyf])
 clear hN2
 try clear N2
 refine Yg fun M hM=>?_
 refine Yc fun N3 hN3=>?_
 simp (maxSteps:=2000000) only [s143,↓Za,↓Zj,↓Zr,↓Ze,↓Zi,↓Zs,↓Zf,↓Zo,↓Zg,↓Zb,↓Zc,↓vdn,vup,Zh,Zn,Zl,Zm,Zk,List.map_cons,List.map_nil,cond_true,cond_false,aop,Zv,Zq,Zp,ev,sput,Zt,Zy,Ya,unK,Zd,Zw,Nat.reduceBEq,Nat.reduceAdd,Int.reduceBEq,Int.reduceBNe,Int.reduceLT,Zu,Zz,tup,tyf,((old (z:=0) hw)).len,List.length_singleton]
 refine hN3 [(0,v),(1,w),(2,.bool b),(6,.slice none 0 0),(7,.slice (some ⟨bo,0,none⟩) 1 1),(15,w),(16,Zx ((1:Nat):Int)),(17,.int .i64 0)] _ _ ?_ (by simp (maxSteps:=2000000) only [↓Za,↓Zj,↓Zr,↓Ze,↓Zi,↓Zs,↓Zf,↓Zo,↓Zg,↓Zb,↓Zc,↓vdn,vup,Zh,Zn,Zl,Zm,Zk,List.map_cons,List.map_nil,cond_true,cond_false,aop,Zv,Zq,Zp,ev,sput,Zt,Zy,Ya,unK,Zd,Zw,Nat.reduceBEq,Nat.reduceAdd,Int.reduceBEq,Int.reduceBNe,Int.reduceLT,Zu,Zz,tup,tyf])
 clear hN3
 try clear N3
 refine Yo ?_
 refine Yn fun Q hQ=>?_
 refine Xx (γ:=Nat) (fun s=>s≤1) (fun s=>([(0,v),(1,w),(2,.bool b),(6,.slice none 0 0),(7,.slice (some ⟨bo,0,none⟩) 1 1),(15,w),(16,Zx ((1:Nat):Int)),(17,Zx (s:Nat))],h++[.ints [((s*y:Nat):Int)] 3 false])) (fun s=>1-s) 0 (Nat.zero_le _) (by simp (maxSteps:=2000000) only [↓Za,↓Zj,↓Zr,↓Ze,↓Zi,↓Zs,↓Zf,↓Zo,↓Zg,↓Zb,↓Zc,↓vdn,vup,Zh,Zn,Zl,Zm,Zk,List.map_cons,List.map_nil,cond_true,cond_false,aop,Zv,Zq,Zp,ev,sput,Zt,Zy,Ya,unK,Zd,Zw,Nat.reduceBEq,Nat.reduceAdd,Int.reduceBEq,Int.reduceBNe,Int.reduceLT,Zu,Zz,tup,tyf,Int.natCast_zero]) (by simp only [Nat.zero_mul,Int.natCast_zero]) ?_
 rintro k hk
 refine Yn fun Q2 hQ2=>?_
 simp only [l143_0]
 rcases k with _ | _ | k
 · have hw0:IntSl (h++[Blk.ints [0] 3 false]) w [(x:Int)]:=hw.grow _
   have hv0:IntSl (h++[Blk.ints [0] 3 false]) v [(n:Int)]:=hv.grow _
   have hl : ∀ K,Xu prog (h++[Blk.ints [0] 3 false]) 3 (Wq w 1 0) K=K (Zx (x:Nat)):=fun K=>hw0.load Xc (i:=0) Nat.zero_lt_one K
   have hi:=hw0.idx el_27 Wc (i:=0) (k:=.i64) Nat.zero_lt_one
   have hl2 : ∀ K,Xu prog (h++[Blk.ints [0] 3 false]) 3 (Wq v 1 0) K=K (Zx (n:Nat)):=fun K=>hv0.load Xc (i:=0) Nat.zero_lt_one K
   have hi2:=hv0.idx el_105 Wc (i:=0) (k:=.i64) Nat.zero_lt_one
   rw [Int.natCast_zero] at hi hi2
   have hb0:(h++[Blk.ints [0] 3 false])[bo]? = some (.ints [0] 3 false):=by rw [hbo]; exact Yt _ _
   have hls : ∀ {K:Value→Prop},Xu prog (h++[Blk.ints [0] 3 false]) 3 (.pointer (some ⟨bo,0,none⟩)) K=K (.int .i64 0):=fun {K}=>Or.loadX hb0 Xc (by simp)
   have hst : ∀ {z:Nat} {K:Yb→Prop},Xt prog (h++[Blk.ints [0] 3 false]) 3 (.pointer (some ⟨bo,0,none⟩)) (Zx (z:Nat)) K=K (h++[Blk.ints [((z:Nat):Int)] 3 false]):=fun {z K}=>by
    rw [Or.storeX hb0 Xc (by simp),hbo,setEnd]; rfl
   simp only [Nat.zero_mul,Int.natCast_zero]
   refine Yc fun N4 hN4=>?_
   simp (maxSteps:=2000000) only [s143,↓Za,↓Zj,↓Zr,↓Ze,↓Zi,↓Zs,↓Zf,↓Zo,↓Zg,↓Zb,↓Zc,↓vdn,vup,Zh,Zn,Zl,Zm,Zk,List.map_cons,List.map_nil,cond_true,cond_false,aop,Zv,Zq,Zp,ev,sput,Zt,Zy,Ya,unK,Zd,Zw,Nat.reduceBEq,Nat.reduceAdd,Int.reduceBEq,Int.reduceBNe,Int.reduceLT,Zu,Zz,tup,tyf,Nat.zero_mul,Int.natCast_zero,show (0:Int)<((1:Nat):Int) by decide]
   refine hN4 [(0,v),(1,w),(2,.bool b),(6,.slice none 0 0),(7,.slice (some ⟨bo,0,none⟩) 1 1),(15,w),(16,Zx ((1:Nat):Int)),(17,.int .i64 0),(18,.bool true)] _ _ ?_ (by simp (maxSteps:=2000000) only [↓Za,↓Zj,↓Zr,↓Ze,↓Zi,↓Zs,↓Zf,↓Zo,↓Zg,↓Zb,↓Zc,↓vdn,vup,Zh,Zn,Zl,Zm,Zk,List.map_cons,List.map_nil,cond_true,cond_false,aop,Zv,Zq,Zp,ev,sput,Zt,Zy,Ya,unK,Zd,Zw,Nat.reduceBEq,Nat.reduceAdd,Int.reduceBEq,Int.reduceBNe,Int.reduceLT,Zu,Zz,tup,tyf])
   clear hN4
   try clear N4
   refine Yc fun N5 hN5=>?_
   simp (maxSteps:=2000000) only [s143,↓Za,↓Zj,↓Zr,↓Ze,↓Zi,↓Zs,↓Zf,↓Zo,↓Zg,↓Zb,↓Zc,↓vdn,vup,Zh,Zn,Zl,Zm,Zk,List.map_cons,List.map_nil,cond_true,cond_false,aop,Zv,Zq,Zp,ev,sput,Zt,Zy,Ya,unK,Zd,Zw,Nat.reduceBEq,Nat.reduceAdd,Int.reduceBEq,Int.reduceBNe,Int.reduceLT,Zu,Zz,tup,tyf]
   refine hN5 [(0,v),(1,w),(2,.bool b),(6,.slice none 0 0),(7,.slice (some ⟨bo,0,none⟩) 1 1),(15,w),(16,Zx ((1:Nat):Int)),(17,.int .i64 0)] _ _ ?_ (by simp (maxSteps:=2000000) only [↓Za,↓Zj,↓Zr,↓Ze,↓Zi,↓Zs,↓Zf,↓Zo,↓Zg,↓Zb,↓Zc,↓vdn,vup,Zh,Zn,Zl,Zm,Zk,List.map_cons,List.map_nil,cond_true,cond_false,aop,Zv,Zq,Zp,ev,sput,Zt,Zy,Ya,unK,Zd,Zw,Nat.reduceBEq,Nat.reduceAdd,Int.reduceBEq,Int.reduceBNe,Int.reduceLT,Zu,Zz,tup,tyf])
   clear hN5
   try clear N5
   refine Yg fun Y hY=>?_
   refine Yo ?_
   refine Yc fun N6 hN6=>?_
   simp (maxSteps:=2000000) only [s143,↓Za,↓Zj,↓Zr,↓Ze,↓Zi,↓Zs,↓Zf,↓Zo,↓Zg,↓Zb,↓Zc,↓vdn,vup,Zh,Zn,Zl,Zm,Zk,List.map_cons,List.map_nil,cond_true,cond_false,aop,Zv,Zq,Zp,ev,sput,Zt,Zy,Ya,unK,Zd,Zw,Nat.reduceBEq,Nat.reduceAdd,Int.reduceBEq,Int.reduceBNe,Int.reduceLT,Zu,Zz,tup,tyf,hi,hl]
   refine hN6 [(0,v),(1,w),(2,.bool b),(6,.slice none 0 0),(7,.slice (some ⟨bo,0,none⟩) 1 1),(8,.int .i64 0),(9,Zx (x:Nat)),(15,w),(16,Zx ((1:Nat):Int)),(17,.int .i64 0)] _ _ ?_ (by simp (maxSteps:=2000000) only [↓Za,↓Zj,↓Zr,↓Ze,↓Zi,↓Zs,↓Zf,↓Zo,↓Zg,↓Zb,↓Zc,↓vdn,vup,Zh,Zn,Zl,Zm,Zk,List.map_cons,List.map_nil,cond_true,cond_false,aop,Zv,Zq,Zp,ev,sput,Zt,Zy,Ya,unK,Zd,Zw,Nat.reduceBEq,Nat.reduceAdd,Int.reduceBEq,Int.reduceBNe,Int.reduceLT,Zu,Zz,tup,tyf])
   clear hN6
   try clear N6
   refine Yc fun N7 hN7=>?_
   simp only [q143_5]
   refine Xi [] (by kernel_rfl) (by kernel_rfl) (by kernel_rfl) (by kernel_rfl) ?_
   simp (maxSteps:=2000000) only [s143,↓Za,↓Zj,↓Zr,↓Ze,↓Zi,↓Zs,↓Zf,↓Zo,↓Zg,↓Zb,↓Zc,↓vdn,vup,Zh,Zn,Zl,Zm,Zk,List.map_cons,List.map_nil,cond_true,cond_false,aop,Zv,Zq,Zp,ev,sput,Zt,Zy,Ya,unK,Zd,Zw,Nat.reduceBEq,Nat.reduceAdd,Int.reduceBEq,Int.reduceBNe,Int.reduceLT,Zu,Zz,tup,tyf,hi2,hl2,hsub]
   refine hN7 [(0,v),(1,w),(2,.bool b),(6,.slice none 0 0),(7,.slice (some ⟨bo,0,none⟩) 1 1),(8,.int .i64 0),(9,Zx (x:Nat)),(10,Zx (x:Nat)),(11,Zx (n-x:Nat)),(15,w),(16,Zx ((1:Nat):Int)),(17,.int .i64 0)] _ _ ?_ (by simp (maxSteps:=2000000) only [↓Za,↓Zj,↓Zr,↓Ze,↓Zi,↓Zs,↓Zf,↓Zo,↓Zg,↓Zb,↓Zc,↓vdn,vup,Zh,Zn,Zl,Zm,Zk,List.map_cons,List.map_nil,cond_true,cond_false,aop,Zv,Zq,Zp,ev,sput,Zt,Zy,Ya,unK,Zd,Zw,Nat.reduceBEq,Nat.reduceAdd,Int.reduceBEq,Int.reduceBNe,Int.reduceLT,Zu,Zz,tup,tyf])
   clear hN7
   try clear N7
   refine Yg fun Z hZ=>?_
   have fin : ∀ e,ELe e [(0,v),(1,w),(2,.bool b),(6,.slice none 0 0),(7,.slice (some ⟨bo,0,none⟩) 1 1),(8,.int .i64 0),(9,Zx (x:Nat)),(10,Zx (y:Nat)),(15,w),(16,Zx ((1:Nat):Int)),(17,.int .i64 0)]→Z e (h++[Blk.ints [0] 3 false]):=by
    intro e he
    refine hZ [(0,v),(1,w),(2,.bool b),(6,.slice none 0 0),(7,.slice (some ⟨bo,0,none⟩) 1 1),(8,.int .i64 0),(9,Zx (x:Nat)),(10,Zx (y:Nat)),(15,w),(16,Zx ((1:Nat):Int)),(17,.int .i64 0)] _ _ ?_ he
    clear he e
    refine Yc fun N2 hN2=>?_
    simp (maxSteps:=2000000) only [s143,↓Za,↓Zj,↓Zr,↓Ze,↓Zi,↓Zs,↓Zf,↓Zo,↓Zg,↓Zb,↓Zc,↓vdn,vup,Zh,Zn,Zl,Zm,Zk,List.map_cons,List.map_nil,cond_true,cond_false,aop,Zv,Zq,Zp,ev,sput,Zt,Zy,Ya,unK,Zd,Zw,Nat.reduceBEq,Nat.reduceAdd,Int.reduceBEq,Int.reduceBNe,Int.reduceLT,Zu,Zz,tup,tyf,idx0,hls,hz y (by rw [hy]; split <;> omega),hst]
    refine hN2 [(0,v),(1,w),(2,.bool b),(6,.slice none 0 0),(7,.slice (some ⟨bo,0,none⟩) 1 1),(8,.int .i64 0),(15,w),(16,Zx ((1:Nat):Int)),(17,.int .i64 0)] _ _ ?_ (by simp (maxSteps:=2000000) only [↓Za,↓Zj,↓Zr,↓Ze,↓Zi,↓Zs,↓Zf,↓Zo,↓Zg,↓Zb,↓Zc,↓vdn,vup,Zh,Zn,Zl,Zm,Zk,List.map_cons,List.map_nil,cond_true,cond_false,aop,Zv,Zq,Zp,ev,sput,Zt,Zy,Ya,unK,Zd,Zw,Nat.reduceBEq,Nat.reduceAdd,Int.reduceBEq,Int.reduceBNe,Int.reduceLT,Zu,Zz,tup,tyf])
    have hv1:=old (z:=y) hv
    refine Yc fun N3 hN3=>?_
    simp (maxSteps:=2000000) only [s143,↓Za,↓Zj,↓Zr,↓Ze,↓Zi,↓Zs,↓Zf,↓Zo,↓Zg,↓Zb,↓Zc,↓vdn,vup,Zh,Zn,Zl,Zm,Zk,List.map_cons,List.map_nil,cond_true,cond_false,aop,Zv,Zq,Zp,ev,sput,Zt,Zy,Ya,unK,Zd,Zw,Nat.reduceBEq,Nat.reduceAdd,Int.reduceBEq,Int.reduceBNe,Int.reduceLT,Zu,Zz,tup,tyf,show addV .i64 0 1=1 from rfl,hv1.len,List.length_singleton,show ¬ ((1:Int)<((1:Nat):Int)) by decide]
    refine hN3 [(0,v),(1,w),(2,.bool b),(6,.slice none 0 0),(7,.slice (some ⟨bo,0,none⟩) 1 1),(15,w),(16,Zx ((1:Nat):Int)),(17,.int .i64 0),(44,.bool false)] _ _ ?_ (by simp (maxSteps:=2000000) only [↓Za,↓Zj,↓Zr,↓Ze,↓Zi,↓Zs,↓Zf,↓Zo,↓Zg,↓Zb,↓Zc,↓vdn,vup,Zh,Zn,Zl,Zm,Zk,List.map_cons,List.map_nil,cond_true,cond_false,aop,Zv,Zq,Zp,ev,sput,Zt,Zy,Ya,unK,Zd,Zw,Nat.reduceBEq,Nat.reduceAdd,Int.reduceBEq,Int.reduceBNe,Int.reduceLT,Zu,Zz,tup,tyf])
    refine Xe rfl ?_
    refine Yf ?_
    simp (maxSteps:=2000000) only [s143,↓Za,↓Zj,↓Zr,↓Ze,↓Zi,↓Zs,↓Zf,↓Zo,↓Zg,↓Zb,↓Zc,↓vdn,vup,Zh,Zn,Zl,Zm,Zk,List.map_cons,List.map_nil,cond_true,cond_false,aop,Zv,Zq,Zp,ev,sput,Zt,Zy,Ya,unK,Zd,Zw,Nat.reduceBEq,Nat.reduceAdd,Int.reduceBEq,Int.reduceBNe,Int.reduceLT,Zu,Zz,tup,tyf]
    refine hY [(0,v),(1,w),(2,.bool b),(6,.slice none 0 0),(7,.slice (some ⟨bo,0,none⟩) 1 1),(15,w),(16,Zx ((1:Nat):Int)),(17,.int .i64 0)] _ _ ?_ (by simp (maxSteps:=2000000) only [↓Za,↓Zj,↓Zr,↓Ze,↓Zi,↓Zs,↓Zf,↓Zo,↓Zg,↓Zb,↓Zc,↓vdn,vup,Zh,Zn,Zl,Zm,Zk,List.map_cons,List.map_nil,cond_true,cond_false,aop,Zv,Zq,Zp,ev,sput,Zt,Zy,Ya,unK,Zd,Zw,Nat.reduceBEq,Nat.reduceAdd,Int.reduceBEq,Int.reduceBNe,Int.reduceLT,Zu,Zz,tup,tyf])
    refine Yf ?_
    simp (maxSteps:=2000000) only [s143,↓Za,↓Zj,↓Zr,↓Ze,↓Zi,↓Zs,↓Zf,↓Zo,↓Zg,↓Zb,↓Zc,↓vdn,vup,Zh,Zn,Zl,Zm,Zk,List.map_cons,List.map_nil,cond_true,cond_false,aop,Zv,Zq,Zp,ev,sput,Zt,Zy,Ya,unK,Zd,Zw,Nat.reduceBEq,Nat.reduceAdd,Int.reduceBEq,Int.reduceBNe,Int.reduceLT,Zu,Zz,tup,tyf,show addV .i64 0 1=1 from rfl]
    exact hQ2 _ _ _ ⟨1,Nat.le_refl _,by decide,by simp (maxSteps:=2000000) only [↓Za,↓Zj,↓Zr,↓Ze,↓Zi,↓Zs,↓Zf,↓Zo,↓Zg,↓Zb,↓Zc,↓vdn,vup,Zh,Zn,Zl,Zm,Zk,List.map_cons,List.map_nil,cond_true,cond_false,aop,Zv,Zq,Zp,ev,sput,Zt,Zy,Ya,unK,Zd,Zw,Nat.reduceBEq,Nat.reduceAdd,Int.reduceBEq,Int.reduceBNe,Int.reduceLT,Zu,Zz,tup,tyf,Int.natCast_one],by simp only [Nat.one_mul]⟩
   cases b with
   | true =>
     rw [if_pos rfl] at hy
     refine Yc fun N8 hN8=>?_
     simp (maxSteps:=2000000) only [s143,↓Za,↓Zj,↓Zr,↓Ze,↓Zi,↓Zs,↓Zf,↓Zo,↓Zg,↓Zb,↓Zc,↓vdn,vup,Zh,Zn,Zl,Zm,Zk,List.map_cons,List.map_nil,cond_true,cond_false,aop,Zv,Zq,Zp,ev,sput,Zt,Zy,Ya,unK,Zd,Zw,Nat.reduceBEq,Nat.reduceAdd,Int.reduceBEq,Int.reduceBNe,Int.reduceLT,Zu,Zz,tup,tyf]
     refine hN8 [(0,v),(1,w),(2,.bool true),(6,.slice none 0 0),(7,.slice (some ⟨bo,0,none⟩) 1 1),(8,.int .i64 0),(9,Zx (x:Nat)),(10,Zx (x:Nat)),(11,Zx (n-x:Nat)),(15,w),(16,Zx ((1:Nat):Int)),(17,.int .i64 0),(30,.bool false)] _ _ ?_ (by simp (maxSteps:=2000000) only [↓Za,↓Zj,↓Zr,↓Ze,↓Zi,↓Zs,↓Zf,↓Zo,↓Zg,↓Zb,↓Zc,↓vdn,vup,Zh,Zn,Zl,Zm,Zk,List.map_cons,List.map_nil,cond_true,cond_false,aop,Zv,Zq,Zp,ev,sput,Zt,Zy,Ya,unK,Zd,Zw,Nat.reduceBEq,Nat.reduceAdd,Int.reduceBEq,Int.reduceBNe,Int.reduceLT,Zu,Zz,tup,tyf])
     clear hN8
     try clear N8
     refine Xe rfl ?_
     refine Yf ?_
     simp (maxSteps:=2000000) only [s143,↓Za,↓Zj,↓Zr,↓Ze,↓Zi,↓Zs,↓Zf,↓Zo,↓Zg,↓Zb,↓Zc,↓vdn,vup,Zh,Zn,Zl,Zm,Zk,List.map_cons,List.map_nil,cond_true,cond_false,aop,Zv,Zq,Zp,ev,sput,Zt,Zy,Ya,unK,Zd,Zw,Nat.reduceBEq,Nat.reduceAdd,Int.reduceBEq,Int.reduceBNe,Int.reduceLT,Zu,Zz,tup,tyf]
     exact fin _ (by simp (maxSteps:=2000000) only [↓Za,↓Zj,↓Zr,↓Ze,↓Zi,↓Zs,↓Zf,↓Zo,↓Zg,↓Zb,↓Zc,↓vdn,vup,Zh,Zn,Zl,Zm,Zk,List.map_cons,List.map_nil,cond_true,cond_false,aop,Zv,Zq,Zp,ev,sput,Zt,Zy,Ya,unK,Zd,Zw,Nat.reduceBEq,Nat.reduceAdd,Int.reduceBEq,Int.reduceBNe,Int.reduceLT,Zu,Zz,tup,tyf,hy])
   | false =>
     rw [if_neg (by decide)] at hy
     refine Yc fun N9 hN9=>?_
     simp (maxSteps:=2000000) only [s143,↓Za,↓Zj,↓Zr,↓Ze,↓Zi,↓Zs,↓Zf,↓Zo,↓Zg,↓Zb,↓Zc,↓vdn,vup,Zh,Zn,Zl,Zm,Zk,List.map_cons,List.map_nil,cond_true,cond_false,aop,Zv,Zq,Zp,ev,sput,Zt,Zy,Ya,unK,Zd,Zw,Nat.reduceBEq,Nat.reduceAdd,Int.reduceBEq,Int.reduceBNe,Int.reduceLT,Zu,Zz,tup,tyf]
     refine hN9 [(0,v),(1,w),(2,.bool false),(6,.slice none 0 0),(7,.slice (some ⟨bo,0,none⟩) 1 1),(8,.int .i64 0),(9,Zx (x:Nat)),(10,Zx (x:Nat)),(11,Zx (n-x:Nat)),(15,w),(16,Zx ((1:Nat):Int)),(17,.int .i64 0),(30,.bool true)] _ _ ?_ (by simp (maxSteps:=2000000) only [↓Za,↓Zj,↓Zr,↓Ze,↓Zi,↓Zs,↓Zf,↓Zo,↓Zg,↓Zb,↓Zc,↓vdn,vup,Zh,Zn,Zl,Zm,Zk,List.map_cons,List.map_nil,cond_true,cond_false,aop,Zv,Zq,Zp,ev,sput,Zt,Zy,Ya,unK,Zd,Zw,Nat.reduceBEq,Nat.reduceAdd,Int.reduceBEq,Int.reduceBNe,Int.reduceLT,Zu,Zz,tup,tyf])
     clear hN9
     try clear N9
     refine Xl rfl ?_
     refine Yf ?_
     simp (maxSteps:=2000000) only [s143,↓Za,↓Zj,↓Zr,↓Ze,↓Zi,↓Zs,↓Zf,↓Zo,↓Zg,↓Zb,↓Zc,↓vdn,vup,Zh,Zn,Zl,Zm,Zk,List.map_cons,List.map_nil,cond_true,cond_false,aop,Zv,Zq,Zp,ev,sput,Zt,Zy,Ya,unK,Zd,Zw,Nat.reduceBEq,Nat.reduceAdd,Int.reduceBEq,Int.reduceBNe,Int.reduceLT,Zu,Zz,tup,tyf]
     exact fin _ (by simp (maxSteps:=2000000) only [↓Za,↓Zj,↓Zr,↓Ze,↓Zi,↓Zs,↓Zf,↓Zo,↓Zg,↓Zb,↓Zc,↓vdn,vup,Zh,Zn,Zl,Zm,Zk,List.map_cons,List.map_nil,cond_true,cond_false,aop,Zv,Zq,Zp,ev,sput,Zt,Zy,Ya,unK,Zd,Zw,Nat.reduceBEq,Nat.reduceAdd,Int.reduceBEq,Int.reduceBNe,Int.reduceLT,Zu,Zz,tup,tyf,hy])
 · skip
   refine Yc fun N10 hN10=>?_
   simp (maxSteps:=2000000) only [s143,↓Za,↓Zj,↓Zr,↓Ze,↓Zi,↓Zs,↓Zf,↓Zo,↓Zg,↓Zb,↓Zc,↓vdn,vup,Zh,Zn,Zl,Zm,Zk,List.map_cons,List.map_nil,cond_true,cond_false,aop,Zv,Zq,Zp,ev,sput,Zt,Zy,Ya,unK,Zd,Zw,Nat.reduceBEq,Nat.reduceAdd,Int.reduceBEq,Int.reduceBNe,Int.reduceLT,Zu,Zz,tup,tyf,Nat.zero_add,Nat.one_mul,show ¬ (((1:Nat):Int)<((1:Nat):Int)) by decide]
   refine hN10 [(0,v),(1,w),(2,.bool b),(6,.slice none 0 0),(7,.slice (some ⟨bo,0,none⟩) 1 1),(15,w),(16,Zx ((1:Nat):Int)),(17,Zx ((1:Nat):Int)),(18,.bool false)] _ _ ?_ (by simp (maxSteps:=2000000) only [↓Za,↓Zj,↓Zr,↓Ze,↓Zi,↓Zs,↓Zf,↓Zo,↓Zg,↓Zb,↓Zc,↓vdn,vup,Zh,Zn,Zl,Zm,Zk,List.map_cons,List.map_nil,cond_true,cond_false,aop,Zv,Zq,Zp,ev,sput,Zt,Zy,Ya,unK,Zd,Zw,Nat.reduceBEq,Nat.reduceAdd,Int.reduceBEq,Int.reduceBNe,Int.reduceLT,Zu,Zz,tup,tyf])
   clear hN10
   try clear N10
   refine Yc fun N11 hN11=>?_
   simp (maxSteps:=2000000) only [s143,↓Za,↓Zj,↓Zr,↓Ze,↓Zi,↓Zs,↓Zf,↓Zo,↓Zg,↓Zb,↓Zc,↓vdn,vup,Zh,Zn,Zl,Zm,Zk,List.map_cons,List.map_nil,cond_true,cond_false,aop,Zv,Zq,Zp,ev,sput,Zt,Zy,Ya,unK,Zd,Zw,Nat.reduceBEq,Nat.reduceAdd,Int.reduceBEq,Int.reduceBNe,Int.reduceLT,Zu,Zz,tup,tyf]
   refine hQ2 _ _ _ (hQ _ _ _ ?_)
   simp (maxSteps:=2000000) only [s143,↓Za,↓Zj,↓Zr,↓Ze,↓Zi,↓Zs,↓Zf,↓Zo,↓Zg,↓Zb,↓Zc,↓vdn,vup,Zh,Zn,Zl,Zm,Zk,List.map_cons,List.map_nil,cond_true,cond_false,aop,Zv,Zq,Zp,ev,sput,Zt,Zy,Ya,unK,Zd,Zw,Nat.reduceBEq,Nat.reduceAdd,Int.reduceBEq,Int.reduceBNe,Int.reduceLT,Zu,Zz,tup,tyf,if_true]
   refine hM [(0,v),(1,w),(2,.bool b),(6,.slice none 0 0),(7,.slice (some ⟨bo,0,none⟩) 1 1),(18,.bool false)] _ _ ?_ (by simp (maxSteps:=2000000) only [↓Za,↓Zj,↓Zr,↓Ze,↓Zi,↓Zs,↓Zf,↓Zo,↓Zg,↓Zb,↓Zc,↓vdn,vup,Zh,Zn,Zl,Zm,Zk,List.map_cons,List.map_nil,cond_true,cond_false,aop,Zv,Zq,Zp,ev,sput,Zt,Zy,Ya,unK,Zd,Zw,Nat.reduceBEq,Nat.reduceAdd,Int.reduceBEq,Int.reduceBNe,Int.reduceLT,Zu,Zz,tup,tyf])
   clear hM
   try clear M
   refine Yf ?_
   simp (maxSteps:=2000000) only [s143,↓Za,↓Zj,↓Zr,↓Ze,↓Zi,↓Zs,↓Zf,↓Zo,↓Zg,↓Zb,↓Zc,↓vdn,vup,Zh,Zn,Zl,Zm,Zk,List.map_cons,List.map_nil,cond_true,cond_false,aop,Zv,Zq,Zp,ev,sput,Zt,Zy,Ya,unK,Zd,Zw,Nat.reduceBEq,Nat.reduceAdd,Int.reduceBEq,Int.reduceBNe,Int.reduceLT,Zu,Zz,tup,tyf]
   first | exact ⟨by rw [hbo],by simp only [Nat.zero_add,Nat.one_mul]⟩ | rw [hbo]
 · omega
/-! What an interview knows. -/
theorem keyT_149:KeyT Tryd.prog 149 6:=keyT_ints (d:=5) (m:=5) (by kernel_rfl) (by kernel_rfl) (by have:5≤Tryd.prog.types.size+1:=of_decide_eq_true (by kernel_rfl); exact this) (by decide) (by kernel_rfl) (by kernel_rfl) (by kernel_rfl) (by kernel_rfl)
theorem zvB:zeroV Tryd.prog 4=some (.bool false):=by kernel_rfl
def posK (n q:Nat):List Int:=[(n:Int),0,0,0,1,(q:Int)]
theorem posK_in {n q:Nat} (hn:n≤1000) (hq:q≤62):inR64 (posK n q):=fun x hx=>by
 simp only [posK,List.mem_cons,List.not_mem_nil,or_false] at hx
 rcases hx with rfl | rfl | rfl | rfl | rfl | rfl <;> omega
theorem posK_inj {n q n' q' : Nat} (h:posK n q=posK n' q'):n=n'∧q=q':=by
 simp only [posK,List.cons.injEq] at h
 omega
def WK (bs bm:Nat) (h:Yb):Prop:=h[bs]? = some (.cells [.map (some bm)] 109 false)∧∃ l:List (List Int×Bool),h[bm]? = some (.map (mA Value.bool l))∧KeysN 6 l∧∀ n q v,aget (posK n q) l=some v→v=decide (n≤2 ^ q)
theorem WK.ext {bs bm:Nat} {h h' : Yb} (hs:WK bs bm h) (he:Ext (fun _=>False) h h'):WK bs bm h':=by
 obtain ⟨h1,l,h2,h3⟩:=hs
 exact ⟨(he.2 _ (Yu h1) id).trans h1,l,(he.2 _ (Yu h2) id).trans h2,h3⟩
theorem WK.ne {bs bm b:Nat} {h:Yb} (hs:WK bs bm h) {c:List Value} {t:TypeId} {ro:Bool} (hb:h[b]? = some (.cells c t ro)):b≠bm:=by
 obtain ⟨_,l,h2,_⟩:=hs
 rintro rfl
 rw [h2] at hb; cases hb
theorem WK.neI {bs bm b:Nat} {h:Yb} (hs:WK bs bm h) {c:List Int} {t:TypeId} {ro:Bool} (hb:h[b]? = some (.ints c t ro)):b≠bm:=by
 obtain ⟨_,l,h2,_⟩:=hs
 rintro rfl
 rw [h2] at hb; cases hb
theorem WK.put {bs bm:Nat} {h:Yb} {n q:Nat} (hn:n≤1000) (hq:q≤62) {l:List (List Int×Bool)} (h1:h[bs]? = some (.cells [.map (some bm)] 109 false)) (h2:h[bm]? = some (.map (mA Value.bool l))) (h3:KeysN 6 l) (h4 : ∀ n q v,aget (posK n q) l=some v→v=decide (n≤2 ^ q)) :
  WK bs bm (h.set bm (.map (mA Value.bool (aput (posK n q) (decide (n≤2 ^ q)) l)))):=by
 have hne:bs≠bm:=fun e=>by rw [e,h2] at h1; cases h1
 refine ⟨by rw [List.getElem?_set_ne (Ne.symm hne)]; exact h1,_,Xf (Yu h2) _,h3.put rfl (posK_in hn hq),fun n' q' v hv=>?_⟩
 rw [aget_aput] at hv
 split at hv
 · rename_i he
   obtain ⟨rfl,rfl⟩:=posK_inj he
   cases hv; rfl
 · exact h4 n' q' v hv
def WinsOK [Tabs prog] (bs bm q:Nat):Prop:=∀ (h:Yb) (v:Value) (n:Nat),n≤1000→IntSl h v [(n:Int)]→WK bs bm h →
 ACall prog 58 [ptB bs,v,Zx (q:Nat)] h fun r h'=>r = .bool (decide (n≤2 ^ q))∧WK bs bm h'∧Ext (fun b=>b=bm) h h'
end Go.Proofs.Tryd.Am.Tg
namespace Go.Proofs.Tryd.Am.Tg
open Go.Proofs.Tryd.Am
open Go.Am
set_option maxRecDepth 100000
set_option maxHeartbeats 4000000
theorem intSl_ne {h:Yb} {v:Value} {x:Int} {b:Nat} {es:List (Value×Value)} (hv:IntSl h v [x]) (hb:h[b]? = some (.map es)):Yw v≠some b:=by
 rcases hv with ⟨rfl,h1⟩ | ⟨b',o,sp,cap,c,e,ro,rfl,hc,hw,hx⟩
 · cases h1
 · intro h2
   obtain rfl:b' = b:=by simpa [Yw] using h2
   have h3:=hx 0 (by simp)
   rw [view,hb] at hw
   simp [Blk.view] at hw
   obtain ⟨rfl,_⟩:=hw
   simp at h3
theorem WK.keep {bs bm:Nat} {h h' : Yb} {v:Value} {x:Int} (hs:WK bs bm h) (hv:IntSl h v [x]) (he:Ext (fun b=>b=bm) h h'):IntSl h' v [x]:=by
 obtain ⟨_,l,h2,_⟩:=hs
 exact hv.same fun b hb=>he.2 b (hv.lt hb) fun e=>intSl_ne hv h2 (e▸hb)
def gfV (b3 b4 b5 b8 b9:Nat):Value:=.func (.func 142) #[] #[ptB b8,ptB b4,ptB b5,ptB b3,ptB b9]
structure GB (b3 b4 b5 b8 b9 bs m:Nat) (v w:Value) (z:Yb):Prop where
 q:z[b8]? = some (.cells [w] 105 false)
 s:z[b4]? = some (.cells [v] 105 false)
 n:z[b5]? = some (.cells [Zx ((m+1:Nat):Int)] 3 false)
 i:z[b3]? = some (.cells [ptB bs] 106 false)
 g:z[b9]? = some (.cells [gfV b3 b4 b5 b8 b9] 25 false)
theorem GB.ext {b3 b4 b5 b8 b9 bs bm m:Nat} {v w:Value} {z z' : Yb} (g:GB b3 b4 b5 b8 b9 bs m v w z) (hk:WK bs bm z) (he:Ext (fun b=>b=bm) z z'):GB b3 b4 b5 b8 b9 bs m v w z' :=
 have old : ∀ {b:Nat} {c:List Value} {t:TypeId},z[b]? = some (.cells c t false)→z'[b]? = some (.cells c t false):=fun hb=>(he.2 _ (Yu hb) (hk.ne hb)).trans hb
 ⟨old g.q,old g.s,old g.n,old g.i,old g.g⟩
theorem GB.app {b3 b4 b5 b8 b9 bs m:Nat} {v w:Value} {z:Yb} (g:GB b3 b4 b5 b8 b9 bs m v w z) (y:Yb):GB b3 b4 b5 b8 b9 bs m v w (z++y) :=
 ⟨Yp g.q _,Yp g.s _,Yp g.n _,Yp g.i _,Yp g.g _⟩
theorem litI {h:Yb} {x:Int} {K:Value→Yb→Prop}:Xm prog h 105 1 [(0,Zx x)] K=K (.slice (some ⟨h.length,0,none⟩) 1 1) (h++[.ints [x] 3 false]):=by
 simp only [Xm,el_105,zero_3,Wc,reps,fillL,mkb,Yx,Ww,cellsOf,List.length_singleton,Nat.mul_one,Nat.zero_mul,Nat.zero_add]
 exact propext ⟨fun h=>h.2.2.2,fun h=>⟨trivial,Nat.zero_lt_one,by decide,h⟩⟩
theorem newSl (z:Yb) (x:Nat):IntSl (z++[.ints [(x:Int)] 3 false]) (.slice (some ⟨z.length,0,none⟩) 1 1) [(x:Int)] :=
 .inr ⟨z.length,0,none,1,[Zx (x:Nat)],3,false,rfl,Nat.le_refl _,by simp [view,Blk.view],fun i hi=>by
  simp only [List.length_singleton] at hi
  obtain rfl:i=0:=by omega
  rfl⟩
theorem s142_callW [Tabs Tryd.prog] {args:List Value} {h:Yb} {Q:Value→Yb→Prop} (hsz:args.length≤72) (hk:AWS Tryd.prog 72 s142 (Zu Tryd.prog [.tmp 5] Q) (Zp 0 args) h):ACall Tryd.prog 142 args h Q :=
 Xy Tryd.func142 rfl (enters_of Tryd.func142 (by kernel_rfl) rfl) rfl rfl (by decide) s142_strip s142_ok hsz hk
theorem leaf_call [Tabs prog] {b3 b4 b5 b8 b9 bs bm m n x:Nat} {v w:Value} {z:Yb} (ih:WinsOK bs bm m) (hm:m≤60) (g:GB b3 b4 b5 b8 b9 bs m v w z) (hk:WK bs bm z) (hv:IntSl z v [(n:Int)]) (hw:IntSl z w [(x:Int)]) (hn:n≤1000) (hx:x≤n) :
  ACall prog 142 [ptB b8,ptB b4,ptB b5,ptB b3,ptB b9] z fun r z'=>r = .bool (decide (x≤2 ^ m)&&decide (n-x≤2 ^ m))∧WK bs bm z'∧Ext (fun b=>b=bm) z z':=by
 have hsub:subV .i64 ((m+1:Nat):Int) 1=(m:Int):=by rw [subV_id (by omega) (by omega)]; omega
 have hsh:shlV .i64 1 ((m:Nat):Int)=((2 ^ m:Nat):Int):=shl2 m (by omega)
 have hnn:(0:Int)≤((m:Nat):Int):=Int.natCast_nonneg _
 refine s142_callW (by simp) ?_
 simp only [s142]
 refine Yc fun N1 hN1=>?_
 simp (maxSteps:=2000000) only [s142,↓Za,↓Zj,↓Zr,↓Ze,↓Zi,↓Zs,↓Zf,↓Zo,↓Zg,↓Zb,↓Zc,↓vdn,vup,Zh,Zn,Zl,Zm,Zk,List.map_cons,List.map_nil,cond_true,cond_false,aop,Zv,Zq,Zp,ev,sput,Zt,Zy,Ya,unK,Zd,Zw,Nat.reduceBEq,Nat.reduceAdd,Int.reduceBEq,Int.reduceBNe,Int.reduceLT,Zu,Zz,tup,tyf]
 refine hN1 [(0,ptB b8),(1,ptB b4),(2,ptB b5),(3,ptB b3),(4,ptB b9),(5,.bool false)] _ _ ?_ (by simp (maxSteps:=2000000) only [↓Za,↓Zj,↓Zr,↓Ze,↓Zi,↓Zs,↓Zf,↓Zo,↓Zg,↓Zb,↓Zc,↓vdn,vup,Zh,Zn,Zl,Zm,Zk,List.map_cons,List.map_nil,cond_true,cond_false,aop,Zv,Zq,Zp,ev,sput,Zt,Zy,Ya,unK,Zd,Zw,Nat.reduceBEq,Nat.reduceAdd,Int.reduceBEq,Int.reduceBNe,Int.reduceLT,Zu,Zz,tup,tyf])
 clear hN1
 try clear N1
 refine Yc fun N2 hN2=>?_
 simp (maxSteps:=2000000) only [s142,↓Za,↓Zj,↓Zr,↓Ze,↓Zi,↓Zs,↓Zf,↓Zo,↓Zg,↓Zb,↓Zc,↓vdn,vup,Zh,Zn,Zl,Zm,Zk,List.map_cons,List.map_nil,cond_true,cond_false,aop,Zv,Zq,Zp,ev,sput,Zt,Zy,Ya,unK,Zd,Zw,Nat.reduceBEq,Nat.reduceAdd,Int.reduceBEq,Int.reduceBNe,Int.reduceLT,Zu,Zz,tup,tyf,Xb g.q Wz,hw.len,List.length_singleton]
 refine hN2 [(0,ptB b8),(1,ptB b4),(2,ptB b5),(3,ptB b3),(4,ptB b9),(5,.bool false),(6,Zx ((1:Nat):Int))] _ _ ?_ (by simp (maxSteps:=2000000) only [↓Za,↓Zj,↓Zr,↓Ze,↓Zi,↓Zs,↓Zf,↓Zo,↓Zg,↓Zb,↓Zc,↓vdn,vup,Zh,Zn,Zl,Zm,Zk,List.map_cons,List.map_nil,cond_true,cond_false,aop,Zv,Zq,Zp,ev,sput,Zt,Zy,Ya,unK,Zd,Zw,Nat.reduceBEq,Nat.reduceAdd,Int.reduceBEq,Int.reduceBNe,Int.reduceLT,Zu,Zz,tup,tyf])
 clear hN2
 try clear N2
 refine Yg fun A hA=>?_
 refine Yc fun N3 hN3=>?_
 simp (maxSteps:=2000000) only [s142,↓Za,↓Zj,↓Zr,↓Ze,↓Zi,↓Zs,↓Zf,↓Zo,↓Zg,↓Zb,↓Zc,↓vdn,vup,Zh,Zn,Zl,Zm,Zk,List.map_cons,List.map_nil,cond_true,cond_false,aop,Zv,Zq,Zp,ev,sput,Zt,Zy,Ya,unK,Zd,Zw,Nat.reduceBEq,Nat.reduceAdd,Int.reduceBEq,Int.reduceBNe,Int.reduceLT,Zu,Zz,tup,tyf,Xb g.s Wz,hv.len,List.length_singleton,beq_self_eq_true]
 refine hN3 [(0,ptB b8),(1,ptB b4),(2,ptB b5),(3,ptB b3),(4,ptB b9),(5,.bool false),(6,Zx ((1:Nat):Int)),(15,.bool true)] _ _ ?_ (by simp (maxSteps:=2000000) only [↓Za,↓Zj,↓Zr,↓Ze,↓Zi,↓Zs,↓Zf,↓Zo,↓Zg,↓Zb,↓Zc,↓vdn,vup,Zh,Zn,Zl,Zm,Zk,List.map_cons,List.map_nil,cond_true,cond_false,aop,Zv,Zq,Zp,ev,sput,Zt,Zy,Ya,unK,Zd,Zw,Nat.reduceBEq,Nat.reduceAdd,Int.reduceBEq,Int.reduceBNe,Int.reduceLT,Zu,Zz,tup,tyf])
 clear hN3
 try clear N3
 refine Xl rfl ?_
 refine Yc fun N4 hN4=>?_
 simp only [q142_3]
 refine aw_drawR (fun y=>y[b4]? = some (.cells [v] 105 false)∧y[b8]? = some (.cells [w] 105 false)) [(3,5),(4,5)] (by kernel_rfl) (by kernel_rfl) (by kernel_rfl) (by kernel_rfl) ⟨g.s,g.q⟩ ?_
 simp (maxSteps:=2000000) only [s142,↓Za,↓Zj,↓Zr,↓Ze,↓Zi,↓Zs,↓Zf,↓Zo,↓Zg,↓Zb,↓Zc,↓vdn,vup,Zh,Zn,Zl,Zm,Zk,List.map_cons,List.map_nil,cond_true,cond_false,aop,Zv,Zq,Zp,ev,sput,Zt,Zy,Ya,unK,Zd,Zw,Nat.reduceBEq,Nat.reduceAdd,Int.reduceBEq,Int.reduceBNe,Int.reduceLT,Zu,Zz,tup,tyf,Xb g.s Wz,Xb g.q Wz,Yz,List.nil_append,List.append_nil,List.toList_toArray,List.cons_append]
 refine ⟨_,_,after_call (b:=true) (y:=x) hv hw hn hx rfl,⟨Yp g.s _,Yp g.q _⟩,?_⟩
 try simp (maxSteps:=2000000) only [s142,↓Za,↓Zj,↓Zr,↓Ze,↓Zi,↓Zs,↓Zf,↓Zo,↓Zg,↓Zb,↓Zc,↓vdn,vup,Zh,Zn,Zl,Zm,Zk,List.map_cons,List.map_nil,cond_true,cond_false,aop,Zv,Zq,Zp,ev,sput,Zt,Zy,Ya,unK,Zd,Zw,Nat.reduceBEq,Nat.reduceAdd,Int.reduceBEq,Int.reduceBNe,Int.reduceLT,Zu,Zz,tup,tyf]
 refine ⟨v,fun y hy=>by simp only [Xb hy.1 Wz],?_⟩
 try simp (maxSteps:=2000000) only [s142,↓Za,↓Zj,↓Zr,↓Ze,↓Zi,↓Zs,↓Zf,↓Zo,↓Zg,↓Zb,↓Zc,↓vdn,vup,Zh,Zn,Zl,Zm,Zk,List.map_cons,List.map_nil,cond_true,cond_false,aop,Zv,Zq,Zp,ev,sput,Zt,Zy,Ya,unK,Zd,Zw,Nat.reduceBEq,Nat.reduceAdd,Int.reduceBEq,Int.reduceBNe,Int.reduceLT,Zu,Zz,tup,tyf]
 refine ⟨w,fun y hy=>by simp only [Xb hy.2 Wz],?_⟩
 try simp (maxSteps:=2000000) only [s142,↓Za,↓Zj,↓Zr,↓Ze,↓Zi,↓Zs,↓Zf,↓Zo,↓Zg,↓Zb,↓Zc,↓vdn,vup,Zh,Zn,Zl,Zm,Zk,List.map_cons,List.map_nil,cond_true,cond_false,aop,Zv,Zq,Zp,ev,sput,Zt,Zy,Ya,unK,Zd,Zw,Nat.reduceBEq,Nat.reduceAdd,Int.reduceBEq,Int.reduceBNe,Int.reduceLT,Zu,Zz,tup,tyf,Yz,List.nil_append,List.append_nil,List.toList_toArray,List.cons_append]
 refine ⟨_,_,after_call (b:=false) (y:=n-x) (hv.grow _) (hw.grow _) hn hx rfl,⟨Yp (Yp g.s _) _,Yp (Yp g.q _) _⟩,?_⟩
 try simp (maxSteps:=2000000) only [s142,↓Za,↓Zj,↓Zr,↓Ze,↓Zi,↓Zs,↓Zf,↓Zo,↓Zg,↓Zb,↓Zc,↓vdn,vup,Zh,Zn,Zl,Zm,Zk,List.map_cons,List.map_nil,cond_true,cond_false,aop,Zv,Zq,Zp,ev,sput,Zt,Zy,Ya,unK,Zd,Zw,Nat.reduceBEq,Nat.reduceAdd,Int.reduceBEq,Int.reduceBNe,Int.reduceLT,Zu,Zz,tup,tyf]
 have ha:=(newSl z x).grow [.ints [((n-x:Nat):Int)] 3 false]
 have hb:=newSl (z++[.ints [(x:Int)] 3 false]) (n-x)
 have g2:=(g.app [.ints [(x:Int)] 3 false]).app [.ints [((n-x:Nat):Int)] 3 false]
 have hE2:Ext (fun _=>False) z (z++[.ints [(x:Int)] 3 false]++[.ints [((n-x:Nat):Int)] 3 false]):=by rw [List.append_assoc]; exact Ext.app _ _ _
 have hk2:=hk.ext hE2
 generalize z++[.ints [(x:Int)] 3 false]++[.ints [((n-x:Nat):Int)] 3 false]=z2 at ha hb g2 hE2 hk2 ⊢
 generalize (Value.slice (some ⟨z.length,0,none⟩) 1 1)=va at ha ⊢
 generalize (Value.slice (some ⟨(z++[Blk.ints [(x:Int)] 3 false]).length,0,none⟩) 1 1)=vb at hb ⊢
 refine hN4 [(0,ptB b8),(1,ptB b4),(2,ptB b5),(3,ptB b3),(4,ptB b9),(5,.bool false),(6,Zx ((1:Nat):Int)),(7,va),(8,vb)] _ _ ?_ (by simp (maxSteps:=2000000) only [↓Za,↓Zj,↓Zr,↓Ze,↓Zi,↓Zs,↓Zf,↓Zo,↓Zg,↓Zb,↓Zc,↓vdn,vup,Zh,Zn,Zl,Zm,Zk,List.map_cons,List.map_nil,cond_true,cond_false,aop,Zv,Zq,Zp,ev,sput,Zt,Zy,Ya,unK,Zd,Zw,Nat.reduceBEq,Nat.reduceAdd,Int.reduceBEq,Int.reduceBNe,Int.reduceLT,Zu,Zz,tup,tyf])
 clear hN4
 try clear N4
 have hEm:Ext (fun b=>b=bm) z z2:=hE2.mono fun _ h=>h.elim
 refine Yf ?_
 simp only [Zr]
 simp only [q142_4]
 refine Xi [(3,1),(12,1),(23,4),(30,4)] (by kernel_rfl) (by kernel_rfl) (by kernel_rfl) (by kernel_rfl) ?_
 simp (maxSteps:=2000000) only [s142,↓Za,↓Zj,↓Zr,↓Ze,↓Zi,↓Zs,↓Zf,↓Zo,↓Zg,↓Zb,↓Zc,↓vdn,vup,Zh,Zn,Zl,Zm,Zk,List.map_cons,List.map_nil,cond_true,cond_false,aop,Zv,Zq,Zp,ev,sput,Zt,Zy,Ya,unK,Zd,Zw,Nat.reduceBEq,Nat.reduceAdd,Int.reduceBEq,Int.reduceBNe,Int.reduceLT,Zu,Zz,tup,tyf,Xb g2.n Xc,hsub,Yz,List.nil_append,List.append_nil,List.toList_toArray,List.cons_append]
 refine ⟨_,_,weight_call ha (by omega),rfl,?_⟩
 by_cases hA:x≤2 ^ m
 · have hA' : ((x:Nat):Int)≤((2 ^ m:Nat):Int):=Int.ofNat_le.2 hA
   have hA2:=decide_eq_true hA
   by_cases hB:n-x≤2 ^ m
   · have hB' : ((n-x:Nat):Int)≤((2 ^ m:Nat):Int):=Int.ofNat_le.2 hB
     have hB2:=decide_eq_true hB
     rw [hA2,hB2]
     generalize ((2 ^ m:Nat):Int)=pw at hsh hA' hB'
     simp (maxSteps:=2000000) only [s142,↓Za,↓Zj,↓Zr,↓Ze,↓Zi,↓Zs,↓Zf,↓Zo,↓Zg,↓Zb,↓Zc,↓vdn,vup,Zh,Zn,Zl,Zm,Zk,List.map_cons,List.map_nil,cond_true,cond_false,aop,Zv,Zq,Zp,ev,sput,Zt,Zy,Ya,unK,Zd,Zw,Nat.reduceBEq,Nat.reduceAdd,Int.reduceBEq,Int.reduceBNe,Int.reduceLT,Zu,Zz,tup,tyf,Xb g2.n Xc,hsub,hnn,hsh,hA',decide_true,Yz,List.nil_append,List.append_nil,List.toList_toArray,List.cons_append]
     refine ⟨_,_,weight_call hb (by omega),rfl,?_⟩
     simp (maxSteps:=2000000) only [s142,↓Za,↓Zj,↓Zr,↓Ze,↓Zi,↓Zs,↓Zf,↓Zo,↓Zg,↓Zb,↓Zc,↓vdn,vup,Zh,Zn,Zl,Zm,Zk,List.map_cons,List.map_nil,cond_true,cond_false,aop,Zv,Zq,Zp,ev,sput,Zt,Zy,Ya,unK,Zd,Zw,Nat.reduceBEq,Nat.reduceAdd,Int.reduceBEq,Int.reduceBNe,Int.reduceLT,Zu,Zz,tup,tyf,Xb g2.n Xc,hsub,hnn,hsh,hB',decide_true,Xb g2.i shp_106,Yz,List.nil_append,List.append_nil,List.toList_toArray,List.cons_append]
     refine (ih z2 va x (by omega) ha hk2).mono ?_
     rintro _ z3 ⟨rfl,hk3,hE3⟩
     have g3:=g2.ext hk2 hE3
     have hb3:=hk2.keep hb hE3
     rw [hA2]
     simp (maxSteps:=2000000) only [s142,↓Za,↓Zj,↓Zr,↓Ze,↓Zi,↓Zs,↓Zf,↓Zo,↓Zg,↓Zb,↓Zc,↓vdn,vup,Zh,Zn,Zl,Zm,Zk,List.map_cons,List.map_nil,cond_true,cond_false,aop,Zv,Zq,Zp,ev,sput,Zt,Zy,Ya,unK,Zd,Zw,Nat.reduceBEq,Nat.reduceAdd,Int.reduceBEq,Int.reduceBNe,Int.reduceLT,Zu,Zz,tup,tyf,Xb g3.n Xc,hsub,Xb g3.i shp_106,Yz,List.nil_append,List.append_nil,List.toList_toArray,List.cons_append]
     refine (ih z3 vb (n-x) (by omega) hb3 hk3).mono ?_
     rintro _ z4 ⟨rfl,hk4,hE4⟩
     rw [hB2]
     try simp (maxSteps:=2000000) only [s142,↓Za,↓Zj,↓Zr,↓Ze,↓Zi,↓Zs,↓Zf,↓Zo,↓Zg,↓Zb,↓Zc,↓vdn,vup,Zh,Zn,Zl,Zm,Zk,List.map_cons,List.map_nil,cond_true,cond_false,aop,Zv,Zq,Zp,ev,sput,Zt,Zy,Ya,unK,Zd,Zw,Nat.reduceBEq,Nat.reduceAdd,Int.reduceBEq,Int.reduceBNe,Int.reduceLT,Zu,Zz,tup,tyf]
     exact ⟨rfl,hk4,(hEm.trans hE3).trans hE4⟩
   · have hB' : ¬ ((n-x:Nat):Int)≤((2 ^ m:Nat):Int):=fun h=>hB (Int.ofNat_le.1 h)
     rw [hA2,decide_eq_false hB]
     generalize ((2 ^ m:Nat):Int)=pw at hsh hA' hB'
     simp (maxSteps:=2000000) only [s142,↓Za,↓Zj,↓Zr,↓Ze,↓Zi,↓Zs,↓Zf,↓Zo,↓Zg,↓Zb,↓Zc,↓vdn,vup,Zh,Zn,Zl,Zm,Zk,List.map_cons,List.map_nil,cond_true,cond_false,aop,Zv,Zq,Zp,ev,sput,Zt,Zy,Ya,unK,Zd,Zw,Nat.reduceBEq,Nat.reduceAdd,Int.reduceBEq,Int.reduceBNe,Int.reduceLT,Zu,Zz,tup,tyf,Xb g2.n Xc,hsub,hnn,hsh,hA',decide_true,Yz,List.nil_append,List.append_nil,List.toList_toArray,List.cons_append]
     refine ⟨_,_,weight_call hb (by omega),rfl,?_⟩
     simp (maxSteps:=2000000) only [s142,↓Za,↓Zj,↓Zr,↓Ze,↓Zi,↓Zs,↓Zf,↓Zo,↓Zg,↓Zb,↓Zc,↓vdn,vup,Zh,Zn,Zl,Zm,Zk,List.map_cons,List.map_nil,cond_true,cond_false,aop,Zv,Zq,Zp,ev,sput,Zt,Zy,Ya,unK,Zd,Zw,Nat.reduceBEq,Nat.reduceAdd,Int.reduceBEq,Int.reduceBNe,Int.reduceLT,Zu,Zz,tup,tyf,Xb g2.n Xc,hsub,hnn,hsh,hB',decide_false]
     exact ⟨rfl,hk2,hEm⟩
 · have hA' : ¬ ((x:Nat):Int)≤((2 ^ m:Nat):Int):=fun h=>hA (Int.ofNat_le.1 h)
   rw [decide_eq_false hA,Bool.false_and]
   generalize ((2 ^ m:Nat):Int)=pw at hsh hA'
   simp (maxSteps:=2000000) only [s142,↓Za,↓Zj,↓Zr,↓Ze,↓Zi,↓Zs,↓Zf,↓Zo,↓Zg,↓Zb,↓Zc,↓vdn,vup,Zh,Zn,Zl,Zm,Zk,List.map_cons,List.map_nil,cond_true,cond_false,aop,Zv,Zq,Zp,ev,sput,Zt,Zy,Ya,unK,Zd,Zw,Nat.reduceBEq,Nat.reduceAdd,Int.reduceBEq,Int.reduceBNe,Int.reduceLT,Zu,Zz,tup,tyf,Xb g2.n Xc,hsub,hnn,hsh,hA',decide_false]
   exact ⟨hk2,hEm⟩
end Go.Proofs.Tryd.Am.Tg
namespace Go.Proofs.Tryd.Am.Tg
open Go.Proofs.Tryd.Am
open Go.Am
set_option maxRecDepth 100000
set_option maxHeartbeats 4000000
theorem GB.put {b3 b4 b5 b8 b9 bs m:Nat} {v w w' : Value} {z:Yb} (g:GB b3 b4 b5 b8 b9 bs m v w z) (hd:b3≠b8∧b4≠b8∧b5≠b8∧b9≠b8):GB b3 b4 b5 b8 b9 bs m v w' (z.set b8 (.cells [w'] 105 false)) :=
 have old : ∀ {b:Nat} {B:Blk},z[b]? = some B→b≠b8→(z.set b8 (.cells [w'] 105 false))[b]? = some B:=fun hb hne=>by rw [List.getElem?_set_ne (Ne.symm hne)]; exact hb
 ⟨Xf (Yu g.q) _,old g.s hd.2.1,old g.n hd.2.2.1,old g.i hd.1,old g.g hd.2.2.2⟩
theorem GB.own {b3 b4 b5 b8 b9 bs m:Nat} {v w:Value} {z z' : Yb} {S:Nat→Prop} (g:GB b3 b4 b5 b8 b9 bs m v w z) (he:Ext S z z') (hS : ∀ b (c:List Value) t,z[b]? = some (.cells c t false)→¬ S b):GB b3 b4 b5 b8 b9 bs m v w z' :=
 have old : ∀ {b:Nat} {c:List Value} {t:TypeId},z[b]? = some (.cells c t false)→z'[b]? = some (.cells c t false):=fun hb=>(he.2 _ (Yu hb) (hS _ _ _ hb)).trans hb
 ⟨old g.q,old g.s,old g.n,old g.i,old g.g⟩
theorem WK.set {bs bm b8:Nat} {z:Yb} (hk:WK bs bm z) (h1:b8≠bs) (h2:b8≠bm) (B:Blk):WK bs bm (z.set b8 B):=by
 obtain ⟨k1,l,k2,k3⟩:=hk
 exact ⟨by rw [List.getElem?_set_ne h1]; exact k1,l,by rw [List.getElem?_set_ne h2]; exact k2,k3⟩
theorem intSl_box {h:Yb} {v w:Value} {x:Int} {b:Nat} {t:TypeId} {ro:Bool} (hv:IntSl h v [x]) (hb:h[b]? = some (.cells [w] t ro)) (hw : ∀ n,w≠Zx n):Yw v≠some b:=by
 rcases hv with ⟨rfl,h1⟩ | ⟨b',o,sp,cap,c,e,ro,rfl,hc,hvw,hx⟩
 · cases h1
 · intro h2
   obtain rfl:b' = b:=by simpa [Yw] using h2
   have h3:=hx 0 (by simp)
   rw [view,hb] at hvw
   simp [Blk.view] at hvw
   obtain ⟨rfl,_⟩:=hvw
   rcases o with _ | o
   · simp at h3
     exact hw _ h3
   · simp at h3
theorem own_notInt {h:Yb} {w:Value} {xs:List Int} (ho:OwnSl 3 h w xs) : ∀ n,w≠Zx n:=fun n e=>by
 rcases ho with ⟨rfl,_⟩ | ⟨b,ys,rfl,_⟩ <;> cases e
theorem grow_call [Tabs prog] {b3 b4 b5 b8 b9 bs bm m n:Nat} {v:Value} {z:Yb} (ih:WinsOK bs bm m) (hm:m≤60) (g:GB b3 b4 b5 b8 b9 bs m v (.slice none 0 0) z) (hd:b3≠b8∧b4≠b8∧b5≠b8∧b9≠b8) (hbs:b8≠bs) (hk:WK bs bm z) (hv:IntSl z v [(n:Int)]) (hn:n≤1000) (hle:n≤2 ^ (m+1)) :
  ACall prog 142 [ptB b8,ptB b4,ptB b5,ptB b3,ptB b9] z fun r z'=>r = .bool true∧WK bs bm z'∧Ext (fun b=>b=bm∨b=b8) z z'∧∃ w,z'[b8]? = some (.cells [w] 105 false):=by
 have hbm:b8≠bm:=hk.ne g.q
 refine s142_callW (by simp) ?_
 simp only [s142]
 refine Yc fun N1 hN1=>?_
 simp (maxSteps:=2000000) only [s142,↓Za,↓Zj,↓Zr,↓Ze,↓Zi,↓Zs,↓Zf,↓Zo,↓Zg,↓Zb,↓Zc,↓vdn,vup,Zh,Zn,Zl,Zm,Zk,List.map_cons,List.map_nil,cond_true,cond_false,aop,Zv,Zq,Zp,ev,sput,Zt,Zy,Ya,unK,Zd,Zw,Nat.reduceBEq,Nat.reduceAdd,Int.reduceBEq,Int.reduceBNe,Int.reduceLT,Zu,Zz,tup,tyf]
 refine hN1 [(0,ptB b8),(1,ptB b4),(2,ptB b5),(3,ptB b3),(4,ptB b9),(5,.bool false)] _ _ ?_ (by simp (maxSteps:=2000000) only [↓Za,↓Zj,↓Zr,↓Ze,↓Zi,↓Zs,↓Zf,↓Zo,↓Zg,↓Zb,↓Zc,↓vdn,vup,Zh,Zn,Zl,Zm,Zk,List.map_cons,List.map_nil,cond_true,cond_false,aop,Zv,Zq,Zp,ev,sput,Zt,Zy,Ya,unK,Zd,Zw,Nat.reduceBEq,Nat.reduceAdd,Int.reduceBEq,Int.reduceBNe,Int.reduceLT,Zu,Zz,tup,tyf])
 clear hN1
 try clear N1
 refine Yc fun N2 hN2=>?_
 simp (maxSteps:=2000000) only [s142,↓Za,↓Zj,↓Zr,↓Ze,↓Zi,↓Zs,↓Zf,↓Zo,↓Zg,↓Zb,↓Zc,↓vdn,vup,Zh,Zn,Zl,Zm,Zk,List.map_cons,List.map_nil,cond_true,cond_false,aop,Zv,Zq,Zp,ev,sput,Zt,Zy,Ya,unK,Zd,Zw,Nat.reduceBEq,Nat.reduceAdd,Int.reduceBEq,Int.reduceBNe,Int.reduceLT,Zu,Zz,tup,tyf,Xb g.q Wz,lenK]
 refine hN2 [(0,ptB b8),(1,ptB b4),(2,ptB b5),(3,ptB b3),(4,ptB b9),(5,.bool false),(6,Zx ((0:Nat):Int))] _ _ ?_ (by simp (maxSteps:=2000000) only [↓Za,↓Zj,↓Zr,↓Ze,↓Zi,↓Zs,↓Zf,↓Zo,↓Zg,↓Zb,↓Zc,↓vdn,vup,Zh,Zn,Zl,Zm,Zk,List.map_cons,List.map_nil,cond_true,cond_false,aop,Zv,Zq,Zp,ev,sput,Zt,Zy,Ya,unK,Zd,Zw,Nat.reduceBEq,Nat.reduceAdd,Int.reduceBEq,Int.reduceBNe,Int.reduceLT,Zu,Zz,tup,tyf])
 clear hN2
 try clear N2
 refine Yg fun A hA=>?_
 refine Yc fun N3 hN3=>?_
 simp (maxSteps:=2000000) only [s142,↓Za,↓Zj,↓Zr,↓Ze,↓Zi,↓Zs,↓Zf,↓Zo,↓Zg,↓Zb,↓Zc,↓vdn,vup,Zh,Zn,Zl,Zm,Zk,List.map_cons,List.map_nil,cond_true,cond_false,aop,Zv,Zq,Zp,ev,sput,Zt,Zy,Ya,unK,Zd,Zw,Nat.reduceBEq,Nat.reduceAdd,Int.reduceBEq,Int.reduceBNe,Int.reduceLT,Zu,Zz,tup,tyf,Xb g.s Wz,hv.len,List.length_singleton,show (((0:Nat):Int)==((1:Nat):Int))=false from rfl]
 refine hN3 [(0,ptB b8),(1,ptB b4),(2,ptB b5),(3,ptB b3),(4,ptB b9),(5,.bool false),(6,Zx ((0:Nat):Int)),(15,.bool false)] _ _ ?_ (by simp (maxSteps:=2000000) only [↓Za,↓Zj,↓Zr,↓Ze,↓Zi,↓Zs,↓Zf,↓Zo,↓Zg,↓Zb,↓Zc,↓vdn,vup,Zh,Zn,Zl,Zm,Zk,List.map_cons,List.map_nil,cond_true,cond_false,aop,Zv,Zq,Zp,ev,sput,Zt,Zy,Ya,unK,Zd,Zw,Nat.reduceBEq,Nat.reduceAdd,Int.reduceBEq,Int.reduceBNe,Int.reduceLT,Zu,Zz,tup,tyf])
 clear hN3
 try clear N3
 refine Xe rfl ?_
 refine Yf ?_
 simp (maxSteps:=2000000) only [s142,↓Za,↓Zj,↓Zr,↓Ze,↓Zi,↓Zs,↓Zf,↓Zo,↓Zg,↓Zb,↓Zc,↓vdn,vup,Zh,Zn,Zl,Zm,Zk,List.map_cons,List.map_nil,cond_true,cond_false,aop,Zv,Zq,Zp,ev,sput,Zt,Zy,Ya,unK,Zd,Zw,Nat.reduceBEq,Nat.reduceAdd,Int.reduceBEq,Int.reduceBNe,Int.reduceLT,Zu,Zz,tup,tyf]
 refine hA [(0,ptB b8),(1,ptB b4),(2,ptB b5),(3,ptB b3),(4,ptB b9),(5,.bool false),(6,Zx ((0:Nat):Int))] _ _ ?_ (by simp (maxSteps:=2000000) only [↓Za,↓Zj,↓Zr,↓Ze,↓Zi,↓Zs,↓Zf,↓Zo,↓Zg,↓Zb,↓Zc,↓vdn,vup,Zh,Zn,Zl,Zm,Zk,List.map_cons,List.map_nil,cond_true,cond_false,aop,Zv,Zq,Zp,ev,sput,Zt,Zy,Ya,unK,Zd,Zw,Nat.reduceBEq,Nat.reduceAdd,Int.reduceBEq,Int.reduceBNe,Int.reduceLT,Zu,Zz,tup,tyf])
 clear hA
 try clear A
 have hi0 : ∀ {K:Value→Prop},Ys prog 105 v (Zx ((0:Nat):Int)) K=K (Wq v 1 0):=fun {K}=>hv.idx el_105 Wc (i:=0) (k:=.i64) Nat.zero_lt_one K
 have hl0 : ∀ K,Xu prog z 3 (Wq v 1 0) K=K (Zx (n:Nat)):=fun K=>hv.load Xc (i:=0) Nat.zero_lt_one K
 refine Yg fun M hM=>?_
 refine Yc fun N4 hN4=>?_
 simp (maxSteps:=2000000) only [s142,↓Za,↓Zj,↓Zr,↓Ze,↓Zi,↓Zs,↓Zf,↓Zo,↓Zg,↓Zb,↓Zc,↓vdn,vup,Zh,Zn,Zl,Zm,Zk,List.map_cons,List.map_nil,cond_true,cond_false,aop,Zv,Zq,Zp,ev,sput,Zt,Zy,Ya,unK,Zd,Zw,Nat.reduceBEq,Nat.reduceAdd,Int.reduceBEq,Int.reduceBNe,Int.reduceLT,Zu,Zz,tup,tyf,Xb g.s Wz,hi0,hl0,add1 (show n<9223372036854775807 by omega)]
 refine hN4 [(0,ptB b8),(1,ptB b4),(2,ptB b5),(3,ptB b3),(4,ptB b9),(5,.bool false),(6,Zx ((0:Nat):Int)),(58,Zx (n+1:Nat)),(59,.int .i64 0)] _ _ ?_ (by simp (maxSteps:=2000000) only [↓Za,↓Zj,↓Zr,↓Ze,↓Zi,↓Zs,↓Zf,↓Zo,↓Zg,↓Zb,↓Zc,↓vdn,vup,Zh,Zn,Zl,Zm,Zk,List.map_cons,List.map_nil,cond_true,cond_false,aop,Zv,Zq,Zp,ev,sput,Zt,Zy,Ya,unK,Zd,Zw,Nat.reduceBEq,Nat.reduceAdd,Int.reduceBEq,Int.reduceBNe,Int.reduceLT,Zu,Zz,tup,tyf])
 clear hN4
 try clear N4
 refine Yo ?_
 refine Yn fun Q hQ=>?_
 refine Xx (γ:=Nat×Value×Yb) (fun s=>s.1≤n+1∧GB b3 b4 b5 b8 b9 bs m v s.2.1 s.2.2∧OwnSl 3 s.2.2 s.2.1 []∧WK bs bm s.2.2∧Ext (fun b=>b=bm∨b=b8) z s.2.2∧(∀ b,Yw s.2.1=some b→z.length≤b)∧∀ x,x<s.1→¬ (x≤2 ^ m∧n-x≤2 ^ m))
  (fun s=>([(0,ptB b8),(1,ptB b4),(2,ptB b5),(3,ptB b3),(4,ptB b9),(5,.bool false),(6,Zx ((0:Nat):Int)),(58,Zx (n+1:Nat)),(59,Zx (s.1:Nat))],s.2.2)) (fun s=>n+1-s.1) (0,.slice none 0 0,z) ⟨Nat.zero_le _,g,.inl ⟨rfl,rfl⟩,hk,Ext.refl _ _,(fun b hb=>by cases hb),fun x hx=>absurd hx (Nat.not_lt_zero x)⟩ (by simp (maxSteps:=2000000) only [↓Za,↓Zj,↓Zr,↓Ze,↓Zi,↓Zs,↓Zf,↓Zo,↓Zg,↓Zb,↓Zc,↓vdn,vup,Zh,Zn,Zl,Zm,Zk,List.map_cons,List.map_nil,cond_true,cond_false,aop,Zv,Zq,Zp,ev,sput,Zt,Zy,Ya,unK,Zd,Zw,Nat.reduceBEq,Nat.reduceAdd,Int.reduceBEq,Int.reduceBNe,Int.reduceLT,Zu,Zz,tup,tyf,Int.natCast_zero]) rfl ?_
 rintro ⟨x,w,y⟩ ⟨hx,gy,how,hky,hEy,hwb,hno⟩
 simp only at hx gy how hky hEy hwb hno
 refine Yn fun Q2 hQ2=>?_
 simp only [l142_0]
 have hvy:IntSl y v [(n:Int)]:=hv.same fun b hb=>hEy.2 b (hv.lt hb) fun hc=>by
  rcases hc with e | e
  · obtain ⟨_,l,k2,_⟩:=hk
    exact intSl_ne hv k2 (e▸hb)
  · exact intSl_box hv g.q (fun n e=>by cases e) (e▸hb)
 by_cases hxn:(x:Int)<((n+1:Nat):Int)
 · have hx' : x≤n:=by omega
   refine Yc fun N5 hN5=>?_
   simp (maxSteps:=2000000) only [s142,↓Za,↓Zj,↓Zr,↓Ze,↓Zi,↓Zs,↓Zf,↓Zo,↓Zg,↓Zb,↓Zc,↓vdn,vup,Zh,Zn,Zl,Zm,Zk,List.map_cons,List.map_nil,cond_true,cond_false,aop,Zv,Zq,Zp,ev,sput,Zt,Zy,Ya,unK,Zd,Zw,Nat.reduceBEq,Nat.reduceAdd,Int.reduceBEq,Int.reduceBNe,Int.reduceLT,Zu,Zz,tup,tyf,hxn]
   refine hN5 [(0,ptB b8),(1,ptB b4),(2,ptB b5),(3,ptB b3),(4,ptB b9),(5,.bool false),(6,Zx ((0:Nat):Int)),(58,Zx (n+1:Nat)),(59,Zx (x:Nat)),(60,.bool true)] _ _ ?_ (by simp (maxSteps:=2000000) only [↓Za,↓Zj,↓Zr,↓Ze,↓Zi,↓Zs,↓Zf,↓Zo,↓Zg,↓Zb,↓Zc,↓vdn,vup,Zh,Zn,Zl,Zm,Zk,List.map_cons,List.map_nil,cond_true,cond_false,aop,Zv,Zq,Zp,ev,sput,Zt,Zy,Ya,unK,Zd,Zw,Nat.reduceBEq,Nat.reduceAdd,Int.reduceBEq,Int.reduceBNe,Int.reduceLT,Zu,Zz,tup,tyf])
   clear hN5
   try clear N5
   refine Yc fun N6 hN6=>?_
   simp (maxSteps:=2000000) only [s142,↓Za,↓Zj,↓Zr,↓Ze,↓Zi,↓Zs,↓Zf,↓Zo,↓Zg,↓Zb,↓Zc,↓vdn,vup,Zh,Zn,Zl,Zm,Zk,List.map_cons,List.map_nil,cond_true,cond_false,aop,Zv,Zq,Zp,ev,sput,Zt,Zy,Ya,unK,Zd,Zw,Nat.reduceBEq,Nat.reduceAdd,Int.reduceBEq,Int.reduceBNe,Int.reduceLT,Zu,Zz,tup,tyf]
   refine hN6 [(0,ptB b8),(1,ptB b4),(2,ptB b5),(3,ptB b3),(4,ptB b9),(5,.bool false),(6,Zx ((0:Nat):Int)),(58,Zx (n+1:Nat)),(59,Zx (x:Nat))] _ _ ?_ (by simp (maxSteps:=2000000) only [↓Za,↓Zj,↓Zr,↓Ze,↓Zi,↓Zs,↓Zf,↓Zo,↓Zg,↓Zb,↓Zc,↓vdn,vup,Zh,Zn,Zl,Zm,Zk,List.map_cons,List.map_nil,cond_true,cond_false,aop,Zv,Zq,Zp,ev,sput,Zt,Zy,Ya,unK,Zd,Zw,Nat.reduceBEq,Nat.reduceAdd,Int.reduceBEq,Int.reduceBNe,Int.reduceLT,Zu,Zz,tup,tyf])
   clear hN6
   try clear N6
   refine Yg fun B hB=>?_
   refine Yo ?_
   refine Yc fun N7 hN7=>?_
   simp (maxSteps:=2000000) only [s142,↓Za,↓Zj,↓Zr,↓Ze,↓Zi,↓Zs,↓Zf,↓Zo,↓Zg,↓Zb,↓Zc,↓vdn,vup,Zh,Zn,Zl,Zm,Zk,List.map_cons,List.map_nil,cond_true,cond_false,aop,Zv,Zq,Zp,ev,sput,Zt,Zy,Ya,unK,Zd,Zw,Nat.reduceBEq,Nat.reduceAdd,Int.reduceBEq,Int.reduceBNe,Int.reduceLT,Zu,Zz,tup,tyf]
   refine hN7 [(0,ptB b8),(1,ptB b4),(2,ptB b5),(3,ptB b3),(4,ptB b9),(5,.bool false),(6,Zx ((0:Nat):Int)),(9,Zx (x:Nat)),(58,Zx (n+1:Nat)),(59,Zx (x:Nat))] _ _ ?_ (by simp (maxSteps:=2000000) only [↓Za,↓Zj,↓Zr,↓Ze,↓Zi,↓Zs,↓Zf,↓Zo,↓Zg,↓Zb,↓Zc,↓vdn,vup,Zh,Zn,Zl,Zm,Zk,List.map_cons,List.map_nil,cond_true,cond_false,aop,Zv,Zq,Zp,ev,sput,Zt,Zy,Ya,unK,Zd,Zw,Nat.reduceBEq,Nat.reduceAdd,Int.reduceBEq,Int.reduceBNe,Int.reduceLT,Zu,Zz,tup,tyf])
   clear hN7
   try clear N7
   refine Yc fun N8 hN8=>?_
   simp (maxSteps:=2000000) only [s142,↓Za,↓Zj,↓Zr,↓Ze,↓Zi,↓Zs,↓Zf,↓Zo,↓Zg,↓Zb,↓Zc,↓vdn,vup,Zh,Zn,Zl,Zm,Zk,List.map_cons,List.map_nil,cond_true,cond_false,aop,Zv,Zq,Zp,ev,sput,Zt,Zy,Ya,unK,Zd,Zw,Nat.reduceBEq,Nat.reduceAdd,Int.reduceBEq,Int.reduceBNe,Int.reduceLT,Zu,Zz,tup,tyf,Xb gy.q Wz,List.map_toArray,litI]
   refine (how.ext (S:=fun _=>False) (Ext.app _ _ _) (fun _ _=>id)).append app_105_105 (by decide) (Yt _ _) ?_
   intro w' y1 how' hE1 hb1
   rw [List.nil_append] at how'
   have hnc : ∀ b (c:List Value) t,y[b]? = some (.cells c t false)→¬ (Yw w=some b):=fun b c t hb=>how.notCells hb
   have hE1' : Ext (fun b=>Yw w=some b) y y1:=⟨by have:=hE1.1; rw [List.length_append] at this; omega,fun q hq hf=>(hE1.2 q (by rw [List.length_append]; omega) hf).trans (List.getElem?_append_left hq)⟩
   have g1:=gy.own hE1' hnc
   have hk1:WK bs bm y1:=by
    obtain ⟨k1,l,k2,k3⟩:=hky
    refine ⟨(hE1'.2 _ (Yu k1) (hnc _ _ _ k1)).trans k1,l,(hE1'.2 _ (Yu k2) fun hc=>?_).trans k2,k3⟩
    rcases how with ⟨rfl,_⟩ | ⟨b,ys,rfl,hb⟩
    · cases hc
    · obtain rfl:b=bm:=by simpa [Yw] using hc
      rw [k2] at hb; cases hb
   have hwb' : ∀ b,Yw w' = some b→z.length≤b:=fun b hb=>by
    rcases hb1 with h1 | ⟨b',h1,h2⟩
    · exact hwb b (h1▸hb)
    · rw [h1] at hb; cases hb
      have:=hEy.1
      rw [List.length_append] at h2; omega
   have hv1:IntSl y1 v [(n:Int)]:=hvy.same fun b hb=>hE1'.2 b (hvy.lt hb) fun hc=>by
    have:=hwb b hc
    have:=hv.lt hb
    omega
   simp (maxSteps:=2000000) only [s142,↓Za,↓Zj,↓Zr,↓Ze,↓Zi,↓Zs,↓Zf,↓Zo,↓Zg,↓Zb,↓Zc,↓vdn,vup,Zh,Zn,Zl,Zm,Zk,List.map_cons,List.map_nil,cond_true,cond_false,aop,Zv,Zq,Zp,ev,sput,Zt,Zy,Ya,unK,Zd,Zw,Nat.reduceBEq,Nat.reduceAdd,Int.reduceBEq,Int.reduceBNe,Int.reduceLT,Zu,Zz,tup,tyf,store1 g1.q Wz how'.one]
   have g2:=g1.put (w':=w') hd
   have hk2:=hk1.set hbs hbm (.cells [w'] 105 false)
   have hv2:IntSl (y1.set b8 (.cells [w'] 105 false)) v [(n:Int)]:=hv1.same fun b hb=>List.getElem?_set_ne fun e=>by
    exact intSl_box hv1 g1.q (own_notInt how) (e▸hb)
   have how2:OwnSl 3 (y1.set b8 (.cells [w'] 105 false)) w' [(x:Int)]:=how'.ext (S:=fun b=>b=b8) (Ext.set _ rfl) fun b hb hc=>how'.notCells g1.q (hc▸hb)
   have hE2:Ext (fun b=>b=bm∨b=b8) z (y1.set b8 (.cells [w'] 105 false)):=by
    refine ⟨by rw [List.length_set]; exact Nat.le_trans hEy.1 hE1'.1,fun q hq hf=>?_⟩
    rw [List.getElem?_set_ne (fun e=>hf (.inr e.symm)),hE1'.2 q (Nat.lt_of_lt_of_le hq hEy.1) (fun hc=>by have:=hwb q hc; omega)]
    exact hEy.2 q hq hf
   generalize y1.set b8 (.cells [w'] 105 false)=y2 at g2 hk2 hv2 how2 hE2 ⊢
   refine hN8 [(0,ptB b8),(1,ptB b4),(2,ptB b5),(3,ptB b3),(4,ptB b9),(5,.bool false),(6,Zx ((0:Nat):Int)),(9,Zx (x:Nat)),(58,Zx (n+1:Nat)),(59,Zx (x:Nat))] _ _ ?_ (by simp (maxSteps:=2000000) only [↓Za,↓Zj,↓Zr,↓Ze,↓Zi,↓Zs,↓Zf,↓Zo,↓Zg,↓Zb,↓Zc,↓vdn,vup,Zh,Zn,Zl,Zm,Zk,List.map_cons,List.map_nil,cond_true,cond_false,aop,Zv,Zq,Zp,ev,sput,Zt,Zy,Ya,unK,Zd,Zw,Nat.reduceBEq,Nat.reduceAdd,Int.reduceBEq,Int.reduceBNe,Int.reduceLT,Zu,Zz,tup,tyf])
   clear hN8
   try clear N8
   refine Yg fun C hC=>?_
   refine Yc fun N9 hN9=>?_
   simp (maxSteps:=2000000) only [s142,↓Za,↓Zj,↓Zr,↓Ze,↓Zi,↓Zs,↓Zf,↓Zo,↓Zg,↓Zb,↓Zc,↓vdn,vup,Zh,Zn,Zl,Zm,Zk,List.map_cons,List.map_nil,cond_true,cond_false,aop,Zv,Zq,Zp,ev,sput,Zt,Zy,Ya,unK,Zd,Zw,Nat.reduceBEq,Nat.reduceAdd,Int.reduceBEq,Int.reduceBNe,Int.reduceLT,Zu,Zz,tup,tyf,Yz,List.nil_append,List.append_nil,List.toList_toArray,List.cons_append,Xb g2.g shp_25,gfV]
   refine (leaf_call ih hm g2 hk2 hv2 how2.int hn hx').mono ?_
   rintro _ y3 ⟨rfl,hk3,hE3⟩
   have g3:=g2.ext hk2 hE3
   have hE3' : Ext (fun b=>b=bm∨b=b8) z y3:=hE2.trans (hE3.mono fun _ h=>.inl h)
   cases hc:(decide (x≤2 ^ m)&&decide (n-x≤2 ^ m)) with
   | true =>
     refine hN9 [(0,ptB b8),(1,ptB b4),(2,ptB b5),(3,ptB b3),(4,ptB b9),(5,.bool false),(6,Zx ((0:Nat):Int)),(9,Zx (x:Nat)),(58,Zx (n+1:Nat)),(59,Zx (x:Nat)),(67,.bool true)] _ _ ?_ (by simp (maxSteps:=2000000) only [↓Za,↓Zj,↓Zr,↓Ze,↓Zi,↓Zs,↓Zf,↓Zo,↓Zg,↓Zb,↓Zc,↓vdn,vup,Zh,Zn,Zl,Zm,Zk,List.map_cons,List.map_nil,cond_true,cond_false,aop,Zv,Zq,Zp,ev,sput,Zt,Zy,Ya,unK,Zd,Zw,Nat.reduceBEq,Nat.reduceAdd,Int.reduceBEq,Int.reduceBNe,Int.reduceLT,Zu,Zz,tup,tyf])
     clear hN9
     try clear N9
     refine Xl rfl ?_
     refine Yf ?_
     simp (maxSteps:=2000000) only [s142,↓Za,↓Zj,↓Zr,↓Ze,↓Zi,↓Zs,↓Zf,↓Zo,↓Zg,↓Zb,↓Zc,↓vdn,vup,Zh,Zn,Zl,Zm,Zk,List.map_cons,List.map_nil,cond_true,cond_false,aop,Zv,Zq,Zp,ev,sput,Zt,Zy,Ya,unK,Zd,Zw,Nat.reduceBEq,Nat.reduceAdd,Int.reduceBEq,Int.reduceBNe,Int.reduceLT,Zu,Zz,tup,tyf]
     refine hQ2 _ _ _ (hQ _ _ _ ?_)
     try simp (maxSteps:=2000000) only [s142,↓Za,↓Zj,↓Zr,↓Ze,↓Zi,↓Zs,↓Zf,↓Zo,↓Zg,↓Zb,↓Zc,↓vdn,vup,Zh,Zn,Zl,Zm,Zk,List.map_cons,List.map_nil,cond_true,cond_false,aop,Zv,Zq,Zp,ev,sput,Zt,Zy,Ya,unK,Zd,Zw,Nat.reduceBEq,Nat.reduceAdd,Int.reduceBEq,Int.reduceBNe,Int.reduceLT,Zu,Zz,tup,tyf]
     exact ⟨hk3,hE3',w',g3.q⟩
   | false =>
     have hno2 : ¬ (x≤2 ^ m∧n-x≤2 ^ m):=fun h=>by
      rw [decide_eq_true h.1,decide_eq_true h.2] at hc; cases hc
     refine hN9 [(0,ptB b8),(1,ptB b4),(2,ptB b5),(3,ptB b3),(4,ptB b9),(5,.bool false),(6,Zx ((0:Nat):Int)),(9,Zx (x:Nat)),(58,Zx (n+1:Nat)),(59,Zx (x:Nat)),(67,.bool false)] _ _ ?_ (by simp (maxSteps:=2000000) only [↓Za,↓Zj,↓Zr,↓Ze,↓Zi,↓Zs,↓Zf,↓Zo,↓Zg,↓Zb,↓Zc,↓vdn,vup,Zh,Zn,Zl,Zm,Zk,List.map_cons,List.map_nil,cond_true,cond_false,aop,Zv,Zq,Zp,ev,sput,Zt,Zy,Ya,unK,Zd,Zw,Nat.reduceBEq,Nat.reduceAdd,Int.reduceBEq,Int.reduceBNe,Int.reduceLT,Zu,Zz,tup,tyf])
     clear hN9
     try clear N9
     refine Xe rfl ?_
     refine Yf ?_
     simp (maxSteps:=2000000) only [s142,↓Za,↓Zj,↓Zr,↓Ze,↓Zi,↓Zs,↓Zf,↓Zo,↓Zg,↓Zb,↓Zc,↓vdn,vup,Zh,Zn,Zl,Zm,Zk,List.map_cons,List.map_nil,cond_true,cond_false,aop,Zv,Zq,Zp,ev,sput,Zt,Zy,Ya,unK,Zd,Zw,Nat.reduceBEq,Nat.reduceAdd,Int.reduceBEq,Int.reduceBNe,Int.reduceLT,Zu,Zz,tup,tyf]
     refine hC [(0,ptB b8),(1,ptB b4),(2,ptB b5),(3,ptB b3),(4,ptB b9),(5,.bool false),(6,Zx ((0:Nat):Int)),(9,Zx (x:Nat)),(58,Zx (n+1:Nat)),(59,Zx (x:Nat))] _ _ ?_ (by simp (maxSteps:=2000000) only [↓Za,↓Zj,↓Zr,↓Ze,↓Zi,↓Zs,↓Zf,↓Zo,↓Zg,↓Zb,↓Zc,↓vdn,vup,Zh,Zn,Zl,Zm,Zk,List.map_cons,List.map_nil,cond_true,cond_false,aop,Zv,Zq,Zp,ev,sput,Zt,Zy,Ya,unK,Zd,Zw,Nat.reduceBEq,Nat.reduceAdd,Int.reduceBEq,Int.reduceBNe,Int.reduceLT,Zu,Zz,tup,tyf])
     clear hC
     try clear C
     have how3:OwnSl 3 y3 w' ([]++[(x:Int)]):=how2.ext hE3 fun b hb hbm2=>by
      rcases how2 with ⟨rfl,_⟩ | ⟨b',ys,rfl,hb'⟩
      · cases hb
      · obtain rfl:b' = b:=by simpa [Yw] using hb
        exact hk2.neI hb' hbm2
     refine Yf ?_
     simp (maxSteps:=2000000) only [s142,↓Za,↓Zj,↓Zr,↓Ze,↓Zi,↓Zs,↓Zf,↓Zo,↓Zg,↓Zb,↓Zc,↓vdn,vup,Zh,Zn,Zl,Zm,Zk,List.map_cons,List.map_nil,cond_true,cond_false,aop,Zv,Zq,Zp,ev,sput,Zt,Zy,Ya,unK,Zd,Zw,Nat.reduceBEq,Nat.reduceAdd,Int.reduceBEq,Int.reduceBNe,Int.reduceLT,Zu,Zz,tup,tyf,Xb g3.q Wz,Option.map_none,Option.map_some]
     refine how3.cut el_105 Wc ?_
     intro w3 how4 hb4
     simp (maxSteps:=2000000) only [s142,↓Za,↓Zj,↓Zr,↓Ze,↓Zi,↓Zs,↓Zf,↓Zo,↓Zg,↓Zb,↓Zc,↓vdn,vup,Zh,Zn,Zl,Zm,Zk,List.map_cons,List.map_nil,cond_true,cond_false,aop,Zv,Zq,Zp,ev,sput,Zt,Zy,Ya,unK,Zd,Zw,Nat.reduceBEq,Nat.reduceAdd,Int.reduceBEq,Int.reduceBNe,Int.reduceLT,Zu,Zz,tup,tyf,store1 g3.q Wz how4.one]
     refine hB [(0,ptB b8),(1,ptB b4),(2,ptB b5),(3,ptB b3),(4,ptB b9),(5,.bool false),(6,Zx ((0:Nat):Int)),(58,Zx (n+1:Nat)),(59,Zx (x:Nat))] _ _ ?_ (by simp (maxSteps:=2000000) only [↓Za,↓Zj,↓Zr,↓Ze,↓Zi,↓Zs,↓Zf,↓Zo,↓Zg,↓Zb,↓Zc,↓vdn,vup,Zh,Zn,Zl,Zm,Zk,List.map_cons,List.map_nil,cond_true,cond_false,aop,Zv,Zq,Zp,ev,sput,Zt,Zy,Ya,unK,Zd,Zw,Nat.reduceBEq,Nat.reduceAdd,Int.reduceBEq,Int.reduceBNe,Int.reduceLT,Zu,Zz,tup,tyf])
     clear hB
     try clear B
     have g4:=g3.put (w':=w3) hd
     have hk4:=hk3.set hbs hbm (.cells [w3] 105 false)
     have how5:OwnSl 3 (y3.set b8 (.cells [w3] 105 false)) w3 []:=how4.ext (S:=fun b=>b=b8) (Ext.set _ rfl) fun b hb hc=>how4.notCells g3.q (hc▸hb)
     have hE4:Ext (fun b=>b=bm∨b=b8) z (y3.set b8 (.cells [w3] 105 false)):=hE3'.trans ((Ext.set (S:=fun b=>b=b8) _ rfl).mono fun _ h=>.inr h)
     refine Yf ?_
     simp (maxSteps:=2000000) only [s142,↓Za,↓Zj,↓Zr,↓Ze,↓Zi,↓Zs,↓Zf,↓Zo,↓Zg,↓Zb,↓Zc,↓vdn,vup,Zh,Zn,Zl,Zm,Zk,List.map_cons,List.map_nil,cond_true,cond_false,aop,Zv,Zq,Zp,ev,sput,Zt,Zy,Ya,unK,Zd,Zw,Nat.reduceBEq,Nat.reduceAdd,Int.reduceBEq,Int.reduceBNe,Int.reduceLT,Zu,Zz,tup,tyf,add1 (show x<9223372036854775807 by omega)]
     refine hQ2 _ _ _ ⟨(x+1,w3,_),⟨by simp only; omega,g4,how5,hk4,hE4,fun b hb=>hwb' b (by rw [← hb4]; exact hb),fun q hq=>?_⟩,by simp only; omega,by simp (maxSteps:=2000000) only [↓Za,↓Zj,↓Zr,↓Ze,↓Zi,↓Zs,↓Zf,↓Zo,↓Zg,↓Zb,↓Zc,↓vdn,vup,Zh,Zn,Zl,Zm,Zk,List.map_cons,List.map_nil,cond_true,cond_false,aop,Zv,Zq,Zp,ev,sput,Zt,Zy,Ya,unK,Zd,Zw,Nat.reduceBEq,Nat.reduceAdd,Int.reduceBEq,Int.reduceBNe,Int.reduceLT,Zu,Zz,tup,tyf],rfl⟩
     by_cases he:q=x
     · rw [he]; exact hno2
     · exact hno q (by simp only at hq; omega)
 · exfalso
   have hp:2 ^ (m+1)=2 ^ m+2 ^ m:=by rw [Nat.pow_succ]; omega
   refine hno (min n (2 ^ m)) (by omega) ⟨Nat.min_le_right _ _,by omega⟩
end Go.Proofs.Tryd.Am.Tg
namespace Go.Proofs.Tryd.Am.Tg
open Go.Proofs.Tryd.Am
open Go.Am
set_option maxRecDepth 100000
set_option maxHeartbeats 4000000
theorem box106 {h:Yb} {b:Nat} {K:Value→Yb→Prop}:boxK prog h 106 (ptB b) K=K (Xh h) (h++[.cells [ptB b] 106 false]):=by
 simp only [boxK,esz_106,Option.isSome_some,true_and,cellsOf]
theorem box105 {h:Yb} {v:Value} {xs:List Int} (hv:IntSl h v xs) {h' : Yb} {K:Value→Yb→Prop}:boxK prog h' 105 v K=K (Xh h') (h'++[.cells [v] 105 false]):=by
 rcases hv with ⟨rfl,_⟩ | ⟨b,o,sp,cap,c,e,ro,rfl,_⟩ <;> simp only [boxK,esz_105,Option.isSome_some,true_and,cellsOf]
theorem box3 {h:Yb} {x:Int} {K:Value→Yb→Prop}:boxK prog h 3 (Zx x) K=K (Xh h) (h++[.cells [Zx x] 3 false]):=by
 simp only [boxK,Wc,Option.isSome_some,true_and,cellsOf]
theorem s107_callW [Tabs Tryd.prog] {args:List Value} {h:Yb} {Q:Value→Yb→Prop} (hsz:args.length≤16) (hk:AWS Tryd.prog 16 s107 (Zu Tryd.prog [.tmp 6,.tmp 7] Q) (Zp 0 args) h):ACall Tryd.prog 107 args h Q :=
 Xy Tryd.func107 rfl (enters_of Tryd.func107 (by kernel_rfl) rfl) rfl rfl (by decide) s107_strip s107_ok hsz hk
theorem ask_call [Tabs prog] {bs bm m n:Nat} {v:Value} {h:Yb} (ih:WinsOK bs bm m) (hm:m≤60) (hk:WK bs bm h) (hv:IntSl h v [(n:Int)]) (hn:n≤1000) (hle:n≤2 ^ (m+1)) :
  ACall prog 107 [ptB bs,v,Zx ((m+1:Nat):Int)] h fun r h'=>(∃ w,r = .tuple #[w,.bool true])∧WK bs bm h'∧Ext (fun b=>b=bm) h h':=by
 refine s107_callW (by simp) ?_
 simp only [s107]
 obtain ⟨n0,hn0⟩ : ∃ n0,n0=h.length:=⟨_,rfl⟩
 refine Yc fun N1 hN1=>?_
 simp (maxSteps:=2000000) only [s107,↓Za,↓Zj,↓Zr,↓Ze,↓Zi,↓Zs,↓Zf,↓Zo,↓Zg,↓Zb,↓Zc,↓vdn,vup,Zh,Zn,Zl,Zm,Zk,List.map_cons,List.map_nil,cond_true,cond_false,aop,Zv,Zq,Zp,ev,sput,Zt,Zy,Ya,unK,Zd,Zw,Nat.reduceBEq,Nat.reduceAdd,Int.reduceBEq,Int.reduceBNe,Int.reduceLT,Zu,Zz,tup,tyf,box106,box105 hv,box3,Xh,List.length_append,List.length_cons,List.length_nil,Nat.zero_add,Nat.add_assoc,Nat.reduceAdd]
 rw [← hn0]
 refine hN1 [(0,ptB bs),(1,v),(2,Zx ((m+1:Nat):Int)),(3,ptB n0),(4,ptB (n0+1)),(5,ptB (n0+2)),(6,.slice none 0 0),(7,.bool false)] _ _ ?_ (by simp (maxSteps:=2000000) only [↓Za,↓Zj,↓Zr,↓Ze,↓Zi,↓Zs,↓Zf,↓Zo,↓Zg,↓Zb,↓Zc,↓vdn,vup,Zh,Zn,Zl,Zm,Zk,List.map_cons,List.map_nil,cond_true,cond_false,aop,Zv,Zq,Zp,ev,sput,Zt,Zy,Ya,unK,Zd,Zw,Nat.reduceBEq,Nat.reduceAdd,Int.reduceBEq,Int.reduceBNe,Int.reduceLT,Zu,Zz,tup,tyf])
 clear hN1
 try clear N1
 refine Yc fun N2 hN2=>?_
 simp (maxSteps:=2000000) only [s107,↓Za,↓Zj,↓Zr,↓Ze,↓Zi,↓Zs,↓Zf,↓Zo,↓Zg,↓Zb,↓Zc,↓vdn,vup,Zh,Zn,Zl,Zm,Zk,List.map_cons,List.map_nil,cond_true,cond_false,aop,Zv,Zq,Zp,ev,sput,Zt,Zy,Ya,unK,Zd,Zw,Nat.reduceBEq,Nat.reduceAdd,Int.reduceBEq,Int.reduceBNe,Int.reduceLT,Zu,Zz,tup,tyf,Wi,Xh,zero_105,List.length_append,List.length_cons,List.length_nil,Nat.zero_add,Nat.add_assoc,Nat.reduceAdd]
 rw [← hn0]
 refine hN2 [(0,ptB bs),(1,v),(2,Zx ((m+1:Nat):Int)),(3,ptB n0),(4,ptB (n0+1)),(5,ptB (n0+2)),(6,.slice none 0 0),(7,.bool false),(8,ptB (n0+3))] _ _ ?_ (by simp (maxSteps:=2000000) only [↓Za,↓Zj,↓Zr,↓Ze,↓Zi,↓Zs,↓Zf,↓Zo,↓Zg,↓Zb,↓Zc,↓vdn,vup,Zh,Zn,Zl,Zm,Zk,List.map_cons,List.map_nil,cond_true,cond_false,aop,Zv,Zq,Zp,ev,sput,Zt,Zy,Ya,unK,Zd,Zw,Nat.reduceBEq,Nat.reduceAdd,Int.reduceBEq,Int.reduceBNe,Int.reduceLT,Zu,Zz,tup,tyf])
 clear hN2
 try clear N2
 refine Yc fun N3 hN3=>?_
 simp (maxSteps:=2000000) only [s107,↓Za,↓Zj,↓Zr,↓Ze,↓Zi,↓Zs,↓Zf,↓Zo,↓Zg,↓Zb,↓Zc,↓vdn,vup,Zh,Zn,Zl,Zm,Zk,List.map_cons,List.map_nil,cond_true,cond_false,aop,Zv,Zq,Zp,ev,sput,Zt,Zy,Ya,unK,Zd,Zw,Nat.reduceBEq,Nat.reduceAdd,Int.reduceBEq,Int.reduceBNe,Int.reduceLT,Zu,Zz,tup,tyf,Wi,Xh,zero_25,List.length_append,List.length_cons,List.length_nil,Nat.zero_add,Nat.add_assoc,Nat.reduceAdd]
 rw [← hn0]
 obtain ⟨H0,hH0⟩ : ∃ H0,H0=h++[Blk.cells [ptB bs] 106 false]++[Blk.cells [v] 105 false]++[Blk.cells [Zx ((m+1:Nat):Int)] 3 false]++[Blk.cells [.slice none 0 0] 105 false]++[Blk.cells [.nilFunc] 25 false]:=⟨_,rfl⟩
 have hH0' : H0=h++[Blk.cells [ptB bs] 106 false,Blk.cells [v] 105 false,Blk.cells [Zx ((m+1:Nat):Int)] 3 false,Blk.cells [.slice none 0 0] 105 false,Blk.cells [.nilFunc] 25 false]:=by rw [hH0]; simp
 rw [← hH0]
 have at0 : ∀ k B,([Blk.cells [ptB bs] 106 false,Blk.cells [v] 105 false,Blk.cells [Zx ((m+1:Nat):Int)] 3 false,Blk.cells [.slice none 0 0] 105 false,Blk.cells [.nilFunc] 25 false]:Yb)[k]? = some B→H0[n0+k]? = some B:=fun k B hk=>by
  rw [hH0',hn0,List.getElem?_append_right (by omega),show h.length+k-h.length=k by omega]; exact hk
 have hE0:Ext (fun _=>False) h H0:=by rw [hH0']; exact Ext.app _ _ _
 have c3:=at0 0 _ rfl
 have c4:=at0 1 _ rfl
 have c5:=at0 2 _ rfl
 have c8:=at0 3 _ rfl
 have c9:=at0 4 _ rfl
 have hl0:H0.length=n0+5:=by rw [hH0',hn0]; simp
 clear at0 hH0 hH0'
 refine hN3 [(0,ptB bs),(1,v),(2,Zx ((m+1:Nat):Int)),(3,ptB n0),(4,ptB (n0+1)),(5,ptB (n0+2)),(6,.slice none 0 0),(7,.bool false),(8,ptB (n0+3)),(9,ptB (n0+4))] _ _ ?_ (by simp (maxSteps:=2000000) only [↓Za,↓Zj,↓Zr,↓Ze,↓Zi,↓Zs,↓Zf,↓Zo,↓Zg,↓Zb,↓Zc,↓vdn,vup,Zh,Zn,Zl,Zm,Zk,List.map_cons,List.map_nil,cond_true,cond_false,aop,Zv,Zq,Zp,ev,sput,Zt,Zy,Ya,unK,Zd,Zw,Nat.reduceBEq,Nat.reduceAdd,Int.reduceBEq,Int.reduceBNe,Int.reduceLT,Zu,Zz,tup,tyf])
 clear hN3
 try clear N3
 refine Yc fun N4 hN4=>?_
 simp (maxSteps:=2000000) only [s107,↓Za,↓Zj,↓Zr,↓Ze,↓Zi,↓Zs,↓Zf,↓Zo,↓Zg,↓Zb,↓Zc,↓vdn,vup,Zh,Zn,Zl,Zm,Zk,List.map_cons,List.map_nil,cond_true,cond_false,aop,Zv,Zq,Zp,ev,sput,Zt,Zy,Ya,unK,Zd,Zw,Nat.reduceBEq,Nat.reduceAdd,Int.reduceBEq,Int.reduceBNe,Int.reduceLT,Zu,Zz,tup,tyf,List.map_toArray]
 rw [store1 c9 shp_25 rfl]
 obtain ⟨H1,hH1⟩ : ∃ H1,H1=H0.set (n0+4) (.cells [gfV n0 (n0+1) (n0+2) (n0+3) (n0+4)] 25 false):=⟨_,rfl⟩
 have hH1' : H0.set (n0+4) (.cells [.func (.func 142) #[] #[ptB (n0+3),ptB (n0+1),ptB (n0+2),ptB n0,ptB (n0+4)]] 25 false)=H1:=hH1.symm
 rw [hH1']
 have old : ∀ {b B},H0[b]? = some B→b≠n0+4→H1[b]? = some B:=fun hb hne=>by rw [hH1,List.getElem?_set_ne (Ne.symm hne)]; exact hb
 have g:GB n0 (n0+1) (n0+2) (n0+3) (n0+4) bs m v (.slice none 0 0) H1:=⟨old c8 (by omega),old c4 (by omega),old c5 (by omega),old c3 (by omega),by rw [hH1]; exact Xf (by omega) _⟩
 have hE1:Ext (fun _=>False) h H1:=⟨by rw [hH1,List.length_set]; omega,fun q hq hf=>by rw [hH1,List.getElem?_set_ne (by omega)]; exact hE0.2 q hq hf⟩
 have hk1:=hk.ext hE1
 have hv1:=Or.IntSl_ext hv hE1
 have hbs:bs<h.length:=Yu hk.1
 clear hH1 hH1' old c3 c4 c5 c8 c9
 refine hN4 [(0,ptB bs),(1,v),(2,Zx ((m+1:Nat):Int)),(3,ptB n0),(4,ptB (n0+1)),(5,ptB (n0+2)),(6,.slice none 0 0),(7,.bool false),(8,ptB (n0+3)),(9,ptB (n0+4))] _ _ ?_ (by simp (maxSteps:=2000000) only [↓Za,↓Zj,↓Zr,↓Ze,↓Zi,↓Zs,↓Zf,↓Zo,↓Zg,↓Zb,↓Zc,↓vdn,vup,Zh,Zn,Zl,Zm,Zk,List.map_cons,List.map_nil,cond_true,cond_false,aop,Zv,Zq,Zp,ev,sput,Zt,Zy,Ya,unK,Zd,Zw,Nat.reduceBEq,Nat.reduceAdd,Int.reduceBEq,Int.reduceBNe,Int.reduceLT,Zu,Zz,tup,tyf])
 clear hN4
 try clear N4
 refine Yc fun N5 hN5=>?_
 simp (maxSteps:=2000000) only [s107,↓Za,↓Zj,↓Zr,↓Ze,↓Zi,↓Zs,↓Zf,↓Zo,↓Zg,↓Zb,↓Zc,↓vdn,vup,Zh,Zn,Zl,Zm,Zk,List.map_cons,List.map_nil,cond_true,cond_false,aop,Zv,Zq,Zp,ev,sput,Zt,Zy,Ya,unK,Zd,Zw,Nat.reduceBEq,Nat.reduceAdd,Int.reduceBEq,Int.reduceBNe,Int.reduceLT,Zu,Zz,tup,tyf,Yz,List.nil_append,List.append_nil,List.toList_toArray,List.cons_append,Xb g.g shp_25,gfV]
 refine (grow_call ih hm g ⟨by omega,by omega,by omega,by omega⟩ (by omega) hk1 hv1 hn hle).mono ?_
 rintro _ H2 ⟨rfl,hk2,hE2,w,hw2⟩
 try simp (maxSteps:=2000000) only [s107,↓Za,↓Zj,↓Zr,↓Ze,↓Zi,↓Zs,↓Zf,↓Zo,↓Zg,↓Zb,↓Zc,↓vdn,vup,Zh,Zn,Zl,Zm,Zk,List.map_cons,List.map_nil,cond_true,cond_false,aop,Zv,Zq,Zp,ev,sput,Zt,Zy,Ya,unK,Zd,Zw,Nat.reduceBEq,Nat.reduceAdd,Int.reduceBEq,Int.reduceBNe,Int.reduceLT,Zu,Zz,tup,tyf]
 refine hN5 [(0,ptB bs),(1,v),(2,Zx ((m+1:Nat):Int)),(3,ptB n0),(4,ptB (n0+1)),(5,ptB (n0+2)),(6,.slice none 0 0),(7,.bool false),(8,ptB (n0+3)),(9,ptB (n0+4)),(10,.bool true)] _ _ ?_ (by simp (maxSteps:=2000000) only [↓Za,↓Zj,↓Zr,↓Ze,↓Zi,↓Zs,↓Zf,↓Zo,↓Zg,↓Zb,↓Zc,↓vdn,vup,Zh,Zn,Zl,Zm,Zk,List.map_cons,List.map_nil,cond_true,cond_false,aop,Zv,Zq,Zp,ev,sput,Zt,Zy,Ya,unK,Zd,Zw,Nat.reduceBEq,Nat.reduceAdd,Int.reduceBEq,Int.reduceBNe,Int.reduceLT,Zu,Zz,tup,tyf])
 clear hN5
 try clear N5
 refine Yf ?_
 simp (maxSteps:=2000000) only [s107,↓Za,↓Zj,↓Zr,↓Ze,↓Zi,↓Zs,↓Zf,↓Zo,↓Zg,↓Zb,↓Zc,↓vdn,vup,Zh,Zn,Zl,Zm,Zk,List.map_cons,List.map_nil,cond_true,cond_false,aop,Zv,Zq,Zp,ev,sput,Zt,Zy,Ya,unK,Zd,Zw,Nat.reduceBEq,Nat.reduceAdd,Int.reduceBEq,Int.reduceBNe,Int.reduceLT,Zu,Zz,tup,tyf,Xb hw2 Wz]
 refine ⟨⟨w,rfl⟩,hk2,⟨Nat.le_trans hE1.1 hE2.1,fun q hq hf=>?_⟩⟩
 rw [hE2.2 q (Nat.lt_of_lt_of_le hq hE1.1) (fun hc=>hc.elim hf (by omega))]
 exact hE1.2 q hq id
theorem bld149 {q:Nat} {K:Value→Prop}:Wt prog 149 [(2,Zx (q:Nat)),(1,Zx ((1:Nat):Int))] K=K (.agg ((posK 0 q).map Zx).toArray):=by
 simp [Wt,zero_149,fillL,pl_149_1,pl_149_2,Ww,cellsOf,Yk,posK]
theorem sl147 {b:Nat} {K:Value→Prop} (hk:K (.slice (some ⟨b,0,none⟩) 4 4)):Wu prog 147 (.pointer (some ⟨b,0,none⟩)) K:=by
 simp only [Wu,und_147,Wc]
 exact ⟨rfl,hk⟩
theorem copyS {h:Yb} {v:Value} {n q b:Nat} {sp:Option Nat} (hv:IntSl h v [(n:Int)]) (hb:h[b]? = some (.cells ((posK 0 q).map Zx) 149 false)) {K:Value→Yb→Prop} (hk:K (Zx 1) (h.set b (.cells ((posK n q).map Zx) 149 false))) :
  copyK prog h 27 (.slice (some ⟨b,0,sp⟩) 4 4) v K:=by
 have hv':=hv
 rcases hv with ⟨rfl,hx⟩ | ⟨b2,o2,sp2,cap,c,e,ro,rfl,hc,hw,hx⟩
 · cases hx
 · simp only [copyK,el_27,Wc]
   refine hv'.cells (by simp) b2 o2 sp2 1 cap rfl ?_
   refine ⟨by simp [one],?_⟩
   simp only [hb]
   refine ⟨by simp [posK],?_⟩
   have e1:Yk ((posK 0 q).map Zx) 0 ([(n:Int)].map Zx)=(posK n q).map Zx:=rfl
   rw [e1]; exact hk
theorem load149 {h:Yb} {b n q:Nat} {ro:Bool} {K:Value→Prop} (hb:h[b]? = some (.cells ((posK n q).map Zx) 149 ro)):Xu prog h 149 (ptB b) K=K (.agg ((posK n q).map Zx).toArray) :=
 loadA hb (by rw [shp_149]; rfl)
theorem store149 {h:Yb} {b n q:Nat} {c:List Value} {K:Yb→Prop} (hb:h[b]? = some (.cells c 149 false)) (hc:c.length=6):Xt prog h 149 (ptB b) (.agg ((posK n q).map Zx).toArray) K=K (h.set b (.cells ((posK n q).map Zx) 149 false)) :=
 storeA hb (by rw [shp_149]; rfl) (by simp [posK,one]) (by rw [hc]; rfl)
theorem s58_callW [Tabs Tryd.prog] {args:List Value} {h:Yb} {Q:Value→Yb→Prop} (hsz:args.length≤56) (hk:AWS Tryd.prog 56 s58 (Zu Tryd.prog [.tmp 6] Q) (Zp 0 args) h):ACall Tryd.prog 58 args h Q :=
 Xy Tryd.func58 rfl (enters_of Tryd.func58 (by kernel_rfl) rfl) rfl rfl (by decide) s58_strip s58_ok hsz hk
theorem wins_step [Tabs prog] {bs bm q:Nat} (hq:q≤60) (ih : ∀ m,q=m+1→WinsOK bs bm m):WinsOK bs bm q:=by
 intro h v n hn hv hk
 refine s58_callW (by simp) ?_
 simp only [s58]
 refine Yc fun N6 hN6=>?_
 simp (maxSteps:=2000000) only [s58,↓Za,↓Zj,↓Zr,↓Ze,↓Zi,↓Zs,↓Zf,↓Zo,↓Zg,↓Zb,↓Zc,↓vdn,vup,Zh,Zn,Zl,Zm,Zk,List.map_cons,List.map_nil,cond_true,cond_false,aop,Zv,Zq,Zp,ev,sput,Zt,Zy,Ya,unK,Zd,Zw,Nat.reduceBEq,Nat.reduceAdd,Int.reduceBEq,Int.reduceBNe,Int.reduceLT,Zu,Zz,tup,tyf]
 refine hN6 [(0,ptB bs),(1,v),(2,Zx (q:Nat)),(6,.bool false)] _ _ ?_ (by simp (maxSteps:=2000000) only [↓Za,↓Zj,↓Zr,↓Ze,↓Zi,↓Zs,↓Zf,↓Zo,↓Zg,↓Zb,↓Zc,↓vdn,vup,Zh,Zn,Zl,Zm,Zk,List.map_cons,List.map_nil,cond_true,cond_false,aop,Zv,Zq,Zp,ev,sput,Zt,Zy,Ya,unK,Zd,Zw,Nat.reduceBEq,Nat.reduceAdd,Int.reduceBEq,Int.reduceBNe,Int.reduceLT,Zu,Zz,tup,tyf])
 clear hN6
 try clear N6
 refine Yg fun A hA=>?_
 refine Yc fun N7 hN7=>?_
 simp (maxSteps:=2000000) only [s58,↓Za,↓Zj,↓Zr,↓Ze,↓Zi,↓Zs,↓Zf,↓Zo,↓Zg,↓Zb,↓Zc,↓vdn,vup,Zh,Zn,Zl,Zm,Zk,List.map_cons,List.map_nil,cond_true,cond_false,aop,Zv,Zq,Zp,ev,sput,Zt,Zy,Ya,unK,Zd,Zw,Nat.reduceBEq,Nat.reduceAdd,Int.reduceBEq,Int.reduceBNe,Int.reduceLT,Zu,Zz,tup,tyf,Yz,List.nil_append,List.append_nil,List.toList_toArray,List.cons_append]
 refine (sum_call hv hn).mono ?_
 rintro _ h ⟨rfl,rfl⟩
 have hp:0<2 ^ q:=Nat.two_pow_pos q
 by_cases h1:n≤1
 · have h1' : ((n:Nat):Int)≤1:=by omega
   simp (maxSteps:=2000000) only [s58,↓Za,↓Zj,↓Zr,↓Ze,↓Zi,↓Zs,↓Zf,↓Zo,↓Zg,↓Zb,↓Zc,↓vdn,vup,Zh,Zn,Zl,Zm,Zk,List.map_cons,List.map_nil,cond_true,cond_false,aop,Zv,Zq,Zp,ev,sput,Zt,Zy,Ya,unK,Zd,Zw,Nat.reduceBEq,Nat.reduceAdd,Int.reduceBEq,Int.reduceBNe,Int.reduceLT,Zu,Zz,tup,tyf,h1',decide_true]
   refine hN7 [(0,ptB bs),(1,v),(2,Zx (q:Nat)),(6,.bool false),(12,.bool true)] _ _ ?_ (by simp (maxSteps:=2000000) only [↓Za,↓Zj,↓Zr,↓Ze,↓Zi,↓Zs,↓Zf,↓Zo,↓Zg,↓Zb,↓Zc,↓vdn,vup,Zh,Zn,Zl,Zm,Zk,List.map_cons,List.map_nil,cond_true,cond_false,aop,Zv,Zq,Zp,ev,sput,Zt,Zy,Ya,unK,Zd,Zw,Nat.reduceBEq,Nat.reduceAdd,Int.reduceBEq,Int.reduceBNe,Int.reduceLT,Zu,Zz,tup,tyf])
   clear hN7
   try clear N7
   refine Xl rfl ?_
   refine Yf ?_
   simp (maxSteps:=2000000) only [s58,↓Za,↓Zj,↓Zr,↓Ze,↓Zi,↓Zs,↓Zf,↓Zo,↓Zg,↓Zb,↓Zc,↓vdn,vup,Zh,Zn,Zl,Zm,Zk,List.map_cons,List.map_nil,cond_true,cond_false,aop,Zv,Zq,Zp,ev,sput,Zt,Zy,Ya,unK,Zd,Zw,Nat.reduceBEq,Nat.reduceAdd,Int.reduceBEq,Int.reduceBNe,Int.reduceLT,Zu,Zz,tup,tyf]
   exact ⟨by rw [decide_eq_true (show n≤2 ^ q by omega)],hk,Ext.refl _ _⟩
 have h1' : ¬ ((n:Nat):Int)≤1:=by omega
 simp (maxSteps:=2000000) only [s58,↓Za,↓Zj,↓Zr,↓Ze,↓Zi,↓Zs,↓Zf,↓Zo,↓Zg,↓Zb,↓Zc,↓vdn,vup,Zh,Zn,Zl,Zm,Zk,List.map_cons,List.map_nil,cond_true,cond_false,aop,Zv,Zq,Zp,ev,sput,Zt,Zy,Ya,unK,Zd,Zw,Nat.reduceBEq,Nat.reduceAdd,Int.reduceBEq,Int.reduceBNe,Int.reduceLT,Zu,Zz,tup,tyf,h1',decide_false]
 refine hN7 [(0,ptB bs),(1,v),(2,Zx (q:Nat)),(6,.bool false),(12,.bool false)] _ _ ?_ (by simp (maxSteps:=2000000) only [↓Za,↓Zj,↓Zr,↓Ze,↓Zi,↓Zs,↓Zf,↓Zo,↓Zg,↓Zb,↓Zc,↓vdn,vup,Zh,Zn,Zl,Zm,Zk,List.map_cons,List.map_nil,cond_true,cond_false,aop,Zv,Zq,Zp,ev,sput,Zt,Zy,Ya,unK,Zd,Zw,Nat.reduceBEq,Nat.reduceAdd,Int.reduceBEq,Int.reduceBNe,Int.reduceLT,Zu,Zz,tup,tyf])
 clear hN7
 try clear N7
 refine Xe rfl ?_
 refine Yf ?_
 simp (maxSteps:=2000000) only [s58,↓Za,↓Zj,↓Zr,↓Ze,↓Zi,↓Zs,↓Zf,↓Zo,↓Zg,↓Zb,↓Zc,↓vdn,vup,Zh,Zn,Zl,Zm,Zk,List.map_cons,List.map_nil,cond_true,cond_false,aop,Zv,Zq,Zp,ev,sput,Zt,Zy,Ya,unK,Zd,Zw,Nat.reduceBEq,Nat.reduceAdd,Int.reduceBEq,Int.reduceBNe,Int.reduceLT,Zu,Zz,tup,tyf]
 refine hA [(0,ptB bs),(1,v),(2,Zx (q:Nat)),(6,.bool false)] _ _ ?_ (by simp (maxSteps:=2000000) only [↓Za,↓Zj,↓Zr,↓Ze,↓Zi,↓Zs,↓Zf,↓Zo,↓Zg,↓Zb,↓Zc,↓vdn,vup,Zh,Zn,Zl,Zm,Zk,List.map_cons,List.map_nil,cond_true,cond_false,aop,Zv,Zq,Zp,ev,sput,Zt,Zy,Ya,unK,Zd,Zw,Nat.reduceBEq,Nat.reduceAdd,Int.reduceBEq,Int.reduceBNe,Int.reduceLT,Zu,Zz,tup,tyf])
 clear hA
 try clear A
 refine Yg fun B hB=>?_
 rcases q with _ | m
 · skip
   have c0:(((0:Nat):Int)==0)=true:=rfl
   refine Yc fun N8 hN8=>?_
   simp only [q58_3]
   refine Xi [(5,1)] (by kernel_rfl) (by kernel_rfl) (by kernel_rfl) (by kernel_rfl) ?_
   simp (maxSteps:=2000000) only [s58,↓Za,↓Zj,↓Zr,↓Ze,↓Zi,↓Zs,↓Zf,↓Zo,↓Zg,↓Zb,↓Zc,↓vdn,vup,Zh,Zn,Zl,Zm,Zk,List.map_cons,List.map_nil,cond_true,cond_false,aop,Zv,Zq,Zp,ev,sput,Zt,Zy,Ya,unK,Zd,Zw,Nat.reduceBEq,Nat.reduceAdd,Int.reduceBEq,Int.reduceBNe,Int.reduceLT,Zu,Zz,tup,tyf,c0]
   refine hN8 [(0,ptB bs),(1,v),(2,Zx ((0:Nat):Int)),(6,.bool false),(22,.bool true)] _ _ ?_ (by simp (maxSteps:=2000000) only [↓Za,↓Zj,↓Zr,↓Ze,↓Zi,↓Zs,↓Zf,↓Zo,↓Zg,↓Zb,↓Zc,↓vdn,vup,Zh,Zn,Zl,Zm,Zk,List.map_cons,List.map_nil,cond_true,cond_false,aop,Zv,Zq,Zp,ev,sput,Zt,Zy,Ya,unK,Zd,Zw,Nat.reduceBEq,Nat.reduceAdd,Int.reduceBEq,Int.reduceBNe,Int.reduceLT,Zu,Zz,tup,tyf])
   clear hN8
   try clear N8
   refine Xl rfl ?_
   refine Yf ?_
   simp (maxSteps:=2000000) only [s58,↓Za,↓Zj,↓Zr,↓Ze,↓Zi,↓Zs,↓Zf,↓Zo,↓Zg,↓Zb,↓Zc,↓vdn,vup,Zh,Zn,Zl,Zm,Zk,List.map_cons,List.map_nil,cond_true,cond_false,aop,Zv,Zq,Zp,ev,sput,Zt,Zy,Ya,unK,Zd,Zw,Nat.reduceBEq,Nat.reduceAdd,Int.reduceBEq,Int.reduceBNe,Int.reduceLT,Zu,Zz,tup,tyf]
   exact ⟨by rw [decide_eq_false (show ¬ n≤2 ^ 0 by omega)],hk,Ext.refl _ _⟩
 have c0:(((m+1:Nat):Int)==0)=false:=by
  have:((m+1:Nat):Int)≠0:=by omega
  simpa using this
 have hsh:shlV .i64 1 ((m+1:Nat):Int)=((2 ^ (m+1):Nat):Int):=shl2 (m+1) (by omega)
 have hnn:(0:Int)≤((m+1:Nat):Int):=Int.natCast_nonneg _
 by_cases h2:n≤2 ^ (m+1)
 · have c3 : ¬ ((2 ^ (m+1):Nat):Int)<((n:Nat):Int):=fun h=>absurd (Int.ofNat_lt.1 h) (Nat.not_lt.2 h2)
   have hd:decide (n≤2 ^ (m+1))=true:=decide_eq_true h2
   have hput:=fun {h:Yb} {l:List (List Int×Bool)} (a b c d)=>WK.put (bs:=bs) (bm:=bm) (h:=h) (n:=n) (q:=m+1) hn (by omega) (l:=l) a b c d
   rw [hd] at hput ⊢
   generalize ((2 ^ (m+1):Nat):Int)=pw at hsh c3
   refine Yc fun N9 hN9=>?_
   simp only [q58_3]
   refine Xi [(5,1)] (by kernel_rfl) (by kernel_rfl) (by kernel_rfl) (by kernel_rfl) ?_
   simp (maxSteps:=2000000) only [s58,↓Za,↓Zj,↓Zr,↓Ze,↓Zi,↓Zs,↓Zf,↓Zo,↓Zg,↓Zb,↓Zc,↓vdn,vup,Zh,Zn,Zl,Zm,Zk,List.map_cons,List.map_nil,cond_true,cond_false,aop,Zv,Zq,Zp,ev,sput,Zt,Zy,Ya,unK,Zd,Zw,Nat.reduceBEq,Nat.reduceAdd,Int.reduceBEq,Int.reduceBNe,Int.reduceLT,Zu,Zz,tup,tyf,c0,Yz,List.nil_append,List.append_nil,List.toList_toArray,List.cons_append]
   refine ⟨_,_,weight_call hv hn,rfl,?_⟩
   simp (maxSteps:=2000000) only [s58,↓Za,↓Zj,↓Zr,↓Ze,↓Zi,↓Zs,↓Zf,↓Zo,↓Zg,↓Zb,↓Zc,↓vdn,vup,Zh,Zn,Zl,Zm,Zk,List.map_cons,List.map_nil,cond_true,cond_false,aop,Zv,Zq,Zp,ev,sput,Zt,Zy,Ya,unK,Zd,Zw,Nat.reduceBEq,Nat.reduceAdd,Int.reduceBEq,Int.reduceBNe,Int.reduceLT,Zu,Zz,tup,tyf,hnn,hsh,gt_iff_lt,c3,decide_false]
   refine hN9 [(0,ptB bs),(1,v),(2,Zx ((m+1:Nat):Int)),(6,.bool false),(22,.bool false)] _ _ ?_ (by simp (maxSteps:=2000000) only [↓Za,↓Zj,↓Zr,↓Ze,↓Zi,↓Zs,↓Zf,↓Zo,↓Zg,↓Zb,↓Zc,↓vdn,vup,Zh,Zn,Zl,Zm,Zk,List.map_cons,List.map_nil,cond_true,cond_false,aop,Zv,Zq,Zp,ev,sput,Zt,Zy,Ya,unK,Zd,Zw,Nat.reduceBEq,Nat.reduceAdd,Int.reduceBEq,Int.reduceBNe,Int.reduceLT,Zu,Zz,tup,tyf])
   clear hN9
   try clear N9
   refine Xe rfl ?_
   refine Yf ?_
   simp (maxSteps:=2000000) only [s58,↓Za,↓Zj,↓Zr,↓Ze,↓Zi,↓Zs,↓Zf,↓Zo,↓Zg,↓Zb,↓Zc,↓vdn,vup,Zh,Zn,Zl,Zm,Zk,List.map_cons,List.map_nil,cond_true,cond_false,aop,Zv,Zq,Zp,ev,sput,Zt,Zy,Ya,unK,Zd,Zw,Nat.reduceBEq,Nat.reduceAdd,Int.reduceBEq,Int.reduceBNe,Int.reduceLT,Zu,Zz,tup,tyf]
   refine hB [(0,ptB bs),(1,v),(2,Zx ((m+1:Nat):Int)),(6,.bool false)] _ _ ?_ (by simp (maxSteps:=2000000) only [↓Za,↓Zj,↓Zr,↓Ze,↓Zi,↓Zs,↓Zf,↓Zo,↓Zg,↓Zb,↓Zc,↓vdn,vup,Zh,Zn,Zl,Zm,Zk,List.map_cons,List.map_nil,cond_true,cond_false,aop,Zv,Zq,Zp,ev,sput,Zt,Zy,Ya,unK,Zd,Zw,Nat.reduceBEq,Nat.reduceAdd,Int.reduceBEq,Int.reduceBNe,Int.reduceLT,Zu,Zz,tup,tyf])
   clear hB
   try clear B
   obtain ⟨b7,hb7⟩ : ∃ b7,b7=h.length:=⟨_,rfl⟩
   refine Yc fun N10 hN10=>?_
   simp (maxSteps:=2000000) only [s58,↓Za,↓Zj,↓Zr,↓Ze,↓Zi,↓Zs,↓Zf,↓Zo,↓Zg,↓Zb,↓Zc,↓vdn,vup,Zh,Zn,Zl,Zm,Zk,List.map_cons,List.map_nil,cond_true,cond_false,aop,Zv,Zq,Zp,ev,sput,Zt,Zy,Ya,unK,Zd,Zw,Nat.reduceBEq,Nat.reduceAdd,Int.reduceBEq,Int.reduceBNe,Int.reduceLT,Zu,Zz,tup,tyf,hv.len,List.length_singleton,bld149,Wi,Xh,zero_149]
   rw [← hb7]
   have d0:(h++[Blk.cells [.int .i64 0,.int .i64 0,.int .i64 0,.int .i64 0,.int .i64 0,.int .i64 0] 149 false])[b7]? = some (.cells [.int .i64 0,.int .i64 0,.int .i64 0,.int .i64 0,.int .i64 0,.int .i64 0] 149 false):=by rw [hb7]; exact Yt _ _
   rw [store149 d0 rfl]
   have d1:((h++[Blk.cells [.int .i64 0,.int .i64 0,.int .i64 0,.int .i64 0,.int .i64 0,.int .i64 0] 149 false]).set b7 (.cells ((posK 0 (m+1)).map Zx) 149 false))[b7]? = some (.cells ((posK 0 (m+1)).map Zx) 149 false):=Xf (Yu d0) _
   have hE1:Ext (fun _=>False) h ((h++[Blk.cells [.int .i64 0,.int .i64 0,.int .i64 0,.int .i64 0,.int .i64 0,.int .i64 0] 149 false]).set b7 (.cells ((posK 0 (m+1)).map Zx) 149 false)):=⟨by simp,fun i hi _=>by rw [List.getElem?_set_ne (by omega),List.getElem?_append_left hi]⟩
   generalize (h++[Blk.cells [.int .i64 0,.int .i64 0,.int .i64 0,.int .i64 0,.int .i64 0,.int .i64 0] 149 false]).set b7 (.cells ((posK 0 (m+1)).map Zx) 149 false)=H1 at d1 hE1 ⊢
   have hv1:=Or.IntSl_ext hv hE1
   refine hN10 [(0,ptB bs),(1,v),(2,Zx ((m+1:Nat):Int)),(6,.bool false),(7,ptB b7)] _ _ ?_ (by simp (maxSteps:=2000000) only [↓Za,↓Zj,↓Zr,↓Ze,↓Zi,↓Zs,↓Zf,↓Zo,↓Zg,↓Zb,↓Zc,↓vdn,vup,Zh,Zn,Zl,Zm,Zk,List.map_cons,List.map_nil,cond_true,cond_false,aop,Zv,Zq,Zp,ev,sput,Zt,Zy,Ya,unK,Zd,Zw,Nat.reduceBEq,Nat.reduceAdd,Int.reduceBEq,Int.reduceBNe,Int.reduceLT,Zu,Zz,tup,tyf])
   clear hN10
   try clear N10
   refine Yc fun N11 hN11=>?_
   simp (maxSteps:=2000000) only [s58,↓Za,↓Zj,↓Zr,↓Ze,↓Zi,↓Zs,↓Zf,↓Zo,↓Zg,↓Zb,↓Zc,↓vdn,vup,Zh,Zn,Zl,Zm,Zk,List.map_cons,List.map_nil,cond_true,cond_false,aop,Zv,Zq,Zp,ev,sput,Zt,Zy,Ya,unK,Zd,Zw,Nat.reduceBEq,Nat.reduceAdd,Int.reduceBEq,Int.reduceBNe,Int.reduceLT,Zu,Zz,tup,tyf,fldA fld_149_0 esz_147,Option.map_none]
   refine sl147 ?_
   refine copyS hv1 d1 ?_
   have d2:(H1.set b7 (.cells ((posK n (m+1)).map Zx) 149 false))[b7]? = some (.cells ((posK n (m+1)).map Zx) 149 false):=Xf (Yu d1) _
   have hE2:Ext (fun _=>False) h (H1.set b7 (.cells ((posK n (m+1)).map Zx) 149 false)):=⟨by rw [List.length_set]; exact hE1.1,fun i hi hf=>by rw [List.getElem?_set_ne (by omega)]; exact hE1.2 i hi hf⟩
   generalize H1.set b7 (.cells ((posK n (m+1)).map Zx) 149 false)=H2 at d2 hE2 ⊢
   have hv2:=Or.IntSl_ext hv hE2
   have hk2:=hk.ext hE2
   have hEm:Ext (fun b=>b=bm) h H2:=hE2.mono fun _ h=>h.elim
   try simp (maxSteps:=2000000) only [s58,↓Za,↓Zj,↓Zr,↓Ze,↓Zi,↓Zs,↓Zf,↓Zo,↓Zg,↓Zb,↓Zc,↓vdn,vup,Zh,Zn,Zl,Zm,Zk,List.map_cons,List.map_nil,cond_true,cond_false,aop,Zv,Zq,Zp,ev,sput,Zt,Zy,Ya,unK,Zd,Zw,Nat.reduceBEq,Nat.reduceAdd,Int.reduceBEq,Int.reduceBNe,Int.reduceLT,Zu,Zz,tup,tyf]
   refine hN11 [(0,ptB bs),(1,v),(2,Zx ((m+1:Nat):Int)),(6,.bool false),(7,ptB b7)] _ _ ?_ (by simp (maxSteps:=2000000) only [↓Za,↓Zj,↓Zr,↓Ze,↓Zi,↓Zs,↓Zf,↓Zo,↓Zg,↓Zb,↓Zc,↓vdn,vup,Zh,Zn,Zl,Zm,Zk,List.map_cons,List.map_nil,cond_true,cond_false,aop,Zv,Zq,Zp,ev,sput,Zt,Zy,Ya,unK,Zd,Zw,Nat.reduceBEq,Nat.reduceAdd,Int.reduceBEq,Int.reduceBNe,Int.reduceLT,Zu,Zz,tup,tyf])
   clear hN11
   try clear N11
   have hin:=posK_in (n:=n) (q:=m+1) hn (by omega)
   have hk2':=hk2
   obtain ⟨k1,l,k2,k3,k4⟩:=hk2'
   refine Yc fun N12 hN12=>?_
   simp only [q58_7]
   refine Xi [] (by kernel_rfl) (by kernel_rfl) (by kernel_rfl) (by kernel_rfl) ?_
   simp (maxSteps:=2000000) only [s58,↓Za,↓Zj,↓Zr,↓Ze,↓Zi,↓Zs,↓Zf,↓Zo,↓Zg,↓Zb,↓Zc,↓vdn,vup,Zh,Zn,Zl,Zm,Zk,List.map_cons,List.map_nil,cond_true,cond_false,aop,Zv,Zq,Zp,ev,sput,Zt,Zy,Ya,unK,Zd,Zw,Nat.reduceBEq,Nat.reduceAdd,Int.reduceBEq,Int.reduceBNe,Int.reduceLT,Zu,Zz,tup,tyf,↓Vn,nilK,fldA fld_109_0 esz_107,Xb k1 shp_107,load149 d2]
   refine lookupA k2 und_107 keyT_149 zvB k3 (Xv _) rfl hin ?_
   cases ha:aget (posK n (m+1)) l with
   | some u =>
     have hu:=k4 n (m+1) u ha
     rw [hd] at hu
     simp (maxSteps:=2000000) only [s58,↓Za,↓Zj,↓Zr,↓Ze,↓Zi,↓Zs,↓Zf,↓Zo,↓Zg,↓Zb,↓Zc,↓vdn,vup,Zh,Zn,Zl,Zm,Zk,List.map_cons,List.map_nil,cond_true,cond_false,aop,Zv,Zq,Zp,ev,sput,Zt,Zy,Ya,unK,Zd,Zw,Nat.reduceBEq,Nat.reduceAdd,Int.reduceBEq,Int.reduceBNe,Int.reduceLT,Zu,Zz,tup,tyf,Option.map_some,Option.getD_some,Option.isSome_some]
     refine hN12 [(0,ptB bs),(1,v),(2,Zx ((m+1:Nat):Int)),(6,.bool false),(7,ptB b7),(8,.bool u),(9,.bool true)] _ _ ?_ (by simp (maxSteps:=2000000) only [↓Za,↓Zj,↓Zr,↓Ze,↓Zi,↓Zs,↓Zf,↓Zo,↓Zg,↓Zb,↓Zc,↓vdn,vup,Zh,Zn,Zl,Zm,Zk,List.map_cons,List.map_nil,cond_true,cond_false,aop,Zv,Zq,Zp,ev,sput,Zt,Zy,Ya,unK,Zd,Zw,Nat.reduceBEq,Nat.reduceAdd,Int.reduceBEq,Int.reduceBNe,Int.reduceLT,Zu,Zz,tup,tyf])
     clear hN12
     try clear N12
     refine Yg fun D hD=>?_
     refine Yc fun N13 hN13=>?_
     simp (maxSteps:=2000000) only [s58,↓Za,↓Zj,↓Zr,↓Ze,↓Zi,↓Zs,↓Zf,↓Zo,↓Zg,↓Zb,↓Zc,↓vdn,vup,Zh,Zn,Zl,Zm,Zk,List.map_cons,List.map_nil,cond_true,cond_false,aop,Zv,Zq,Zp,ev,sput,Zt,Zy,Ya,unK,Zd,Zw,Nat.reduceBEq,Nat.reduceAdd,Int.reduceBEq,Int.reduceBNe,Int.reduceLT,Zu,Zz,tup,tyf]
     refine hN13 [(0,ptB bs),(1,v),(2,Zx ((m+1:Nat):Int)),(6,.bool false),(7,ptB b7),(8,.bool u),(9,.bool true),(41,.bool false)] _ _ ?_ (by simp (maxSteps:=2000000) only [↓Za,↓Zj,↓Zr,↓Ze,↓Zi,↓Zs,↓Zf,↓Zo,↓Zg,↓Zb,↓Zc,↓vdn,vup,Zh,Zn,Zl,Zm,Zk,List.map_cons,List.map_nil,cond_true,cond_false,aop,Zv,Zq,Zp,ev,sput,Zt,Zy,Ya,unK,Zd,Zw,Nat.reduceBEq,Nat.reduceAdd,Int.reduceBEq,Int.reduceBNe,Int.reduceLT,Zu,Zz,tup,tyf])
     clear hN13
     try clear N13
     refine Xe rfl ?_
     refine Yf ?_
     simp (maxSteps:=2000000) only [s58,↓Za,↓Zj,↓Zr,↓Ze,↓Zi,↓Zs,↓Zf,↓Zo,↓Zg,↓Zb,↓Zc,↓vdn,vup,Zh,Zn,Zl,Zm,Zk,List.map_cons,List.map_nil,cond_true,cond_false,aop,Zv,Zq,Zp,ev,sput,Zt,Zy,Ya,unK,Zd,Zw,Nat.reduceBEq,Nat.reduceAdd,Int.reduceBEq,Int.reduceBNe,Int.reduceLT,Zu,Zz,tup,tyf]
     refine hD [(0,ptB bs),(1,v),(2,Zx ((m+1:Nat):Int)),(6,.bool false),(7,ptB b7),(8,.bool u),(9,.bool true),(41,.bool false)] _ _ ?_ (by simp (maxSteps:=2000000) only [↓Za,↓Zj,↓Zr,↓Ze,↓Zi,↓Zs,↓Zf,↓Zo,↓Zg,↓Zb,↓Zc,↓vdn,vup,Zh,Zn,Zl,Zm,Zk,List.map_cons,List.map_nil,cond_true,cond_false,aop,Zv,Zq,Zp,ev,sput,Zt,Zy,Ya,unK,Zd,Zw,Nat.reduceBEq,Nat.reduceAdd,Int.reduceBEq,Int.reduceBNe,Int.reduceLT,Zu,Zz,tup,tyf])
     clear hD
     try clear D
     refine Yf ?_
     simp (maxSteps:=2000000) only [s58,↓Za,↓Zj,↓Zr,↓Ze,↓Zi,↓Zs,↓Zf,↓Zo,↓Zg,↓Zb,↓Zc,↓vdn,vup,Zh,Zn,Zl,Zm,Zk,List.map_cons,List.map_nil,cond_true,cond_false,aop,Zv,Zq,Zp,ev,sput,Zt,Zy,Ya,unK,Zd,Zw,Nat.reduceBEq,Nat.reduceAdd,Int.reduceBEq,Int.reduceBNe,Int.reduceLT,Zu,Zz,tup,tyf]
     exact ⟨by rw [hu,hd],hk2,hEm⟩
   | none =>
     simp (maxSteps:=2000000) only [s58,↓Za,↓Zj,↓Zr,↓Ze,↓Zi,↓Zs,↓Zf,↓Zo,↓Zg,↓Zb,↓Zc,↓vdn,vup,Zh,Zn,Zl,Zm,Zk,List.map_cons,List.map_nil,cond_true,cond_false,aop,Zv,Zq,Zp,ev,sput,Zt,Zy,Ya,unK,Zd,Zw,Nat.reduceBEq,Nat.reduceAdd,Int.reduceBEq,Int.reduceBNe,Int.reduceLT,Zu,Zz,tup,tyf,Option.map_none,Option.getD_none,Option.isSome_none]
     refine hN12 [(0,ptB bs),(1,v),(2,Zx ((m+1:Nat):Int)),(6,.bool false),(7,ptB b7),(8,.bool false),(9,.bool false)] _ _ ?_ (by simp (maxSteps:=2000000) only [↓Za,↓Zj,↓Zr,↓Ze,↓Zi,↓Zs,↓Zf,↓Zo,↓Zg,↓Zb,↓Zc,↓vdn,vup,Zh,Zn,Zl,Zm,Zk,List.map_cons,List.map_nil,cond_true,cond_false,aop,Zv,Zq,Zp,ev,sput,Zt,Zy,Ya,unK,Zd,Zw,Nat.reduceBEq,Nat.reduceAdd,Int.reduceBEq,Int.reduceBNe,Int.reduceLT,Zu,Zz,tup,tyf])
     clear hN12
     try clear N12
     refine Yg fun D hD=>?_
     refine Yc fun N14 hN14=>?_
     simp (maxSteps:=2000000) only [s58,↓Za,↓Zj,↓Zr,↓Ze,↓Zi,↓Zs,↓Zf,↓Zo,↓Zg,↓Zb,↓Zc,↓vdn,vup,Zh,Zn,Zl,Zm,Zk,List.map_cons,List.map_nil,cond_true,cond_false,aop,Zv,Zq,Zp,ev,sput,Zt,Zy,Ya,unK,Zd,Zw,Nat.reduceBEq,Nat.reduceAdd,Int.reduceBEq,Int.reduceBNe,Int.reduceLT,Zu,Zz,tup,tyf]
     refine hN14 [(0,ptB bs),(1,v),(2,Zx ((m+1:Nat):Int)),(6,.bool false),(7,ptB b7),(8,.bool false),(9,.bool false),(41,.bool true)] _ _ ?_ (by simp (maxSteps:=2000000) only [↓Za,↓Zj,↓Zr,↓Ze,↓Zi,↓Zs,↓Zf,↓Zo,↓Zg,↓Zb,↓Zc,↓vdn,vup,Zh,Zn,Zl,Zm,Zk,List.map_cons,List.map_nil,cond_true,cond_false,aop,Zv,Zq,Zp,ev,sput,Zt,Zy,Ya,unK,Zd,Zw,Nat.reduceBEq,Nat.reduceAdd,Int.reduceBEq,Int.reduceBNe,Int.reduceLT,Zu,Zz,tup,tyf])
     clear hN14
     try clear N14
     refine Xl rfl ?_
     refine Yc fun N15 hN15=>?_
     simp (maxSteps:=2000000) only [s58,↓Za,↓Zj,↓Zr,↓Ze,↓Zi,↓Zs,↓Zf,↓Zo,↓Zg,↓Zb,↓Zc,↓vdn,vup,Zh,Zn,Zl,Zm,Zk,List.map_cons,List.map_nil,cond_true,cond_false,aop,Zv,Zq,Zp,ev,sput,Zt,Zy,Ya,unK,Zd,Zw,Nat.reduceBEq,Nat.reduceAdd,Int.reduceBEq,Int.reduceBNe,Int.reduceLT,Zu,Zz,tup,tyf,Yz,List.nil_append,List.append_nil,List.toList_toArray,List.cons_append]
     refine (ask_call (ih m rfl) (by omega) hk2 hv2 hn h2).mono ?_
     rintro _ G2 ⟨⟨w,rfl⟩,hk3,hE3⟩
     try simp (maxSteps:=2000000) only [s58,↓Za,↓Zj,↓Zr,↓Ze,↓Zi,↓Zs,↓Zf,↓Zo,↓Zg,↓Zb,↓Zc,↓vdn,vup,Zh,Zn,Zl,Zm,Zk,List.map_cons,List.map_nil,cond_true,cond_false,aop,Zv,Zq,Zp,ev,sput,Zt,Zy,Ya,unK,Zd,Zw,Nat.reduceBEq,Nat.reduceAdd,Int.reduceBEq,Int.reduceBNe,Int.reduceLT,Zu,Zz,tup,tyf]
     refine hN15 [(0,ptB bs),(1,v),(2,Zx ((m+1:Nat):Int)),(6,.bool false),(7,ptB b7),(8,.bool true),(9,.bool false)] _ _ ?_ (by simp (maxSteps:=2000000) only [↓Za,↓Zj,↓Zr,↓Ze,↓Zi,↓Zs,↓Zf,↓Zo,↓Zg,↓Zb,↓Zc,↓vdn,vup,Zh,Zn,Zl,Zm,Zk,List.map_cons,List.map_nil,cond_true,cond_false,aop,Zv,Zq,Zp,ev,sput,Zt,Zy,Ya,unK,Zd,Zw,Nat.reduceBEq,Nat.reduceAdd,Int.reduceBEq,Int.reduceBNe,Int.reduceLT,Zu,Zz,tup,tyf])
     clear hN15
     try clear N15
     have g2:=(hE3.2 _ (Yu d2) (hk2.ne d2)).trans d2
     obtain ⟨j1,l2,j2,j3,j4⟩:=hk3
     refine Yf ?_
     simp only [q58_10]
     refine Xi [] (by kernel_rfl) (by kernel_rfl) (by kernel_rfl) (by kernel_rfl) ?_
     simp (maxSteps:=2000000) only [s58,↓Za,↓Zj,↓Zr,↓Ze,↓Zi,↓Zs,↓Zf,↓Zo,↓Zg,↓Zb,↓Zc,↓vdn,vup,Zh,Zn,Zl,Zm,Zk,List.map_cons,List.map_nil,cond_true,cond_false,aop,Zv,Zq,Zp,ev,sput,Zt,Zy,Ya,unK,Zd,Zw,Nat.reduceBEq,Nat.reduceAdd,Int.reduceBEq,Int.reduceBNe,Int.reduceLT,Zu,Zz,tup,tyf,↓Wp,nilK,fldA fld_109_0 esz_107,Xb j1 shp_107,load149 g2]
     refine updateA (f:=Value.bool) j2 und_107 keyT_149 j3 (Xv _) rfl hin ?_
     have hsk:=hput j1 j2 j3 j4
     try simp (maxSteps:=2000000) only [s58,↓Za,↓Zj,↓Zr,↓Ze,↓Zi,↓Zs,↓Zf,↓Zo,↓Zg,↓Zb,↓Zc,↓vdn,vup,Zh,Zn,Zl,Zm,Zk,List.map_cons,List.map_nil,cond_true,cond_false,aop,Zv,Zq,Zp,ev,sput,Zt,Zy,Ya,unK,Zd,Zw,Nat.reduceBEq,Nat.reduceAdd,Int.reduceBEq,Int.reduceBNe,Int.reduceLT,Zu,Zz,tup,tyf]
     refine hD [(0,ptB bs),(1,v),(2,Zx ((m+1:Nat):Int)),(6,.bool false),(7,ptB b7),(8,.bool true),(9,.bool false)] _ _ ?_ (by simp (maxSteps:=2000000) only [↓Za,↓Zj,↓Zr,↓Ze,↓Zi,↓Zs,↓Zf,↓Zo,↓Zg,↓Zb,↓Zc,↓vdn,vup,Zh,Zn,Zl,Zm,Zk,List.map_cons,List.map_nil,cond_true,cond_false,aop,Zv,Zq,Zp,ev,sput,Zt,Zy,Ya,unK,Zd,Zw,Nat.reduceBEq,Nat.reduceAdd,Int.reduceBEq,Int.reduceBNe,Int.reduceLT,Zu,Zz,tup,tyf])
     clear hD
     try clear D
     refine Yf ?_
     simp (maxSteps:=2000000) only [s58,↓Za,↓Zj,↓Zr,↓Ze,↓Zi,↓Zs,↓Zf,↓Zo,↓Zg,↓Zb,↓Zc,↓vdn,vup,Zh,Zn,Zl,Zm,Zk,List.map_cons,List.map_nil,cond_true,cond_false,aop,Zv,Zq,Zp,ev,sput,Zt,Zy,Ya,unK,Zd,Zw,Nat.reduceBEq,Nat.reduceAdd,Int.reduceBEq,Int.reduceBNe,Int.reduceLT,Zu,Zz,tup,tyf]
     exact ⟨by rw [hd],hsk,(hEm.trans hE3).trans (Ext.set _ rfl)⟩
 · have c3:((2 ^ (m+1):Nat):Int)<((n:Nat):Int):=Int.ofNat_lt.2 (Nat.not_le.1 h2)
   have hd:decide (n≤2 ^ (m+1))=false:=decide_eq_false h2
   rw [hd]
   generalize ((2 ^ (m+1):Nat):Int)=pw at hsh c3
   refine Yc fun N16 hN16=>?_
   simp only [q58_3]
   refine Xi [(5,1)] (by kernel_rfl) (by kernel_rfl) (by kernel_rfl) (by kernel_rfl) ?_
   simp (maxSteps:=2000000) only [s58,↓Za,↓Zj,↓Zr,↓Ze,↓Zi,↓Zs,↓Zf,↓Zo,↓Zg,↓Zb,↓Zc,↓vdn,vup,Zh,Zn,Zl,Zm,Zk,List.map_cons,List.map_nil,cond_true,cond_false,aop,Zv,Zq,Zp,ev,sput,Zt,Zy,Ya,unK,Zd,Zw,Nat.reduceBEq,Nat.reduceAdd,Int.reduceBEq,Int.reduceBNe,Int.reduceLT,Zu,Zz,tup,tyf,c0,Yz,List.nil_append,List.append_nil,List.toList_toArray,List.cons_append]
   refine ⟨_,_,weight_call hv hn,rfl,?_⟩
   simp (maxSteps:=2000000) only [s58,↓Za,↓Zj,↓Zr,↓Ze,↓Zi,↓Zs,↓Zf,↓Zo,↓Zg,↓Zb,↓Zc,↓vdn,vup,Zh,Zn,Zl,Zm,Zk,List.map_cons,List.map_nil,cond_true,cond_false,aop,Zv,Zq,Zp,ev,sput,Zt,Zy,Ya,unK,Zd,Zw,Nat.reduceBEq,Nat.reduceAdd,Int.reduceBEq,Int.reduceBNe,Int.reduceLT,Zu,Zz,tup,tyf,hnn,hsh,gt_iff_lt,c3,decide_true]
   refine hN16 [(0,ptB bs),(1,v),(2,Zx ((m+1:Nat):Int)),(6,.bool false),(22,.bool true)] _ _ ?_ (by simp (maxSteps:=2000000) only [↓Za,↓Zj,↓Zr,↓Ze,↓Zi,↓Zs,↓Zf,↓Zo,↓Zg,↓Zb,↓Zc,↓vdn,vup,Zh,Zn,Zl,Zm,Zk,List.map_cons,List.map_nil,cond_true,cond_false,aop,Zv,Zq,Zp,ev,sput,Zt,Zy,Ya,unK,Zd,Zw,Nat.reduceBEq,Nat.reduceAdd,Int.reduceBEq,Int.reduceBNe,Int.reduceLT,Zu,Zz,tup,tyf])
   clear hN16
   try clear N16
   refine Xl rfl ?_
   refine Yf ?_
   simp (maxSteps:=2000000) only [s58,↓Za,↓Zj,↓Zr,↓Ze,↓Zi,↓Zs,↓Zf,↓Zo,↓Zg,↓Zb,↓Zc,↓vdn,vup,Zh,Zn,Zl,Zm,Zk,List.map_cons,List.map_nil,cond_true,cond_false,aop,Zv,Zq,Zp,ev,sput,Zt,Zy,Ya,unK,Zd,Zw,Nat.reduceBEq,Nat.reduceAdd,Int.reduceBEq,Int.reduceBNe,Int.reduceLT,Zu,Zz,tup,tyf]
   exact ⟨hk,Ext.refl _ _⟩
theorem wins_call [Tabs prog] {bs bm:Nat} : ∀ q,q≤60→WinsOK bs bm q
 | 0,hq=>wins_step hq fun m h=>by cases h
 | q+1,hq=>wins_step hq fun m h=>by cases h; exact wins_call q (by omega)
end Go.Proofs.Tryd.Am.Tg
