/-
  order: Sort and Check.
  Plain theory: Dilworth's theorem: an antichain with as many elements as chains that have all.
  order, plain: a pair more makes the sorting no harder; how many comparisons free elements need: plans are checked by the kernel.
  Plain theory: chains, antichains and ideals as sets of bits; the fewest chains are as many as a greatest antichain has elements; an ideal for each antichain.
  order: the reference's chains, antichains and ideals.
  order: the program's ideals and antichains: sets for which something is so, any two elements of a set.
  order: Ideals, Anti.
  order: the fewest chains, by the reference and by the program.
  order: Chains.
  order: Turn.
  Plain theory: lines that show an order, by keys; their number is at most that of the chains, and at most three for six elements.
  Plain theory: the first of the shortest realizers; a search with repetitions finds the same.
  Printed by gen.py: the code of some functions, without what no step looks at; held against the program's own by the kernel.
  order: what stands behind each element of a line.
  order: the search for a realizer.
  order: the program's lines: the function literal that grows them.
  order: the function literal that grows the lines, walked.
  order: Close.
  order: the reference's Close.
  order: the law OrderMakes.
  order: Lines, EqualFunc; the law OrderLines.
  order: the realizer; Real and Dim.
  order: the reference's realizer, one level after another.
  order: the reference's Real.
  order: law Reals.
  order: fractions.
  order: chances and heights.
  order: Chance and Height; the law OrderChances.
  Printed by gen.py: the code of some functions, without what no step looks at; held against the program's own by the kernel.
  order: OrderSums: right; both chances.
  order: OrderSums: the heights, added.
  order: OrderSums: the end.
  order: the law OrderSums.
-/
import Derived.Test.YtnjacpfahhjpiaaDoorPk10
import Derived.Test.YtnjacpfahhjpiaaDoorPk6
import Derived.Test.YtnjacpfahhjpiaaDoorPk8
import Derived.KernelRfl
import Derived.Test.YtnjacpfahhjpiaaDoorPk9
import Derived.Test.YtnjacpfahhjpiaaDoorPk4
import Derived.Test.YtnjacpfahhjpiaaDoorPk7
import Derived.Test.YtnjacpfahhjpiaaDoorPk3
import Derived.Test.YtnjacpfahhjpiaaDoorProg
import Derived.Shelf.Abstract
import Derived.Test.YtnjacpfahhjpiaaDoorPk5
set_option linter.all false
namespace Go.Proofs.Tryd.Am
open Go.Am Ord
set_option maxRecDepth 100000
set_option maxHeartbeats 4000000
def fstP (P:List Qd):Int:=if P.length=0 then -1 else 0
def checkV (o:List Int) (P:List Qd):Value :=
 if ord o=true then (if isPlB o.length P=true∧(lenV P 1000 (fstP P) o).2=true then .tuple #[Zx ((lenV P 1000 (fstP P) o).1:Nat),.bool true,.int .i64 0] else .tuple #[.int .i64 0,.bool false,.int .i64 0]) else .tuple #[.int .i64 0,.bool false,.int .i64 2]
theorem low_t3 {a b c:Value} (ha:Low a) (hb:Low b) (hc:Low c):Low (.tuple #[a,b,c]):=.tuple fun x hx=>by
 simp only [List.mem_cons,List.not_mem_nil,or_false] at hx
 rcases hx with rfl | rfl | rfl <;> assumption
theorem low_check (o:List Int) (P:List Qd):Low (checkV o P):=by
 unfold checkV
 split
 · split <;> exact low_t3 (.int _ _) (.bool _) (.int _ _)
 · exact low_t3 (.int _ _) (.bool _) (.int _ _)
theorem s52_callW [Tabs Tryd.prog] {args:List Value} {h:Yb} {Q:Value→Yb→Prop} (hsz:args.length≤35) (hk:AWS Tryd.prog 35 s52 (Zu Tryd.prog [.tmp 4,.tmp 5,.tmp 6] Q) (Zp 0 args) h):ACall Tryd.prog 52 args h Q :=
 Wn Tryd.func52 rfl (enters_of Tryd.func52 (by kernel_rfl) rfl) rfl rfl (by decide) s52_strip s52_ok hsz hk
theorem check_call [BitTab prog 1] {h:Yb} {v w:Value} {o:List Int} {P:List Qd} (hv:IntSl h v o) (hl:o.length<9223372036854775808) (hx : ∀ x∈o,-9223372036854775808≤x∧x<9223372036854775808) (hw:QuadSl h w P) (hPl:P.length<4611686018427387904):APure prog 52 [v,w] h (checkV o P):=by
 refine ACall.forget (low_check o P) ?_
 refine s52_callW (by simp) ?_
 simp only [s52]
 refine Yc fun N1 hN1=>?_
 simp (maxSteps:=2000000) only [s52,↓Za,↓Zi,↓Zr,↓Ze,↓Zj,↓Zs,↓Zg,↓Zo,↓Zf,↓Zb,↓Zc,↓vdn,vup,Zm,Zk,Zn,Zl,Zh,List.map_cons,List.map_nil,cond_true,cond_false,aop,Zv,Zq,Zp,ev,sput,Zt,Zy,Ya,unK,Zd,Zw,Nat.reduceBEq,Nat.reduceAdd,Int.reduceBEq,Int.reduceBNe,Int.reduceLT,Zu,Zz,tup,tyf]
 refine hN1 [(0,v),(1,w),(4,.int .i64 0),(5,.bool false),(6,.int .i64 0)] _ _ ?_ (by simp (maxSteps:=2000000) only [↓Za,↓Zi,↓Zr,↓Ze,↓Zj,↓Zs,↓Zg,↓Zo,↓Zf,↓Zb,↓Zc,↓vdn,vup,Zm,Zk,Zn,Zl,Zh,List.map_cons,List.map_nil,cond_true,cond_false,aop,Zv,Zq,Zp,ev,sput,Zt,Zy,Ya,unK,Zd,Zw,Nat.reduceBEq,Nat.reduceAdd,Int.reduceBEq,Int.reduceBNe,Int.reduceLT,Zu,Zz,tup,tyf])
 clear hN1
 try clear N1
 refine Yc fun N2 hN2=>?_
 simp (maxSteps:=2000000) only [s52,↓Za,↓Zi,↓Zr,↓Ze,↓Zj,↓Zs,↓Zg,↓Zo,↓Zf,↓Zb,↓Zc,↓vdn,vup,Zm,Zk,Zn,Zl,Zh,List.map_cons,List.map_nil,cond_true,cond_false,aop,Zv,Zq,Zp,ev,sput,Zt,Zy,Ya,unK,Zd,Zw,Nat.reduceBEq,Nat.reduceAdd,Int.reduceBEq,Int.reduceBNe,Int.reduceLT,Zu,Zz,tup,tyf,Yr,List.nil_append,List.append_nil,List.toList_toArray,List.cons_append]
 refine (read_call hv hl hx).mono ?_
 rintro _ g ⟨rfl,rfl⟩
 try simp (maxSteps:=2000000) only [s52,↓Za,↓Zi,↓Zr,↓Ze,↓Zj,↓Zs,↓Zg,↓Zo,↓Zf,↓Zb,↓Zc,↓vdn,vup,Zm,Zk,Zn,Zl,Zh,List.map_cons,List.map_nil,cond_true,cond_false,aop,Zv,Zq,Zp,ev,sput,Zt,Zy,Ya,unK,Zd,Zw,Nat.reduceBEq,Nat.reduceAdd,Int.reduceBEq,Int.reduceBNe,Int.reduceLT,Zu,Zz,tup,tyf,We,Xj,zeroN,zero_77]
 rw [storeRd]
 obtain ⟨hE,hb⟩:=rdBox g o
 generalize hgl:g.length=gl at hE hb ⊢
 generalize (g++[Blk.cells (ordN 0) 77 false]).set gl (.cells (rdC o) 77 false)=G at hE hb ⊢
 have hwG:=hw.ext hE
 cases ho:ord o with
 | false =>
   refine hN2 [(0,v),(1,w),(4,.int .i64 0),(5,.bool false),(6,.int .i64 0),(7,ptB gl),(8,.bool false)] _ _ ?_ (by simp (maxSteps:=2000000) only [↓Za,↓Zi,↓Zr,↓Ze,↓Zj,↓Zs,↓Zg,↓Zo,↓Zf,↓Zb,↓Zc,↓vdn,vup,Zm,Zk,Zn,Zl,Zh,List.map_cons,List.map_nil,cond_true,cond_false,aop,Zv,Zq,Zp,ev,sput,Zt,Zy,Ya,unK,Zd,Zw,Nat.reduceBEq,Nat.reduceAdd,Int.reduceBEq,Int.reduceBNe,Int.reduceLT,Zu,Zz,tup,tyf])
   clear hN2
   try clear N2
   refine Ym fun C hC=>?_
   refine Yc fun N3 hN3=>?_
   simp (maxSteps:=2000000) only [s52,↓Za,↓Zi,↓Zr,↓Ze,↓Zj,↓Zs,↓Zg,↓Zo,↓Zf,↓Zb,↓Zc,↓vdn,vup,Zm,Zk,Zn,Zl,Zh,List.map_cons,List.map_nil,cond_true,cond_false,aop,Zv,Zq,Zp,ev,sput,Zt,Zy,Ya,unK,Zd,Zw,Nat.reduceBEq,Nat.reduceAdd,Int.reduceBEq,Int.reduceBNe,Int.reduceLT,Zu,Zz,tup,tyf]
   refine hN3 [(0,v),(1,w),(4,.int .i64 0),(5,.bool false),(6,.int .i64 0),(7,ptB gl),(8,.bool false),(17,.bool true)] _ _ ?_ (by simp (maxSteps:=2000000) only [↓Za,↓Zi,↓Zr,↓Ze,↓Zj,↓Zs,↓Zg,↓Zo,↓Zf,↓Zb,↓Zc,↓vdn,vup,Zm,Zk,Zn,Zl,Zh,List.map_cons,List.map_nil,cond_true,cond_false,aop,Zv,Zq,Zp,ev,sput,Zt,Zy,Ya,unK,Zd,Zw,Nat.reduceBEq,Nat.reduceAdd,Int.reduceBEq,Int.reduceBNe,Int.reduceLT,Zu,Zz,tup,tyf])
   clear hN3
   try clear N3
   refine Xb rfl ?_
   refine Yf ?_
   try simp (maxSteps:=2000000) only [s52,↓Za,↓Zi,↓Zr,↓Ze,↓Zj,↓Zs,↓Zg,↓Zo,↓Zf,↓Zb,↓Zc,↓vdn,vup,Zm,Zk,Zn,Zl,Zh,List.map_cons,List.map_nil,cond_true,cond_false,aop,Zv,Zq,Zp,ev,sput,Zt,Zy,Ya,unK,Zd,Zw,Nat.reduceBEq,Nat.reduceAdd,Int.reduceBEq,Int.reduceBNe,Int.reduceLT,Zu,Zz,tup,tyf]
   rw [checkV,ho]
   exact ⟨rfl,hE⟩
 | true =>
   have hlen:=Yz ho
   have hrd:rdC o=Xt o:=if_pos hlen
   rw [hrd] at hb
   refine hN2 [(0,v),(1,w),(4,.int .i64 0),(5,.bool false),(6,.int .i64 0),(7,ptB gl),(8,.bool true)] _ _ ?_ (by simp (maxSteps:=2000000) only [↓Za,↓Zi,↓Zr,↓Ze,↓Zj,↓Zs,↓Zg,↓Zo,↓Zf,↓Zb,↓Zc,↓vdn,vup,Zm,Zk,Zn,Zl,Zh,List.map_cons,List.map_nil,cond_true,cond_false,aop,Zv,Zq,Zp,ev,sput,Zt,Zy,Ya,unK,Zd,Zw,Nat.reduceBEq,Nat.reduceAdd,Int.reduceBEq,Int.reduceBNe,Int.reduceLT,Zu,Zz,tup,tyf])
   clear hN2
   try clear N2
   refine Ym fun C hC=>?_
   refine Yc fun N4 hN4=>?_
   simp (maxSteps:=2000000) only [s52,↓Za,↓Zi,↓Zr,↓Ze,↓Zj,↓Zs,↓Zg,↓Zo,↓Zf,↓Zb,↓Zc,↓vdn,vup,Zm,Zk,Zn,Zl,Zh,List.map_cons,List.map_nil,cond_true,cond_false,aop,Zv,Zq,Zp,ev,sput,Zt,Zy,Ya,unK,Zd,Zw,Nat.reduceBEq,Nat.reduceAdd,Int.reduceBEq,Int.reduceBNe,Int.reduceLT,Zu,Zz,tup,tyf]
   refine hN4 [(0,v),(1,w),(4,.int .i64 0),(5,.bool false),(6,.int .i64 0),(7,ptB gl),(8,.bool true),(17,.bool false)] _ _ ?_ (by simp (maxSteps:=2000000) only [↓Za,↓Zi,↓Zr,↓Ze,↓Zj,↓Zs,↓Zg,↓Zo,↓Zf,↓Zb,↓Zc,↓vdn,vup,Zm,Zk,Zn,Zl,Zh,List.map_cons,List.map_nil,cond_true,cond_false,aop,Zv,Zq,Zp,ev,sput,Zt,Zy,Ya,unK,Zd,Zw,Nat.reduceBEq,Nat.reduceAdd,Int.reduceBEq,Int.reduceBNe,Int.reduceLT,Zu,Zz,tup,tyf])
   clear hN4
   try clear N4
   refine Xa rfl ?_
   refine Yf ?_
   try simp (maxSteps:=2000000) only [s52,↓Za,↓Zi,↓Zr,↓Ze,↓Zj,↓Zs,↓Zg,↓Zo,↓Zf,↓Zb,↓Zc,↓vdn,vup,Zm,Zk,Zn,Zl,Zh,List.map_cons,List.map_nil,cond_true,cond_false,aop,Zv,Zq,Zp,ev,sput,Zt,Zy,Ya,unK,Zd,Zw,Nat.reduceBEq,Nat.reduceAdd,Int.reduceBEq,Int.reduceBNe,Int.reduceLT,Zu,Zz,tup,tyf]
   refine hC [(0,v),(1,w),(4,.int .i64 0),(5,.bool false),(6,.int .i64 0),(7,ptB gl),(8,.bool true)] _ _ ?_ (by simp (maxSteps:=2000000) only [↓Za,↓Zi,↓Zr,↓Ze,↓Zj,↓Zs,↓Zg,↓Zo,↓Zf,↓Zb,↓Zc,↓vdn,vup,Zm,Zk,Zn,Zl,Zh,List.map_cons,List.map_nil,cond_true,cond_false,aop,Zv,Zq,Zp,ev,sput,Zt,Zy,Ya,unK,Zd,Zw,Nat.reduceBEq,Nat.reduceAdd,Int.reduceBEq,Int.reduceBNe,Int.reduceLT,Zu,Zz,tup,tyf])
   clear hC
   try clear C
   rw [checkV,ho,if_pos rfl]
   refine Ym fun D hD=>?_
   refine Yc fun N5 hN5=>?_
   simp (maxSteps:=2000000) only [s52,↓Za,↓Zi,↓Zr,↓Ze,↓Zj,↓Zs,↓Zg,↓Zo,↓Zf,↓Zb,↓Zc,↓vdn,vup,Zm,Zk,Zn,Zl,Zh,List.map_cons,List.map_nil,cond_true,cond_false,aop,Zv,Zq,Zp,ev,sput,Zt,Zy,Ya,unK,Zd,Zw,Nat.reduceBEq,Nat.reduceAdd,Int.reduceBEq,Int.reduceBNe,Int.reduceLT,Zu,Zz,tup,tyf,Yr,List.nil_append,List.append_nil,List.toList_toArray,List.cons_append,Xy hb Yn hlen.2]
   refine (isplan_call hwG ho hPl).mono ?_
   rintro _ G ⟨rfl,rfl⟩
   cases hP:isPlB o.length P with
   | false =>
     try simp (maxSteps:=2000000) only [s52,↓Za,↓Zi,↓Zr,↓Ze,↓Zj,↓Zs,↓Zg,↓Zo,↓Zf,↓Zb,↓Zc,↓vdn,vup,Zm,Zk,Zn,Zl,Zh,List.map_cons,List.map_nil,cond_true,cond_false,aop,Zv,Zq,Zp,ev,sput,Zt,Zy,Ya,unK,Zd,Zw,Nat.reduceBEq,Nat.reduceAdd,Int.reduceBEq,Int.reduceBNe,Int.reduceLT,Zu,Zz,tup,tyf]
     refine hN5 [(0,v),(1,w),(4,.int .i64 0),(5,.bool false),(6,.int .i64 0),(7,ptB gl),(8,.bool true),(21,.bool true)] _ _ ?_ (by simp (maxSteps:=2000000) only [↓Za,↓Zi,↓Zr,↓Ze,↓Zj,↓Zs,↓Zg,↓Zo,↓Zf,↓Zb,↓Zc,↓vdn,vup,Zm,Zk,Zn,Zl,Zh,List.map_cons,List.map_nil,cond_true,cond_false,aop,Zv,Zq,Zp,ev,sput,Zt,Zy,Ya,unK,Zd,Zw,Nat.reduceBEq,Nat.reduceAdd,Int.reduceBEq,Int.reduceBNe,Int.reduceLT,Zu,Zz,tup,tyf])
     clear hN5
     try clear N5
     refine Xb rfl ?_
     refine Yf ?_
     try simp (maxSteps:=2000000) only [s52,↓Za,↓Zi,↓Zr,↓Ze,↓Zj,↓Zs,↓Zg,↓Zo,↓Zf,↓Zb,↓Zc,↓vdn,vup,Zm,Zk,Zn,Zl,Zh,List.map_cons,List.map_nil,cond_true,cond_false,aop,Zv,Zq,Zp,ev,sput,Zt,Zy,Ya,unK,Zd,Zw,Nat.reduceBEq,Nat.reduceAdd,Int.reduceBEq,Int.reduceBNe,Int.reduceLT,Zu,Zz,tup,tyf]
     exact ⟨by simp [hP],hE⟩
   | true =>
     try simp (maxSteps:=2000000) only [s52,↓Za,↓Zi,↓Zr,↓Ze,↓Zj,↓Zs,↓Zg,↓Zo,↓Zf,↓Zb,↓Zc,↓vdn,vup,Zm,Zk,Zn,Zl,Zh,List.map_cons,List.map_nil,cond_true,cond_false,aop,Zv,Zq,Zp,ev,sput,Zt,Zy,Ya,unK,Zd,Zw,Nat.reduceBEq,Nat.reduceAdd,Int.reduceBEq,Int.reduceBNe,Int.reduceLT,Zu,Zz,tup,tyf]
     refine hN5 [(0,v),(1,w),(4,.int .i64 0),(5,.bool false),(6,.int .i64 0),(7,ptB gl),(8,.bool true),(21,.bool false)] _ _ ?_ (by simp (maxSteps:=2000000) only [↓Za,↓Zi,↓Zr,↓Ze,↓Zj,↓Zs,↓Zg,↓Zo,↓Zf,↓Zb,↓Zc,↓vdn,vup,Zm,Zk,Zn,Zl,Zh,List.map_cons,List.map_nil,cond_true,cond_false,aop,Zv,Zq,Zp,ev,sput,Zt,Zy,Ya,unK,Zd,Zw,Nat.reduceBEq,Nat.reduceAdd,Int.reduceBEq,Int.reduceBNe,Int.reduceLT,Zu,Zz,tup,tyf])
     clear hN5
     try clear N5
     refine Xa rfl ?_
     refine Yf ?_
     try simp (maxSteps:=2000000) only [s52,↓Za,↓Zi,↓Zr,↓Ze,↓Zj,↓Zs,↓Zg,↓Zo,↓Zf,↓Zb,↓Zc,↓vdn,vup,Zm,Zk,Zn,Zl,Zh,List.map_cons,List.map_nil,cond_true,cond_false,aop,Zv,Zq,Zp,ev,sput,Zt,Zy,Ya,unK,Zd,Zw,Nat.reduceBEq,Nat.reduceAdd,Int.reduceBEq,Int.reduceBNe,Int.reduceLT,Zu,Zz,tup,tyf]
     refine hD [(0,v),(1,w),(4,.int .i64 0),(5,.bool false),(6,.int .i64 0),(7,ptB gl),(8,.bool true)] _ _ ?_ (by simp (maxSteps:=2000000) only [↓Za,↓Zi,↓Zr,↓Ze,↓Zj,↓Zs,↓Zg,↓Zo,↓Zf,↓Zb,↓Zc,↓vdn,vup,Zm,Zk,Zn,Zl,Zh,List.map_cons,List.map_nil,cond_true,cond_false,aop,Zv,Zq,Zp,ev,sput,Zt,Zy,Ya,unK,Zd,Zw,Nat.reduceBEq,Nat.reduceAdd,Int.reduceBEq,Int.reduceBNe,Int.reduceLT,Zu,Zz,tup,tyf])
     clear hD
     try clear D
     have hP8:=(isPl_ok hP).1
     refine Yc fun N6 hN6=>?_
     simp (maxSteps:=2000000) only [s52,↓Za,↓Zi,↓Zr,↓Ze,↓Zj,↓Zs,↓Zg,↓Zo,↓Zf,↓Zb,↓Zc,↓vdn,vup,Zm,Zk,Zn,Zl,Zh,List.map_cons,List.map_nil,cond_true,cond_false,aop,Zv,Zq,Zp,ev,sput,Zt,Zy,Ya,unK,Zd,Zw,Nat.reduceBEq,Nat.reduceAdd,Int.reduceBEq,Int.reduceBNe,Int.reduceLT,Zu,Zz,tup,tyf]
     refine hN6 [(0,v),(1,w),(4,.int .i64 0),(5,.bool false),(6,.int .i64 0),(7,ptB gl),(8,.bool true),(9,.int .i64 0)] _ _ ?_ (by simp (maxSteps:=2000000) only [↓Za,↓Zi,↓Zr,↓Ze,↓Zj,↓Zs,↓Zg,↓Zo,↓Zf,↓Zb,↓Zc,↓vdn,vup,Zm,Zk,Zn,Zl,Zh,List.map_cons,List.map_nil,cond_true,cond_false,aop,Zv,Zq,Zp,ev,sput,Zt,Zy,Ya,unK,Zd,Zw,Nat.reduceBEq,Nat.reduceAdd,Int.reduceBEq,Int.reduceBNe,Int.reduceLT,Zu,Zz,tup,tyf])
     clear hN6
     try clear N6
     refine Ym fun X hX=>?_
     have tail : ∀ e,ELe e [(0,v),(1,w),(4,.int .i64 0),(5,.bool false),(6,.int .i64 0),(7,ptB gl),(8,.bool true),(9,Zx (fstP P))]→X e G:=by
      intro e he
      refine hX [(0,v),(1,w),(4,.int .i64 0),(5,.bool false),(6,.int .i64 0),(7,ptB gl),(8,.bool true),(9,Zx (fstP P))] _ _ ?_ he
      have hlc:=length_call hP 1000 G w (fstP P) o hwG ho rfl (by
       unfold fstP
       split
       · exact .inl rfl
       · exact .inr ⟨Int.le_refl _,by omega,by omega⟩) (by decide) (by decide)
      generalize lenV P 1000 (fstP P) o=R at hlc ⊢
      obtain ⟨x,ok⟩:=R
      simp only at hlc
      refine Yc fun N1 hN1=>?_
      simp (maxSteps:=2000000) only [s52,↓Za,↓Zi,↓Zr,↓Ze,↓Zj,↓Zs,↓Zg,↓Zo,↓Zf,↓Zb,↓Zc,↓vdn,vup,Zm,Zk,Zn,Zl,Zh,List.map_cons,List.map_nil,cond_true,cond_false,aop,Zv,Zq,Zp,ev,sput,Zt,Zy,Ya,unK,Zd,Zw,Nat.reduceBEq,Nat.reduceAdd,Int.reduceBEq,Int.reduceBNe,Int.reduceLT,Zu,Zz,tup,tyf,Yr,List.nil_append,List.append_nil,List.toList_toArray,List.cons_append,Xy hb Yn hlen.2]
      refine (hlc).mono ?_
      rintro _ G ⟨rfl,rfl⟩
      try simp (maxSteps:=2000000) only [s52,↓Za,↓Zi,↓Zr,↓Ze,↓Zj,↓Zs,↓Zg,↓Zo,↓Zf,↓Zb,↓Zc,↓vdn,vup,Zm,Zk,Zn,Zl,Zh,List.map_cons,List.map_nil,cond_true,cond_false,aop,Zv,Zq,Zp,ev,sput,Zt,Zy,Ya,unK,Zd,Zw,Nat.reduceBEq,Nat.reduceAdd,Int.reduceBEq,Int.reduceBNe,Int.reduceLT,Zu,Zz,tup,tyf]
      refine hN1 [(0,v),(1,w),(4,.int .i64 0),(5,.bool false),(6,.int .i64 0),(7,ptB gl),(8,.bool ok),(10,Zx (x:Nat))] _ _ ?_ (by simp (maxSteps:=2000000) only [↓Za,↓Zi,↓Zr,↓Ze,↓Zj,↓Zs,↓Zg,↓Zo,↓Zf,↓Zb,↓Zc,↓vdn,vup,Zm,Zk,Zn,Zl,Zh,List.map_cons,List.map_nil,cond_true,cond_false,aop,Zv,Zq,Zp,ev,sput,Zt,Zy,Ya,unK,Zd,Zw,Nat.reduceBEq,Nat.reduceAdd,Int.reduceBEq,Int.reduceBNe,Int.reduceLT,Zu,Zz,tup,tyf])
      refine Ym fun Z hZ=>?_
      cases ok with
      | false =>
        refine Yc fun N2 hN2=>?_
        try simp (maxSteps:=2000000) only [s52,↓Za,↓Zi,↓Zr,↓Ze,↓Zj,↓Zs,↓Zg,↓Zo,↓Zf,↓Zb,↓Zc,↓vdn,vup,Zm,Zk,Zn,Zl,Zh,List.map_cons,List.map_nil,cond_true,cond_false,aop,Zv,Zq,Zp,ev,sput,Zt,Zy,Ya,unK,Zd,Zw,Nat.reduceBEq,Nat.reduceAdd,Int.reduceBEq,Int.reduceBNe,Int.reduceLT,Zu,Zz,tup,tyf]
        refine hN2 [(33,.bool true)] _ _ ?_ (by simp (maxSteps:=2000000) only [↓Za,↓Zi,↓Zr,↓Ze,↓Zj,↓Zs,↓Zg,↓Zo,↓Zf,↓Zb,↓Zc,↓vdn,vup,Zm,Zk,Zn,Zl,Zh,List.map_cons,List.map_nil,cond_true,cond_false,aop,Zv,Zq,Zp,ev,sput,Zt,Zy,Ya,unK,Zd,Zw,Nat.reduceBEq,Nat.reduceAdd,Int.reduceBEq,Int.reduceBNe,Int.reduceLT,Zu,Zz,tup,tyf])
        refine Xb rfl ?_
        refine Yf ?_
        try simp (maxSteps:=2000000) only [s52,↓Za,↓Zi,↓Zr,↓Ze,↓Zj,↓Zs,↓Zg,↓Zo,↓Zf,↓Zb,↓Zc,↓vdn,vup,Zm,Zk,Zn,Zl,Zh,List.map_cons,List.map_nil,cond_true,cond_false,aop,Zv,Zq,Zp,ev,sput,Zt,Zy,Ya,unK,Zd,Zw,Nat.reduceBEq,Nat.reduceAdd,Int.reduceBEq,Int.reduceBNe,Int.reduceLT,Zu,Zz,tup,tyf]
        exact ⟨by simp [hP],hE⟩
      | true =>
        refine Yc fun N2 hN2=>?_
        try simp (maxSteps:=2000000) only [s52,↓Za,↓Zi,↓Zr,↓Ze,↓Zj,↓Zs,↓Zg,↓Zo,↓Zf,↓Zb,↓Zc,↓vdn,vup,Zm,Zk,Zn,Zl,Zh,List.map_cons,List.map_nil,cond_true,cond_false,aop,Zv,Zq,Zp,ev,sput,Zt,Zy,Ya,unK,Zd,Zw,Nat.reduceBEq,Nat.reduceAdd,Int.reduceBEq,Int.reduceBNe,Int.reduceLT,Zu,Zz,tup,tyf]
        refine hN2 [(10,Zx (x:Nat)),(33,.bool false)] _ _ ?_ (by simp (maxSteps:=2000000) only [↓Za,↓Zi,↓Zr,↓Ze,↓Zj,↓Zs,↓Zg,↓Zo,↓Zf,↓Zb,↓Zc,↓vdn,vup,Zm,Zk,Zn,Zl,Zh,List.map_cons,List.map_nil,cond_true,cond_false,aop,Zv,Zq,Zp,ev,sput,Zt,Zy,Ya,unK,Zd,Zw,Nat.reduceBEq,Nat.reduceAdd,Int.reduceBEq,Int.reduceBNe,Int.reduceLT,Zu,Zz,tup,tyf])
        refine Xa rfl ?_
        refine Yf ?_
        try simp (maxSteps:=2000000) only [s52,↓Za,↓Zi,↓Zr,↓Ze,↓Zj,↓Zs,↓Zg,↓Zo,↓Zf,↓Zb,↓Zc,↓vdn,vup,Zm,Zk,Zn,Zl,Zh,List.map_cons,List.map_nil,cond_true,cond_false,aop,Zv,Zq,Zp,ev,sput,Zt,Zy,Ya,unK,Zd,Zw,Nat.reduceBEq,Nat.reduceAdd,Int.reduceBEq,Int.reduceBNe,Int.reduceLT,Zu,Zz,tup,tyf]
        refine hZ [(10,Zx (x:Nat))] _ _ ?_ (by simp (maxSteps:=2000000) only [↓Za,↓Zi,↓Zr,↓Ze,↓Zj,↓Zs,↓Zg,↓Zo,↓Zf,↓Zb,↓Zc,↓vdn,vup,Zm,Zk,Zn,Zl,Zh,List.map_cons,List.map_nil,cond_true,cond_false,aop,Zv,Zq,Zp,ev,sput,Zt,Zy,Ya,unK,Zd,Zw,Nat.reduceBEq,Nat.reduceAdd,Int.reduceBEq,Int.reduceBNe,Int.reduceLT,Zu,Zz,tup,tyf])
        refine Yf ?_
        try simp (maxSteps:=2000000) only [s52,↓Za,↓Zi,↓Zr,↓Ze,↓Zj,↓Zs,↓Zg,↓Zo,↓Zf,↓Zb,↓Zc,↓vdn,vup,Zm,Zk,Zn,Zl,Zh,List.map_cons,List.map_nil,cond_true,cond_false,aop,Zv,Zq,Zp,ev,sput,Zt,Zy,Ya,unK,Zd,Zw,Nat.reduceBEq,Nat.reduceAdd,Int.reduceBEq,Int.reduceBNe,Int.reduceLT,Zu,Zz,tup,tyf]
        exact ⟨by simp [hP],hE⟩
     by_cases h0:P.length=0
     · have q0:(((P.length:Nat):Int)==0)=true:=by rw [h0]; rfl
       refine Yc fun N7 hN7=>?_
       simp (maxSteps:=2000000) only [s52,↓Za,↓Zi,↓Zr,↓Ze,↓Zj,↓Zs,↓Zg,↓Zo,↓Zf,↓Zb,↓Zc,↓vdn,vup,Zm,Zk,Zn,Zl,Zh,List.map_cons,List.map_nil,cond_true,cond_false,aop,Zv,Zq,Zp,ev,sput,Zt,Zy,Ya,unK,Zd,Zw,Nat.reduceBEq,Nat.reduceAdd,Int.reduceBEq,Int.reduceBNe,Int.reduceLT,Zu,Zz,tup,tyf,hwG.len,q0]
       refine hN7 [(0,v),(1,w),(4,.int .i64 0),(5,.bool false),(6,.int .i64 0),(7,ptB gl),(8,.bool true),(9,.int .i64 0),(24,.bool true)] _ _ ?_ (by simp (maxSteps:=2000000) only [↓Za,↓Zi,↓Zr,↓Ze,↓Zj,↓Zs,↓Zg,↓Zo,↓Zf,↓Zb,↓Zc,↓vdn,vup,Zm,Zk,Zn,Zl,Zh,List.map_cons,List.map_nil,cond_true,cond_false,aop,Zv,Zq,Zp,ev,sput,Zt,Zy,Ya,unK,Zd,Zw,Nat.reduceBEq,Nat.reduceAdd,Int.reduceBEq,Int.reduceBNe,Int.reduceLT,Zu,Zz,tup,tyf])
       clear hN7
       try clear N7
       refine Xb rfl ?_
       refine Yf ?_
       try simp (maxSteps:=2000000) only [s52,↓Za,↓Zi,↓Zr,↓Ze,↓Zj,↓Zs,↓Zg,↓Zo,↓Zf,↓Zb,↓Zc,↓vdn,vup,Zm,Zk,Zn,Zl,Zh,List.map_cons,List.map_nil,cond_true,cond_false,aop,Zv,Zq,Zp,ev,sput,Zt,Zy,Ya,unK,Zd,Zw,Nat.reduceBEq,Nat.reduceAdd,Int.reduceBEq,Int.reduceBNe,Int.reduceLT,Zu,Zz,tup,tyf]
       exact tail _ (by simp (maxSteps:=2000000) only [↓Za,↓Zi,↓Zr,↓Ze,↓Zj,↓Zs,↓Zg,↓Zo,↓Zf,↓Zb,↓Zc,↓vdn,vup,Zm,Zk,Zn,Zl,Zh,List.map_cons,List.map_nil,cond_true,cond_false,aop,Zv,Zq,Zp,ev,sput,Zt,Zy,Ya,unK,Zd,Zw,Nat.reduceBEq,Nat.reduceAdd,Int.reduceBEq,Int.reduceBNe,Int.reduceLT,Zu,Zz,tup,tyf,fstP,if_pos h0])
     · have q0:(((P.length:Nat):Int)==0)=false:=by
        have:((P.length:Nat):Int)≠0:=by omega
        simpa using this
       refine Yc fun N8 hN8=>?_
       simp (maxSteps:=2000000) only [s52,↓Za,↓Zi,↓Zr,↓Ze,↓Zj,↓Zs,↓Zg,↓Zo,↓Zf,↓Zb,↓Zc,↓vdn,vup,Zm,Zk,Zn,Zl,Zh,List.map_cons,List.map_nil,cond_true,cond_false,aop,Zv,Zq,Zp,ev,sput,Zt,Zy,Ya,unK,Zd,Zw,Nat.reduceBEq,Nat.reduceAdd,Int.reduceBEq,Int.reduceBNe,Int.reduceLT,Zu,Zz,tup,tyf,hwG.len,q0]
       refine hN8 [(0,v),(1,w),(4,.int .i64 0),(5,.bool false),(6,.int .i64 0),(7,ptB gl),(8,.bool true),(9,.int .i64 0),(24,.bool false)] _ _ ?_ (by simp (maxSteps:=2000000) only [↓Za,↓Zi,↓Zr,↓Ze,↓Zj,↓Zs,↓Zg,↓Zo,↓Zf,↓Zb,↓Zc,↓vdn,vup,Zm,Zk,Zn,Zl,Zh,List.map_cons,List.map_nil,cond_true,cond_false,aop,Zv,Zq,Zp,ev,sput,Zt,Zy,Ya,unK,Zd,Zw,Nat.reduceBEq,Nat.reduceAdd,Int.reduceBEq,Int.reduceBNe,Int.reduceLT,Zu,Zz,tup,tyf])
       clear hN8
       try clear N8
       refine Xa rfl ?_
       refine Yf ?_
       try simp (maxSteps:=2000000) only [s52,↓Za,↓Zi,↓Zr,↓Ze,↓Zj,↓Zs,↓Zg,↓Zo,↓Zf,↓Zb,↓Zc,↓vdn,vup,Zm,Zk,Zn,Zl,Zh,List.map_cons,List.map_nil,cond_true,cond_false,aop,Zv,Zq,Zp,ev,sput,Zt,Zy,Ya,unK,Zd,Zw,Nat.reduceBEq,Nat.reduceAdd,Int.reduceBEq,Int.reduceBNe,Int.reduceLT,Zu,Zz,tup,tyf]
       exact tail _ (by simp (maxSteps:=2000000) only [↓Za,↓Zi,↓Zr,↓Ze,↓Zj,↓Zs,↓Zg,↓Zo,↓Zf,↓Zb,↓Zc,↓vdn,vup,Zm,Zk,Zn,Zl,Zh,List.map_cons,List.map_nil,cond_true,cond_false,aop,Zv,Zq,Zp,ev,sput,Zt,Zy,Ya,unK,Zd,Zw,Nat.reduceBEq,Nat.reduceAdd,Int.reduceBEq,Int.reduceBNe,Int.reduceLT,Zu,Zz,tup,tyf,fstP,if_neg h0])
def SortR (o:List Int) (s:Value) (e:Int) (h:Yb):Prop :=
 if ord o=true then e=0∧∃ P:List Qd,QuadSl h s P∧P.length≤800∧isPlB o.length P=true∧lenV P 1000 (fstP P) o=(Vg o,true) else e=2∧s = .slice none 0 0
theorem s51_callW [Tabs Tryd.prog] {args:List Value} {h:Yb} {Q:Value→Yb→Prop} (hsz:args.length≤29) (hk:AWS Tryd.prog 29 s51 (Zu Tryd.prog [.tmp 2,.tmp 3] Q) (Zp 0 args) h):ACall Tryd.prog 51 args h Q :=
 Wn Tryd.func51 rfl (enters_of Tryd.func51 (by kernel_rfl) rfl) rfl rfl (by decide) s51_strip s51_ok hsz hk
theorem sort_call [BitTab prog 1] {h:Yb} {v:Value} {o:List Int} (hv:IntSl h v o) (hl:o.length<9223372036854775808) (hx : ∀ x∈o,-9223372036854775808≤x∧x<9223372036854775808) :
  ACall prog 51 [v] h fun r h'=>Ext (fun _=>False) h h'∧∃ s e,r = .tuple #[s,.int .i64 e]∧SortR o s e h':=by
 refine s51_callW (by simp) ?_
 simp only [s51]
 refine Yc fun N9 hN9=>?_
 simp (maxSteps:=2000000) only [s51,↓Za,↓Zi,↓Zr,↓Ze,↓Zj,↓Zs,↓Zg,↓Zo,↓Zf,↓Zb,↓Zc,↓vdn,vup,Zm,Zk,Zn,Zl,Zh,List.map_cons,List.map_nil,cond_true,cond_false,aop,Zv,Zq,Zp,ev,sput,Zt,Zy,Ya,unK,Zd,Zw,Nat.reduceBEq,Nat.reduceAdd,Int.reduceBEq,Int.reduceBNe,Int.reduceLT,Zu,Zz,tup,tyf]
 refine hN9 [(0,v),(2,.slice none 0 0),(3,.int .i64 0)] _ _ ?_ (by simp (maxSteps:=2000000) only [↓Za,↓Zi,↓Zr,↓Ze,↓Zj,↓Zs,↓Zg,↓Zo,↓Zf,↓Zb,↓Zc,↓vdn,vup,Zm,Zk,Zn,Zl,Zh,List.map_cons,List.map_nil,cond_true,cond_false,aop,Zv,Zq,Zp,ev,sput,Zt,Zy,Ya,unK,Zd,Zw,Nat.reduceBEq,Nat.reduceAdd,Int.reduceBEq,Int.reduceBNe,Int.reduceLT,Zu,Zz,tup,tyf])
 clear hN9
 try clear N9
 refine Yc fun N10 hN10=>?_
 simp (maxSteps:=2000000) only [s51,↓Za,↓Zi,↓Zr,↓Ze,↓Zj,↓Zs,↓Zg,↓Zo,↓Zf,↓Zb,↓Zc,↓vdn,vup,Zm,Zk,Zn,Zl,Zh,List.map_cons,List.map_nil,cond_true,cond_false,aop,Zv,Zq,Zp,ev,sput,Zt,Zy,Ya,unK,Zd,Zw,Nat.reduceBEq,Nat.reduceAdd,Int.reduceBEq,Int.reduceBNe,Int.reduceLT,Zu,Zz,tup,tyf,Yr,List.nil_append,List.append_nil,List.toList_toArray,List.cons_append]
 refine (read_call hv hl hx).mono ?_
 rintro _ g ⟨rfl,rfl⟩
 try simp (maxSteps:=2000000) only [s51,↓Za,↓Zi,↓Zr,↓Ze,↓Zj,↓Zs,↓Zg,↓Zo,↓Zf,↓Zb,↓Zc,↓vdn,vup,Zm,Zk,Zn,Zl,Zh,List.map_cons,List.map_nil,cond_true,cond_false,aop,Zv,Zq,Zp,ev,sput,Zt,Zy,Ya,unK,Zd,Zw,Nat.reduceBEq,Nat.reduceAdd,Int.reduceBEq,Int.reduceBNe,Int.reduceLT,Zu,Zz,tup,tyf,We,Xj,zeroN,zero_77]
 rw [storeRd]
 obtain ⟨hE,hb⟩:=rdBox g o
 generalize hgl:g.length=gl at hE hb ⊢
 generalize (g++[Blk.cells (ordN 0) 77 false]).set gl (.cells (rdC o) 77 false)=G at hE hb ⊢
 cases ho:ord o with
 | false =>
   refine hN10 [(0,v),(2,.slice none 0 0),(3,.int .i64 0),(4,ptB gl),(5,.bool false)] _ _ ?_ (by simp (maxSteps:=2000000) only [↓Za,↓Zi,↓Zr,↓Ze,↓Zj,↓Zs,↓Zg,↓Zo,↓Zf,↓Zb,↓Zc,↓vdn,vup,Zm,Zk,Zn,Zl,Zh,List.map_cons,List.map_nil,cond_true,cond_false,aop,Zv,Zq,Zp,ev,sput,Zt,Zy,Ya,unK,Zd,Zw,Nat.reduceBEq,Nat.reduceAdd,Int.reduceBEq,Int.reduceBNe,Int.reduceLT,Zu,Zz,tup,tyf])
   clear hN10
   try clear N10
   refine Ym fun C hC=>?_
   refine Yc fun N11 hN11=>?_
   simp (maxSteps:=2000000) only [s51,↓Za,↓Zi,↓Zr,↓Ze,↓Zj,↓Zs,↓Zg,↓Zo,↓Zf,↓Zb,↓Zc,↓vdn,vup,Zm,Zk,Zn,Zl,Zh,List.map_cons,List.map_nil,cond_true,cond_false,aop,Zv,Zq,Zp,ev,sput,Zt,Zy,Ya,unK,Zd,Zw,Nat.reduceBEq,Nat.reduceAdd,Int.reduceBEq,Int.reduceBNe,Int.reduceLT,Zu,Zz,tup,tyf]
   refine hN11 [(0,v),(2,.slice none 0 0),(3,.int .i64 0),(4,ptB gl),(5,.bool false),(15,.bool true)] _ _ ?_ (by simp (maxSteps:=2000000) only [↓Za,↓Zi,↓Zr,↓Ze,↓Zj,↓Zs,↓Zg,↓Zo,↓Zf,↓Zb,↓Zc,↓vdn,vup,Zm,Zk,Zn,Zl,Zh,List.map_cons,List.map_nil,cond_true,cond_false,aop,Zv,Zq,Zp,ev,sput,Zt,Zy,Ya,unK,Zd,Zw,Nat.reduceBEq,Nat.reduceAdd,Int.reduceBEq,Int.reduceBNe,Int.reduceLT,Zu,Zz,tup,tyf])
   clear hN11
   try clear N11
   refine Xb rfl ?_
   refine Yf ?_
   try simp (maxSteps:=2000000) only [s51,↓Za,↓Zi,↓Zr,↓Ze,↓Zj,↓Zs,↓Zg,↓Zo,↓Zf,↓Zb,↓Zc,↓vdn,vup,Zm,Zk,Zn,Zl,Zh,List.map_cons,List.map_nil,cond_true,cond_false,aop,Zv,Zq,Zp,ev,sput,Zt,Zy,Ya,unK,Zd,Zw,Nat.reduceBEq,Nat.reduceAdd,Int.reduceBEq,Int.reduceBNe,Int.reduceLT,Zu,Zz,tup,tyf]
   exact ⟨hE,_,_,rfl,by rw [SortR,ho,if_neg (by decide)]; exact ⟨rfl,rfl⟩⟩
 | true =>
   have hlen:=Yz ho
   have hc720:=cn_720 ho
   have hcp:=cn_pos ho
   have hrd:rdC o=Xt o:=if_pos hlen
   rw [hrd] at hb
   obtain ⟨hn16,hnT,hnF⟩:=needN_spec ho
   refine hN10 [(0,v),(2,.slice none 0 0),(3,.int .i64 0),(4,ptB gl),(5,.bool true)] _ _ ?_ (by simp (maxSteps:=2000000) only [↓Za,↓Zi,↓Zr,↓Ze,↓Zj,↓Zs,↓Zg,↓Zo,↓Zf,↓Zb,↓Zc,↓vdn,vup,Zm,Zk,Zn,Zl,Zh,List.map_cons,List.map_nil,cond_true,cond_false,aop,Zv,Zq,Zp,ev,sput,Zt,Zy,Ya,unK,Zd,Zw,Nat.reduceBEq,Nat.reduceAdd,Int.reduceBEq,Int.reduceBNe,Int.reduceLT,Zu,Zz,tup,tyf])
   clear hN10
   try clear N10
   refine Ym fun C hC=>?_
   refine Yc fun N12 hN12=>?_
   simp (maxSteps:=2000000) only [s51,↓Za,↓Zi,↓Zr,↓Ze,↓Zj,↓Zs,↓Zg,↓Zo,↓Zf,↓Zb,↓Zc,↓vdn,vup,Zm,Zk,Zn,Zl,Zh,List.map_cons,List.map_nil,cond_true,cond_false,aop,Zv,Zq,Zp,ev,sput,Zt,Zy,Ya,unK,Zd,Zw,Nat.reduceBEq,Nat.reduceAdd,Int.reduceBEq,Int.reduceBNe,Int.reduceLT,Zu,Zz,tup,tyf]
   refine hN12 [(0,v),(2,.slice none 0 0),(3,.int .i64 0),(4,ptB gl),(5,.bool true),(15,.bool false)] _ _ ?_ (by simp (maxSteps:=2000000) only [↓Za,↓Zi,↓Zr,↓Ze,↓Zj,↓Zs,↓Zg,↓Zo,↓Zf,↓Zb,↓Zc,↓vdn,vup,Zm,Zk,Zn,Zl,Zh,List.map_cons,List.map_nil,cond_true,cond_false,aop,Zv,Zq,Zp,ev,sput,Zt,Zy,Ya,unK,Zd,Zw,Nat.reduceBEq,Nat.reduceAdd,Int.reduceBEq,Int.reduceBNe,Int.reduceLT,Zu,Zz,tup,tyf])
   clear hN12
   try clear N12
   refine Xa rfl ?_
   refine Yf ?_
   try simp (maxSteps:=2000000) only [s51,↓Za,↓Zi,↓Zr,↓Ze,↓Zj,↓Zs,↓Zg,↓Zo,↓Zf,↓Zb,↓Zc,↓vdn,vup,Zm,Zk,Zn,Zl,Zh,List.map_cons,List.map_nil,cond_true,cond_false,aop,Zv,Zq,Zp,ev,sput,Zt,Zy,Ya,unK,Zd,Zw,Nat.reduceBEq,Nat.reduceAdd,Int.reduceBEq,Int.reduceBNe,Int.reduceLT,Zu,Zz,tup,tyf]
   refine hC [(0,v),(2,.slice none 0 0),(3,.int .i64 0),(4,ptB gl),(5,.bool true)] _ _ ?_ (by simp (maxSteps:=2000000) only [↓Za,↓Zi,↓Zr,↓Ze,↓Zj,↓Zs,↓Zg,↓Zo,↓Zf,↓Zb,↓Zc,↓vdn,vup,Zm,Zk,Zn,Zl,Zh,List.map_cons,List.map_nil,cond_true,cond_false,aop,Zv,Zq,Zp,ev,sput,Zt,Zy,Ya,unK,Zd,Zw,Nat.reduceBEq,Nat.reduceAdd,Int.reduceBEq,Int.reduceBNe,Int.reduceLT,Zu,Zz,tup,tyf])
   clear hC
   try clear C
   have d0:(G++[Blk.map []]++[Blk.cells [.map (some G.length)] 100 false])[gl]? = some (.cells (Xt o) 77 false):=Yy (Yy hb _) _
   have d1:SK (G.length+1) G.length (G++[Blk.map []]++[Blk.cells [.map (some G.length)] 100 false]):=by
    refine ⟨?_,[],Yy (Yp _ _) _,fun p hp=>(List.not_mem_nil hp).elim,fun o n v _ hv=>by cases hv⟩
    have:=Yp (G++[Blk.map []]) (Blk.cells [.map (some G.length)] 100 false)
    rw [List.length_append,List.length_singleton] at this
    exact this
   have hE2:Ext (fun _=>False) g (G++[Blk.map []]++[Blk.cells [.map (some G.length)] 100 false]):=by rw [List.append_assoc]; exact hE.trans (Ext.app _ _ _)
   have hbmg:g.length≤G.length:=hE.1
   refine Yc fun N13 hN13=>?_
   try simp (maxSteps:=2000000) only [s51,↓Za,↓Zi,↓Zr,↓Ze,↓Zj,↓Zs,↓Zg,↓Zo,↓Zf,↓Zb,↓Zc,↓vdn,vup,Zm,Zk,Zn,Zl,Zh,List.map_cons,List.map_nil,cond_true,cond_false,aop,Zv,Zq,Zp,ev,sput,Zt,Zy,Ya,unK,Zd,Zw,Nat.reduceBEq,Nat.reduceAdd,Int.reduceBEq,Int.reduceBNe,Int.reduceLT,Zu,Zz,tup,tyf,isPick_map,makeMapK,bld100,boxK,esz_100,cellsOf,Option.isSome_some,Xj,List.length_append,List.length_cons,List.length_nil,Nat.zero_add]
   generalize G++[Blk.map []]++[Blk.cells [.map (some G.length)] 100 false]=G2 at d0 d1 hE2 ⊢
   generalize G.length=bm at d1 hbmg ⊢
   refine hN13 [(0,v),(2,.slice none 0 0),(3,.int .i64 0),(4,ptB gl),(5,.bool true),(6,ptB (bm+1))] _ _ ?_ (by simp (maxSteps:=2000000) only [↓Za,↓Zi,↓Zr,↓Ze,↓Zj,↓Zs,↓Zg,↓Zo,↓Zf,↓Zb,↓Zc,↓vdn,vup,Zm,Zk,Zn,Zl,Zh,List.map_cons,List.map_nil,cond_true,cond_false,aop,Zv,Zq,Zp,ev,sput,Zt,Zy,Ya,unK,Zd,Zw,Nat.reduceBEq,Nat.reduceAdd,Int.reduceBEq,Int.reduceBNe,Int.reduceLT,Zu,Zz,tup,tyf])
   clear hN13
   try clear N13
   refine Yc fun N14 hN14=>?_
   simp only [q51_5]
   refine aw_drawR (fun z=>z[gl]? = some (.cells (Xt o) 77 false)) [(1,5),(4,4),(5,4)] (by kernel_rfl) (by kernel_rfl) (by kernel_rfl) (by kernel_rfl) d0 ?_
   try simp (maxSteps:=2000000) only [s51,↓Za,↓Zi,↓Zr,↓Ze,↓Zj,↓Zs,↓Zg,↓Zo,↓Zf,↓Zb,↓Zc,↓vdn,vup,Zm,Zk,Zn,Zl,Zh,List.map_cons,List.map_nil,cond_true,cond_false,aop,Zv,Zq,Zp,ev,sput,Zt,Zy,Ya,unK,Zd,Zw,Nat.reduceBEq,Nat.reduceAdd,Int.reduceBEq,Int.reduceBNe,Int.reduceLT,Zu,Zz,tup,tyf]
   refine ⟨ordV o,fun z hz=>by simp only [Xy hz Yn hlen.2],?_⟩
   try simp (maxSteps:=2000000) only [s51,↓Za,↓Zi,↓Zr,↓Ze,↓Zj,↓Zs,↓Zg,↓Zo,↓Zf,↓Zb,↓Zc,↓vdn,vup,Zm,Zk,Zn,Zl,Zh,List.map_cons,List.map_nil,cond_true,cond_false,aop,Zv,Zq,Zp,ev,sput,Zt,Zy,Ya,unK,Zd,Zw,Nat.reduceBEq,Nat.reduceAdd,Int.reduceBEq,Int.reduceBNe,Int.reduceLT,Zu,Zz,tup,tyf,Xy d0 Yn hlen.2,Yr,List.nil_append,List.append_nil,List.toList_toArray,List.cons_append]
   refine (need_call ho d1).mono ?_
   rintro _ G3 ⟨rfl,hs3,hE3⟩
   have d3:=(hE3.2 _ (Yg d0) (d1.ne d0)).trans d0
   refine ⟨d3,?_⟩
   try simp (maxSteps:=2000000) only [s51,↓Za,↓Zi,↓Zr,↓Ze,↓Zj,↓Zs,↓Zg,↓Zo,↓Zf,↓Zb,↓Zc,↓vdn,vup,Zm,Zk,Zn,Zl,Zh,List.map_cons,List.map_nil,cond_true,cond_false,aop,Zv,Zq,Zp,ev,sput,Zt,Zy,Ya,unK,Zd,Zw,Nat.reduceBEq,Nat.reduceAdd,Int.reduceBEq,Int.reduceBNe,Int.reduceLT,Zu,Zz,tup,tyf,Yr,List.nil_append,List.append_nil,List.toList_toArray,List.cons_append]
   refine (plan_call (Vg o) (by omega) G3 o (.slice none 0 0) [] ho hnT hs3 (.inl ⟨rfl,rfl⟩) (by show 0+cn o≤1000000; omega)).mono ?_
   rintro _ G4 ⟨l,a,P,d,rfl,hoP,hPl,hs4,hE4,_,hpl,hnd,hat,hz⟩
   simp only [List.nil_append,List.length_nil,Nat.zero_add,Nat.zero_le,forall_const] at hoP hpl hnd hat
   have d4:=(hE4.2 _ (Yg d3) fun hc=>hc.elim (fun e=>hs3.ne d3 e) fun e=>by cases e).trans d3
   refine ⟨d4,?_⟩
   try simp (maxSteps:=2000000) only [s51,↓Za,↓Zi,↓Zr,↓Ze,↓Zj,↓Zs,↓Zg,↓Zo,↓Zf,↓Zb,↓Zc,↓vdn,vup,Zm,Zk,Zn,Zl,Zh,List.map_cons,List.map_nil,cond_true,cond_false,aop,Zv,Zq,Zp,ev,sput,Zt,Zy,Ya,unK,Zd,Zw,Nat.reduceBEq,Nat.reduceAdd,Int.reduceBEq,Int.reduceBNe,Int.reduceLT,Zu,Zz,tup,tyf]
   refine hN14 [(0,v),(2,.slice none 0 0),(3,.int .i64 0),(4,ptB gl),(5,.bool true),(6,ptB (bm+1)),(7,l)] _ _ ?_ (by simp (maxSteps:=2000000) only [↓Za,↓Zi,↓Zr,↓Ze,↓Zj,↓Zs,↓Zg,↓Zo,↓Zf,↓Zb,↓Zc,↓vdn,vup,Zm,Zk,Zn,Zl,Zh,List.map_cons,List.map_nil,cond_true,cond_false,aop,Zv,Zq,Zp,ev,sput,Zt,Zy,Ya,unK,Zd,Zw,Nat.reduceBEq,Nat.reduceAdd,Int.reduceBEq,Int.reduceBNe,Int.reduceLT,Zu,Zz,tup,tyf])
   clear hN14
   try clear N14
   refine Yf ?_
   try simp (maxSteps:=2000000) only [s51,↓Za,↓Zi,↓Zr,↓Ze,↓Zj,↓Zs,↓Zg,↓Zo,↓Zf,↓Zb,↓Zc,↓vdn,vup,Zm,Zk,Zn,Zl,Zh,List.map_cons,List.map_nil,cond_true,cond_false,aop,Zv,Zq,Zp,ev,sput,Zt,Zy,Ya,unK,Zd,Zw,Nat.reduceBEq,Nat.reduceAdd,Int.reduceBEq,Int.reduceBNe,Int.reduceLT,Zu,Zz,tup,tyf]
   have hEE:Ext (fun _=>False) g G4:=⟨Nat.le_trans hE2.1 (Nat.le_trans hE3.1 hE4.1),fun i hi hf=>by
    rw [hE4.2 i (Nat.lt_of_lt_of_le hi (Nat.le_trans hE2.1 hE3.1)) (fun hc=>hc.elim (fun e=>by omega) fun e=>by cases e),hE3.2 i (Nat.lt_of_lt_of_le hi hE2.1) (by omega)]
    exact hE2.2 i hi hf⟩
   have hisP:isPlB o.length P=true:=by
    rw [isPlB,Bool.and_eq_true,decide_eq_true_eq,List.all_eq_true]
    exact ⟨fun i hi=>hnd i (List.mem_range.1 hi),by omega⟩
   have hfa:fstP P=a:=by
    unfold fstP
    have h2:=hpl.at
    split
    · rename_i h0
      rcases h2 with h | h
      · exact h.symm
      · omega
    · rename_i h0
      rcases hat with h | h
      · have:=hz h; omega
      · exact h.symm
   have hlen2:=plan_len (F:=1000) hpl (by omega)
   have hdn:d=Vg o:=by
    have h1:=hpl.le
    have h2:=len_srtb hisP 1000 a o ho rfl (by rcases hpl.at with h | h; exact .inl h; exact .inr ⟨by omega,h.2⟩) (by rw [hlen2])
    rw [hlen2] at h2
    rcases Nat.lt_or_ge d (Vg o) with h3 | h3
    · have h4:=hnF d h3
      rw [show Wv d o=true from h2] at h4; cases h4
    · omega
   exact ⟨hEE,_,_,rfl,by
    rw [SortR,ho,if_pos rfl]
    exact ⟨rfl,P,hoP.quad,by omega,hisP,by rw [hfa,hlen2,hdn]⟩⟩
end Go.Proofs.Tryd.Am
namespace Ord
theorem sub_len {α:Type} [DecidableEq α] : ∀ {l1 l2:List α},l1.Nodup→(∀ a∈l1,a∈l2)→l1.length≤l2.length
 | [],_,_,_=>Nat.zero_le _
 | a::l1,l2,hn,hs=>by
   obtain ⟨ha,hn'⟩:=List.nodup_cons.1 hn
   have hal:a∈l2:=hs a (by simp)
   have:=sub_len (l1:=l1) (l2:=l2.erase a) hn' fun b hb=>(List.mem_erase_of_ne (by rintro rfl; exact ha hb)).2 (hs b (by simp [hb]))
   rw [List.length_erase_of_mem hal] at this
   have:=List.length_pos_of_mem hal
   simp only [List.length_cons]; omega
theorem map_nodup {α β:Type} {f:α→β} : ∀ {l:List α},l.Nodup→(∀ a∈l,∀ b∈l,f a=f b→a=b)→(l.map f).Nodup
 | [],_,_=>List.nodup_nil
 | a::l,hn,hf=>by
   obtain ⟨ha,hn'⟩:=List.nodup_cons.1 hn
   rw [List.map_cons,List.nodup_cons]
   refine ⟨fun hm=>?_,map_nodup hn' fun b hb c hc=>hf b (by simp [hb]) c (by simp [hc])⟩
   obtain ⟨b,hb,he⟩:=List.mem_map.1 hm
   exact ha (hf b (by simp [hb]) a (by simp) he▸hb)
def cmpb (r:Nat→Nat→Bool) (x y:Nat):Prop:=x=y∨r x y=true∨r y x=true
structure Chn (r:Nat→Nat→Bool) (S:List Nat) (k:Nat) (f:Nat→Nat):Prop where
 lt : ∀ x∈S,f x<k
 ch : ∀ x∈S,∀ y∈S,f x=f y→cmpb r x y
structure Ant (r:Nat→Nat→Bool) (S A:List Nat):Prop where
 sub : ∀ a∈A,a∈S
 nd:A.Nodup
 an : ∀ a∈A,∀ b∈A,r a b=false
section
variable {r:Nat→Nat→Bool} {S A:List Nat} {k:Nat} {f:Nat→Nat}
theorem Chn.inj (hc:Chn r S k f) (ha:Ant r S A) : ∀ a∈A,∀ b∈A,f a=f b→a=b:=fun a h1 b h2 he=>by
 rcases hc.ch a (ha.sub a h1) b (ha.sub b h2) he with h | h | h
 · exact h
 · rw [ha.an a h1 b h2] at h; cases h
 · rw [ha.an b h2 a h1] at h; cases h
theorem Chn.nd (hc:Chn r S k f) (ha:Ant r S A):(A.map f).Nodup:=map_nodup ha.nd (hc.inj ha)
theorem Chn.sub (hc:Chn r S k f) (ha:Ant r S A) : ∀ i∈A.map f,i∈List.range k:=fun i hi=>by
 obtain ⟨a,h1,rfl⟩:=List.mem_map.1 hi
 exact List.mem_range.2 (hc.lt a (ha.sub a h1))
theorem Chn.le (hc:Chn r S k f) (ha:Ant r S A):A.length≤k:=by
 have:=sub_len (hc.nd ha) (hc.sub ha)
 simpa using this
end
theorem Ant.mono {r:Nat→Nat→Bool} {S T A:List Nat} (h:Ant r T A) (hs : ∀ a∈T,a∈S):Ant r S A:=⟨fun a ha=>hs a (h.sub a ha),h.nd,h.an⟩
end Ord
namespace Ord
set_option maxRecDepth 100000
theorem cn_mono {o o' : List Int} (ho:ord o=true) (ho' : ord o' = true) (hl:o'.length=o.length) (h : ∀ a b,ab o a b=true→ab o' a b=true):cn o'≤cn o:=by
 rw [← allLines_len,← allLines_len]
 refine sub_len (Wr List.nodup_range) fun l hm=>?_
 obtain ⟨h1,h2⟩:=(mem_all ho').1 hm
 refine (mem_all ho).2 ⟨by rw [← hl]; exact h1,h2.imp fun {a b} hab=>?_⟩
 cases hc:ab o b a with
 | false=>rfl
 | true=>rw [h b a hc] at hab; cases hab
theorem add_sub {o o' : List Int} (ho:ord o=true) (ho' : ord o' = true) (h : ∀ a b,ab o a b=true→ab o' a b=true) {i j:Nat} (hi:i<o.length) (hij:ab o' i j=true) : ∀ a b,ab (Wp o i j) a b=true→ab o' a b=true:=fun a b hab=>by
 rw [addL_ab hi ho,addR,Bool.or_eq_true,Bool.and_eq_true,Bool.or_eq_true,Bool.or_eq_true,beq_iff_eq,beq_iff_eq] at hab
 have tr:=(ord_po ho').tr
 rcases hab with hab | ⟨h1,h2⟩
 · exact h a b hab
 · have h3:ab o' a j=true:=by
    rcases h1 with rfl | h1
    · exact hij
    · exact tr a i j (h a i h1) hij
   rcases h2 with rfl | h2
   · exact h3
   · exact tr a j b h3 (h j b h2)
theorem srtb_sub : ∀ (n:Nat) {o o' : List Int},ord o=true→ord o' = true→o'.length=o.length→(∀ a b,ab o a b=true→ab o' a b=true)→Wv n o=true→Wv n o' = true
 | 0,o,o',ho,ho',hl,h,hs=>by
   rw [Wv,beq_iff_eq] at hs ⊢
   have:=cn_mono ho ho' hl h
   have:=cn_pos ho'
   omega
 | n+1,o,o',ho,ho',hl,h,hs=>by
   by_cases h1:cn o' = 1
   · rw [Wv,h1]; rfl
   have hcm:=cn_mono ho ho' hl h
   have hcp:=cn_pos ho'
   have hcn:=srtb_cn hs
   rw [Wv,Bool.or_eq_true,Bool.and_eq_true,beq_iff_eq] at hs
   obtain ⟨_,hs⟩:=hs.resolve_left (by omega)
   obtain ⟨i,hi,hs⟩:=List.any_eq_true.1 hs
   obtain ⟨j,hj,hs⟩:=List.any_eq_true.1 hs
   rw [Bool.and_eq_true,Bool.and_eq_true,Bool.and_eq_true,decide_eq_true_eq] at hs
   obtain ⟨hij,hf,s1,s2⟩:=hs
   have hi:=List.mem_range.1 hi
   have hj:=List.mem_range.1 hj
   obtain ⟨f1,f2,f3⟩:=fr_out hf
   have o1:=Xu ho hi hj f1 f3
   have o2:=Xu ho hj hi (Ne.symm f1) f2
   cases ha:ab o' i j with
   | true=>exact srtb_mono (srtb_sub n o1 ho' (by rw [Xh]; exact hl) (add_sub ho ho' h hi ha) s1)
   | false =>
     cases hb:ab o' j i with
     | true=>exact srtb_mono (srtb_sub n o2 ho' (by rw [Xh]; exact hl) (add_sub ho ho' h hj hb) s2)
     | false =>
       have hi' : i<o'.length:=by omega
       have hj' : j<o'.length:=by omega
       have p1:=Xu ho' hi' hj' f1 hb
       have p2:=Xu ho' hj' hi' (Ne.symm f1) ha
       have w1 : ∀ a b,ab o a b=true→ab (Wp o' i j) a b=true:=fun a b hab=>by rw [addL_ab hi' ho',addR,h a b hab]; rfl
       have w2 : ∀ a b,ab o a b=true→ab (Wp o' j i) a b=true:=fun a b hab=>by rw [addL_ab hj' ho',addR,h a b hab]; rfl
       have e1:ab (Wp o' i j) i j=true:=by rw [addL_ab hi' ho',addR]; simp
       have e2:ab (Wp o' j i) j i=true:=by rw [addL_ab hj' ho',addR]; simp
       have t1:=srtb_sub n o1 p1 (by rw [Xh,Xh]; exact hl) (add_sub ho p1 w1 hi e1) s1
       have t2:=srtb_sub n o2 p2 (by rw [Xh,Xh]; exact hl) (add_sub ho p2 w2 hj e2) s2
       rw [Wv,Bool.or_eq_true,Bool.and_eq_true,decide_eq_true_eq]
       refine .inr ⟨by omega,List.any_eq_true.2 ⟨i,List.mem_range.2 hi',List.any_eq_true.2 ⟨j,List.mem_range.2 hj',?_⟩⟩⟩
       rw [Bool.and_eq_true,Bool.and_eq_true,Bool.and_eq_true]
       exact ⟨decide_eq_true hij,by rw [fr,decide_eq_true f1,ha,hb]; rfl,t1,t2⟩
/-! Free elements. -/
theorem cnt_zero {r:Nat→Nat→Bool} (h : ∀ i j,r i j=false) : ∀ (k:Nat) (S:List Nat),S.length=k→cnt r k S=Nat.rec 1 (fun k f=>(k+1)*f) k
 | 0,_,_=>rfl
 | k+1,S,hS=>by
   have hf:Wi r S=S:=List.filter_eq_self.2 fun i _=>List.all_eq_true.2 fun j _=>by rw [h]; rfl
   rw [cnt,hf]
   have e:(S.map fun i=>cnt r k (S.erase i))=S.map fun _=>Nat.rec 1 (fun k f=>(k+1)*f) k:=List.map_congr_left fun i hi=>cnt_zero h k _ (by rw [List.length_erase_of_mem hi,hS]; rfl)
   rw [e,List.map_const',List.sum_replicate_nat,hS]
theorem cn_zeros (n:Nat):cn (zeros n)=Nat.rec 1 (fun k f=>(k+1)*f) n:=by
 rw [cn,cnt_zero (fun i j=>zeros_ab) _ _ (by rw [List.length_range])]
 rw [show (zeros n).length=n by simp [zeros]]
inductive Tr where
 | e:Tr
 | b (i j:Nat) (l r:Tr):Tr
noncomputable def addN (R:List Nat) (i u:Nat) (k:Nat):List Nat :=
 List.rec (motive:=fun _=>Nat→List Nat) (fun _=>[]) (fun r _ ih k=>(bif k.beq i || r.testBit i then r ||| u else r)::ih (k+1)) R k
def Ue (R:List Nat) (i:Nat):Nat:=R.getD i 0
def totB (R:List Nat):Bool:=(List.range R.length).all fun i=>(List.range R.length).all fun j=>i.beq j || ((Ue R i).testBit j || (Ue R j).testBit i)
noncomputable def chkT (t:Tr):List Nat→Nat→Bool :=
 Tr.rec (motive:=fun _=>List Nat→Nat→Bool) (fun R _=>totB R)
  (fun i j _ _ fl fr R n=>match n with
   | 0=>false
   | m+1=>(!i.beq j&&(i.blt R.length&&j.blt R.length))&&((!(Ue R i).testBit j && !(Ue R j).testBit i)&&(fl (addN R i (Ue R j ||| 2 ^ j) 0) m&&fr (addN R j (Ue R i ||| 2 ^ i) 0) m))) t
def oOf (R:List Nat):List Int:=R.map Int.ofNat
theorem oOf_bt (R:List Nat) (i:Nat):bt (oOf R) i=Ue R i:=by
 rw [bt,oOf,Ue,List.getD,List.getD,List.getElem?_map]
 cases R[i]? <;> rfl
theorem oOf_ab (R:List Nat) (i j:Nat):ab (oOf R) i j=(Ue R i).testBit j:=by rw [ab,oOf_bt]
theorem addN_get (i u:Nat) : ∀ (R:List Nat) (k q:Nat),q<R.length→(addN R i u k).getD q 0=if k+q=i∨(R.getD q 0).testBit i=true then R.getD q 0 ||| u else R.getD q 0
 | [],_,_,h=>by simp at h
 | r::R,k,0,_=>by
   show (bif k.beq i || r.testBit i then r ||| u else r)=if k+0=i∨r.testBit i=true then r ||| u else r
   by_cases hc:k+0=i∨r.testBit i=true
   · have:(k.beq i || r.testBit i)=true:=by rw [Bool.or_eq_true,Nat.beq_eq]; exact hc
     rw [if_pos hc,this]; rfl
   · have:(k.beq i || r.testBit i)=false:=by
      cases hb:(k.beq i || r.testBit i) with
      | false=>rfl
      | true=>rw [Bool.or_eq_true,Nat.beq_eq] at hb; exact absurd hb hc
     rw [if_neg hc,this]; rfl
 | r::R,k,q+1,h=>by
   have:=addN_get i u R (k+1) q (by simpa using h)
   show (addN R i u (k+1)).getD q 0=_
   rw [this,show k+1+q=k+(q+1) by omega]; rfl
theorem addN_len (i u:Nat) : ∀ (R:List Nat) (k:Nat),(addN R i u k).length=R.length
 | [],_=>rfl
 | r::R,k=>by
   show (addN R i u (k+1)).length+1=R.length+1
   rw [addN_len i u R (k+1)]
theorem addN_at (i u:Nat) {R:List Nat} {q:Nat} (h:q<R.length):Ue (addN R i u 0) q=if q=i∨(Ue R q).testBit i=true then Ue R q ||| u else Ue R q:=by
 have:=addN_get i u R 0 q h
 rw [Nat.zero_add] at this
 exact this
theorem oOf_add (R:List Nat) (i j:Nat):oOf (addN R i (Ue R j ||| 2 ^ j) 0)=Wp (oOf R) i j:=by
 have hl:(oOf R).length=R.length:=by simp [oOf]
 refine List.ext_getElem (by rw [Xh,hl]; simp [oOf,addN_len]) fun q h1 h2=>?_
 have hq:q<R.length:=by rw [Xh,hl] at h2; exact h2
 have e1:(oOf (addN R i (Ue R j ||| 2 ^ j) 0))[q]=((bt (oOf (addN R i (Ue R j ||| 2 ^ j) 0)) q:Nat):Int):=by
  rw [oOf_bt]
  simp only [Ue,List.getD]
  rw [List.getElem?_eq_getElem (show q<(addN R i (R[j]?.getD 0 ||| 2 ^ j) 0).length by rw [addN_len]; exact hq)]
  simp [oOf,Ue,List.getD]
 have e2:(oOf R).getD q 0=((bt (oOf R) q:Nat):Int):=by
  rw [oOf_bt,Ue,oOf,List.getD,List.getD,List.getElem?_map,List.getElem?_eq_getElem hq]; rfl
 rw [e1,oOf_bt]
 simp only [Wp,List.getElem_map,List.getElem_range]
 rw [e2,oOf_bt,oOf_bt,oOf_ab,addN_at _ _ hq]
 by_cases hc:q=i∨(Ue R q).testBit i=true
 · rw [if_pos hc,if_pos hc]
 · rw [if_neg hc,if_neg hc]
theorem chk_srtb : ∀ (t:Tr) (R:List Nat) (n:Nat),ord (oOf R)=true→chkT t R n=true→Wv n (oOf R)=true
 | .e,R,n,ho,h=>by
   have h1:totB R=true:=h
   have hc:cn (oOf R)=1:=by
    apply Classical.byContradiction
    intro hne
    have:=cn_pos ho
    obtain ⟨i,j,hij,hj,hf⟩:=free_pair (o:=oOf R) (by omega)
    obtain ⟨_,f2,f3⟩:=fr_out hf
    rw [oOf_ab] at f2 f3
    have hl:(oOf R).length=R.length:=by simp [oOf]
    have:=List.all_eq_true.1 (List.all_eq_true.1 h1 i (List.mem_range.2 (by omega))) j (List.mem_range.2 (by omega))
    rw [f2,f3,Bool.or_false,Bool.or_false,Nat.beq_eq] at this
    omega
   cases n with
   | zero=>rw [Wv,hc]; rfl
   | succ n=>rw [Wv,hc]; rfl
 | .b i j l r,R,0,ho,h=>by cases h
 | .b i j l r,R,n+1,ho,h=>by
   have h' : ((!i.beq j&&(i.blt R.length&&j.blt R.length))&&((!(Ue R i).testBit j && !(Ue R j).testBit i)&&(chkT l (addN R i (Ue R j ||| 2 ^ j) 0) n&&chkT r (addN R j (Ue R i ||| 2 ^ i) 0) n)))=true:=h
   rw [Bool.and_eq_true,Bool.and_eq_true,Bool.and_eq_true,Bool.and_eq_true,Bool.and_eq_true,Bool.and_eq_true,Bool.not_eq_true',Bool.not_eq_true',Bool.not_eq_true',Nat.blt_eq,Nat.blt_eq] at h'
   obtain ⟨⟨h1,h2,h3⟩,⟨h4,h5⟩,h6,h7⟩:=h'
   have hl:(oOf R).length=R.length:=by simp [oOf]
   have hij:i≠j:=fun e=>by subst e; rw [show i.beq i=true from Nat.beq_refl i] at h1; cases h1
   have a1:ab (oOf R) i j=false:=by rw [oOf_ab]; exact h4
   have a2:ab (oOf R) j i=false:=by rw [oOf_ab]; exact h5
   have hf:fr (oOf R) i j=true:=by rw [fr,decide_eq_true hij,a1,a2]; rfl
   have hi:i<(oOf R).length:=by rw [hl]; exact h2
   have hj:j<(oOf R).length:=by rw [hl]; exact h3
   have s1:=chk_srtb l _ n (by rw [oOf_add]; exact Xu ho hi hj hij a2) h6
   have s2:=chk_srtb r _ n (by rw [oOf_add]; exact Xu ho hj hi (Ne.symm hij) a1) h7
   rw [oOf_add] at s1 s2
   have hc:=fr_sum ho hi hj hf
   have c1:=srtb_cn s1
   have c2:=srtb_cn s2
   rw [Wv,Bool.or_eq_true,Bool.and_eq_true,decide_eq_true_eq]
   refine .inr ⟨by rw [Nat.pow_succ]; omega,?_⟩
   rcases Nat.lt_or_gt_of_ne hij with g | g
   · refine List.any_eq_true.2 ⟨i,List.mem_range.2 hi,List.any_eq_true.2 ⟨j,List.mem_range.2 hj,?_⟩⟩
     rw [decide_eq_true g,hf,s1,s2]; rfl
   · refine List.any_eq_true.2 ⟨j,List.mem_range.2 hj,List.any_eq_true.2 ⟨i,List.mem_range.2 hi,?_⟩⟩
     rw [decide_eq_true g,fr_comm,hf,s1,s2]; rfl
open Tr
def tr2:Tr :=
 (b 0 1 e e)
def tr3:Tr :=
 (b 0 1 (b 0 2 (b 1 2 e e) e) (b 0 2 e (b 1 2 e e)))
def tr4:Tr :=
 (b 0 1 (b 2 3 (b 0 2 (b 1 2 e (b 1 3 e e)) (b 0 3 (b 1 3 e e) e)) (b 0 3 (b 1 2 (b 1 3 e e) e) (b 0 2 (b 1 2 e e) e))) (b 2 3 (b 0 3 (b 0 2 e (b 1 2 e e)) (b 1 2 e (b 1 3 e e))) (b
  0 2 (b 0 3 e (b 1 3 e e)) (b 1 2 (b 1 3 e e) e))))
def tr5:Tr :=
 (b 0 1 (b 2 3 (b 0 2 (b 2 4 (b 3 4 (b 1 3 (b 1 2 e e) (b 1 4 e e)) (b 1 4 (b 1 2 e e) (b 1 3 e e))) (b 0 4 (b 1 2 (b 1 4 e e) (b 1 3 e e)) (b 1 2 e (b 1 3 e e)))) (b 0 4 (b 1 4 (b 1
  3 (b 3 4 e e) (b 0 3 e e)) (b 3 4 (b 0 3 e e) (b 1 3 e e))) (b 0 3 (b 1 3 (b 2 4 e e) (b 2 4 e e)) (b 2 4 (b 3 4 e e) e)))) (b 0 3 (b 3 4 (b 2 4 (b 1 2 (b 1 3 e e) (b 1 4 e e)) (b 1
  4 (b 1 3 e e) (b 1 2 e e))) (b 0 4 (b 1 3 (b 1 4 e e) (b 1 2 e e)) (b 1 2 (b 1 3 e e) e))) (b 0 4 (b 1 4 (b 1 2 (b 2 4 e e) (b 0 2 e e)) (b 2 4 (b 0 2 e e) (b 1 2 e e))) (b 0 2 (b 1
  2 (b 3 4 e e) (b 3 4 e e)) (b 2 4 e (b 3 4 e e)))))) (b 2 3 (b 0 3 (b 0 4 (b 0 2 (b 2 4 (b 3 4 e e) e) (b 1 2 (b 3 4 e e) (b 3 4 e e))) (b 1 4 (b 2 4 (b 1 2 e e) (b 0 2 e e)) (b 1 2
  (b 0 2 e e) (b 2 4 e e)))) (b 3 4 (b 0 4 (b 1 2 e (b 1 3 e e)) (b 1 3 (b 1 2 e e) (b 1 4 e e))) (b 2 4 (b 1 4 (b 1 2 e e) (b 1 3 e e)) (b 1 2 (b 1 4 e e) (b 1 3 e e))))) (b 0 2 (b 0
  4 (b 0 3 (b 2 4 e (b 3 4 e e)) (b 1 3 (b 2 4 e e) (b 2 4 e e))) (b 1 4 (b 3 4 (b 1 3 e e) (b 0 3 e e)) (b 1 3 (b 0 3 e e) (b 3 4 e e)))) (b 2 4 (b 0 4 (b 1 2 (b 1 3 e e) e) (b 1 2
  (b 1 3 e e) (b 1 4 e e))) (b 3 4 (b 1 4 (b 1 3 e e) (b 1 2 e e)) (b 1 3 (b 1 4 e e) (b 1 2 e e)))))))
def tr6:Tr :=
 (b 0 1 (b 2 3 (b 0 2 (b 4 5 (b 1 5 (b 1 2 (b 1 4 (b 2 4 (b 3 4 e (b 3 5 e e)) (b 2 5 (b 3 5 e e) e)) (b 0 4 (b 2 5 (b 3 5 e e) e) (b 2 5 (b 3 5 e e) e))) (b 2 4 (b 1 4 (b 3 4 (b 1 3
  e e) (b 3 5 e e)) (b 1 3 (b 3 5 e e) (b 3 4 e e))) (b 0 4 (b 1 3 (b 3 5 e e) e) (b 1 3 (b 3 5 e e) e)))) (b 0 4 (b 1 3 (b 2 5 (b 2 4 e e) (b 1 2 e e)) (b 2 4 (b 3 4 e (b 3 5 e e))
  (b 2 5 (b 3 5 e e) e))) (b 1 3 (b 0 5 (b 1 2 e (b 2 5 e e)) (b 1 2 e e)) (b 2 5 (b 3 5 e e) (b 0 5 e e))))) (b 1 4 (b 1 2 (b 1 5 (b 2 5 (b 3 4 (b 3 5 e e) e) (b 2 4 (b 3 4 e e) e))
  (b 0 5 (b 2 4 (b 3 4 e e) e) (b 2 4 (b 3 4 e e) e))) (b 2 5 (b 1 5 (b 3 5 (b 1 3 e e) (b 3 4 e e)) (b 1 3 (b 3 4 e e) (b 3 5 e e))) (b 0 5 (b 1 3 (b 3 4 e e) e) (b 1 3 (b 3 4 e e)
  e)))) (b 0 5 (b 1 3 (b 2 4 (b 2 5 e e) (b 1 2 e e)) (b 2 5 (b 3 4 (b 3 5 e e) e) (b 2 4 (b 3 4 e e) e))) (b 1 3 (b 0 4 (b 1 2 e (b 2 4 e e)) (b 1 2 e e)) (b 2 4 (b 3 4 e e) (b 0 4 e
  e)))))) (b 4 5 (b 1 5 (b 0 4 (b 1 3 (b 1 4 (b 3 4 e (b 3 5 e e)) (b 3 5 e e)) (b 0 3 (b 1 4 e (b 3 4 e e)) (b 1 4 e e))) (b 1 3 (b 2 4 (b 3 5 e e) (b 3 5 e e)) (b 0 3 (b 2 4 e e) (b
  2 4 (b 3 4 e e) e)))) (b 0 5 (b 3 5 (b 0 3 (b 0 4 (b 3 4 e e) (b 2 4 e e)) (b 3 4 (b 0 4 e e) (b 2 4 e e))) (b 1 3 (b 0 4 e (b 2 4 e e)) (b 0 4 e (b 2 4 e e)))) (b 0 3 (b 1 3 (b 2 4
  e (b 2 5 e e)) (b 2 4 e (b 2 5 e e))) (b 2 4 (b 3 4 e (b 3 5 e e)) (b 2 5 (b 3 5 e e) e))))) (b 1 4 (b 0 5 (b 1 3 (b 1 5 (b 3 4 (b 3 5 e e) e) (b 3 4 e e)) (b 0 3 (b 1 5 e (b 3 5 e
  e)) (b 1 5 e e))) (b 1 3 (b 2 5 (b 3 4 e e) (b 3 4 e e)) (b 0 3 (b 2 5 e e) (b 2 5 (b 3 5 e e) e)))) (b 0 4 (b 3 4 (b 0 3 (b 0 5 (b 3 5 e e) (b 2 5 e e)) (b 3 5 (b 0 5 e e) (b 2 5 e
  e))) (b 1 3 (b 0 5 e (b 2 5 e e)) (b 0 5 e (b 2 5 e e)))) (b 0 3 (b 1 3 (b 2 4 (b 2 5 e e) e) (b 2 4 (b 2 5 e e) e)) (b 2 5 (b 3 4 (b 3 5 e e) e) (b 2 4 (b 3 4 e e) e))))))) (b 0 3
  (b 4 5 (b 1 5 (b 1 3 (b 1 4 (b 2 5 (b 2 4 e (b 3 4 e e)) (b 3 4 e (b 3 5 e e))) (b 0 4 (b 2 5 e (b 3 5 e e)) (b 2 5 e (b 3 5 e e)))) (b 3 4 (b 1 4 (b 2 4 (b 1 2 e e) (b 2 5 e e)) (b
  1 2 (b 2 5 e e) (b 2 4 e e))) (b 0 4 (b 1 2 (b 2 5 e e) e) (b 1 2 (b 2 5 e e) e)))) (b 0 4 (b 1 2 (b 3 5 (b 3 4 e e) (b 1 3 e e)) (b 2 5 (b 2 4 e (b 3 4 e e)) (b 3 4 e (b 3 5 e
  e)))) (b 1 2 (b 0 5 (b 1 3 e (b 3 5 e e)) (b 1 3 e e)) (b 3 5 (b 2 5 e e) (b 0 5 e e))))) (b 1 4 (b 1 3 (b 1 5 (b 2 4 (b 2 5 e (b 3 5 e e)) (b 3 4 (b 3 5 e e) e)) (b 0 5 (b 2 4 e (b
  3 4 e e)) (b 2 4 e (b 3 4 e e)))) (b 3 5 (b 1 5 (b 2 5 (b 1 2 e e) (b 2 4 e e)) (b 1 2 (b 2 4 e e) (b 2 5 e e))) (b 0 5 (b 1 2 (b 2 4 e e) e) (b 1 2 (b 2 4 e e) e)))) (b 0 5 (b 1 2
  (b 3 4 (b 3 5 e e) (b 1 3 e e)) (b 2 4 (b 2 5 e (b 3 5 e e)) (b 3 4 (b 3 5 e e) e))) (b 1 2 (b 0 4 (b 1 3 e (b 3 4 e e)) (b 1 3 e e)) (b 3 4 (b 2 4 e e) (b 0 4 e e)))))) (b 4 5 (b 1
  5 (b 0 4 (b 1 2 (b 1 4 (b 2 4 e (b 2 5 e e)) (b 2 5 e e)) (b 0 2 (b 1 4 e (b 2 4 e e)) (b 1 4 e e))) (b 1 2 (b 2 5 (b 3 4 e e) (b 3 4 e e)) (b 0 2 (b 3 4 e e) (b 2 4 e (b 3 4 e
  e))))) (b 0 5 (b 2 5 (b 0 2 (b 0 4 (b 2 4 e e) (b 3 4 e e)) (b 2 4 (b 0 4 e e) (b 3 4 e e))) (b 1 2 (b 0 4 e (b 3 4 e e)) (b 0 4 e (b 3 4 e e)))) (b 0 2 (b 1 2 (b 3 4 e (b 3 5 e e))
  (b 3 4 e (b 3 5 e e))) (b 2 5 (b 2 4 e (b 3 4 e e)) (b 3 4 e (b 3 5 e e)))))) (b 1 4 (b 0 5 (b 1 2 (b 1 5 (b 2 4 (b 2 5 e e) e) (b 2 4 e e)) (b 0 2 (b 1 5 e (b 2 5 e e)) (b 1 5 e
  e))) (b 1 2 (b 2 4 (b 3 5 e e) (b 3 5 e e)) (b 0 2 (b 3 5 e e) (b 2 5 e (b 3 5 e e))))) (b 0 4 (b 2 4 (b 0 2 (b 0 5 (b 2 5 e e) (b 3 5 e e)) (b 2 5 (b 0 5 e e) (b 3 5 e e))) (b 1 2
  (b 0 5 e (b 3 5 e e)) (b 0 5 e (b 3 5 e e)))) (b 0 2 (b 1 2 (b 3 4 (b 3 5 e e) e) (b 3 4 (b 3 5 e e) e)) (b 2 4 (b 2 5 e (b 3 5 e e)) (b 3 4 (b 3 5 e e) e)))))))) (b 2 3 (b 0 3 (b 4
  5 (b 1 4 (b 0 4 (b 0 2 (b 2 4 (b 3 4 e (b 3 5 e e)) (b 2 5 (b 3 5 e e) e)) (b 1 2 (b 3 4 e (b 3 5 e e)) (b 3 4 e (b 3 5 e e)))) (b 2 4 (b 1 2 (b 0 5 (b 3 5 e e) e) (b 0 5 (b 3 5 e
  e) e)) (b 0 2 (b 2 5 (b 3 5 e e) (b 0 5 e e)) (b 0 5 (b 3 5 e e) (b 2 5 e e))))) (b 0 5 (b 1 2 (b 0 2 (b 2 5 (b 3 5 e e) e) (b 3 5 e e)) (b 2 4 (b 3 5 e e) (b 3 5 e e))) (b 1 2 (b 0
  2 (b 1 5 e e) (b 1 5 (b 2 5 e e) e)) (b 1 5 (b 2 4 e e) (b 2 4 e (b 2 5 e e)))))) (b 1 5 (b 0 5 (b 0 2 (b 2 5 (b 3 4 (b 3 5 e e) e) (b 2 4 (b 3 4 e e) e)) (b 1 2 (b 3 4 (b 3 5 e e)
  e) (b 3 4 (b 3 5 e e) e))) (b 2 5 (b 1 2 (b 0 4 (b 3 4 e e) e) (b 0 4 (b 3 4 e e) e)) (b 0 2 (b 2 4 (b 3 4 e e) (b 0 4 e e)) (b 0 4 (b 3 4 e e) (b 2 4 e e))))) (b 0 4 (b 1 2 (b 0 2
  (b 2 4 (b 3 4 e e) e) (b 3 4 e e)) (b 2 5 (b 3 4 e e) (b 3 4 e e))) (b 1 2 (b 0 2 (b 1 4 e e) (b 1 4 (b 2 4 e e) e)) (b 1 4 (b 2 5 e e) (b 2 4 (b 2 5 e e) e)))))) (b 4 5 (b 1 4 (b 0
  5 (b 1 2 (b 3 4 (b 0 4 e e) (b 2 4 e e)) (b 0 4 (b 1 3 e e) (b 1 3 (b 3 4 e e) e))) (b 1 2 (b 2 4 (b 3 4 e (b 3 5 e e)) (b 2 5 (b 3 5 e e) e)) (b 3 4 (b 1 3 e e) (b 3 5 e e)))) (b 1
  3 (b 3 5 (b 0 5 (b 1 2 e (b 2 4 e e)) (b 1 2 e (b 2 4 e e))) (b 1 5 (b 1 2 (b 2 5 e e) (b 2 4 e e)) (b 2 5 (b 2 4 e e) (b 1 2 e e)))) (b 1 5 (b 0 5 (b 2 4 (b 3 4 e e) e) (b 2 4 (b 3
  4 e e) e)) (b 2 4 (b 3 4 e (b 3 5 e e)) (b 2 5 (b 3 5 e e) e))))) (b 1 5 (b 0 4 (b 1 2 (b 3 5 (b 0 5 e e) (b 2 5 e e)) (b 0 5 (b 1 3 e e) (b 1 3 (b 3 5 e e) e))) (b 1 2 (b 2 5 (b 3
  4 (b 3 5 e e) e) (b 2 4 (b 3 4 e e) e)) (b 3 5 (b 1 3 e e) (b 3 4 e e)))) (b 1 3 (b 3 4 (b 0 4 (b 1 2 e (b 2 5 e e)) (b 1 2 e (b 2 5 e e))) (b 1 4 (b 1 2 (b 2 4 e e) (b 2 5 e e)) (b
  2 4 (b 2 5 e e) (b 1 2 e e)))) (b 1 4 (b 0 4 (b 2 5 (b 3 5 e e) e) (b 2 5 (b 3 5 e e) e)) (b 2 5 (b 3 4 (b 3 5 e e) e) (b 2 4 (b 3 4 e e) e))))))) (b 0 2 (b 4 5 (b 1 4 (b 0 4 (b 0 3
  (b 2 5 (b 2 4 e (b 3 4 e e)) (b 3 4 e (b 3 5 e e))) (b 1 3 (b 2 4 e (b 2 5 e e)) (b 2 4 e (b 2 5 e e)))) (b 3 4 (b 1 3 (b 0 5 (b 2 5 e e) e) (b 0 5 (b 2 5 e e) e)) (b 0 3 (b 3 5 (b
  2 5 e e) (b 0 5 e e)) (b 0 5 (b 2 5 e e) (b 3 5 e e))))) (b 0 5 (b 1 3 (b 0 3 (b 2 5 e (b 3 5 e e)) (b 2 5 e e)) (b 2 5 (b 3 4 e e) (b 3 4 e e))) (b 1 3 (b 0 3 (b 1 5 e e) (b 1 5 (b
  3 5 e e) e)) (b 1 5 (b 3 4 e e) (b 3 4 e (b 3 5 e e)))))) (b 1 5 (b 0 5 (b 0 3 (b 2 4 (b 2 5 e (b 3 5 e e)) (b 3 4 (b 3 5 e e) e)) (b 1 3 (b 2 4 (b 2 5 e e) e) (b 2 4 (b 2 5 e e)
  e))) (b 3 5 (b 1 3 (b 0 4 (b 2 4 e e) e) (b 0 4 (b 2 4 e e) e)) (b 0 3 (b 3 4 (b 2 4 e e) (b 0 4 e e)) (b 0 4 (b 2 4 e e) (b 3 4 e e))))) (b 0 4 (b 1 3 (b 0 3 (b 2 4 e (b 3 4 e e))
  (b 2 4 e e)) (b 2 4 (b 3 5 e e) (b 3 5 e e))) (b 1 3 (b 0 3 (b 1 4 e e) (b 1 4 (b 3 4 e e) e)) (b 1 4 (b 3 5 e e) (b 3 4 (b 3 5 e e) e)))))) (b 4 5 (b 1 4 (b 0 5 (b 1 3 (b 2 4 (b 0
  4 e e) (b 3 4 e e)) (b 0 4 (b 1 2 e e) (b 1 2 (b 2 4 e e) e))) (b 1 3 (b 2 5 (b 2 4 e (b 3 4 e e)) (b 3 4 e (b 3 5 e e))) (b 2 4 (b 1 2 e e) (b 2 5 e e)))) (b 1 2 (b 2 5 (b 0 5 (b 1
  3 e (b 3 4 e e)) (b 1 3 e (b 3 4 e e))) (b 1 5 (b 1 3 (b 3 5 e e) (b 3 4 e e)) (b 3 5 (b 3 4 e e) (b 1 3 e e)))) (b 1 5 (b 0 5 (b 2 4 e (b 3 4 e e)) (b 2 4 e (b 3 4 e e))) (b 2 5 (b
  2 4 e (b 3 4 e e)) (b 3 4 e (b 3 5 e e)))))) (b 1 5 (b 0 4 (b 1 3 (b 2 5 (b 0 5 e e) (b 3 5 e e)) (b 0 5 (b 1 2 e e) (b 1 2 (b 2 5 e e) e))) (b 1 3 (b 2 4 (b 2 5 e (b 3 5 e e)) (b 3
  4 (b 3 5 e e) e)) (b 2 5 (b 1 2 e e) (b 2 4 e e)))) (b 1 2 (b 2 4 (b 0 4 (b 1 3 e (b 3 5 e e)) (b 1 3 e (b 3 5 e e))) (b 1 4 (b 1 3 (b 3 4 e e) (b 3 5 e e)) (b 3 4 (b 3 5 e e) (b 1
  3 e e)))) (b 1 4 (b 0 4 (b 2 5 e (b 3 5 e e)) (b 2 5 e (b 3 5 e e))) (b 2 4 (b 2 5 e (b 3 5 e e)) (b 3 4 (b 3 5 e e) e)))))))))
theorem tr2_ok:chkT tr2 [0,0] 1=true:=by kernel_rfl
theorem tr3_ok:chkT tr3 [0,0,0] 3=true:=by kernel_rfl
theorem tr4_ok:chkT tr4 [0,0,0,0] 5=true:=by kernel_rfl
theorem tr5_ok:chkT tr5 [0,0,0,0,0] 7=true:=by kernel_rfl
theorem tr6_ok:chkT tr6 [0,0,0,0,0,0] 10=true:=by kernel_rfl
def knownN (n:Nat):Nat:=match n with | 2=>1 | 3=>3 | 4=>5 | 5=>7 | 6=>10 | _=>0
theorem free_need {n:Nat} (h1:1≤n) (h6:n≤6):Wv (knownN n) (zeros n)=true∧∀ k,k<knownN n→Wv k (zeros n)=false:=by
 have hz : ∀ m,1≤m→m≤6→ord (zeros m)=true:=fun m a b=>zeros_ord ⟨a,b⟩
 have low : ∀ m c:Nat,cn (zeros m)=c→∀ b,2 ^ b<c→∀ k,k<b+1→Wv k (zeros m)=false:=fun m c hc b hb k hk=>by
  cases hs:Wv k (zeros m) with
  | false=>rfl
  | true =>
    have:=srtb_cn hs
    have h2:2 ^ k≤2 ^ b:=Nat.pow_le_pow_right (by decide) (by omega)
    omega
 have hc:=cn_zeros
 match n,h1,h6 with
 | 1,_,_=>exact ⟨by rw [show knownN 1=0 from rfl,Wv,hc]; rfl,fun k hk=>absurd hk (Nat.not_lt_zero k)⟩
 | 2,_,_=>exact ⟨chk_srtb tr2 [0,0] 1 (hz 2 (by decide) (by decide)) tr2_ok,low 2 2 (hc 2) 0 (by decide)⟩
 | 3,_,_=>exact ⟨chk_srtb tr3 [0,0,0] 3 (hz 3 (by decide) (by decide)) tr3_ok,low 3 6 (hc 3) 2 (by decide)⟩
 | 4,_,_=>exact ⟨chk_srtb tr4 [0,0,0,0] 5 (hz 4 (by decide) (by decide)) tr4_ok,low 4 24 (hc 4) 4 (by decide)⟩
 | 5,_,_=>exact ⟨chk_srtb tr5 [0,0,0,0,0] 7 (hz 5 (by decide) (by decide)) tr5_ok,low 5 120 (hc 5) 6 (by decide)⟩
 | 6,_,_=>exact ⟨chk_srtb tr6 [0,0,0,0,0,0] 10 (hz 6 (by decide) (by decide)) tr6_ok,low 6 720 (hc 6) 9 (by decide)⟩
end Ord
namespace Ord
open Go.Am
def uni (o:List Int) (s:Nat) (f:Bool):Bool:=(List.range o.length).all fun i=>(List.range i).all fun j=>!(s.testBit i&&(s.testBit j&&(fr o i j != f)))
/-! ### A set of bits out of a list -/
def msk (A:List Nat):Nat:=A.foldl (fun r j=>r ||| 2 ^ j) 0
/-! ### Chains that part a set -/
def Part (o:List Int):Nat→List Nat→Prop
 | s,[]=>s=0
 | s,c::cs=>c≠0∧Wx c s=0∧uni o c false=true∧Part o (Wx s c) cs
theorem less_bit' {a b k:Nat}:(Wx a b).testBit k=(a.testBit k && !b.testBit k):=Xz a b k
theorem less_le (s c:Nat):Wx s c≤s:=by
 have:Wx s c=s &&& Wx s c:=Nat.eq_of_testBit_eq fun k=>by
  rw [Nat.testBit_and,less_bit',← Bool.and_assoc,Bool.and_self]
 rw [this]; exact Nat.and_le_left
theorem less_lt {s c:Nat} (h0:c≠0) (h:Wx c s=0):Wx s c<s:=by
 refine Nat.lt_of_le_of_ne (less_le s c) fun he=>h0 ?_
 refine Nat.eq_of_testBit_eq fun k=>?_
 rw [Nat.zero_testBit]
 cases hk:c.testBit k with
 | false=>rfl
 | true =>
   have h1:=less_zero.1 h k hk
   have h2:=congrArg (fun z=>Nat.testBit z k) he
   simp only [less_bit',h1,hk] at h2
   cases h2
def Fewest (o:List Int) (s k:Nat):Prop:=(∃ cs,Part o s cs∧cs.length=k)∧∀ cs,Part o s cs→k≤cs.length
theorem fewest_zero (o:List Int):Fewest o 0 0:=⟨⟨[],rfl,rfl⟩,fun _ _=>Nat.zero_le _⟩
theorem fewest_step {o:List Int} {s k:Nat} {v:Nat→Nat} (h0:s≠0) (hv : ∀ t,t<s→Fewest o t (v t)) (hex : ∃ c,c≠0∧Wx c s=0∧uni o c false=true∧k=1+v (Wx s c))
  (hmin : ∀ c,c≠0→Wx c s=0→uni o c false=true→k≤1+v (Wx s c)):Fewest o s k:=by
 obtain ⟨c,c0,c1,c2,rfl⟩:=hex
 refine ⟨?_,fun cs hp=>?_⟩
 · obtain ⟨⟨cs,p,l⟩,_⟩:=hv _ (less_lt c0 c1)
   exact ⟨c::cs,⟨c0,c1,c2,p⟩,by rw [List.length_cons,l]; omega⟩
 · match cs,hp with
   | [],hp=>exact absurd hp h0
   | d::cs,hp =>
     obtain ⟨d0,d1,d2,p⟩:=hp
     have:=(hv _ (less_lt d0 d1)).2 cs p
     have:=hmin d d0 d1 d2
     rw [List.length_cons]; omega
theorem uni_single {o:List Int} {i:Nat}:uni o (2 ^ i) false=true:=by
 simp only [uni,List.all_eq_true,List.mem_range,Nat.testBit_two_pow]
 intro a _ b hb
 by_cases h1:i=a
 · have : ¬ i=b:=by omega
   simp [this]
 · simp [h1]
theorem low_bit {s:Nat} (h:s≠0) : ∃ i,s.testBit i=true:=by
 refine Classical.byContradiction fun hc=>h ?_
 refine Nat.eq_of_testBit_eq fun k=>?_
 rw [Nat.zero_testBit,← Bool.not_eq_true]
 exact fun hk=>hc ⟨k,hk⟩
theorem single_sub {s i:Nat} (h:s.testBit i=true):Wx (2 ^ i) s=0:=less_zero.2 fun k hk=>by
 rw [Nat.testBit_two_pow,decide_eq_true_eq] at hk
 exact hk▸h
theorem fewest_exTo {o:List Int} : ∀ m t,t≤m→∃ l,Fewest o t l:=fun m=>by
 induction m with
 | zero=>intro t ht; rw [show t=0 by omega]; exact ⟨0,fewest_zero o⟩
 | succ m ih =>
   intro t ht
   by_cases ht0:t=0
   · rw [ht0]; exact ⟨0,fewest_zero o⟩
   obtain ⟨v,hv⟩:=Classical.skolem.1 (show ∀ u,∃ l,u<t→Fewest o u l from fun u=>by
    by_cases hu:u<t
    · obtain ⟨l,hl⟩:=ih u (by omega)
      exact ⟨l,fun _=>hl⟩
    · exact ⟨0,fun h=>absurd h hu⟩)
   obtain ⟨i,hi⟩:=low_bit ht0
   obtain ⟨m0,⟨c,c0,c1,c2,hm⟩,hmin⟩ : ∃ m0,(∃ c,c≠0∧Wx c t=0∧uni o c false=true∧m0=1+v (Wx t c))∧∀ c,c≠0→Wx c t=0→uni o c false=true→m0≤1+v (Wx t c):=by
    have hne : ∃ m0,∃ c,c≠0∧Wx c t=0∧uni o c false=true∧m0=1+v (Wx t c):=⟨_,2 ^ i,Nat.ne_of_gt (Nat.two_pow_pos i),single_sub hi,uni_single,rfl⟩
    have wf : ∀ b m0,m0≤b→(∃ c,c≠0∧Wx c t=0∧uni o c false=true∧m0=1+v (Wx t c))→∃ m1,(∃ c,c≠0∧Wx c t=0∧uni o c false=true∧m1=1+v (Wx t c))∧∀ c,c≠0→Wx c t=0→uni o c false=true→m1≤1+v (Wx t c):=fun b=>by
     induction b with
     | zero=>intro m0 hb h; obtain ⟨c,_,_,_,h⟩:=h; omega
     | succ b ihb =>
       intro m0 hb h
       by_cases hall : ∀ c,c≠0→Wx c t=0→uni o c false=true→m0≤1+v (Wx t c)
       · exact ⟨m0,h,hall⟩
       · simp only [Classical.not_forall] at hall
         obtain ⟨c,c0,c1,c2,hlt⟩:=hall
         exact ihb (1+v (Wx t c)) (by omega) ⟨c,c0,c1,c2,rfl⟩
    obtain ⟨m0,h⟩:=hne
    exact wf m0 m0 (Nat.le_refl _) h
   exact ⟨m0,fewest_step ht0 (fun u hu=>hv u hu) ⟨c,c0,c1,c2,hm⟩ hmin⟩
theorem fewest_ex (o:List Int) (t:Nat) : ∃ l,Fewest o t l:=fewest_exTo t t (Nat.le_refl _)
noncomputable def fw (o:List Int) (t:Nat):Nat:=Classical.choose (fewest_ex o t)
theorem fw_spec (o:List Int) (t:Nat):Fewest o t (fw o t):=Classical.choose_spec (fewest_ex o t)
def okC (o:List Int) (s c:Nat):Prop:=c≠0∧Wx c s=0∧uni o c false=true
theorem fw_le_one {o:List Int} {s c:Nat} (h:okC o s c):fw o s≤1+fw o (Wx s c):=by
 obtain ⟨⟨cs,p,l⟩,_⟩:=fw_spec o (Wx s c)
 have:=(fw_spec o s).2 (c::cs) ⟨h.1,h.2.1,h.2.2,p⟩
 rw [List.length_cons,l] at this; omega
theorem fw_first {o:List Int} {s:Nat} (h0:s≠0) : ∃ c,okC o s c∧fw o s=1+fw o (Wx s c):=by
 obtain ⟨⟨cs,p,l⟩,hm⟩:=fw_spec o s
 match cs,p,l with
 | [],p,_=>exact absurd p h0
 | c::cs,p,l =>
   obtain ⟨c0,c1,c2,p'⟩:=p
   refine ⟨c,⟨c0,c1,c2⟩,?_⟩
   have h1:=(fw_spec o (Wx s c)).2 cs p'
   have h2:=fw_le_one (o:=o) (s:=s) (c:=c) ⟨c0,c1,c2⟩
   rw [List.length_cons] at l; omega
def down (o:List Int) (a:Nat):Nat:=msk ((List.range o.length).filter fun i=>a.testBit i || !decide (bt o i &&& a=0))
end Ord
namespace Go.Proofs.Tryd.Am
open Go.Am Ord
set_option maxRecDepth 100000
set_option maxHeartbeats 2000000
end Go.Proofs.Tryd.Am
namespace Go.Proofs.Tryd.Am
open Go.Am Ord
set_option maxRecDepth 100000
set_option maxHeartbeats 2000000
end Go.Proofs.Tryd.Am
namespace Go.Proofs.Tryd.Am
open Go.Am Ord
set_option maxRecDepth 100000
set_option maxHeartbeats 2000000
def cmpS (a b:Nat):Int:=if ((Am.bits b).length:Int)-(Am.bits a).length=0 then (a:Int)-b else ((Am.bits b).length:Int)-(Am.bits a).length
structure MinI (L:List Nat) (k m:Nat):Prop where
 at_ : ∃ a,a<k∧L.getD a 0=m∧∀ b,b<a→(Am.bits (L.getD b 0)).length<(Am.bits m).length
 le : ∀ b,b<k→(Am.bits (L.getD b 0)).length≤(Am.bits m).length
theorem MinI.step {L:List Nat} {k m:Nat} (h:MinI L k m) (hs : ∀ a b,a<b→b<L.length→L.getD a 0<L.getD b 0) (hk:k<L.length):(cmpS (L.getD k 0) m<0→MinI L (k+1) (L.getD k 0))∧(¬ cmpS (L.getD k 0) m<0→MinI L (k+1) m):=by
 obtain ⟨⟨a,ha,ham,hb⟩,hle⟩:=h
 have hlt:m<L.getD k 0:=by rw [← ham]; exact hs a k ha hk
 have hc:cmpS (L.getD k 0) m<0↔(Am.bits m).length<(Am.bits (L.getD k 0)).length:=by
  rw [cmpS]; split <;> omega
 constructor
 · intro h1
   have h2:=hc.1 h1
   refine ⟨⟨k,by omega,rfl,fun b hb'=>?_⟩,fun b hb'=>?_⟩
   · have:=hle b hb'; omega
   · by_cases he:b=k
     · rw [he]; exact Nat.le_refl _
     · have:=hle b (by omega); omega
 · intro h1
   have h2 : ¬ (Am.bits m).length<(Am.bits (L.getD k 0)).length:=fun h=>h1 (hc.2 h)
   refine ⟨⟨a,by omega,ham,hb⟩,fun b hb'=>?_⟩
   by_cases he:b=k
   · rw [he]; omega
   · exact hle b (by omega)
end Go.Proofs.Tryd.Am
namespace Go.Proofs.Tryd.Am
open Go.Am Ord
set_option maxRecDepth 100000
set_option maxHeartbeats 4000000
structure TabI (o:List Int) (T:List Int) (s:Nat):Prop where
 len:T.length=2 ^ o.length
 get : ∀ t,t<s→T.getD t 0=(fw o t:Nat)
theorem getD_setI {L:List Int} {s i:Nat} {x:Int} (hs:s<L.length):(L.set s x).getD i 0=if i=s then x else L.getD i 0:=by
 rw [List.getD,List.getElem?_set]
 by_cases h:s=i
 · subst h; simp [hs]
 · rw [if_neg h,if_neg (Ne.symm h)]; rfl
theorem TabI.put {o:List Int} {T:List Int} {s:Nat} (h:TabI o T s) (hs:s<2 ^ o.length) (x:Int):TabI o (T.set s x) s∧(T.set s x).getD s 0=x :=
 ⟨⟨by rw [List.length_set,h.len],fun t ht=>by rw [getD_setI (by rw [h.len]; exact hs),if_neg (by omega)]; exact h.get t ht⟩,by rw [getD_setI (by rw [h.len]; exact hs),if_pos rfl]⟩
theorem TabI.next {o:List Int} {T:List Int} {s:Nat} (h:TabI o T s) (hx:T.getD s 0=(fw o s:Nat)):TabI o T (s+1) :=
 ⟨h.len,fun t ht=>by
  by_cases he:t=s
  · rw [he,hx]
  · exact h.get t (by omega)⟩
structure BstI (o:List Int) (s:Nat) (S:Nat→Prop) (x:Nat):Prop where
 ge:fw o s≤x
 le : ∀ c,S c→okC o s c→x≤1+fw o (Wx s c)
theorem BstI.fin {o:List Int} {s x:Nat} {S:Nat→Prop} (h:BstI o s S x) (h0:s≠0) (hS : ∀ c,okC o s c→S c):x=fw o s:=by
 obtain ⟨c,hc,he⟩:=fw_first (o:=o) h0
 have:=h.le c (hS c hc) hc
 have:=h.ge
 omega
end Go.Proofs.Tryd.Am
namespace Go.Proofs.Tryd.Am
open Go.Am Ord
set_option maxRecDepth 100000
set_option maxHeartbeats 4000000
end Go.Proofs.Tryd.Am
namespace Go.Proofs.Tryd.Am
open Go.Am Ord
set_option maxRecDepth 100000
set_option maxHeartbeats 2000000
end Go.Proofs.Tryd.Am
namespace Ord
structure Key (r:Nat→Nat→Bool) (S:List Nat) (K:Nat→Nat):Prop where
 inj : ∀ i∈S,∀ j∈S,K i=K j→i=j
 mono : ∀ i∈S,∀ j∈S,r i j=true→K i<K j
structure Rlz (r:Nat→Nat→Bool) (S:List Nat) (Ks:List (Nat→Nat)):Prop where
 key : ∀ K∈Ks,Key r S K
 rev : ∀ i∈S,∀ j∈S,i≠j→r i j=false→∃ K∈Ks,K j<K i
theorem Rlz.sub {r:Nat→Nat→Bool} {S T:List Nat} {Ks:List (Nat→Nat)} (h:Rlz r S Ks) (hs : ∀ i∈T,i∈S):Rlz r T Ks :=
 ⟨fun K hK=>⟨fun i hi j hj=>(h.key K hK).inj i (hs i hi) j (hs j hj),fun i hi j hj=>(h.key K hK).mono i (hs i hi) j (hs j hj)⟩,fun i hi j hj=>h.rev i (hs i hi) j (hs j hj)⟩
end Ord
namespace Ord
open Go.Am
def Cmp (N d:Nat):Nat→List Nat→Prop
 | _,[]=>True
 | fr,k::t=>fr≤k∧k<N∧Cmp N d (k+d) t
theorem Cmp.low {N d:Nat} : ∀ {t:List Nat} {a b:Nat},a≤b→Cmp N d b t→Cmp N d a t
 | [],_,_,_,_=>trivial
 | k::t,a,b,hab,h=>⟨Nat.le_trans hab h.1,h.2⟩
theorem Cmp.lt {N d:Nat} : ∀ {t:List Nat} {a:Nat},Cmp N d a t→∀ k∈t,a≤k∧k<N
 | [],_,_,_,h=>by cases h
 | m::t,a,h,k,hk=>by
   rcases List.mem_cons.1 hk with rfl | hk
   · exact ⟨h.1,h.2.1⟩
   · have:=Cmp.lt h.2.2 k hk; have:=h.1; omega
section
variable {P:List Nat→Bool} {N d:Nat}
end
end Ord
namespace Go.Proofs.Tryd.Am
open Go.Am
set_option maxRecDepth 100000
end Go.Proofs.Tryd.Am
namespace Go.Proofs.Tryd.Am
open Go.Am Ord
set_option maxRecDepth 100000
set_option maxHeartbeats 2000000
def bhF (l:List Nat):F6:=fun i=>msk (l.drop (l.idxOf i+1))
end Go.Proofs.Tryd.Am
namespace Go.Proofs.Tryd.Am
open Go.Am Ord
set_option maxRecDepth 100000
set_option maxHeartbeats 4000000
/-! ### Plain -/
abbrev lin (o:List Int) (k:Nat):List Nat:=(Ws o).getD k []
structure LinF (o:List Int) (l:List Nat):Prop where
 pm:l.Perm (List.range o.length)
 nd:l.Nodup
 ab : ∀ i j,ab o i j=true→bef l i j=true
structure RE (o:List Int) (h0:Yb) (po pa ps pf pg:Nat) (av sv:Value):Prop where
 ob:h0[po]? = some (.cells (Xt o) 77 false)
 ab_:h0[pa]? = some (.cells [av] 45 false)
 sb:h0[ps]? = some (.cells [sv] 120 false)
 gb:h0[pg]? = some (.cells [.func (.func 106) #[] #[.pointer (some ⟨po,0,none⟩),.pointer (some ⟨pa,0,none⟩),.pointer (some ⟨ps,0,none⟩),.pointer (some ⟨pf,0,none⟩),.pointer (some ⟨pg,0,none⟩)]] 123 false)
 fo:po≠pf
 fa:pa≠pf
 fs:ps≠pf
 fg:pg≠pf
 f:pf<h0.length
 al : ∀ K:Value→Prop,lenK av K=K (Zx (cn o:Nat))
 sl:Own6 121 h0 sv ((Ws o).map bhF)
 sf:Ye sv≠some pf
def KH (h0:Yb) (pf:Nat) (h:Yb):Prop:=Ext (fun b=>b=pf) h0 h
structure FD (h0:Yb) (pf:Nat) (h:Yb) (fv:Value) (pre:List Nat):Prop where
 bx:h[pf]? = some (.cells [fv] 22 false)
 own:OwnSl 3 h fv (iL pre)
 fr : ∀ b,Ye fv=some b→h0.length≤b
section
variable {o:List Int} {h0 h h' : Yb} {po pa ps pf pg:Nat} {av sv fv:Value} {pre:List Nat}
theorem KH.at_ {b:Nat} {B:Blk} (k:KH h0 pf h) (hb:h0[b]? = some B) (hn:b≠pf):h[b]? = some B:=(k.2 b (Yg hb) hn).trans hb
theorem FD.ext (f:FD h0 pf h fv pre) (hE:Ext (fun _=>False) h h'):FD h0 pf h' fv pre:=⟨(hE.2 _ (Yg f.bx) id).trans f.bx,f.own.ext (S:=fun _=>False) hE (fun _ _=>id),f.fr⟩
theorem KH.ext (k:KH h0 pf h) (hE:Ext (fun _=>False) h h'):KH h0 pf h':=k.trans (hE.mono fun _ h=>h.elim)
theorem RE.sets (r:RE o h0 po pa ps pf pg av sv) (k:KH h0 pf h):Own6 121 h sv ((Ws o).map bhF):=r.sl.same fun b hb=>k.2 b (r.sl.lt hb) fun he=>r.sf (he▸hb)
end
def gS2 (pf:Nat) (fv:Value) (b:Nat):Prop:=b=pf∨Ye fv=some b
def gB2 (h:Yb) (fv fv' : Value):Prop:=Ye fv' = Ye fv∨∃ b,Ye fv' = some b∧h.length≤b
theorem gB2.trans {h G:Yb} {a b c:Value} (h1:gB2 h a b) (hl:h.length≤G.length) (h2:gB2 G b c):gB2 h a c:=by
 rcases h2 with h2 | ⟨x,h2,h3⟩
 · rcases h1 with h1 | ⟨y,h1,h4⟩
   · exact .inl (h2.trans h1)
   · exact .inr ⟨y,h2.trans h1,h4⟩
 · exact .inr ⟨x,h2,by omega⟩
theorem KH.go {h0 h h' : Yb} {pf:Nat} {fv:Value} (k:KH h0 pf h) (hfr : ∀ b,Ye fv=some b→h0.length≤b) (hE:Ext (gS2 pf fv) h h'):KH h0 pf h' :=
 ⟨Nat.le_trans k.1 hE.1,fun i hi hn=>(hE.2 i (Nat.lt_of_lt_of_le hi k.1) fun hc=>by
  rcases hc with hc | hc
  · exact hn hc
  · have:=hfr i hc; omega).trans (k.2 i hi hn)⟩
end Go.Proofs.Tryd.Am
namespace Go.Proofs.Tryd.Am
open Go.Am Ord
set_option maxRecDepth 100000
set_option maxHeartbeats 1000000
theorem bits_nodup (s:Nat):(Am.bits s).Nodup:=List.nodup_range.filter _
theorem bits_erase {s x:Nat}:(Am.bits s).erase x=Am.bits (Wx s (2 ^ x)):=by
 rw [List.Nodup.erase_eq_filter (bits_nodup s),Am.bits,Am.bits,List.filter_filter]
 refine List.filter_congr fun j _=>?_
 rw [Xz,Nat.testBit_two_pow]
 by_cases h:j=x
 · subst h; simp
 · simp [h,Ne.symm h]
structure LS (I:Nat→Prop) (h0:Yb) (bo bl:Nat) (h:Yb) (ov lv:Value) (Ls:List (List Int)) (cur:List Int):Prop where
 len:h0.length≤h.length
 keep : ∀ i,I i→h[i]? = h0[i]?
 low : ∀ i,I i→i<h0.length
 o:h[bo]? = some (.cells [ov] 45 false)
 l:h[bl]? = some (.cells [lv] 22 false)
 ne:bo≠bl
 no : ¬ I bo
 nl : ¬ I bl
 own:OwnSl 3 h lv cur
 out : ∃ ws,OwnV 22 h ov ws∧Each (OwnSl 3 h) ws Ls∧∀ w∈ws,∀ b,Ye w=some b→Ye lv≠some b
 apo : ∀ b,Ye ov=some b→¬ I b∧b≠bo∧b≠bl
 apl : ∀ b,Ye lv=some b→¬ I b
def gS (bo bl:Nat) (ov lv:Value) (i:Nat):Prop:=i=bo∨i=bl∨Ye ov=some i∨Ye lv=some i
theorem own_ints {e:TypeId} {h:Yb} {v:Value} {xs:List Int} (ho:OwnSl e h v xs) {b:Nat} (hb:Ye v=some b) : ∃ ys e,h[b]? = some (.ints ys e false):=by
 obtain ⟨ys,hy⟩:=ho.ints hb; exact ⟨ys,e,hy⟩
section
variable {I:Nat→Prop} {h0 h h' h1:Yb} {bo bl:Nat} {ov lv ov' lv' : Value} {Ls:List (List Int)} {cur cur' : List Int}
theorem LS.ext {S:Nat→Prop} (s:LS I h0 bo bl h ov lv Ls cur) (hx:Ext S h h') (h1 : ∀ i,I i→¬ S i) (h2 : ¬ S bo) (h3 : ¬ S bl) (h4 : ∀ b,Ye ov=some b→¬ S b) (h5 : ∀ b ys e,h[b]? = some (.ints ys e false)→¬ S b):LS I h0 bo bl h' ov lv Ls cur where
 len:=Nat.le_trans s.len hx.1
 keep i hi:=(hx.2 i (Nat.lt_of_lt_of_le (s.low i hi) s.len) (h1 i hi)).trans (s.keep i hi)
 low:=s.low
 o:=(hx.2 bo (Yg s.o) h2).trans s.o
 l:=(hx.2 bl (Yg s.l) h3).trans s.l
 ne:=s.ne
 no:=s.no
 nl:=s.nl
 own:=s.own.same fun b hb=>by
  obtain ⟨ys,e,hy⟩:=own_ints s.own hb
  exact hx.2 b (Yg hy) (h5 b ys e hy)
 out:=by
  obtain ⟨ws,g1,g2,g3⟩:=s.out
  exact ⟨ws,g1.same fun b hb=>hx.2 b (g1.lt hb) (h4 b hb),g2.imp fun w l hw=>hw.same fun b hb=>by
   obtain ⟨ys,e,hy⟩:=own_ints hw hb
   exact hx.2 b (Yg hy) (h5 b ys e hy),g3⟩
 apo:=s.apo
 apl:=s.apl
theorem LS.app (s:LS I h0 bo bl h ov lv Ls cur) (g:Yb):LS I h0 bo bl (h++g) ov lv Ls cur :=
 s.ext (S:=fun _=>False) (Ext.app _ _ _) (fun _ _ h=>h) (fun h=>h) (fun h=>h) (fun _ _ h=>h) (fun _ _ _ _ h=>h)
theorem LS.storeO {l:List Int} {w:Value} {ws:List Value} (s:LS I h0 bo bl h ov lv Ls cur) (g1:OwnV 22 h ov ws) (g2:Each (OwnSl 3 h) ws Ls) (g3 : ∀ w∈ws,∀ b,Ye w=some b→Ye lv≠some b)
  (hw:OwnSl 3 h w l) (hwl : ∀ b,Ye w=some b→Ye lv≠some b)
  (hx:Ext (fun i=>Ye ov=some i) h h1) (ho:OwnV 22 h1 ov' (ws++[w])) (hb:Ye ov' = Ye ov∨∃ b,Ye ov' = some b∧h.length≤b) :
  LS I h0 bo bl (h1.set bo (.cells [ov'] 45 false)) ov' lv (Ls++[l]) cur:=by
 have ints : ∀ {v:Value} {xs:List Int},OwnSl 3 h v xs→OwnSl 3 (h1.set bo (.cells [ov'] 45 false)) v xs:=fun {v xs} hv=>hv.same fun b hbb=>by
  obtain ⟨ys,hy⟩:=hv.ints hbb
  have hne:bo≠b:=fun he=>by subst he; rw [s.o] at hy; cases hy
  rw [List.getElem?_set_ne hne,hx.2 b (Yg hy) fun h2=>by
   obtain ⟨c,hc⟩:=g1.blk h2
   rw [hc] at hy; cases hy]
 refine ⟨by have:=s.len; have:=hx.1; simp; omega,fun i hi=>?_,s.low,Xm (Nat.lt_of_lt_of_le (Yg s.o) hx.1) _,?_,s.ne,s.no,s.nl,ints s.own,⟨ws++[w],?_,?_,?_⟩,fun b hbb=>?_,s.apl⟩
 · have hl:=Nat.lt_of_lt_of_le (s.low i hi) s.len
   rw [List.getElem?_set_ne (fun h=>s.no (by rw [h]; exact hi)),hx.2 i hl (fun h=>(s.apo i h).1 hi)]
   exact s.keep i hi
 · rw [List.getElem?_set_ne s.ne,hx.2 _ (Yg s.l) (fun h=>(s.apo _ h).2.2 rfl)]; exact s.l
 · refine ho.same fun b hbb=>List.getElem?_set_ne fun he=>?_
   rcases hb with h | ⟨b',h,hl⟩
   · exact (s.apo b (h▸hbb)).2.1 he.symm
   · rw [h] at hbb; cases hbb; have:=Yg s.o; omega
 · exact (g2.imp fun w l hw=>ints hw).app ⟨ints hw,trivial⟩
 · intro w' hw' b hbw
   rcases List.mem_append.1 hw' with h | h
   · exact g3 w' h b hbw
   · rw [List.mem_singleton.1 h] at hbw; exact hwl b hbw
 · rcases hb with h | ⟨b',h,hl⟩
   · exact s.apo b (h▸hbb)
   · rw [h] at hbb; cases hbb
     have h1:=Yg s.o
     have h2:=Yg s.l
     exact ⟨fun hi=>by have:=s.low _ hi; have:=s.len; omega,by omega,by omega⟩
end
structure LR (I:Nat→Prop) (h0:Yb) (bo bl:Nat) (h:Yb) (ov0 lv0:Value) (left:Nat) (h' : Yb) (ov lv:Value) (Ls:List (List Int)) (cur:List Int):Prop where
 gs:LS I h0 bo bl h' ov lv Ls cur
 low:h0.length≤h.length
 lto:bo<h.length
 ltl:bl<h.length
 bx:h'[h.length]? = some (.cells [Zx left] 3 false)
 nbx : ∀ b,Ye ov=some b→b≠h.length
 ext:Ext (gS bo bl ov0 lv0) h h'
 blko:Ye ov=Ye ov0∨∃ b,Ye ov=some b∧h.length≤b
 blkl:Ye lv=Ye lv0∨∃ b,Ye lv=some b∧h.length≤b
section
variable {I:Nat→Prop} {h0 h h' h1:Yb} {bo bl left:Nat} {ov0 lv0 ov lv ov' lv' : Value} {Ls Ls' : List (List Int)} {cur cur' : List Int}
theorem LR.of (s:LS I h0 bo bl h ov lv Ls cur):LR I h0 bo bl h ov lv left (h++[.cells [Zx left] 3 false]) ov lv Ls cur where
 gs:=s.app _
 low:=s.len
 lto:=Yg s.o
 ltl:=Yg s.l
 bx:=by simp
 nbx b hb:=by
  obtain ⟨ws,g1,_⟩:=s.out
  have:=g1.lt hb; omega
 ext:=Ext.app _ _ _
 blko:=.inl rfl
 blkl:=.inl rfl
theorem LR.go (s:LR I h0 bo bl h ov0 lv0 left h' ov lv Ls cur) (g:LS I h0 bo bl h1 ov' lv' Ls' cur') (hx:Ext (gS bo bl ov lv) h' h1) (hbo:Ye ov' = Ye ov∨∃ b,Ye ov' = some b∧h'.length≤b) (hbl:Ye lv' = Ye lv∨∃ b,Ye lv' = some b∧h'.length≤b) :
  LR I h0 bo bl h ov0 lv0 left h1 ov' lv' Ls' cur' where
 gs:=g
 low:=s.low
 lto:=s.lto
 ltl:=s.ltl
 bx:=by
  rw [hx.2 _ (Yg s.bx) ?_]
  · exact s.bx
  · rintro (h | h | h | h)
    · have:=s.lto; omega
    · have:=s.ltl; omega
    · exact s.nbx _ h rfl
    · exact s.gs.own.notCells s.bx h
 nbx b hb:=by
  rcases hbo with h | ⟨b',h,h2⟩
  · exact s.nbx b (h▸hb)
  · rw [h] at hb; cases hb; have:=Yg s.bx; omega
 ext:=⟨Nat.le_trans s.ext.1 hx.1,fun i hi hs=>by
  rw [hx.2 i (Nat.lt_of_lt_of_le hi s.ext.1),s.ext.2 i hi hs]
  rintro (h | h | h | h)
  · exact hs (.inl h)
  · exact hs (.inr (.inl h))
  · rcases s.blko with h2 | ⟨b,h2,h3⟩
    · exact hs (.inr (.inr (.inl (h2▸h))))
    · rw [h2] at h; cases h; omega
  · rcases s.blkl with h2 | ⟨b,h2,h3⟩
    · exact hs (.inr (.inr (.inr (h2▸h))))
    · rw [h2] at h; cases h; omega⟩
 blko:=by
  have:=s.ext.1
  rcases hbo with h | ⟨b,h,h2⟩
  · rw [h]; exact s.blko
  · exact .inr ⟨b,h,by omega⟩
 blkl:=by
  have:=s.ext.1
  rcases hbl with h | ⟨b,h,h2⟩
  · rw [h]; exact s.blkl
  · exact .inr ⟨b,h,by omega⟩
theorem LR.app (s:LR I h0 bo bl h ov0 lv0 left h' ov lv Ls cur) (g:Yb):LR I h0 bo bl h ov0 lv0 left (h'++g) ov lv Ls cur:=s.go (s.gs.app g) (Ext.app _ _ _) (.inl rfl) (.inl rfl)
theorem LR.else (s:LR I h0 bo bl h ov0 lv0 left h' ov lv Ls cur) {j:Nat} {B:Blk} (hj:h.length<j) (ho:Ye ov≠some j) (hc : ∀ ys e,h'[j]?≠some (.ints ys e false)):LR I h0 bo bl h ov0 lv0 left (h'.set j B) ov lv Ls cur:=by
 have hlen:=s.low
 have hext:=s.ext.1
 have hx:Ext (fun i=>i=j) h' (h'.set j B):=Ext.set _ rfl
 have hbo:=s.lto
 have hbl:=s.ltl
 refine ⟨s.gs.ext hx (fun i hi he=>by have:=s.gs.low i hi; omega) (by omega) (by omega) (fun b hb he=>ho (he▸hb)) (fun b ys e hy he=>hc ys e (he▸hy)),s.low,s.lto,s.ltl,by rw [List.getElem?_set_ne (by omega)]; exact s.bx,s.nbx,?_,s.blko,s.blkl⟩
 exact ⟨by simp; exact hext,fun i hi hs=>by rw [List.getElem?_set_ne (by omega)]; exact s.ext.2 i hi hs⟩
theorem LR.box (s:LR I h0 bo bl h ov0 lv0 left h' ov lv Ls cur) {i:Nat} {B:Blk} (hi:I i) (hb:h0[i]? = some B):h'[i]? = some B:=(s.gs.keep i hi).trans hb
end
end Go.Proofs.Tryd.Am
namespace Go.Proofs.Tryd.Am
open Go.Am Ord
set_option maxRecDepth 100000
set_option maxHeartbeats 1000000
end Go.Proofs.Tryd.Am
namespace Go.Proofs.Tryd.Am
open Go.Am Ord
set_option maxRecDepth 100000
set_option maxHeartbeats 1000000
end Go.Proofs.Tryd.Am
namespace Go.Proofs.Tryd.Am
open Go.Am Ord
set_option maxRecDepth 100000
set_option maxHeartbeats 1000000
end Go.Proofs.Tryd.Am
namespace Go.Proofs.Tryd.Am
open Go.Am Ord
set_option maxRecDepth 100000
set_option maxHeartbeats 1000000
theorem AddR.ext {o:List Int} {i j:Int} {s:Value} {e:Int} {h h' : Yb} (ha:AddR o i j s e h) (hE:Ext (fun _=>False) h h'):AddR o i j s e h':=by
 by_cases h1:ord o=true∧elI o i=true∧elI o j=true
 · rw [AddR,if_pos h1] at ha ⊢
   by_cases h2:fr o i.toNat j.toNat=true
   · rw [if_pos h2] at ha ⊢; exact ⟨ha.1,Vz ha.2 hE⟩
   · rw [if_neg h2] at ha ⊢; exact ha
 · rw [AddR,if_neg h1] at ha ⊢; exact ha
end Go.Proofs.Tryd.Am
namespace Go.Proofs.Tryd.Am
open Go.Am Ord
set_option maxRecDepth 100000
set_option maxHeartbeats 1000000
end Go.Proofs.Tryd.Am
namespace Go.Proofs.Tryd.Am
open Go.Am Ord
set_option maxRecDepth 100000
set_option maxHeartbeats 4000000
end Go.Proofs.Tryd.Am
namespace Go.Am
section
variable {P:Program} {e e2:TypeId} {h:Yb} {v:Value} {ws:List Value} {Ls:List (List Int)}
def CapV (e:TypeId) (h:Yb) (v:Value) (ws:List Value):Prop:=(v = .slice none 0 0∧ws=[])∨(∃ (b:Nat) (ys:List Value),v = .slice (some ⟨b,0,none⟩) ws.length ws.length∧ws≠[]∧h[b]? = some (.cells (ws++ys) e false))
theorem OwnV.cap {t:TypeId} (ho:OwnV e h v ws) (he:elemOf' P t=some e) (hs:esz P e=some 1) {K:Value→Prop} (hk : ∀ v',CapV e h v' ws→K v') :
  Xq P t v none (some (Zx ws.length)) (some (Zx ws.length)) K:=by
 rcases ho with ⟨rfl,rfl⟩ | ⟨b,ys,rfl,hne,hb⟩
 · simp only [Xq,he,hs,bnd,Option.bind_some,Option.isSome_some]
   exact ⟨trivial,rfl,rfl,rfl,hk _ (.inl ⟨rfl,rfl⟩)⟩
 · simp only [Xq,he,hs,bnd]
   refine ⟨Int.le_refl _,by omega,by omega,by omega,rfl,?_⟩
   have h1:(if (ws.length:Int)=((0:Nat):Int) then 0 else 0+(((0:Nat):Int)).toNat*1)=0:=by split <;> rfl
   have h2:((ws.length:Int)-((0:Nat):Int)).toNat=ws.length:=by omega
   have h3:(ws.length:Int).toNat-((0:Nat):Int).toNat=ws.length:=by simp
   rw [h1,h2,h3]
   exact hk _ (.inr ⟨b,ys,rfl,hne,hb⟩)
theorem CapV.ext {h' : Yb} (c:CapV e h v ws) (hE:Ext (fun _=>False) h h'):CapV e h' v ws :=
 c.imp id fun ⟨b,ys,h1,h2,h3⟩=>⟨b,ys,h1,h2,(hE.2 b (Yg h3) id).trans h3⟩
theorem CapV.app {t t2:TypeId} {bytes:Nat} {x:Value} {us:List Value} (ho:CapV e h v ws) (hT:appT P t t2=some (e,1,bytes)) (hx:ValSl h x us) (hu0:us≠[]) (hw : ∀ w∈ws++us,notI w=true∧one w=true) (hn:(ws.length+us.length)*bytes≤140737488355328)
  {K:Value→Yb→Prop} (hk : ∀ v',OwnV e (h++[.cells (ws++us) e false]) v' (ws++us)→K v' (h++[.cells (ws++us) e false])):Xc P h t t2 v x K:=by
 have hul:us.length≠0:=fun h=>hu0 (List.length_eq_zero_iff.1 h)
 simp only [Xc,hT]
 refine hx.elems ?_
 rcases ho with ⟨rfl,rfl⟩ | ⟨b,ys,rfl,hne,hb⟩
 · simp only [putK]
   refine ⟨fun h0=>absurd h0 hul,fun h0=>⟨by simpa using hn,?_⟩⟩
   rw [mkb_no hu0 (fun w h=>(hw w (by simp [h])).1)]
   refine hk _ (.inr ⟨h.length,[],by simp,by simpa using hu0,?_⟩)
   rw [List.getElem?_append_right (Nat.le_refl _)]
   simp
 · simp only [putK,hb]
   refine ⟨fun hroom=>by omega,fun _=>⟨hn,?_⟩⟩
   rw [Vf (c:=ws++ys) (e:=e) (ro:=false) (by simp [view,hb,Blk.view]) (.inl (by rw [Vb hb]; rfl))]
   have e1:List.take (ws.length*1) (List.drop 0 (ws++ys))=ws:=by simp
   refine ⟨by simp,?_⟩
   rw [e1,mkb_no (by simp [hne]) (fun w h=>(hw w h).1)]
   refine hk _ (.inr ⟨h.length,[],by simp,by simp [hne],?_⟩)
   rw [List.getElem?_append_right (Nat.le_refl _)]
   simp
end
end Go.Am
namespace Go.Proofs.Tryd.Am
open Go.Am Ord
set_option maxRecDepth 100000
set_option maxHeartbeats 4000000
end Go.Proofs.Tryd.Am
namespace Go.Proofs.Tryd.Am
open Go.Am Ord
set_option maxRecDepth 100000
set_option maxHeartbeats 4000000
end Go.Proofs.Tryd.Am
namespace Go.Proofs.Tryd.Am
open Go.Am Ord
set_option maxRecDepth 100000
set_option maxHeartbeats 4000000
theorem take_F {o:List Int} (h:ord o=false):ord (o.take 9)=false:=by rw [ord_take]; exact h
end Go.Proofs.Tryd.Am
namespace Go.Proofs.Tryd.Am
open Go.Am Ord
set_option maxRecDepth 100000
set_option maxHeartbeats 1000000
theorem tmodN (x y:Nat):((x:Nat):Int).tmod ((y:Nat):Int)=((x % y:Nat):Int):=by
 rw [Int.tmod_eq_emod_of_nonneg (by omega)]; rfl
end Go.Proofs.Tryd.Am
namespace Go.Proofs.Tryd.Am
open Go.Am Ord
set_option maxRecDepth 100000
set_option maxHeartbeats 1000000
def hTo (o:List Int) (i:Nat):Nat→Nat
 | 0=>0
 | k+1=>hTo o i k+((Ws o).getD k []).idxOf i
end Go.Proofs.Tryd.Am
namespace Go.Proofs.Tryd.Am
open Go.Am Ord
set_option maxRecDepth 100000
set_option maxHeartbeats 1000000
end Go.Proofs.Tryd.Am
namespace Go.Proofs.Tryd.Am
open Go.Am
set_option maxRecDepth 100000
end Go.Proofs.Tryd.Am
namespace Go.Proofs.Tryd.Am
open Go.Am Ord
set_option maxRecDepth 100000
set_option maxHeartbeats 1000000
end Go.Proofs.Tryd.Am
namespace Go.Proofs.Tryd.Am
open Go.Am Ord
set_option maxRecDepth 100000
set_option maxHeartbeats 1000000
end Go.Proofs.Tryd.Am
namespace Go.Proofs.Tryd.Am
open Go.Am Ord
set_option maxRecDepth 100000
set_option maxHeartbeats 1000000
end Go.Proofs.Tryd.Am
namespace Go.Proofs.Tryd.Am
open Go.Am Ord
set_option maxRecDepth 100000
set_option maxHeartbeats 1000000
theorem remU (i:Int) {n:Nat} (h1:1≤n) (h2:n≤6) : ∃ k:Nat,k<n∧IntKind.i64.wrap ((IntKind.u64.wrap i).tmod (IntKind.u64.wrap (n:Int)))=(k:Int):=by
 have hn:IntKind.u64.wrap (n:Int)=(n:Int):=by simp [IntKind.wrap,IntKind.signed,IntKind.bits]; omega
 have hi:0≤IntKind.u64.wrap i:=by simp [IntKind.wrap,IntKind.signed,IntKind.bits]; omega
 obtain ⟨x,hx⟩ : ∃ x:Nat,IntKind.u64.wrap i=(x:Int):=⟨(IntKind.u64.wrap i).toNat,by omega⟩
 rw [hn,hx,tmodN]
 have:=Nat.mod_lt x (show n > 0 by omega)
 exact ⟨x % n,this,wrap_id (by omega) (by omega)⟩
end Go.Proofs.Tryd.Am
