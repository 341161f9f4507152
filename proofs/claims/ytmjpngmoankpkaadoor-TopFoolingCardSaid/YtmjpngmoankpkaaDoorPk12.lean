/-
  sure: whether a slice is a graph: the two functions that say so; words that are confused.
  sure: words that are confused, as the program and as the reference ask; how many words there are.
  sure: the graph of all words of some length.
  sure: how many words of a set can be in one code: the program's count.
  sure: the first greatest code, as the program finds it.
  sure: the sets of neighbours, by the program and by the reference.
  sure: how many sets of neighbours are needed: the program's and the reference's table.
  sure: what the table of covers holds.
  top: a cover has at least the rectangles that the signals need, plain.
-/
import Derived.Test.YtmjpngmoankpkaaDoorPk11
import Derived.Test.YtmjpngmoankpkaaDoorPk4
import Derived.Test.YtmjpngmoankpkaaDoorPk6
import Derived.Test.YtmjpngmoankpkaaDoorPk7
import Derived.Test.YtmjpngmoankpkaaDoorPk8
set_option linter.all false
namespace Go.Proofs.Tryd.Am.Su
open Go.Proofs.Tryd.Am
open Go.Am Sr
set_option maxRecDepth 100000
set_option maxHeartbeats 1000000
theorem testI {z:Int} (h0:0≤z) (h1:z<9223372036854775808) (i:Nat):We .and .i64 (shrV .i64 z i) 1=if z.toNat.testBit i then 1 else 0:=by
 have:=testV (a:=z.toNat) (y:=i) (by omega)
 rw [Int.toNat_of_nonneg h0] at this
 exact this
theorem pow6 {n:Nat} (h:n≤6):(2:Int) ^ n≤64∧0<(2:Int) ^ n:=by
 have:n=0∨n=1∨n=2∨n=3∨n=4∨n=5∨n=6:=by omega
 rcases this with rfl | rfl | rfl | rfl | rfl | rfl | rfl <;> decide
theorem shl1 {n:Nat} (h:n≤62):shlV .i64 1 n=2 ^ n:=by
 have h2:2 ^ n≤2 ^ 62:=Nat.pow_le_pow_right (by decide) h
 have:=shlV_nat (a:=1) (y:=n) (by omega) (by omega)
 simpa using this
theorem bne01 (a b:Bool):((if a then (1:Int) else 0) != if b then (1:Int) else 0)=(a != b):=by cases a <;> cases b <;> rfl
def inR (xs:List Int) (i:Nat):Prop:=0≤xs.getD i 0∧xs.getD i 0<2 ^ xs.length
def grs (xs:List Int):Bool :=
 decide (1≤xs.length)&&decide (xs.length≤6)&&(List.range xs.length).all fun i=>decide (0≤xs.getD i 0)&&decide (xs.getD i 0<2 ^ xs.length) && !gb xs i i&&(List.range xs.length).all fun j=>gb xs i j==gb xs j i
theorem grs_iff {xs:List Int}:grs xs=true↔Gs xs:=by
 simp only [grs,Gs,Bool.and_eq_true,decide_eq_true_eq,List.all_eq_true,List.mem_range,Bool.not_eq_true',beq_iff_eq,and_assoc]
theorem grs_no {xs:List Int} (h : ¬ Gs xs):grs xs=false:=by rw [← Bool.not_eq_true,grs_iff]; exact h
theorem gs_lt {xs:List Int} (g:Gs xs) {i:Nat} (hi:i<xs.length):0≤xs.getD i 0∧xs.getD i 0<64:=by
 have h:=(g.2.2 i hi).1
 have:=pow6 g.2.1
 omega
theorem getD_rng {xs:List Int} (hx : ∀ x∈xs,-9223372036854775808≤x∧x<9223372036854775808) {i:Nat} (hi:i<xs.length) : -9223372036854775808≤xs.getD i 0∧xs.getD i 0<9223372036854775808 :=
 hx (xs.getD i 0) (by rw [List.getD,List.getElem?_eq_getElem hi]; exact List.getElem_mem hi)
theorem valid_call [Tabs prog] {h:Yc} {v:Value} {xs:List Int} (hv:IntSl h v xs) (hl:xs.length<9223372036854775808) (hx : ∀ x∈xs,-9223372036854775808≤x∧x<9223372036854775808):APure prog 49 [v] h (.bool (grs xs)):=by
 refine s49_call (by simp) ?_
 simp (maxSteps:=2000000) only [s49,↓Za,↓Zk,↓Zr,↓Ze,↓Zm,↓Zs,↓Zf,↓Zh,↓Zg,↓Zc,↓Zb,↓vdn,vup,Zn,Zl,Zo,Zi,Zj,List.map_cons,List.map_nil,cond_true,cond_false,aop,Zv,Zq,Zp,ev,sput,Zt,Zy,Ya,unK,Zd,Zw,Nat.reduceBEq,Nat.reduceAdd,Int.reduceBEq,Int.reduceBNe,Int.reduceLT,Zu,Zz,tup,tyf,hv.len]
 by_cases h1:(xs.length:Int)<1
 · have ht:grs xs=false:=grs_no fun g=>by have:=g.1; omega
   simp (maxSteps:=2000000) only [s49,↓Za,↓Zk,↓Zr,↓Ze,↓Zm,↓Zs,↓Zf,↓Zh,↓Zg,↓Zc,↓Zb,↓vdn,vup,Zn,Zl,Zo,Zi,Zj,List.map_cons,List.map_nil,cond_true,cond_false,aop,Zv,Zq,Zp,ev,sput,Zt,Zy,Ya,unK,Zd,Zw,Nat.reduceBEq,Nat.reduceAdd,Int.reduceBEq,Int.reduceBNe,Int.reduceLT,Zu,Zz,tup,tyf,h1,ht]
 by_cases h8:(6:Int)<xs.length
 · have ht:grs xs=false:=grs_no fun g=>by have:=g.2.1; omega
   simp (maxSteps:=2000000) only [s49,↓Za,↓Zk,↓Zr,↓Ze,↓Zm,↓Zs,↓Zf,↓Zh,↓Zg,↓Zc,↓Zb,↓vdn,vup,Zn,Zl,Zo,Zi,Zj,List.map_cons,List.map_nil,cond_true,cond_false,aop,Zv,Zq,Zp,ev,sput,Zt,Zy,Ya,unK,Zd,Zw,Nat.reduceBEq,Nat.reduceAdd,Int.reduceBEq,Int.reduceBNe,Int.reduceLT,Zu,Zz,tup,tyf,h1,gt_iff_lt,h8,ht]
 have hp:=pow6 (n:=xs.length) (by omega)
 simp (maxSteps:=2000000) only [s49,↓Za,↓Zk,↓Zr,↓Ze,↓Zm,↓Zs,↓Zf,↓Zh,↓Zg,↓Zc,↓Zb,↓vdn,vup,Zn,Zl,Zo,Zi,Zj,List.map_cons,List.map_nil,cond_true,cond_false,aop,Zv,Zq,Zp,ev,sput,Zt,Zy,Ya,unK,Zd,Zw,Nat.reduceBEq,Nat.reduceAdd,Int.reduceBEq,Int.reduceBNe,Int.reduceLT,Zu,Zz,tup,tyf,h1,gt_iff_lt,h8,hv.len,↓Xo]
 refine Yf fun Q hQ=>?_
 refine Ve (γ:=Nat) (fun i=>i≤xs.length∧∀ k,k<i→inR xs k∧gb xs k k=false∧∀ j,j<xs.length→inR xs j→gb xs k j=gb xs j k)
  (fun i=>([(0,v),(2,.bool false),(3,Zx xs.length),(15,v),(16,Zx xs.length),(17,Zx i)],h)) (fun i=>xs.length-i) 0 ⟨by omega,fun _ hk=>by omega⟩ (by simp (maxSteps:=2000000) only [↓Za,↓Zk,↓Zr,↓Ze,↓Zm,↓Zs,↓Zf,↓Zh,↓Zg,↓Zc,↓Zb,↓vdn,vup,Zn,Zl,Zo,Zi,Zj,List.map_cons,List.map_nil,cond_true,cond_false,aop,Zv,Zq,Zp,ev,sput,Zt,Zy,Ya,unK,Zd,Zw,Nat.reduceBEq,Nat.reduceAdd,Int.reduceBEq,Int.reduceBNe,Int.reduceLT,Zu,Zz,tup,tyf,Int.natCast_zero]) rfl ?_
 rintro i ⟨hi,hok⟩
 refine Vi fun Q2 hQ2=>?_
 by_cases hin:(i:Int)<xs.length
 · have hin' : i<xs.length:=by omega
   obtain ⟨hx1,hx2⟩:=getD_rng hx hin'
   simp (maxSteps:=2000000) only [s49,↓Za,↓Zk,↓Zr,↓Ze,↓Zm,↓Zs,↓Zf,↓Zh,↓Zg,↓Zc,↓Zb,↓vdn,vup,Zn,Zl,Zo,Zi,Zj,List.map_cons,List.map_nil,cond_true,cond_false,aop,Zv,Zq,Zp,ev,sput,Zt,Zy,Ya,unK,Zd,Zw,Nat.reduceBEq,Nat.reduceAdd,Int.reduceBEq,Int.reduceBNe,Int.reduceLT,Zu,Zz,tup,tyf,l49_1,hin,hv.idx el_84 Xk hin',hv.load Yw hin']
   by_cases hneg:xs.getD i 0<0
   · have hb:=grs_no (xs:=xs) fun g=>by have:=(g.2.2 i hin').1.1; omega
     simp (maxSteps:=2000000) only [s49,↓Za,↓Zk,↓Zr,↓Ze,↓Zm,↓Zs,↓Zf,↓Zh,↓Zg,↓Zc,↓Zb,↓vdn,vup,Zn,Zl,Zo,Zi,Zj,List.map_cons,List.map_nil,cond_true,cond_false,aop,Zv,Zq,Zp,ev,sput,Zt,Zy,Ya,unK,Zd,Zw,Nat.reduceBEq,Nat.reduceAdd,Int.reduceBEq,Int.reduceBNe,Int.reduceLT,Zu,Zz,tup,tyf,hneg]
     refine hQ2 _ _ _ (hQ _ _ _ ?_)
     simp (maxSteps:=2000000) only [↓Za,↓Zk,↓Zr,↓Ze,↓Zm,↓Zs,↓Zf,↓Zh,↓Zg,↓Zc,↓Zb,↓vdn,vup,Zn,Zl,Zo,Zi,Zj,List.map_cons,List.map_nil,cond_true,cond_false,aop,Zv,Zq,Zp,ev,sput,Zt,Zy,Ya,unK,Zd,Zw,Nat.reduceBEq,Nat.reduceAdd,Int.reduceBEq,Int.reduceBNe,Int.reduceLT,Zu,Zz,tup,tyf,hb]
   simp (maxSteps:=2000000) only [s49,↓Za,↓Zk,↓Zr,↓Ze,↓Zm,↓Zs,↓Zf,↓Zh,↓Zg,↓Zc,↓Zb,↓vdn,vup,Zn,Zl,Zo,Zi,Zj,List.map_cons,List.map_nil,cond_true,cond_false,aop,Zv,Zq,Zp,ev,sput,Zt,Zy,Ya,unK,Zd,Zw,Nat.reduceBEq,Nat.reduceAdd,Int.reduceBEq,Int.reduceBNe,Int.reduceLT,Zu,Zz,tup,tyf,hneg,shl1 (show xs.length≤62 by omega),Int.natCast_nonneg]
   by_cases hbig:2 ^ xs.length≤xs.getD i 0
   · have hb:=grs_no (xs:=xs) fun g=>by have:=(g.2.2 i hin').1.2; omega
     simp (maxSteps:=2000000) only [s49,↓Za,↓Zk,↓Zr,↓Ze,↓Zm,↓Zs,↓Zf,↓Zh,↓Zg,↓Zc,↓Zb,↓vdn,vup,Zn,Zl,Zo,Zi,Zj,List.map_cons,List.map_nil,cond_true,cond_false,aop,Zv,Zq,Zp,ev,sput,Zt,Zy,Ya,unK,Zd,Zw,Nat.reduceBEq,Nat.reduceAdd,Int.reduceBEq,Int.reduceBNe,Int.reduceLT,Zu,Zz,tup,tyf,ge_iff_le,hbig]
     refine hQ2 _ _ _ (hQ _ _ _ ?_)
     simp (maxSteps:=2000000) only [↓Za,↓Zk,↓Zr,↓Ze,↓Zm,↓Zs,↓Zf,↓Zh,↓Zg,↓Zc,↓Zb,↓vdn,vup,Zn,Zl,Zo,Zi,Zj,List.map_cons,List.map_nil,cond_true,cond_false,aop,Zv,Zq,Zp,ev,sput,Zt,Zy,Ya,unK,Zd,Zw,Nat.reduceBEq,Nat.reduceAdd,Int.reduceBEq,Int.reduceBNe,Int.reduceLT,Zu,Zz,tup,tyf,hb]
   have hs0:0≤xs.getD i 0:=by omega
   have hs1:xs.getD i 0<9223372036854775808:=by omega
   have tt : ∀ j:Nat,We .and .i64 (shrV .i64 (xs.getD i 0) j) 1=if gb xs i j then 1 else 0:=fun j=>testI hs0 hs1 j
   cases hbit:gb xs i i with
   | true =>
     have hb:=grs_no (xs:=xs) fun g=>by have:=(g.2.2 i hin').2.1; rw [hbit] at this; cases this
     simp (maxSteps:=2000000) only [s49,↓Za,↓Zk,↓Zr,↓Ze,↓Zm,↓Zs,↓Zf,↓Zh,↓Zg,↓Zc,↓Zb,↓vdn,vup,Zn,Zl,Zo,Zi,Zj,List.map_cons,List.map_nil,cond_true,cond_false,aop,Zv,Zq,Zp,ev,sput,Zt,Zy,Ya,unK,Zd,Zw,Nat.reduceBEq,Nat.reduceAdd,Int.reduceBEq,Int.reduceBNe,Int.reduceLT,Zu,Zz,tup,tyf,ge_iff_le,hbig,Int.natCast_nonneg,tt,hbit,if_true,Int.reduceBEq]
     refine hQ2 _ _ _ (hQ _ _ _ ?_)
     simp (maxSteps:=2000000) only [↓Za,↓Zk,↓Zr,↓Ze,↓Zm,↓Zs,↓Zf,↓Zh,↓Zg,↓Zc,↓Zb,↓vdn,vup,Zn,Zl,Zo,Zi,Zj,List.map_cons,List.map_nil,cond_true,cond_false,aop,Zv,Zq,Zp,ev,sput,Zt,Zy,Ya,unK,Zd,Zw,Nat.reduceBEq,Nat.reduceAdd,Int.reduceBEq,Int.reduceBNe,Int.reduceLT,Zu,Zz,tup,tyf,hb]
   | false =>
   simp (maxSteps:=2000000) only [s49,↓Za,↓Zk,↓Zr,↓Ze,↓Zm,↓Zs,↓Zf,↓Zh,↓Zg,↓Zc,↓Zb,↓vdn,vup,Zn,Zl,Zo,Zi,Zj,List.map_cons,List.map_nil,cond_true,cond_false,aop,Zv,Zq,Zp,ev,sput,Zt,Zy,Ya,unK,Zd,Zw,Nat.reduceBEq,Nat.reduceAdd,Int.reduceBEq,Int.reduceBNe,Int.reduceLT,Zu,Zz,tup,tyf,ge_iff_le,hbig,Int.natCast_nonneg,tt,hbit,if_false,Bool.false_eq_true,Int.reduceBEq,↓Xo]
   refine Yf fun Q3 hQ3=>?_
   refine Ve (γ:=Nat) (fun j=>j≤xs.length∧∀ k,k<j→inR xs k→gb xs i k=gb xs k i)
    (fun j=>([(0,v),(2,.bool false),(3,Zx xs.length),(4,Zx i),(5,Zx (xs.getD i 0)),(15,v),(16,Zx xs.length),(17,Zx i),(37,Zx xs.length),(38,Zx j)],h)) (fun j=>xs.length-j) 0 ⟨by omega,fun _ hk=>by omega⟩ (by simp (maxSteps:=2000000) only [↓Za,↓Zk,↓Zr,↓Ze,↓Zm,↓Zs,↓Zf,↓Zh,↓Zg,↓Zc,↓Zb,↓vdn,vup,Zn,Zl,Zo,Zi,Zj,List.map_cons,List.map_nil,cond_true,cond_false,aop,Zv,Zq,Zp,ev,sput,Zt,Zy,Ya,unK,Zd,Zw,Nat.reduceBEq,Nat.reduceAdd,Int.reduceBEq,Int.reduceBNe,Int.reduceLT,Zu,Zz,tup,tyf,Int.natCast_zero]) rfl ?_
   rintro j ⟨hj,hokj⟩
   refine Vi fun Q4 hQ4=>?_
   by_cases hji:(j:Int)<xs.length
   · have hjn:j<xs.length:=by omega
     simp (maxSteps:=2000000) only [s49,↓Za,↓Zk,↓Zr,↓Ze,↓Zm,↓Zs,↓Zf,↓Zh,↓Zg,↓Zc,↓Zb,↓vdn,vup,Zn,Zl,Zo,Zi,Zj,List.map_cons,List.map_nil,cond_true,cond_false,aop,Zv,Zq,Zp,ev,sput,Zt,Zy,Ya,unK,Zd,Zw,Nat.reduceBEq,Nat.reduceAdd,Int.reduceBEq,Int.reduceBNe,Int.reduceLT,Zu,Zz,tup,tyf,l49_0,hji]
     refine aw_draw [] (by kernel_rfl) (by kernel_rfl) (by kernel_rfl) ?_
     have hgood:inR xs j→We .and .i64 (shrV .i64 (xs.getD j 0) i) 1=if gb xs j i then 1 else 0:=fun hr=>testI hr.1 (by have:=hr.2; omega) i
     cases heq:((if gb xs i j then (1:Int) else 0) != We .and .i64 (shrV .i64 (xs.getD j 0) i) 1) with
     | true =>
       have hb:=grs_no (xs:=xs) fun g=>by
        have g1:=g.2.2 j hjn
        rw [hgood g1.1,bne01,(g.2.2 i hin').2.2 j hjn,bne_self_eq_false] at heq
        cases heq
       simp (maxSteps:=2000000) only [s49,↓Za,↓Zk,↓Zr,↓Ze,↓Zm,↓Zs,↓Zf,↓Zh,↓Zg,↓Zc,↓Zb,↓vdn,vup,Zn,Zl,Zo,Zi,Zj,List.map_cons,List.map_nil,cond_true,cond_false,aop,Zv,Zq,Zp,ev,sput,Zt,Zy,Ya,unK,Zd,Zw,Nat.reduceBEq,Nat.reduceAdd,Int.reduceBEq,Int.reduceBNe,Int.reduceLT,Zu,Zz,tup,tyf,Int.natCast_nonneg,tt,hv.idx el_84 Xk hjn,hv.load Yw hjn,heq]
       refine hQ4 _ _ _ (hQ3 _ _ _ ?_)
       simp (maxSteps:=2000000) only [s49,↓Za,↓Zk,↓Zr,↓Ze,↓Zm,↓Zs,↓Zf,↓Zh,↓Zg,↓Zc,↓Zb,↓vdn,vup,Zn,Zl,Zo,Zi,Zj,List.map_cons,List.map_nil,cond_true,cond_false,aop,Zv,Zq,Zp,ev,sput,Zt,Zy,Ya,unK,Zd,Zw,Nat.reduceBEq,Nat.reduceAdd,Int.reduceBEq,Int.reduceBNe,Int.reduceLT,Zu,Zz,tup,tyf]
       refine hQ2 _ _ _ (hQ _ _ _ ?_)
       simp (maxSteps:=2000000) only [↓Za,↓Zk,↓Zr,↓Ze,↓Zm,↓Zs,↓Zf,↓Zh,↓Zg,↓Zc,↓Zb,↓vdn,vup,Zn,Zl,Zo,Zi,Zj,List.map_cons,List.map_nil,cond_true,cond_false,aop,Zv,Zq,Zp,ev,sput,Zt,Zy,Ya,unK,Zd,Zw,Nat.reduceBEq,Nat.reduceAdd,Int.reduceBEq,Int.reduceBNe,Int.reduceLT,Zu,Zz,tup,tyf,hb]
     | false =>
       simp (maxSteps:=2000000) only [s49,↓Za,↓Zk,↓Zr,↓Ze,↓Zm,↓Zs,↓Zf,↓Zh,↓Zg,↓Zc,↓Zb,↓vdn,vup,Zn,Zl,Zo,Zi,Zj,List.map_cons,List.map_nil,cond_true,cond_false,aop,Zv,Zq,Zp,ev,sput,Zt,Zy,Ya,unK,Zd,Zw,Nat.reduceBEq,Nat.reduceAdd,Int.reduceBEq,Int.reduceBNe,Int.reduceLT,Zu,Zz,tup,tyf,Int.natCast_nonneg,tt,hv.idx el_84 Xk hjn,hv.load Yw hjn,heq,Vd (show j<9223372036854775807 by omega)]
       refine hQ4 _ _ _ ⟨j+1,⟨by omega,fun k hk hr=>?_⟩,by omega,by simp (maxSteps:=2000000) only [↓Za,↓Zk,↓Zr,↓Ze,↓Zm,↓Zs,↓Zf,↓Zh,↓Zg,↓Zc,↓Zb,↓vdn,vup,Zn,Zl,Zo,Zi,Zj,List.map_cons,List.map_nil,cond_true,cond_false,aop,Zv,Zq,Zp,ev,sput,Zt,Zy,Ya,unK,Zd,Zw,Nat.reduceBEq,Nat.reduceAdd,Int.reduceBEq,Int.reduceBNe,Int.reduceLT,Zu,Zz,tup,tyf],rfl⟩
       by_cases hkj:k=j
       · subst hkj
         rw [hgood hr,bne01,bne_eq_false_iff_eq] at heq
         exact heq
       · exact hokj k (by omega) hr
   · obtain rfl:j=xs.length:=by omega
     simp (maxSteps:=2000000) only [s49,↓Za,↓Zk,↓Zr,↓Ze,↓Zm,↓Zs,↓Zf,↓Zh,↓Zg,↓Zc,↓Zb,↓vdn,vup,Zn,Zl,Zo,Zi,Zj,List.map_cons,List.map_nil,cond_true,cond_false,aop,Zv,Zq,Zp,ev,sput,Zt,Zy,Ya,unK,Zd,Zw,Nat.reduceBEq,Nat.reduceAdd,Int.reduceBEq,Int.reduceBNe,Int.reduceLT,Zu,Zz,tup,tyf,l49_0,Int.lt_irrefl]
     refine hQ4 _ _ _ (hQ3 _ _ _ ?_)
     simp (maxSteps:=2000000) only [s49,↓Za,↓Zk,↓Zr,↓Ze,↓Zm,↓Zs,↓Zf,↓Zh,↓Zg,↓Zc,↓Zb,↓vdn,vup,Zn,Zl,Zo,Zi,Zj,List.map_cons,List.map_nil,cond_true,cond_false,aop,Zv,Zq,Zp,ev,sput,Zt,Zy,Ya,unK,Zd,Zw,Nat.reduceBEq,Nat.reduceAdd,Int.reduceBEq,Int.reduceBNe,Int.reduceLT,Zu,Zz,tup,tyf,if_true,Vd (show i<9223372036854775807 by omega)]
     refine hQ2 _ _ _ ⟨i+1,⟨by omega,fun k hk=>?_⟩,by omega,by simp (maxSteps:=2000000) only [↓Za,↓Zk,↓Zr,↓Ze,↓Zm,↓Zs,↓Zf,↓Zh,↓Zg,↓Zc,↓Zb,↓vdn,vup,Zn,Zl,Zo,Zi,Zj,List.map_cons,List.map_nil,cond_true,cond_false,aop,Zv,Zq,Zp,ev,sput,Zt,Zy,Ya,unK,Zd,Zw,Nat.reduceBEq,Nat.reduceAdd,Int.reduceBEq,Int.reduceBNe,Int.reduceLT,Zu,Zz,tup,tyf],rfl⟩
     by_cases hkj:k=i
     · subst hkj
       exact ⟨⟨hs0,by omega⟩,hbit,fun j hj hr=>hokj j hj hr⟩
     · exact hok k (by omega)
 · obtain rfl:i=xs.length:=by omega
   have ht:grs xs=true:=grs_iff.2 ⟨by omega,by omega,fun i hi=>⟨(hok i hi).1,(hok i hi).2.1,fun j hj=>(hok i hi).2.2 j hj (hok j hj).1⟩⟩
   simp (maxSteps:=2000000) only [s49,↓Za,↓Zk,↓Zr,↓Ze,↓Zm,↓Zs,↓Zf,↓Zh,↓Zg,↓Zc,↓Zb,↓vdn,vup,Zn,Zl,Zo,Zi,Zj,List.map_cons,List.map_nil,cond_true,cond_false,aop,Zv,Zq,Zp,ev,sput,Zt,Zy,Ya,unK,Zd,Zw,Nat.reduceBEq,Nat.reduceAdd,Int.reduceBEq,Int.reduceBNe,Int.reduceLT,Zu,Zz,tup,tyf,l49_1,Int.lt_irrefl]
   refine hQ2 _ _ _ (hQ _ _ _ ?_)
   simp (maxSteps:=2000000) only [s49,↓Za,↓Zk,↓Zr,↓Ze,↓Zm,↓Zs,↓Zf,↓Zh,↓Zg,↓Zc,↓Zb,↓vdn,vup,Zn,Zl,Zo,Zi,Zj,List.map_cons,List.map_nil,cond_true,cond_false,aop,Zv,Zq,Zp,ev,sput,Zt,Zy,Ya,unK,Zd,Zw,Nat.reduceBEq,Nat.reduceAdd,Int.reduceBEq,Int.reduceBNe,Int.reduceLT,Zu,Zz,tup,tyf,if_true,ht]
end Go.Proofs.Tryd.Am.Su
namespace Go.Proofs.Tryd.Am.Su
open Go.Proofs.Tryd.Am
open Go.Am Sr
set_option maxRecDepth 100000
set_option maxHeartbeats 1000000
theorem tmodN (x y:Nat):((x:Nat):Int).tmod ((y:Nat):Int)=((x % y:Nat):Int):=by
 rw [Int.tmod_eq_emod_of_nonneg (by omega)]; rfl
theorem quoN {x y:Nat} (hx:x<9223372036854775808):quoV .i64 ((x:Nat):Int) ((y:Nat):Int)=((x / y:Nat):Int):=by
 have e:((x:Nat):Int).tdiv ((y:Nat):Int)=((x / y:Nat):Int):=by
  rw [Int.tdiv_eq_ediv_of_nonneg (by omega)]; rfl
 have h1:=Nat.div_le_self x y
 rw [quoV,e]
 generalize x / y=z at h1
 exact wrap_id (by omega) (by omega)
theorem bneN {a b:Nat}:(((a:Nat):Int) != ((b:Nat):Int)) = !(a==b):=by
 rw [Bool.eq_iff_iff,bne_iff_ne,Bool.not_eq_true',beq_eq_false_iff_ne]; omega
theorem confused_call [Tabs prog] {h:Yc} {v:Value} {xs:List Int} (hv:IntSl h v xs) (g:Gs xs) {a b k:Nat} (ha:a<9223372036854775808) (hb:b<9223372036854775808) (hk:k<9223372036854775807):APure prog 97 [v,Zx a,Zx b,Zx k] h (.bool (cf xs k a b)):=by
 have h0:0<xs.length:=g.1
 have hn0 : ¬ ((xs.length:Nat):Int)=0:=by omega
 refine s97_call (by simp) ?_
 simp (maxSteps:=2000000) only [s97,↓Za,↓Zk,↓Zr,↓Ze,↓Zm,↓Zs,↓Zf,↓Zh,↓Zg,↓Zc,↓Zb,↓vdn,vup,Zn,Zl,Zo,Zi,Zj,List.map_cons,List.map_nil,cond_true,cond_false,aop,Zv,Zq,Zp,ev,sput,Zt,Zy,Ya,unK,Zd,Zw,Nat.reduceBEq,Nat.reduceAdd,Int.reduceBEq,Int.reduceBNe,Int.reduceLT,Zu,Zz,tup,tyf,↓Xo]
 refine Yf fun Q hQ=>?_
 refine Ve (γ:=Nat×Nat×Nat) (fun s=>s.1≤k∧s.2.1<9223372036854775808∧s.2.2<9223372036854775808∧cf xs k a b=cf xs (k-s.1) s.2.1 s.2.2)
  (fun s=>([(0,v),(1,Zx s.2.1),(2,Zx s.2.2),(3,Zx k),(8,.bool false),(11,Zx k),(12,Zx s.1)],h)) (fun s=>k-s.1) (0,a,b) ⟨Nat.zero_le _,ha,hb,rfl⟩ (by simp (maxSteps:=2000000) only [↓Za,↓Zk,↓Zr,↓Ze,↓Zm,↓Zs,↓Zf,↓Zh,↓Zg,↓Zc,↓Zb,↓vdn,vup,Zn,Zl,Zo,Zi,Zj,List.map_cons,List.map_nil,cond_true,cond_false,aop,Zv,Zq,Zp,ev,sput,Zt,Zy,Ya,unK,Zd,Zw,Nat.reduceBEq,Nat.reduceAdd,Int.reduceBEq,Int.reduceBNe,Int.reduceLT,Zu,Zz,tup,tyf,Int.natCast_zero]) rfl ?_
 rintro ⟨i,x,y⟩ ⟨hi,hx,hy,he⟩
 simp only at hi hx hy he
 refine Vi fun Q2 hQ2=>?_
 by_cases hin:(i:Int)<k
 · have hi' : i<k:=by omega
   have ek:k-i=(k-(i+1))+1:=by omega
   rw [ek,cf] at he
   have hxm:x % xs.length<xs.length:=Nat.mod_lt _ h0
   have hr:=gs_lt g hxm
   have tt : ∀ j:Nat,We .and .i64 (shrV .i64 (xs.getD (x % xs.length) 0) j) 1=if gb xs (x % xs.length) j then 1 else 0:=fun j=>testI hr.1 (by omega) j
   have hx2:x / xs.length<9223372036854775808:=Nat.lt_of_le_of_lt (Nat.div_le_self _ _) hx
   have hy2:y / xs.length<9223372036854775808:=Nat.lt_of_le_of_lt (Nat.div_le_self _ _) hy
   simp (maxSteps:=2000000) only [s97,↓Za,↓Zk,↓Zr,↓Ze,↓Zm,↓Zs,↓Zf,↓Zh,↓Zg,↓Zc,↓Zb,↓vdn,vup,Zn,Zl,Zo,Zi,Zj,List.map_cons,List.map_nil,cond_true,cond_false,aop,Zv,Zq,Zp,ev,sput,Zt,Zy,Ya,unK,Zd,Zw,Nat.reduceBEq,Nat.reduceAdd,Int.reduceBEq,Int.reduceBNe,Int.reduceLT,Zu,Zz,tup,tyf,l97_0,hin]
   refine Xv [] (by kernel_rfl) (by kernel_rfl) (by kernel_rfl) (by kernel_rfl) ?_
   cases hm:(x % xs.length==y % xs.length) with
   | true =>
     rw [hm,Bool.true_or,Bool.true_and] at he
     simp (maxSteps:=2000000) only [s97,↓Za,↓Zk,↓Zr,↓Ze,↓Zm,↓Zs,↓Zf,↓Zh,↓Zg,↓Zc,↓Zb,↓vdn,vup,Zn,Zl,Zo,Zi,Zj,List.map_cons,List.map_nil,cond_true,cond_false,aop,Zv,Zq,Zp,ev,sput,Zt,Zy,Ya,unK,Zd,Zw,Nat.reduceBEq,Nat.reduceAdd,Int.reduceBEq,Int.reduceBNe,Int.reduceLT,Zu,Zz,tup,tyf,hv.len,ne_eq,hn0,not_false_eq_true,tmodN,bneN,hm,Bool.not_true]
     refine Xv [] (by kernel_rfl) (by kernel_rfl) (by kernel_rfl) (by kernel_rfl) ?_
     simp (maxSteps:=2000000) only [s97,↓Za,↓Zk,↓Zr,↓Ze,↓Zm,↓Zs,↓Zf,↓Zh,↓Zg,↓Zc,↓Zb,↓vdn,vup,Zn,Zl,Zo,Zi,Zj,List.map_cons,List.map_nil,cond_true,cond_false,aop,Zv,Zq,Zp,ev,sput,Zt,Zy,Ya,unK,Zd,Zw,Nat.reduceBEq,Nat.reduceAdd,Int.reduceBEq,Int.reduceBNe,Int.reduceLT,Zu,Zz,tup,tyf,hv.len,ne_eq,hn0,not_false_eq_true,quoN hx,quoN hy,Vd (show i<9223372036854775807 by omega)]
     exact hQ2 _ _ _ ⟨(i+1,x / xs.length,y / xs.length),⟨by simp only; omega,hx2,hy2,he⟩,by simp only; omega,by simp (maxSteps:=2000000) only [↓Za,↓Zk,↓Zr,↓Ze,↓Zm,↓Zs,↓Zf,↓Zh,↓Zg,↓Zc,↓Zb,↓vdn,vup,Zn,Zl,Zo,Zi,Zj,List.map_cons,List.map_nil,cond_true,cond_false,aop,Zv,Zq,Zp,ev,sput,Zt,Zy,Ya,unK,Zd,Zw,Nat.reduceBEq,Nat.reduceAdd,Int.reduceBEq,Int.reduceBNe,Int.reduceLT,Zu,Zz,tup,tyf],rfl⟩
   | false =>
     rw [hm,Bool.false_or] at he
     cases ht:gb xs (x % xs.length) (y % xs.length) with
     | true =>
       rw [ht,Bool.true_and] at he
       simp (maxSteps:=2000000) only [s97,↓Za,↓Zk,↓Zr,↓Ze,↓Zm,↓Zs,↓Zf,↓Zh,↓Zg,↓Zc,↓Zb,↓vdn,vup,Zn,Zl,Zo,Zi,Zj,List.map_cons,List.map_nil,cond_true,cond_false,aop,Zv,Zq,Zp,ev,sput,Zt,Zy,Ya,unK,Zd,Zw,Nat.reduceBEq,Nat.reduceAdd,Int.reduceBEq,Int.reduceBNe,Int.reduceLT,Zu,Zz,tup,tyf,hv.len,ne_eq,hn0,not_false_eq_true,tmodN,bneN,hm,Bool.not_false,hv.idx el_84 Xk hxm,hv.load Yw hxm,Int.natCast_nonneg,tt,ht,if_true,if_false,Bool.false_eq_true]
       refine Xv [] (by kernel_rfl) (by kernel_rfl) (by kernel_rfl) (by kernel_rfl) ?_
       simp (maxSteps:=2000000) only [s97,↓Za,↓Zk,↓Zr,↓Ze,↓Zm,↓Zs,↓Zf,↓Zh,↓Zg,↓Zc,↓Zb,↓vdn,vup,Zn,Zl,Zo,Zi,Zj,List.map_cons,List.map_nil,cond_true,cond_false,aop,Zv,Zq,Zp,ev,sput,Zt,Zy,Ya,unK,Zd,Zw,Nat.reduceBEq,Nat.reduceAdd,Int.reduceBEq,Int.reduceBNe,Int.reduceLT,Zu,Zz,tup,tyf,hv.len,ne_eq,hn0,not_false_eq_true,quoN hx,quoN hy,Vd (show i<9223372036854775807 by omega)]
       exact hQ2 _ _ _ ⟨(i+1,x / xs.length,y / xs.length),⟨by simp only; omega,hx2,hy2,he⟩,by simp only; omega,by simp (maxSteps:=2000000) only [↓Za,↓Zk,↓Zr,↓Ze,↓Zm,↓Zs,↓Zf,↓Zh,↓Zg,↓Zc,↓Zb,↓vdn,vup,Zn,Zl,Zo,Zi,Zj,List.map_cons,List.map_nil,cond_true,cond_false,aop,Zv,Zq,Zp,ev,sput,Zt,Zy,Ya,unK,Zd,Zw,Nat.reduceBEq,Nat.reduceAdd,Int.reduceBEq,Int.reduceBNe,Int.reduceLT,Zu,Zz,tup,tyf],rfl⟩
     | false =>
       rw [ht,Bool.false_and] at he
       simp (maxSteps:=2000000) only [s97,↓Za,↓Zk,↓Zr,↓Ze,↓Zm,↓Zs,↓Zf,↓Zh,↓Zg,↓Zc,↓Zb,↓vdn,vup,Zn,Zl,Zo,Zi,Zj,List.map_cons,List.map_nil,cond_true,cond_false,aop,Zv,Zq,Zp,ev,sput,Zt,Zy,Ya,unK,Zd,Zw,Nat.reduceBEq,Nat.reduceAdd,Int.reduceBEq,Int.reduceBNe,Int.reduceLT,Zu,Zz,tup,tyf,hv.len,ne_eq,hn0,not_false_eq_true,tmodN,bneN,hm,Bool.not_false,hv.idx el_84 Xk hxm,hv.load Yw hxm,Int.natCast_nonneg,tt,ht,if_true,if_false,Bool.false_eq_true]
       refine hQ2 _ _ _ (hQ _ _ _ ?_)
       simp (maxSteps:=2000000) only [s97,↓Za,↓Zk,↓Zr,↓Ze,↓Zm,↓Zs,↓Zf,↓Zh,↓Zg,↓Zc,↓Zb,↓vdn,vup,Zn,Zl,Zo,Zi,Zj,List.map_cons,List.map_nil,cond_true,cond_false,aop,Zv,Zq,Zp,ev,sput,Zt,Zy,Ya,unK,Zd,Zw,Nat.reduceBEq,Nat.reduceAdd,Int.reduceBEq,Int.reduceBNe,Int.reduceLT,Zu,Zz,tup,tyf,he]
 · obtain rfl:i=k:=by omega
   rw [Nat.sub_self,cf] at he
   simp (maxSteps:=2000000) only [s97,↓Za,↓Zk,↓Zr,↓Ze,↓Zm,↓Zs,↓Zf,↓Zh,↓Zg,↓Zc,↓Zb,↓vdn,vup,Zn,Zl,Zo,Zi,Zj,List.map_cons,List.map_nil,cond_true,cond_false,aop,Zv,Zq,Zp,ev,sput,Zt,Zy,Ya,unK,Zd,Zw,Nat.reduceBEq,Nat.reduceAdd,Int.reduceBEq,Int.reduceBNe,Int.reduceLT,Zu,Zz,tup,tyf,l97_0,Int.lt_irrefl]
   refine hQ2 _ _ _ (hQ _ _ _ ?_)
   simp (maxSteps:=2000000) only [s97,↓Za,↓Zk,↓Zr,↓Ze,↓Zm,↓Zs,↓Zf,↓Zh,↓Zg,↓Zc,↓Zb,↓vdn,vup,Zn,Zl,Zo,Zi,Zj,List.map_cons,List.map_nil,cond_true,cond_false,aop,Zv,Zq,Zp,ev,sput,Zt,Zy,Ya,unK,Zd,Zw,Nat.reduceBEq,Nat.reduceAdd,Int.reduceBEq,Int.reduceBNe,Int.reduceLT,Zu,Zz,tup,tyf,if_true,he]
theorem mulN {a b:Nat} (h:a*b<9223372036854775808):mulV .i64 (a:Int) (b:Int)=((a*b:Nat):Int):=by
 have h2:(a:Int)*(b:Int)=((a*b:Nat):Int):=(Int.natCast_mul a b).symm
 rw [mulV_id (by rw [h2]; omega) (by rw [h2]; omega),h2]
theorem wn_le {xs:List Int} (g:Gs xs) {k:Nat} (hk:k≤6):wn xs k≤46656:=by
 have h1:wn xs k≤6 ^ k:=Nat.pow_le_pow_left g.2.1 k
 have h2:6 ^ k≤6 ^ 6:=Nat.pow_le_pow_right (by decide) hk
 exact Nat.le_trans h1 h2
end Go.Proofs.Tryd.Am.Su
namespace Go.Proofs.Tryd.Am.Su
open Go.Proofs.Tryd.Am
open Go.Am Sr
set_option maxRecDepth 100000
set_option maxHeartbeats 1000000
abbrev pt (b:Nat):Value:=.pointer (some ⟨b,0,none⟩)
theorem set_last (g:Yc) (B C:Blk):(g++[B]).set g.length C=g++[C]:=by
 apply List.ext_getElem?
 intro i
 by_cases hi:i=g.length
 · subst hi; simp
 · rw [List.getElem?_set_ne (Ne.symm hi)]
   by_cases h2:i<g.length
   · rw [List.getElem?_append_left h2,List.getElem?_append_left h2]
   · rw [List.getElem?_eq_none (by simp; omega),List.getElem?_eq_none (by simp; omega)]
theorem Wl {h h' : Yc} {v:Value} {xs:List Int} (hv:IntSl h v xs) (hE:Ext (fun _=>False) h h'):IntSl h' v xs:=hv.same fun b hb=>hE.2 b (hv.lt hb) id
theorem ownV_one {e:TypeId} {h:Yc} {v:Value} {ws:List Value} (ho:OwnV e h v ws):one v=true:=by
 rcases ho with ⟨rfl,_⟩ | ⟨b,ys,rfl,_⟩ <;> rfl
theorem litU {h:Yc} {s:Int} {K:Value→Yc→Prop}:Yx prog h 89 1 [(0,.int .u64 s)] K=K (.slice (some ⟨h.length,0,none⟩) 1 1) (h++[.cells [.int .u64 s] 88 false]):=by
 have e1:fillL (fun i=>some (i*1,1)) (reps [.int .u64 0] 1) [(0,.int .u64 s)]=some [.int .u64 s]:=by simp [fillL,Wt,cellsOf,reps,Yt]
 have e2:mkb [.int .u64 s] 88 = .cells [.int .u64 s] 88 false:=mkb_no (by simp) fun w' hw'=>by
  rw [List.mem_singleton.1 hw']; rfl
 simp only [Yx,el_89,zero_88,esz_88,e1,e2]
 exact propext ⟨fun h=>h.2.2.2,fun h=>⟨rfl,by decide,by decide,h⟩⟩
theorem litU_val (h:Yc) (s:Int):ValSl (h++[.cells [.int .u64 s] 88 false]) (.slice (some ⟨h.length,0,none⟩) 1 1) [.int .u64 s] :=
 .inr ⟨h.length,0,none,1,[.int .u64 s],88,false,rfl,Nat.le_refl _,by simp [view,Blk.view],rfl⟩
theorem bld62 {K:Value→Prop}:Vv prog 91 [(0,.int .i64 1)] K=K (.agg #[.int .i64 1,.slice none 0 0]):=by
 simp [Vv,zero_91,fillL,pl_91_0,Wt,cellsOf,Yt]
theorem box62 {h:Yc} {a b:Value} {K:Value→Yc→Prop}:boxK prog h 91 (.agg #[a,b]) K=K (Xd h) (h++[.cells [a,b] 91 false]):=by
 simp [boxK,esz_91,cellsOf]
def WO (h:Yc) (b:Nat) (nr:List Nat):Prop:=∃ nv,h[b]? = some (.cells [Zx nr.length,nv] 91 false)∧ValSl h nv (nr.map fun x=>vu x)
theorem WO.ext {h h' : Yc} {b:Nat} {nr:List Nat} (w:WO h b nr) (hE:Ext (fun _=>False) h h'):WO h' b nr:=by
 obtain ⟨nv,h1,h2⟩:=w
 exact ⟨nv,(hE.2 b (Yp h1) id).trans h1,h2.ext hE⟩
theorem words_call [Tabs prog] {h:Yc} {v:Value} {xs:List Int} (hv:IntSl h v xs) (g:Gs xs) {k:Nat} (hk:k≤6) :
  ACall prog 50 [v,Zx k] h fun r h'=>Ext (fun _=>False) h h'∧if wn xs k≤64 then ∃ b,r = .tuple #[pt b,.bool true]∧WO h' b (nearL xs k) else r = .tuple #[.pointer none,.bool false]:=by
 have h0:0<xs.length:=g.1
 have mono : ∀ i,i≤k→wn xs i≤wn xs k:=fun i hi=>Nat.pow_le_pow_right h0 hi
 have hb : ∀ i:Nat,(h++[Blk.cells [Zx (wn xs i:Nat),.slice none 0 0] 91 false])[h.length]? = some (.cells [Zx (wn xs i:Nat),.slice none 0 0] 91 false):=fun i=>Yj _ _
 have ld : ∀ (i:Nat) {K:Value→Prop},Xn prog (h++[Blk.cells [Zx (wn xs i:Nat),.slice none 0 0] 91 false]) 3 (.pointer (some ⟨h.length,0,none⟩)) K=K (Zx (wn xs i:Nat)):=fun i {K}=>loadC (o:=0) (hb i) Yw rfl
 have st : ∀ (i:Nat) {z:Int} {K:Yc→Prop},Xu prog (h++[Blk.cells [Zx (wn xs i:Nat),.slice none 0 0] 91 false]) 3 (.pointer (some ⟨h.length,0,none⟩)) (.int .i64 z) K=K (h++[Blk.cells [Zx z,.slice none 0 0] 91 false]):=fun i {z K}=>by
  rw [storeC (hb i) Yw rfl (by simp),set_last]; rfl
 have hv1 : ∀ i:Nat,IntSl (h++[Blk.cells [Zx (wn xs i:Nat),.slice none 0 0] 91 false]) v xs:=fun i=>Wl hv (Ext.app (fun _=>False) h _)
 refine s50_call (by simp) ?_
 simp only [s50]
 refine Vw fun N hN=>?_
 simp (maxSteps:=2000000) only [s50,↓Za,↓Zk,↓Zr,↓Ze,↓Zm,↓Zs,↓Zf,↓Zh,↓Zg,↓Zc,↓Zb,↓vdn,vup,Zn,Zl,Zo,Zi,Zj,List.map_cons,List.map_nil,cond_true,cond_false,aop,Zv,Zq,Zp,ev,sput,Zt,Zy,Ya,unK,Zd,Zw,Nat.reduceBEq,Nat.reduceAdd,Int.reduceBEq,Int.reduceBNe,Int.reduceLT,Zu,Zz,tup,tyf]
 refine hN _ _ ?_
 clear hN N
 refine Vw fun N hN=>?_
 simp (maxSteps:=2000000) only [s50,↓Za,↓Zk,↓Zr,↓Ze,↓Zm,↓Zs,↓Zf,↓Zh,↓Zg,↓Zc,↓Zb,↓vdn,vup,Zn,Zl,Zo,Zi,Zj,List.map_cons,List.map_nil,cond_true,cond_false,aop,Zv,Zq,Zp,ev,sput,Zt,Zy,Ya,unK,Zd,Zw,Nat.reduceBEq,Nat.reduceAdd,Int.reduceBEq,Int.reduceBNe,Int.reduceLT,Zu,Zz,tup,tyf,bld62,box62,Xd]
 refine hN _ _ ?_
 clear hN N
 refine Vw fun N hN=>?_
 simp (maxSteps:=2000000) only [s50,↓Za,↓Zk,↓Zr,↓Ze,↓Zm,↓Zs,↓Zf,↓Zh,↓Zg,↓Zc,↓Zb,↓vdn,vup,Zn,Zl,Zo,Zi,Zj,List.map_cons,List.map_nil,cond_true,cond_false,aop,Zv,Zq,Zp,ev,sput,Zt,Zy,Ya,unK,Zd,Zw,Nat.reduceBEq,Nat.reduceAdd,Int.reduceBEq,Int.reduceBNe,Int.reduceLT,Zu,Zz,tup,tyf,↓Xo]
 refine Yf fun Q hQ=>?_
 refine Ve (γ:=Nat) (fun i=>i≤k∧wn xs i≤64)
  (fun i=>([(0,v),(1,Zx k),(4,.pointer none),(5,.bool false),(6,pt h.length),(12,Zx k),(13,Zx i)],h++[Blk.cells [Zx (wn xs i:Nat),.slice none 0 0] 91 false])) (fun i=>k-i) 0 ⟨Nat.zero_le _,by show 1≤64; decide⟩ (by simp (maxSteps:=2000000) only [↓Za,↓Zk,↓Zr,↓Ze,↓Zm,↓Zs,↓Zf,↓Zh,↓Zg,↓Zc,↓Zb,↓vdn,vup,Zn,Zl,Zo,Zi,Zj,List.map_cons,List.map_nil,cond_true,cond_false,aop,Zv,Zq,Zp,ev,sput,Zt,Zy,Ya,unK,Zd,Zw,Nat.reduceBEq,Nat.reduceAdd,Int.reduceBEq,Int.reduceBNe,Int.reduceLT,Zu,Zz,tup,tyf,Int.natCast_zero]) rfl ?_
 rintro i ⟨hi,hw⟩
 refine Vi fun Q2 hQ2=>?_
 by_cases hin:(i:Int)<k
 · have hi' : i<k:=by omega
   have e:wn xs i*xs.length=wn xs (i+1):=(Nat.pow_succ ..).symm
   have h6:=g.2.1
   have hle:=wn_le g (show i+1≤6 by omega)
   have hm:mulV .i64 ((wn xs i:Nat):Int) ((xs.length:Nat):Int)=((wn xs (i+1):Nat):Int):=by
    rw [mulN (by rw [e]; omega),e]
   by_cases hbig:64<wn xs (i+1)
   · have hb2:(64:Int)<((wn xs (i+1):Nat):Int):=by omega
     simp (maxSteps:=2000000) only [s50,↓Za,↓Zk,↓Zr,↓Ze,↓Zm,↓Zs,↓Zf,↓Zh,↓Zg,↓Zc,↓Zb,↓vdn,vup,Zn,Zl,Zo,Zi,Zj,List.map_cons,List.map_nil,cond_true,cond_false,aop,Zv,Zq,Zp,ev,sput,Zt,Zy,Ya,unK,Zd,Zw,Nat.reduceBEq,Nat.reduceAdd,Int.reduceBEq,Int.reduceBNe,Int.reduceLT,Zu,Zz,tup,tyf,l50_0,hin,nilK,fldA fld_91_0 Xk,ld i,(hv1 i).len,hm,st i,ld (i+1),gt_iff_lt,hb2]
     refine hQ2 _ _ _ (hQ _ _ _ ?_)
     simp (maxSteps:=2000000) only [s50,↓Za,↓Zk,↓Zr,↓Ze,↓Zm,↓Zs,↓Zf,↓Zh,↓Zg,↓Zc,↓Zb,↓vdn,vup,Zn,Zl,Zo,Zi,Zj,List.map_cons,List.map_nil,cond_true,cond_false,aop,Zv,Zq,Zp,ev,sput,Zt,Zy,Ya,unK,Zd,Zw,Nat.reduceBEq,Nat.reduceAdd,Int.reduceBEq,Int.reduceBNe,Int.reduceLT,Zu,Zz,tup,tyf]
     have:=mono (i+1) (by omega)
     rw [if_neg (by omega)]
     exact ⟨Ext.app _ _ _,trivial⟩
   · have hb2 : ¬ (64:Int)<((wn xs (i+1):Nat):Int):=by omega
     simp (maxSteps:=2000000) only [s50,↓Za,↓Zk,↓Zr,↓Ze,↓Zm,↓Zs,↓Zf,↓Zh,↓Zg,↓Zc,↓Zb,↓vdn,vup,Zn,Zl,Zo,Zi,Zj,List.map_cons,List.map_nil,cond_true,cond_false,aop,Zv,Zq,Zp,ev,sput,Zt,Zy,Ya,unK,Zd,Zw,Nat.reduceBEq,Nat.reduceAdd,Int.reduceBEq,Int.reduceBNe,Int.reduceLT,Zu,Zz,tup,tyf,l50_0,hin,nilK,fldA fld_91_0 Xk,ld i,(hv1 i).len,hm,st i,ld (i+1),gt_iff_lt,hb2,Vd (show i<9223372036854775807 by omega)]
     exact hQ2 _ _ _ ⟨i+1,⟨by omega,by omega⟩,by omega,by simp (maxSteps:=2000000) only [↓Za,↓Zk,↓Zr,↓Ze,↓Zm,↓Zs,↓Zf,↓Zh,↓Zg,↓Zc,↓Zb,↓vdn,vup,Zn,Zl,Zo,Zi,Zj,List.map_cons,List.map_nil,cond_true,cond_false,aop,Zv,Zq,Zp,ev,sput,Zt,Zy,Ya,unK,Zd,Zw,Nat.reduceBEq,Nat.reduceAdd,Int.reduceBEq,Int.reduceBNe,Int.reduceLT,Zu,Zz,tup,tyf],rfl⟩
 · obtain rfl:i=k:=by omega
   simp (maxSteps:=2000000) only [s50,↓Za,↓Zk,↓Zr,↓Ze,↓Zm,↓Zs,↓Zf,↓Zh,↓Zg,↓Zc,↓Zb,↓vdn,vup,Zn,Zl,Zo,Zi,Zj,List.map_cons,List.map_nil,cond_true,cond_false,aop,Zv,Zq,Zp,ev,sput,Zt,Zy,Ya,unK,Zd,Zw,Nat.reduceBEq,Nat.reduceAdd,Int.reduceBEq,Int.reduceBNe,Int.reduceLT,Zu,Zz,tup,tyf,l50_0,Int.lt_irrefl]
   refine hQ2 _ _ _ (hQ _ _ _ ?_)
   simp (maxSteps:=2000000) only [s50,↓Za,↓Zk,↓Zr,↓Ze,↓Zm,↓Zs,↓Zf,↓Zh,↓Zg,↓Zc,↓Zb,↓vdn,vup,Zn,Zl,Zo,Zi,Zj,List.map_cons,List.map_nil,cond_true,cond_false,aop,Zv,Zq,Zp,ev,sput,Zt,Zy,Ya,unK,Zd,Zw,Nat.reduceBEq,Nat.reduceAdd,Int.reduceBEq,Int.reduceBNe,Int.reduceLT,Zu,Zz,tup,tyf,if_true]
   refine hN _ _ ?_
   clear hN N hQ2 Q2 hQ Q
   refine Vw fun N hN=>?_
   simp (maxSteps:=2000000) only [s50,↓Za,↓Zk,↓Zr,↓Ze,↓Zm,↓Zs,↓Zf,↓Zh,↓Zg,↓Zc,↓Zb,↓vdn,vup,Zn,Zl,Zo,Zi,Zj,List.map_cons,List.map_nil,cond_true,cond_false,aop,Zv,Zq,Zp,ev,sput,Zt,Zy,Ya,unK,Zd,Zw,Nat.reduceBEq,Nat.reduceAdd,Int.reduceBEq,Int.reduceBNe,Int.reduceLT,Zu,Zz,tup,tyf,nilK,fldA fld_91_0 Xk,ld i,↓Xo]
   refine Yf fun Q hQ=>?_
   refine Ve (γ:=Nat×Yc×Value) (fun s=>s.1≤wn xs i∧Ext (fun _=>False) h s.2.1∧s.2.1[h.length]? = some (.cells [Zx (wn xs i:Nat),s.2.2] 91 false)∧OwnV 88 s.2.1 s.2.2 (((List.range s.1).map (nearW xs i)).map fun x=>vu x)∧∀ b,Yk s.2.2=some b→h.length<b)
    (fun s=>([(0,v),(1,Zx i),(4,.pointer none),(5,.bool false),(6,pt h.length),(33,Zx (wn xs i:Nat)),(34,Zx s.1)],s.2.1)) (fun s=>wn xs i-s.1) (0,_,.slice none 0 0)
    ⟨Nat.zero_le _,Ext.app _ _ _,hb i,.inl ⟨rfl,rfl⟩,fun b h=>by cases h⟩ (by simp (maxSteps:=2000000) only [↓Za,↓Zk,↓Zr,↓Ze,↓Zm,↓Zs,↓Zf,↓Zh,↓Zg,↓Zc,↓Zb,↓vdn,vup,Zn,Zl,Zo,Zi,Zj,List.map_cons,List.map_nil,cond_true,cond_false,aop,Zv,Zq,Zp,ev,sput,Zt,Zy,Ya,unK,Zd,Zw,Nat.reduceBEq,Nat.reduceAdd,Int.reduceBEq,Int.reduceBNe,Int.reduceLT,Zu,Zz,tup,tyf,Int.natCast_zero]) rfl ?_
   rintro ⟨a,hp,nv⟩ ⟨ha,hE,hc,ho,hbl⟩
   simp only at ha hE hc ho hbl
   refine Vi fun Q2 hQ2=>?_
   have ldp : ∀ {K:Value→Prop},Xn prog hp 3 (.pointer (some ⟨h.length,0,none⟩)) K=K (Zx (wn xs i:Nat)):=fun {K}=>loadC (o:=0) hc Yw rfl
   have ldn : ∀ {K:Value→Prop},Xn prog hp 89 (.pointer (some ⟨h.length,1,none⟩)) K=K nv:=fun {K}=>loadC (o:=1) hc shp_89 rfl
   by_cases hin:(a:Int)<(wn xs i:Nat)
   · have ha' : a<wn xs i:=by omega
     obtain ⟨p,hp'⟩ : ∃ p:Nat→Bool,p=fun b=>a != b&&cf xs i a b:=⟨_,rfl⟩
     have hmk : ∀ j,mk p j<2 ^ j:=mk_lt p
     simp (maxSteps:=2000000) only [s50,↓Za,↓Zk,↓Zr,↓Ze,↓Zm,↓Zs,↓Zf,↓Zh,↓Zg,↓Zc,↓Zb,↓vdn,vup,Zn,Zl,Zo,Zi,Zj,List.map_cons,List.map_nil,cond_true,cond_false,aop,Zv,Zq,Zp,ev,sput,Zt,Zy,Ya,unK,Zd,Zw,Nat.reduceBEq,Nat.reduceAdd,Int.reduceBEq,Int.reduceBNe,Int.reduceLT,Zu,Zz,tup,tyf,l50_2,hin,nilK,fldA fld_91_0 Xk,ldp,↓Xo]
     refine Yf fun Q3 hQ3=>?_
     refine Ve (γ:=Nat) (fun j=>j≤wn xs i)
      (fun j=>([(0,v),(1,Zx i),(4,.pointer none),(5,.bool false),(6,pt h.length),(7,Zx a),(8,vu (mk p j)),(33,Zx (wn xs i:Nat)),(34,Zx a),(40,Zx (wn xs i:Nat)),(41,Zx j)],hp)) (fun j=>wn xs i-j) 0 (Nat.zero_le _) (by simp (maxSteps:=2000000) only [↓Za,↓Zk,↓Zr,↓Ze,↓Zm,↓Zs,↓Zf,↓Zh,↓Zg,↓Zc,↓Zb,↓vdn,vup,Zn,Zl,Zo,Zi,Zj,List.map_cons,List.map_nil,cond_true,cond_false,aop,Zv,Zq,Zp,ev,sput,Zt,Zy,Ya,unK,Zd,Zw,Nat.reduceBEq,Nat.reduceAdd,Int.reduceBEq,Int.reduceBNe,Int.reduceLT,Zu,Zz,tup,tyf,vu,mk_zero,Int.natCast_zero]) rfl ?_
     intro j hj
     refine Vi fun Q4 hQ4=>?_
     by_cases hjn:(j:Int)<(wn xs i:Nat)
     · have hj' : j<wn xs i:=by omega
       have p1:=hmk j
       have p2:2 ^ (j+1)≤2 ^ 64:=Nat.pow_le_pow_right (by decide) (by omega)
       have p3:2 ^ (j+1)=2 ^ j*2:=Nat.pow_succ ..
       have hor:We .or .u64 ((mk p j:Nat):Int) ((2 ^ j:Nat):Int)=((mk p j ||| 2 ^ j:Nat):Int):=orU (by omega) (by omega)
       cases haj:(a==j) with
       | true =>
         have e:mk p (j+1)=mk p j:=by
          have:p j=false:=by rw [hp']; simp only [bne,haj]; rfl
          rw [mk,this]; rfl
         simp (maxSteps:=2000000) only [s50,↓Za,↓Zk,↓Zr,↓Ze,↓Zm,↓Zs,↓Zf,↓Zh,↓Zg,↓Zc,↓Zb,↓vdn,vup,Zn,Zl,Zo,Zi,Zj,List.map_cons,List.map_nil,cond_true,cond_false,aop,Zv,Zq,Zp,ev,sput,Zt,Zy,Ya,unK,Zd,Zw,Nat.reduceBEq,Nat.reduceAdd,Int.reduceBEq,Int.reduceBNe,Int.reduceLT,Zu,Zz,tup,tyf,l50_1,hjn,bneN,haj,Bool.not_true,Vd (show j<9223372036854775807 by omega)]
         exact hQ4 _ _ _ ⟨j+1,by omega,by omega,by simp (maxSteps:=2000000) only [↓Za,↓Zk,↓Zr,↓Ze,↓Zm,↓Zs,↓Zf,↓Zh,↓Zg,↓Zc,↓Zb,↓vdn,vup,Zn,Zl,Zo,Zi,Zj,List.map_cons,List.map_nil,cond_true,cond_false,aop,Zv,Zq,Zp,ev,sput,Zt,Zy,Ya,unK,Zd,Zw,Nat.reduceBEq,Nat.reduceAdd,Int.reduceBEq,Int.reduceBNe,Int.reduceLT,Zu,Zz,tup,tyf,e],rfl⟩
       | false =>
         simp (maxSteps:=2000000) only [s50,↓Za,↓Zk,↓Zr,↓Ze,↓Zm,↓Zs,↓Zf,↓Zh,↓Zg,↓Zc,↓Zb,↓vdn,vup,Zn,Zl,Zo,Zi,Zj,List.map_cons,List.map_nil,cond_true,cond_false,aop,Zv,Zq,Zp,ev,sput,Zt,Zy,Ya,unK,Zd,Zw,Nat.reduceBEq,Nat.reduceAdd,Int.reduceBEq,Int.reduceBNe,Int.reduceLT,Zu,Zz,tup,tyf,l50_1,hjn,bneN,haj,Bool.not_false,Yz,List.nil_append,List.append_nil,List.toList_toArray,List.cons_append]
         refine (confused_call (Wl hv hE) g (show a<9223372036854775808 by omega) (show j<9223372036854775808 by omega) (show i<9223372036854775807 by omega)).mono ?_
         rintro _ hp ⟨rfl,rfl⟩
         cases hcf:cf xs i a j with
         | true =>
           have e:mk p (j+1)=mk p j ||| 2 ^ j:=by
            have:p j=true:=by rw [hp']; simp only [bne,haj,hcf]; rfl
            rw [mk,this]; rfl
           simp (maxSteps:=2000000) only [s50,↓Za,↓Zk,↓Zr,↓Ze,↓Zm,↓Zs,↓Zf,↓Zh,↓Zg,↓Zc,↓Zb,↓vdn,vup,Zn,Zl,Zo,Zi,Zj,List.map_cons,List.map_nil,cond_true,cond_false,aop,Zv,Zq,Zp,ev,sput,Zt,Zy,Ya,unK,Zd,Zw,Nat.reduceBEq,Nat.reduceAdd,Int.reduceBEq,Int.reduceBNe,Int.reduceLT,Zu,Zz,tup,tyf,Int.natCast_nonneg,shlU1 (show j<64 by omega),hor,Vd (show j<9223372036854775807 by omega)]
           exact hQ4 _ _ _ ⟨j+1,by omega,by omega,by simp (maxSteps:=2000000) only [↓Za,↓Zk,↓Zr,↓Ze,↓Zm,↓Zs,↓Zf,↓Zh,↓Zg,↓Zc,↓Zb,↓vdn,vup,Zn,Zl,Zo,Zi,Zj,List.map_cons,List.map_nil,cond_true,cond_false,aop,Zv,Zq,Zp,ev,sput,Zt,Zy,Ya,unK,Zd,Zw,Nat.reduceBEq,Nat.reduceAdd,Int.reduceBEq,Int.reduceBNe,Int.reduceLT,Zu,Zz,tup,tyf,e],rfl⟩
         | false =>
           have e:mk p (j+1)=mk p j:=by
            have:p j=false:=by rw [hp']; simp only [hcf,Bool.and_false]
            rw [mk,this]; rfl
           simp (maxSteps:=2000000) only [s50,↓Za,↓Zk,↓Zr,↓Ze,↓Zm,↓Zs,↓Zf,↓Zh,↓Zg,↓Zc,↓Zb,↓vdn,vup,Zn,Zl,Zo,Zi,Zj,List.map_cons,List.map_nil,cond_true,cond_false,aop,Zv,Zq,Zp,ev,sput,Zt,Zy,Ya,unK,Zd,Zw,Nat.reduceBEq,Nat.reduceAdd,Int.reduceBEq,Int.reduceBNe,Int.reduceLT,Zu,Zz,tup,tyf,Vd (show j<9223372036854775807 by omega)]
           exact hQ4 _ _ _ ⟨j+1,by omega,by omega,by simp (maxSteps:=2000000) only [↓Za,↓Zk,↓Zr,↓Ze,↓Zm,↓Zs,↓Zf,↓Zh,↓Zg,↓Zc,↓Zb,↓vdn,vup,Zn,Zl,Zo,Zi,Zj,List.map_cons,List.map_nil,cond_true,cond_false,aop,Zv,Zq,Zp,ev,sput,Zt,Zy,Ya,unK,Zd,Zw,Nat.reduceBEq,Nat.reduceAdd,Int.reduceBEq,Int.reduceBNe,Int.reduceLT,Zu,Zz,tup,tyf,e],rfl⟩
     · obtain rfl:j=wn xs i:=by omega
       simp (maxSteps:=2000000) only [s50,↓Za,↓Zk,↓Zr,↓Ze,↓Zm,↓Zs,↓Zf,↓Zh,↓Zg,↓Zc,↓Zb,↓vdn,vup,Zn,Zl,Zo,Zi,Zj,List.map_cons,List.map_nil,cond_true,cond_false,aop,Zv,Zq,Zp,ev,sput,Zt,Zy,Ya,unK,Zd,Zw,Nat.reduceBEq,Nat.reduceAdd,Int.reduceBEq,Int.reduceBNe,Int.reduceLT,Zu,Zz,tup,tyf,l50_1,Int.lt_irrefl]
       refine hQ4 _ _ _ (hQ3 _ _ _ ?_)
       simp (maxSteps:=2000000) only [s50,↓Za,↓Zk,↓Zr,↓Ze,↓Zm,↓Zs,↓Zf,↓Zh,↓Zg,↓Zc,↓Zb,↓vdn,vup,Zn,Zl,Zo,Zi,Zj,List.map_cons,List.map_nil,cond_true,cond_false,aop,Zv,Zq,Zp,ev,sput,Zt,Zy,Ya,unK,Zd,Zw,Nat.reduceBEq,Nat.reduceAdd,Int.reduceBEq,Int.reduceBNe,Int.reduceLT,Zu,Zz,tup,tyf,if_true,nilK,fldA fld_91_0 Xk,fldA fld_91_1 esz_89,ldn,litU]
       have en:mk p (wn xs i)=nearW xs i a:=by rw [hp']; rfl
       rw [en]
       have hE1:Ext (fun _=>False) hp (hp++[Blk.cells [.int .u64 ((nearW xs i a:Nat):Int)] 88 false]):=Ext.app _ _ _
       refine (ho.ext hE1).app app_89_89 (litU_val hp _) ?_ ?_ fun nv2 h2 ho2 hE2 hb2=>?_
       · intro w hw
         rcases List.mem_append.1 hw with hw | hw
         · obtain ⟨z,_,rfl⟩:=List.mem_map.1 hw; exact ⟨rfl,rfl⟩
         · rw [List.mem_singleton.1 hw]; exact ⟨rfl,rfl⟩
       · simp only [List.length_map,List.length_range,List.length_singleton]; omega
       have hlt:=Yp hc
       have hc2:h2[h.length]? = some (.cells [Zx (wn xs i:Nat),nv] 91 false):=by
        rw [hE2.2 _ (Nat.lt_of_lt_of_le hlt hE1.1) fun h1=>by have:=hbl _ h1; omega,hE1.2 _ hlt id]; exact hc
       have hst : ∀ {K:Yc→Prop},Xu prog h2 89 (.pointer (some ⟨h.length,1,none⟩)) nv2 K=K (h2.set h.length (.cells [Zx (wn xs i:Nat),nv2] 91 false)):=fun {K}=>by
        rw [storeC hc2 shp_89 (ownV_one ho2) (by simp)]; rfl
       have hb3 : ∀ b,Yk nv2=some b→h.length<b:=fun b h1=>by
        rcases hb2 with h3 | ⟨b',h3,h4⟩
        · exact hbl b (h3▸h1)
        · rw [h3] at h1; cases h1; have:=hE1.1; omega
       simp (maxSteps:=2000000) only [s50,↓Za,↓Zk,↓Zr,↓Ze,↓Zm,↓Zs,↓Zf,↓Zh,↓Zg,↓Zc,↓Zb,↓vdn,vup,Zn,Zl,Zo,Zi,Zj,List.map_cons,List.map_nil,cond_true,cond_false,aop,Zv,Zq,Zp,ev,sput,Zt,Zy,Ya,unK,Zd,Zw,Nat.reduceBEq,Nat.reduceAdd,Int.reduceBEq,Int.reduceBNe,Int.reduceLT,Zu,Zz,tup,tyf,hst,Vd (show a<9223372036854775807 by omega)]
       refine hQ2 _ _ _ ⟨(a+1,h2.set h.length (.cells [Zx (wn xs i:Nat),nv2] 91 false),nv2),⟨by simp only; omega,⟨?_,fun x hx _=>?_⟩,Xy (Yp hc2) _,?_,hb3⟩,by simp only; omega,by simp (maxSteps:=2000000) only [↓Za,↓Zk,↓Zr,↓Ze,↓Zm,↓Zs,↓Zf,↓Zh,↓Zg,↓Zc,↓Zb,↓vdn,vup,Zn,Zl,Zo,Zi,Zj,List.map_cons,List.map_nil,cond_true,cond_false,aop,Zv,Zq,Zp,ev,sput,Zt,Zy,Ya,unK,Zd,Zw,Nat.reduceBEq,Nat.reduceAdd,Int.reduceBEq,Int.reduceBNe,Int.reduceLT,Zu,Zz,tup,tyf],rfl⟩
       · rw [List.length_set]; have:=hE.1; have:=hE1.1; have:=hE2.1; omega
       · have l1:=hE.1
         have l2:=hE1.1
         rw [List.getElem?_set_ne (by omega),hE2.2 x (by omega) fun h1=>by have:=hbl _ h1; omega,hE1.2 x (by omega) id]
         exact hE.2 x hx id
       · rw [List.range_succ,List.map_append,List.map_append]
         exact ho2.same fun b h1=>List.getElem?_set_ne (by have:=hb3 b h1; omega)
   · obtain rfl:a=wn xs i:=by omega
     simp (maxSteps:=2000000) only [s50,↓Za,↓Zk,↓Zr,↓Ze,↓Zm,↓Zs,↓Zf,↓Zh,↓Zg,↓Zc,↓Zb,↓vdn,vup,Zn,Zl,Zo,Zi,Zj,List.map_cons,List.map_nil,cond_true,cond_false,aop,Zv,Zq,Zp,ev,sput,Zt,Zy,Ya,unK,Zd,Zw,Nat.reduceBEq,Nat.reduceAdd,Int.reduceBEq,Int.reduceBNe,Int.reduceLT,Zu,Zz,tup,tyf,l50_2,Int.lt_irrefl]
     refine hQ2 _ _ _ (hQ _ _ _ ?_)
     simp (maxSteps:=2000000) only [s50,↓Za,↓Zk,↓Zr,↓Ze,↓Zm,↓Zs,↓Zf,↓Zh,↓Zg,↓Zc,↓Zb,↓vdn,vup,Zn,Zl,Zo,Zi,Zj,List.map_cons,List.map_nil,cond_true,cond_false,aop,Zv,Zq,Zp,ev,sput,Zt,Zy,Ya,unK,Zd,Zw,Nat.reduceBEq,Nat.reduceAdd,Int.reduceBEq,Int.reduceBNe,Int.reduceLT,Zu,Zz,tup,tyf,if_true]
     refine hN _ _ ?_
     simp (maxSteps:=2000000) only [s50,↓Za,↓Zk,↓Zr,↓Ze,↓Zm,↓Zs,↓Zf,↓Zh,↓Zg,↓Zc,↓Zb,↓vdn,vup,Zn,Zl,Zo,Zi,Zj,List.map_cons,List.map_nil,cond_true,cond_false,aop,Zv,Zq,Zp,ev,sput,Zt,Zy,Ya,unK,Zd,Zw,Nat.reduceBEq,Nat.reduceAdd,Int.reduceBEq,Int.reduceBNe,Int.reduceLT,Zu,Zz,tup,tyf]
     rw [if_pos hw]
     exact ⟨hE,h.length,rfl,nv,by rw [nearL_len]; exact hc,ho.val⟩
end Go.Proofs.Tryd.Am.Su
namespace Go.Proofs.Tryd.Am.Su
open Go.Proofs.Tryd.Am
open Go.Am Sr
set_option maxRecDepth 100000
set_option maxHeartbeats 1000000
theorem getD_vu {nr:List Nat} {v:Nat} (hv:v<nr.length):(nr.map fun x=>vu x).getD v undef=vu (nb nr v):=by
 simp [nb,List.getD,List.getElem?_eq_getElem hv]
theorem p64:(2:Nat) ^ 64=18446744073709551616:=by decide
theorem lt64 {nr:List Nat} (g:Gr nr) {s:Nat} (hs:s<2 ^ nr.length):s<18446744073709551616:=by
 rw [← p64]; exact Nat.lt_of_lt_of_le hs (Nat.pow_le_pow_right (by decide) g.len)
theorem nb64 {nr:List Nat} (g:Gr nr) (v:Nat):nb nr v<18446744073709551616:=lt64 g (g.lt v)
theorem bit64 {v:Nat} (h:v<64):2 ^ v<18446744073709551616:=by
 rw [← p64]; exact Nat.pow_lt_pow_right (by decide) h
theorem cutU {nr:List Nat} (g:Gr nr) {s v:Nat} (hs:s<2 ^ nr.length) (hv:v<64):We .andNot .u64 ((Wh s (nb nr v):Nat):Int) ((2 ^ v:Nat):Int)=((cut nr s v:Nat):Int):=by
 rw [lessU (lt64 g (less_lt hs)) (bit64 hv)]; rfl
theorem bits_head {r:Nat} (hr:r<18446744073709551616) (h0:r≠0):r.testBit (Lib.ctz 64 r)=true:=by
 have h:=bits_stepU r hr h0
 have:Lib.ctz 64 r∈Am.bits r:=by rw [h]; exact List.mem_cons_self ..
 exact (List.mem_filter.1 this).2
theorem sub_pred {r t:Nat} (h : ∀ i,r.testBit i=true→t.testBit i=true) (i:Nat):(r &&& (r-1)).testBit i=true→t.testBit i=true:=by
 rw [Nat.testBit_and,Bool.and_eq_true]; exact fun h2=>h i h2.1
def pickI (nr:List Nat) (t r:Nat) (p d:Int):Prop:=(p = -1∧d = -1∧r=t)∨∃ v:Nat,p=v∧t.testBit v=true∧d=((Am.bits (nb nr v &&& t)).length:Nat)∧1<(Am.bits (nb nr v &&& t)).length
theorem most_call [BitTab prog 0] {h:Yc} {b:Nat} {nr:List Nat} (w:WO h b nr) (g:Gr nr) : ∀ s,s<2 ^ nr.length→APure prog 51 [pt b,vu s] h (Zx (A nr s:Nat)):=by
 intro s
 induction s using Nat.strongRecOn with
 | _ s ih =>
   intro hs
   obtain ⟨nv,hc,hv⟩:=w
   have ldn : ∀ {K:Value→Prop},Xn prog h 89 (.pointer (some ⟨b,1,none⟩)) K=K nv:=fun {K}=>loadC (o:=1) hc shp_89 rfl
   have ix : ∀ v,v<nr.length→∀ {K:Value→Prop},Yv prog 89 nv (Zx v) K=K (Wq nv 1 v):=fun v h1 {K}=>hv.idx el_89 esz_88 (by rw [List.length_map]; exact h1) K
   have ld : ∀ v,v<nr.length→∀ {K:Value→Prop},Xn prog h 88 (Wq nv 1 v) K=K (vu (nb nr v)):=fun v h1 {K}=>by
    rw [hv.load shp_88 (by rw [List.length_map]; exact h1),getD_vu h1]
   refine s51_call (by simp) ?_
   simp (maxSteps:=2000000) only [s51,↓Za,↓Zk,↓Zr,↓Ze,↓Zm,↓Zs,↓Zf,↓Zh,↓Zg,↓Zc,↓Zb,↓vdn,vup,Zn,Zl,Zo,Zi,Zj,List.map_cons,List.map_nil,cond_true,cond_false,aop,Zv,Zq,Zp,ev,sput,Zt,Zy,Ya,unK,Zd,Zw,Nat.reduceBEq,Nat.reduceAdd,Int.reduceBEq,Int.reduceBNe,Int.reduceLT,Zu,Zz,tup,tyf,↓Xo]
   refine Yf fun Q hQ=>?_
   refine Xh (γ:=Nat×Nat) (fun a=>a.1≤s∧a.1<2 ^ nr.length∧a.2+A nr a.1=A nr s)
    (fun a=>([(0,pt b),(1,vu a.1),(4,.int .i64 0),(5,Zx a.2)],h)) (fun a=>a.1) (s,0) ⟨Nat.le_refl _,hs,Nat.zero_add _⟩ (by simp (maxSteps:=2000000) only [↓Za,↓Zk,↓Zr,↓Ze,↓Zm,↓Zs,↓Zf,↓Zh,↓Zg,↓Zc,↓Zb,↓vdn,vup,Zn,Zl,Zo,Zi,Zj,List.map_cons,List.map_nil,cond_true,cond_false,aop,Zv,Zq,Zp,ev,sput,Zt,Zy,Ya,unK,Zd,Zw,Nat.reduceBEq,Nat.reduceAdd,Int.reduceBEq,Int.reduceBNe,Int.reduceLT,Zu,Zz,tup,tyf,Int.natCast_zero]) rfl ?_
   rintro ⟨t,o⟩ ⟨h1,h2,h3⟩
   simp only at h1 h2 h3
   have hA:=A_le nr s
   refine Yf fun Q2 hQ2=>?_
   simp only [l51_1]
   refine Yb fun N hN=>?_
   by_cases t0:t=0
   · subst t0
     rw [A_zero] at h3
     simp (maxSteps:=2000000) only [s51,↓Za,↓Zk,↓Zr,↓Ze,↓Zm,↓Zs,↓Zf,↓Zh,↓Zg,↓Zc,↓Zb,↓vdn,vup,Zn,Zl,Zo,Zi,Zj,List.map_cons,List.map_nil,cond_true,cond_false,aop,Zv,Zq,Zp,ev,sput,Zt,Zy,Ya,unK,Zd,Zw,Nat.reduceBEq,Nat.reduceAdd,Int.reduceBEq,Int.reduceBNe,Int.reduceLT,Zu,Zz,tup,tyf,ofNe,ne_eq,not_true_eq_false,decide_false]
     refine hQ2 _ _ _ (hQ _ _ _ ?_)
     simp (maxSteps:=2000000) only [s51,↓Za,↓Zk,↓Zr,↓Ze,↓Zm,↓Zs,↓Zf,↓Zh,↓Zg,↓Zc,↓Zb,↓vdn,vup,Zn,Zl,Zo,Zi,Zj,List.map_cons,List.map_nil,cond_true,cond_false,aop,Zv,Zq,Zp,ev,sput,Zt,Zy,Ya,unK,Zd,Zw,Nat.reduceBEq,Nat.reduceAdd,Int.reduceBEq,Int.reduceBNe,Int.reduceLT,Zu,Zz,tup,tyf,if_true]
     rw [← h3,Nat.add_zero]
   simp (maxSteps:=2000000) only [s51,↓Za,↓Zk,↓Zr,↓Ze,↓Zm,↓Zs,↓Zf,↓Zh,↓Zg,↓Zc,↓Zb,↓vdn,vup,Zn,Zl,Zo,Zi,Zj,List.map_cons,List.map_nil,cond_true,cond_false,aop,Zv,Zq,Zp,ev,sput,Zt,Zy,Ya,unK,Zd,Zw,Nat.reduceBEq,Nat.reduceAdd,Int.reduceBEq,Int.reduceBNe,Int.reduceLT,Zu,Zz,tup,tyf,ofNe,ne_eq,t0,not_false_eq_true,decide_true]
   refine hN [(0,pt b),(1,vu t),(4,.int .i64 0),(5,Zx o)] _ _ ?_ (by simp (maxSteps:=2000000) only [↓Za,↓Zk,↓Zr,↓Ze,↓Zm,↓Zs,↓Zf,↓Zh,↓Zg,↓Zc,↓Zb,↓vdn,vup,Zn,Zl,Zo,Zi,Zj,List.map_cons,List.map_nil,cond_true,cond_false,aop,Zv,Zq,Zp,ev,sput,Zt,Zy,Ya,unK,Zd,Zw,Nat.reduceBEq,Nat.reduceAdd,Int.reduceBEq,Int.reduceBNe,Int.reduceLT,Zu,Zz,tup,tyf])
   clear hN N
   have ht:=lt64 g h2
   refine Yh ?_
   refine Yb fun N hN=>?_
   simp (maxSteps:=2000000) only [s51,↓Za,↓Zk,↓Zr,↓Ze,↓Zm,↓Zs,↓Zf,↓Zh,↓Zg,↓Zc,↓Zb,↓vdn,vup,Zn,Zl,Zo,Zi,Zj,List.map_cons,List.map_nil,cond_true,cond_false,aop,Zv,Zq,Zp,ev,sput,Zt,Zy,Ya,unK,Zd,Zw,Nat.reduceBEq,Nat.reduceAdd,Int.reduceBEq,Int.reduceBNe,Int.reduceLT,Zu,Zz,tup,tyf]
   refine hN [(0,pt b),(1,vu t),(4,.int .i64 0),(5,Zx o),(6,.int .i64 (-1)),(7,.int .i64 (-1))] _ _ ?_ (by simp (maxSteps:=2000000) only [↓Za,↓Zk,↓Zr,↓Ze,↓Zm,↓Zs,↓Zf,↓Zh,↓Zg,↓Zc,↓Zb,↓vdn,vup,Zn,Zl,Zo,Zi,Zj,List.map_cons,List.map_nil,cond_true,cond_false,aop,Zv,Zq,Zp,ev,sput,Zt,Zy,Ya,unK,Zd,Zw,Nat.reduceBEq,Nat.reduceAdd,Int.reduceBEq,Int.reduceBNe,Int.reduceLT,Zu,Zz,tup,tyf])
   clear hN N
   refine Yb fun N hN=>?_
   have go : ∀ v d,t.testBit v=true→d=(Am.bits (nb nr v &&& t)).length→∀ e,ELe e [(0,pt b),(1,vu t),(4,.int .i64 0),(5,Zx o),(6,Zx v),(7,Zx d)]→N e h:=by
    intro v d hb hd e he
    refine hN [(0,pt b),(1,vu t),(4,.int .i64 0),(5,Zx o),(6,Zx v),(7,Zx d)] _ _ ?_ he
    clear hN N he e
    have hvl:=bit_lt h2 hb
    have hv64:v<64:=Nat.lt_of_lt_of_le hvl g.len
    have hnn:(0:Int)≤(v:Int):=Int.natCast_nonneg _
    refine Yb fun N hN=>?_
    by_cases hd1:(1:Int)<(d:Int)
    · simp (maxSteps:=2000000) only [s51,↓Za,↓Zk,↓Zr,↓Ze,↓Zm,↓Zs,↓Zf,↓Zh,↓Zg,↓Zc,↓Zb,↓vdn,vup,Zn,Zl,Zo,Zi,Zj,List.map_cons,List.map_nil,cond_true,cond_false,aop,Zv,Zq,Zp,ev,sput,Zt,Zy,Ya,unK,Zd,Zw,Nat.reduceBEq,Nat.reduceAdd,Int.reduceBEq,Int.reduceBNe,Int.reduceLT,Zu,Zz,tup,tyf,gt_iff_lt,hd1]
      have l1:=cut_less g hb
      have l2:=less_bit_lt hb
      have hp:=A_pivot g (Nat.lt_of_lt_of_le h2 (Nat.pow_le_pow_right (by decide) g.len)) hb
      refine Xv [(14,1),(21,1)] (by kernel_rfl) (by kernel_rfl) (by kernel_rfl) (by kernel_rfl) ?_
      simp (maxSteps:=2000000) only [s51,↓Za,↓Zk,↓Zr,↓Ze,↓Zm,↓Zs,↓Zf,↓Zh,↓Zg,↓Zc,↓Zb,↓vdn,vup,Zn,Zl,Zo,Zi,Zj,List.map_cons,List.map_nil,cond_true,cond_false,aop,Zv,Zq,Zp,ev,sput,Zt,Zy,Ya,unK,Zd,Zw,Nat.reduceBEq,Nat.reduceAdd,Int.reduceBEq,Int.reduceBNe,Int.reduceLT,Zu,Zz,tup,tyf,nilK,fldA fld_91_1 esz_89,ldn,ix v hvl,ld v hvl,hnn,shlU1 hv64,lessU ht (nb64 g v),cutU g h2 hv64,lessU ht (bit64 hv64),Yz,List.nil_append,List.append_nil,List.toList_toArray,List.cons_append]
      refine ⟨_,_,ih (cut nr t v) (by omega) (cut_lt h2),rfl,?_⟩
      have a1:=A_le nr (cut nr t v)
      have a2:=A_le nr (Wh t (2 ^ v))
      have e1:addV .i64 1 ((A nr (cut nr t v):Nat):Int)=((1+A nr (cut nr t v):Nat):Int):=by rw [addV_id (by omega) (by omega)]; omega
      simp (maxSteps:=2000000) only [s51,↓Za,↓Zk,↓Zr,↓Ze,↓Zm,↓Zs,↓Zf,↓Zh,↓Zg,↓Zc,↓Zb,↓vdn,vup,Zn,Zl,Zo,Zi,Zj,List.map_cons,List.map_nil,cond_true,cond_false,aop,Zv,Zq,Zp,ev,sput,Zt,Zy,Ya,unK,Zd,Zw,Nat.reduceBEq,Nat.reduceAdd,Int.reduceBEq,Int.reduceBNe,Int.reduceLT,Zu,Zz,tup,tyf,e1,hnn,shlU1 hv64,lessU ht (bit64 hv64),Yz,List.nil_append,List.append_nil,List.toList_toArray,List.cons_append]
      refine ⟨_,_,ih (Wh t (2 ^ v)) (by omega) (less_lt h2),rfl,?_⟩
      by_cases hm:((1+A nr (cut nr t v):Nat):Int)<((A nr (Wh t (2 ^ v)):Nat):Int)
      · have e2:addV .i64 ((o:Nat):Int) ((A nr (Wh t (2 ^ v)):Nat):Int)=((A nr s:Nat):Int):=by rw [addV_id (by omega) (by omega)]; omega
        simp (maxSteps:=2000000) only [s51,↓Za,↓Zk,↓Zr,↓Ze,↓Zm,↓Zs,↓Zf,↓Zh,↓Zg,↓Zc,↓Zb,↓vdn,vup,Zn,Zl,Zo,Zi,Zj,List.map_cons,List.map_nil,cond_true,cond_false,aop,Zv,Zq,Zp,ev,sput,Zt,Zy,Ya,unK,Zd,Zw,Nat.reduceBEq,Nat.reduceAdd,Int.reduceBEq,Int.reduceBNe,Int.reduceLT,Zu,Zz,tup,tyf,mmK,if_true,gt_iff_lt,hm,e2]
        refine hQ2 _ _ _ (hQ _ _ _ ?_)
        simp (maxSteps:=2000000) only [↓Za,↓Zk,↓Zr,↓Ze,↓Zm,↓Zs,↓Zf,↓Zh,↓Zg,↓Zc,↓Zb,↓vdn,vup,Zn,Zl,Zo,Zi,Zj,List.map_cons,List.map_nil,cond_true,cond_false,aop,Zv,Zq,Zp,ev,sput,Zt,Zy,Ya,unK,Zd,Zw,Nat.reduceBEq,Nat.reduceAdd,Int.reduceBEq,Int.reduceBNe,Int.reduceLT,Zu,Zz,tup,tyf]
      · have e2:addV .i64 ((o:Nat):Int) ((1+A nr (cut nr t v):Nat):Int)=((A nr s:Nat):Int):=by rw [addV_id (by omega) (by omega)]; omega
        simp (maxSteps:=2000000) only [s51,↓Za,↓Zk,↓Zr,↓Ze,↓Zm,↓Zs,↓Zf,↓Zh,↓Zg,↓Zc,↓Zb,↓vdn,vup,Zn,Zl,Zo,Zi,Zj,List.map_cons,List.map_nil,cond_true,cond_false,aop,Zv,Zq,Zp,ev,sput,Zt,Zy,Ya,unK,Zd,Zw,Nat.reduceBEq,Nat.reduceAdd,Int.reduceBEq,Int.reduceBNe,Int.reduceLT,Zu,Zz,tup,tyf,mmK,if_true,if_false,gt_iff_lt,hm,e2]
        refine hQ2 _ _ _ (hQ _ _ _ ?_)
        simp (maxSteps:=2000000) only [↓Za,↓Zk,↓Zr,↓Ze,↓Zm,↓Zs,↓Zf,↓Zh,↓Zg,↓Zc,↓Zb,↓vdn,vup,Zn,Zl,Zo,Zi,Zj,List.map_cons,List.map_nil,cond_true,cond_false,aop,Zv,Zq,Zp,ev,sput,Zt,Zy,Ya,unK,Zd,Zw,Nat.reduceBEq,Nat.reduceAdd,Int.reduceBEq,Int.reduceBNe,Int.reduceLT,Zu,Zz,tup,tyf]
    · have hp:=A_one g (Nat.lt_of_lt_of_le h2 (Nat.pow_le_pow_right (by decide) g.len)) hb (by omega)
      have hlt:=cut_less g hb
      simp (maxSteps:=2000000) only [s51,↓Za,↓Zk,↓Zr,↓Ze,↓Zm,↓Zs,↓Zf,↓Zh,↓Zg,↓Zc,↓Zb,↓vdn,vup,Zn,Zl,Zo,Zi,Zj,List.map_cons,List.map_nil,cond_true,cond_false,aop,Zv,Zq,Zp,ev,sput,Zt,Zy,Ya,unK,Zd,Zw,Nat.reduceBEq,Nat.reduceAdd,Int.reduceBEq,Int.reduceBNe,Int.reduceLT,Zu,Zz,tup,tyf,gt_iff_lt,hd1]
      refine hN [(0,pt b),(1,vu t),(4,.int .i64 0),(5,Zx o),(6,Zx v)] _ _ ?_ (by simp (maxSteps:=2000000) only [↓Za,↓Zk,↓Zr,↓Ze,↓Zm,↓Zs,↓Zf,↓Zh,↓Zg,↓Zc,↓Zb,↓vdn,vup,Zn,Zl,Zo,Zi,Zj,List.map_cons,List.map_nil,cond_true,cond_false,aop,Zv,Zq,Zp,ev,sput,Zt,Zy,Ya,unK,Zd,Zw,Nat.reduceBEq,Nat.reduceAdd,Int.reduceBEq,Int.reduceBNe,Int.reduceLT,Zu,Zz,tup,tyf])
      clear hN N
      refine Yb fun N hN=>?_
      simp (maxSteps:=2000000) only [s51,↓Za,↓Zk,↓Zr,↓Ze,↓Zm,↓Zs,↓Zf,↓Zh,↓Zg,↓Zc,↓Zb,↓vdn,vup,Zn,Zl,Zo,Zi,Zj,List.map_cons,List.map_nil,cond_true,cond_false,aop,Zv,Zq,Zp,ev,sput,Zt,Zy,Ya,unK,Zd,Zw,Nat.reduceBEq,Nat.reduceAdd,Int.reduceBEq,Int.reduceBNe,Int.reduceLT,Zu,Zz,tup,tyf,Vd (show o<9223372036854775807 by omega)]
      refine hN [(0,pt b),(1,vu t),(4,.int .i64 0),(5,Zx (o+1:Nat)),(6,Zx v)] _ _ ?_ (by simp (maxSteps:=2000000) only [↓Za,↓Zk,↓Zr,↓Ze,↓Zm,↓Zs,↓Zf,↓Zh,↓Zg,↓Zc,↓Zb,↓vdn,vup,Zn,Zl,Zo,Zi,Zj,List.map_cons,List.map_nil,cond_true,cond_false,aop,Zv,Zq,Zp,ev,sput,Zt,Zy,Ya,unK,Zd,Zw,Nat.reduceBEq,Nat.reduceAdd,Int.reduceBEq,Int.reduceBNe,Int.reduceLT,Zu,Zz,tup,tyf])
      clear hN N
      refine Yd ?_
      have hor:We .or .u64 ((nb nr v:Nat):Int) ((2 ^ v:Nat):Int)=((nb nr v ||| 2 ^ v:Nat):Int):=orU (nb64 g v) (bit64 hv64)
      have hls:We .andNot .u64 (t:Int) ((nb nr v ||| 2 ^ v:Nat):Int)=((cut nr t v:Nat):Int):=by
       rw [lessU ht (by rw [← p64]; exact Nat.or_lt_two_pow (by rw [p64]; exact nb64 g v) (by rw [p64]; exact bit64 hv64)),cut_or]
      refine aw_draw [] (by kernel_rfl) (by kernel_rfl) (by kernel_rfl) ?_
      simp (maxSteps:=2000000) only [s51,↓Za,↓Zk,↓Zr,↓Ze,↓Zm,↓Zs,↓Zf,↓Zh,↓Zg,↓Zc,↓Zb,↓vdn,vup,Zn,Zl,Zo,Zi,Zj,List.map_cons,List.map_nil,cond_true,cond_false,aop,Zv,Zq,Zp,ev,sput,Zt,Zy,Ya,unK,Zd,Zw,Nat.reduceBEq,Nat.reduceAdd,Int.reduceBEq,Int.reduceBNe,Int.reduceLT,Zu,Zz,tup,tyf,nilK,fldA fld_91_1 esz_89,ldn,ix v hvl,ld v hvl,hnn,shlU1 hv64,hor,hls]
      refine hQ2 _ _ _ ⟨(cut nr t v,o+1),⟨by simp only; omega,cut_lt h2,by simp only; omega⟩,hlt,by simp (maxSteps:=2000000) only [↓Za,↓Zk,↓Zr,↓Ze,↓Zm,↓Zs,↓Zf,↓Zh,↓Zg,↓Zc,↓Zb,↓vdn,vup,Zn,Zl,Zo,Zi,Zj,List.map_cons,List.map_nil,cond_true,cond_false,aop,Zv,Zq,Zp,ev,sput,Zt,Zy,Ya,unK,Zd,Zw,Nat.reduceBEq,Nat.reduceAdd,Int.reduceBEq,Int.reduceBNe,Int.reduceLT,Zu,Zz,tup,tyf],rfl⟩
   simp (maxSteps:=2000000) only [s51,↓Za,↓Zk,↓Zr,↓Ze,↓Zm,↓Zs,↓Zf,↓Zh,↓Zg,↓Zc,↓Zb,↓vdn,vup,Zn,Zl,Zo,Zi,Zj,List.map_cons,List.map_nil,cond_true,cond_false,aop,Zv,Zq,Zp,ev,sput,Zt,Zy,Ya,unK,Zd,Zw,Nat.reduceBEq,Nat.reduceAdd,Int.reduceBEq,Int.reduceBNe,Int.reduceLT,Zu,Zz,tup,tyf,↓Xo]
   refine Yf fun Q3 hQ3=>?_
   refine Ve (γ:=Nat×Int×Int) (fun a=>a.1≤t∧(∀ i,a.1.testBit i=true→t.testBit i=true)∧pickI nr t a.1 a.2.1 a.2.2)
    (fun a=>([(0,pt b),(1,vu t),(4,.int .i64 0),(5,Zx o),(6,.int .i64 a.2.1),(7,.int .i64 a.2.2),(8,vu a.1)],h)) (fun a=>a.1) (t,-1,-1) ⟨Nat.le_refl _,fun _ h=>h,.inl ⟨rfl,rfl,rfl⟩⟩ (by simp (maxSteps:=2000000) only [↓Za,↓Zk,↓Zr,↓Ze,↓Zm,↓Zs,↓Zf,↓Zh,↓Zg,↓Zc,↓Zb,↓vdn,vup,Zn,Zl,Zo,Zi,Zj,List.map_cons,List.map_nil,cond_true,cond_false,aop,Zv,Zq,Zp,ev,sput,Zt,Zy,Ya,unK,Zd,Zw,Nat.reduceBEq,Nat.reduceAdd,Int.reduceBEq,Int.reduceBNe,Int.reduceLT,Zu,Zz,tup,tyf]) rfl ?_
   rintro ⟨r,p,d⟩ ⟨hrt,hr,hp⟩
   simp only at hrt hr hp
   refine Vi fun Q4 hQ4=>?_
   by_cases r0:r=0
   · subst r0
     rcases hp with ⟨_,_,h9⟩ | ⟨v,rfl,hb,rfl,h1d⟩
     · exact absurd h9.symm t0
     · simp (maxSteps:=2000000) only [s51,↓Za,↓Zk,↓Zr,↓Ze,↓Zm,↓Zs,↓Zf,↓Zh,↓Zg,↓Zc,↓Zb,↓vdn,vup,Zn,Zl,Zo,Zi,Zj,List.map_cons,List.map_nil,cond_true,cond_false,aop,Zv,Zq,Zp,ev,sput,Zt,Zy,Ya,unK,Zd,Zw,Nat.reduceBEq,Nat.reduceAdd,Int.reduceBEq,Int.reduceBNe,Int.reduceLT,Zu,Zz,tup,tyf,l51_0,ofNe,ne_eq,not_true_eq_false,decide_false]
       exact hQ4 _ _ _ (hQ3 _ _ _ (go v _ hb rfl _ (by simp (maxSteps:=2000000) only [↓Za,↓Zk,↓Zr,↓Ze,↓Zm,↓Zs,↓Zf,↓Zh,↓Zg,↓Zc,↓Zb,↓vdn,vup,Zn,Zl,Zo,Zi,Zj,List.map_cons,List.map_nil,cond_true,cond_false,aop,Zv,Zq,Zp,ev,sput,Zt,Zy,Ya,unK,Zd,Zw,Nat.reduceBEq,Nat.reduceAdd,Int.reduceBEq,Int.reduceBNe,Int.reduceLT,Zu,Zz,tup,tyf])))
   have r64:r<18446744073709551616:=by omega
   have hb:=hr _ (bits_head r64 r0)
   have hlt:=and_pred_lt r r0
   have hsb:=sub_pred hr
   have htz:=tz_call (h:=h) r64
   generalize Lib.ctz 64 r=v at hb htz
   have hvl:=bit_lt h2 hb
   have hon:=ones_call (h:=h) (x:=nb nr v &&& t) (Nat.lt_of_le_of_lt Nat.and_le_right ht)
   obtain ⟨c,hcd⟩ : ∃ c,c=(Am.bits (nb nr v &&& t)).length:=⟨_,rfl⟩
   rw [← hcd] at hon
   simp (maxSteps:=2000000) only [s51,↓Za,↓Zk,↓Zr,↓Ze,↓Zm,↓Zs,↓Zf,↓Zh,↓Zg,↓Zc,↓Zb,↓vdn,vup,Zn,Zl,Zo,Zi,Zj,List.map_cons,List.map_nil,cond_true,cond_false,aop,Zv,Zq,Zp,ev,sput,Zt,Zy,Ya,unK,Zd,Zw,Nat.reduceBEq,Nat.reduceAdd,Int.reduceBEq,Int.reduceBNe,Int.reduceLT,Zu,Zz,tup,tyf,l51_0,ofNe,ne_eq,r0,not_false_eq_true,decide_true,Yz,List.nil_append,List.append_nil,List.toList_toArray,List.cons_append]
   refine htz.mono ?_
   rintro _ h ⟨rfl,rfl⟩
   simp (maxSteps:=2000000) only [s51,↓Za,↓Zk,↓Zr,↓Ze,↓Zm,↓Zs,↓Zf,↓Zh,↓Zg,↓Zc,↓Zb,↓vdn,vup,Zn,Zl,Zo,Zi,Zj,List.map_cons,List.map_nil,cond_true,cond_false,aop,Zv,Zq,Zp,ev,sput,Zt,Zy,Ya,unK,Zd,Zw,Nat.reduceBEq,Nat.reduceAdd,Int.reduceBEq,Int.reduceBNe,Int.reduceLT,Zu,Zz,tup,tyf,nilK,fldA fld_91_1 esz_89,ldn,ix v hvl,ld v hvl,andU (nb64 g v) ht,Yz,List.nil_append,List.append_nil,List.toList_toArray,List.cons_append]
   refine hon.mono ?_
   rintro _ h ⟨rfl,rfl⟩
   by_cases c1:(c:Int)≤1
   · simp (maxSteps:=2000000) only [s51,↓Za,↓Zk,↓Zr,↓Ze,↓Zm,↓Zs,↓Zf,↓Zh,↓Zg,↓Zc,↓Zb,↓vdn,vup,Zn,Zl,Zo,Zi,Zj,List.map_cons,List.map_nil,cond_true,cond_false,aop,Zv,Zq,Zp,ev,sput,Zt,Zy,Ya,unK,Zd,Zw,Nat.reduceBEq,Nat.reduceAdd,Int.reduceBEq,Int.reduceBNe,Int.reduceLT,Zu,Zz,tup,tyf,c1]
     exact hQ4 _ _ _ (hQ3 _ _ _ (go v _ hb hcd _ (by simp (maxSteps:=2000000) only [↓Za,↓Zk,↓Zr,↓Ze,↓Zm,↓Zs,↓Zf,↓Zh,↓Zg,↓Zc,↓Zb,↓vdn,vup,Zn,Zl,Zo,Zi,Zj,List.map_cons,List.map_nil,cond_true,cond_false,aop,Zv,Zq,Zp,ev,sput,Zt,Zy,Ya,unK,Zd,Zw,Nat.reduceBEq,Nat.reduceAdd,Int.reduceBEq,Int.reduceBNe,Int.reduceLT,Zu,Zz,tup,tyf])))
   · by_cases cd:d<(c:Int)
     · simp (maxSteps:=2000000) only [s51,↓Za,↓Zk,↓Zr,↓Ze,↓Zm,↓Zs,↓Zf,↓Zh,↓Zg,↓Zc,↓Zb,↓vdn,vup,Zn,Zl,Zo,Zi,Zj,List.map_cons,List.map_nil,cond_true,cond_false,aop,Zv,Zq,Zp,ev,sput,Zt,Zy,Ya,unK,Zd,Zw,Nat.reduceBEq,Nat.reduceAdd,Int.reduceBEq,Int.reduceBNe,Int.reduceLT,Zu,Zz,tup,tyf,c1,gt_iff_lt,cd,subU1 (show 1≤r by omega) r64,andU r64 (show r-1<18446744073709551616 by omega)]
       exact hQ4 _ _ _ ⟨(r &&& (r-1),v,c),⟨by simp only; omega,hsb,.inr ⟨v,rfl,hb,by rw [← hcd],by omega⟩⟩,hlt,by simp (maxSteps:=2000000) only [↓Za,↓Zk,↓Zr,↓Ze,↓Zm,↓Zs,↓Zf,↓Zh,↓Zg,↓Zc,↓Zb,↓vdn,vup,Zn,Zl,Zo,Zi,Zj,List.map_cons,List.map_nil,cond_true,cond_false,aop,Zv,Zq,Zp,ev,sput,Zt,Zy,Ya,unK,Zd,Zw,Nat.reduceBEq,Nat.reduceAdd,Int.reduceBEq,Int.reduceBNe,Int.reduceLT,Zu,Zz,tup,tyf],rfl⟩
     · have hp2:pickI nr t (r &&& (r-1)) p d:=by
        rcases hp with ⟨_,h8,_⟩ | h9
        · omega
        · exact .inr h9
       simp (maxSteps:=2000000) only [s51,↓Za,↓Zk,↓Zr,↓Ze,↓Zm,↓Zs,↓Zf,↓Zh,↓Zg,↓Zc,↓Zb,↓vdn,vup,Zn,Zl,Zo,Zi,Zj,List.map_cons,List.map_nil,cond_true,cond_false,aop,Zv,Zq,Zp,ev,sput,Zt,Zy,Ya,unK,Zd,Zw,Nat.reduceBEq,Nat.reduceAdd,Int.reduceBEq,Int.reduceBNe,Int.reduceLT,Zu,Zz,tup,tyf,c1,gt_iff_lt,cd,subU1 (show 1≤r by omega) r64,andU r64 (show r-1<18446744073709551616 by omega)]
       exact hQ4 _ _ _ ⟨(r &&& (r-1),p,d),⟨by simp only; omega,hsb,hp2⟩,hlt,by simp (maxSteps:=2000000) only [↓Za,↓Zk,↓Zr,↓Ze,↓Zm,↓Zs,↓Zf,↓Zh,↓Zg,↓Zc,↓Zb,↓vdn,vup,Zn,Zl,Zo,Zi,Zj,List.map_cons,List.map_nil,cond_true,cond_false,aop,Zv,Zq,Zp,ev,sput,Zt,Zy,Ya,unK,Zd,Zw,Nat.reduceBEq,Nat.reduceAdd,Int.reduceBEq,Int.reduceBNe,Int.reduceLT,Zu,Zz,tup,tyf],rfl⟩
end Go.Proofs.Tryd.Am.Su
namespace Go.Proofs.Tryd.Am.Su
open Go.Proofs.Tryd.Am
open Go.Am Sr
set_option maxRecDepth 100000
set_option maxHeartbeats 1000000
theorem shrAll {m:Nat} (h:m≤64):shrV .u64 18446744073709551615 ((64-m:Nat):Int)=((2 ^ m-1:Nat):Int):=by
 have e : ∀ m,m≤64→18446744073709551615 / 2 ^ (64-m)=2 ^ m-1:=by decide
 have:=shrU' (a:=18446744073709551615) (k:=((64-m:Nat):Int)) (y:=64-m) rfl (by decide)
 rw [e m h] at this; exact this
theorem sub64 {m:Nat} (h:m≤64):subV .i64 64 (m:Int)=((64-m:Nat):Int):=by rw [subV_id (by omega) (by omega)]; omega
theorem subN1 {n:Nat} (h1:1≤n) (h:n<9223372036854775808):subV .i64 (n:Int) 1=((n-1:Nat):Int):=by rw [subV_id (by omega) (by omega)]; omega
theorem litI1 {h:Yc} {x:Int} (K:Value→Yc→Prop):Yx prog h 27 1 [(0,Zx x)] K=K (.slice (some ⟨h.length,0,none⟩) 1 1) (h++[.ints [x] 3 false]):=by
 simp only [Yx,Wp,zero_3,Xk,reps,fillL,mkb,Xf,Wt,cellsOf,List.length_singleton,Nat.mul_one,Nat.zero_mul,Nat.zero_add]
 exact propext ⟨fun h=>h.2.2.2,fun h=>⟨trivial,by decide,by decide,h⟩⟩
def RSI (h hp:Yc) (ov:Value) (xs:List Int):Prop:=OwnSl 3 hp ov xs∧Ext (fun _=>False) h hp∧∀ b,Yk ov=some b→h.length≤b
theorem RSI.nil (h:Yc):RSI h h (.slice none 0 0) []:=⟨.inl ⟨rfl,rfl⟩,Ext.refl _ _,fun b hb=>by cases hb⟩
theorem RSI.push {h hp:Yc} {ov:Value} {xs:List Int} (s:RSI h hp ov xs) {x:Int} (hn:xs.length<1099511627776) {K:Value→Yc→Prop} (hk : ∀ v' h',RSI h h' v' (xs++[x])→K v' h') :
  Xp prog (hp++[.ints [x] 3 false]) 27 27 ov (.slice (some ⟨hp.length,0,none⟩) 1 1) K:=by
 obtain ⟨hown,hE,hblk⟩:=s
 have hx1:Ext (fun _=>False) hp (hp++[.ints [x] 3 false]):=Ext.app _ _ _
 refine (hown.ext hx1 fun _ _=>id).append app_27_27 hn (Yj _ _) fun v' h' ho hE' hb=>hk v' h' ⟨ho,?_,fun b hbb=>?_⟩
 · have h1:=hE.1
   have h2:=hx1.1
   have h3:=hE'.1
   refine ⟨by omega,fun i hi _=>?_⟩
   rw [hE'.2 i (by omega) fun hbb=>by have:=hblk i hbb; omega,hx1.2 i (by omega) id]
   exact hE.2 i hi id
 · rcases hb with h1 | ⟨b',h1,h2⟩
   · exact hblk b (h1▸hbb)
   · rw [h1] at hbb; cases hbb; have:=hE.1; have:=hx1.1; omega
def codeR (h' : Yc) (xs:List Int) (k:Int) (r:Value):Prop :=
 if grs xs=true∧1≤k∧k≤3 then (if wn xs k.toNat≤64 then ∃ w,r = .tuple #[w,.int .i64 0]∧OwnSl 3 h' w ((codeL (nearL xs k.toNat)).map Int.ofNat) else r = .tuple #[.slice none 0 0,.int .i64 6]) else r = .tuple #[.slice none 0 0,.int .i64 2]
theorem code_loop [BitTab prog 0] {h:Yc} {b:Nat} {nr:List Nat} (w:WO h b nr) (g:Gr nr) {N:Env→Yc→Prop} {Q0:Exit→Env→Yc→Prop}
  (hN : ∀ hp ov e,RSI h hp ov ((codeL nr).map Int.ofNat)→ELe e [(4,.slice none 0 0),(5,.int .i64 0),(10,ov)]→N e hp) :
  aw prog 81 (.seq q12_9 (.block 0 (.loop l12_0))) (Zv N Q0) [(4,.slice none 0 0),(5,.int .i64 0),(6,pt b),(8,vu (2 ^ nr.length-1)),(9,Zx (A nr (2 ^ nr.length-1):Nat)),(10,.slice none 0 0)] h:=by
 have n64:=g.len
 have hnn : ∀ i:Nat,(0:Int)≤(i:Int):=Int.natCast_nonneg
 have w0:=w
 obtain ⟨nv0,hc0,hv0⟩:=w0
 have ldl : ∀ {K:Value→Prop},Xn prog h 3 (.pointer (some ⟨b,0,none⟩)) K=K (Zx nr.length):=fun {K}=>loadC (o:=0) hc0 Yw rfl
 simp (maxSteps:=2000000) only [s12,↓Za,↓Zk,↓Zr,↓Ze,↓Zm,↓Zs,↓Zf,↓Zh,↓Zg,↓Zc,↓Zb,↓vdn,vup,Zn,Zl,Zo,Zi,Zj,List.map_cons,List.map_nil,cond_true,cond_false,aop,Zv,Zq,Zp,ev,sput,Zt,Zy,Ya,unK,Zd,Zw,Nat.reduceBEq,Nat.reduceAdd,Int.reduceBEq,Int.reduceBNe,Int.reduceLT,Zu,Zz,tup,tyf,nilK,fldA fld_91_0 Xk,ldl,↓Xo]
 refine Yf fun Q hQ=>?_
 refine Ve (γ:=Nat×Value×Yc) (fun s=>s.1≤nr.length∧RSI h s.2.2 s.2.1 ((cAt nr s.1).2.2.map Int.ofNat))
  (fun s=>([(4,.slice none 0 0),(5,.int .i64 0),(6,pt b),(8,vu (cAt nr s.1).1),(9,Zx ((cAt nr s.1).2.1:Nat)),(10,s.2.1),(44,Zx nr.length),(45,Zx s.1)],s.2.2)) (fun s=>nr.length-s.1) (0,.slice none 0 0,h) ⟨Nat.zero_le _,RSI.nil h⟩ (by simp (maxSteps:=2000000) only [↓Za,↓Zk,↓Zr,↓Ze,↓Zm,↓Zs,↓Zf,↓Zh,↓Zg,↓Zc,↓Zb,↓vdn,vup,Zn,Zl,Zo,Zi,Zj,List.map_cons,List.map_nil,cond_true,cond_false,aop,Zv,Zq,Zp,ev,sput,Zt,Zy,Ya,unK,Zd,Zw,Nat.reduceBEq,Nat.reduceAdd,Int.reduceBEq,Int.reduceBNe,Int.reduceLT,Zu,Zz,tup,tyf,Int.natCast_zero,cAt,List.range_zero,List.foldl_nil]) rfl ?_
 rintro ⟨i,ov,hp⟩ ⟨hi,hs⟩
 simp only at hi hs
 refine Vi fun Q2 hQ2=>?_
 by_cases hin:(i:Int)<nr.length
 · have hi' : i<nr.length:=by omega
   obtain ⟨i1,i2,i3⟩:=cAt_inv g i
   have es:=cAt_succ nr i
   generalize cAt nr i=c at i1 i2 i3 es hs
   obtain ⟨left,need,out⟩:=c
   simp only at i1 i2 i3 hs
   have hl64:=lt64 g i1
   have hnd:=A_le nr left
   rw [← i2] at hnd
   cases hb:left.testBit i with
   | false =>
     have e:cAt nr (i+1)=(left,need,out):=by rw [es,cStep,if_neg (by simp only [hb]; decide)]
     simp (maxSteps:=2000000) only [s12,↓Za,↓Zk,↓Zr,↓Ze,↓Zm,↓Zs,↓Zf,↓Zh,↓Zg,↓Zc,↓Zb,↓vdn,vup,Zn,Zl,Zo,Zi,Zj,List.map_cons,List.map_nil,cond_true,cond_false,aop,Zv,Zq,Zp,ev,sput,Zt,Zy,Ya,unK,Zd,Zw,Nat.reduceBEq,Nat.reduceAdd,Int.reduceBEq,Int.reduceBNe,Int.reduceLT,Zu,Zz,tup,tyf,l12_0,hin,hnn,testU hl64,hb,beq0,Bool.not_false,Bool.false_eq_true,if_false,Vd (show i<9223372036854775807 by omega)]
     exact hQ2 _ _ _ ⟨(i+1,ov,hp),⟨by simp only; omega,by simp only [e]; exact hs⟩,by simp only; omega,by simp (maxSteps:=2000000) only [↓Za,↓Zk,↓Zr,↓Ze,↓Zm,↓Zs,↓Zf,↓Zh,↓Zg,↓Zc,↓Zb,↓vdn,vup,Zn,Zl,Zo,Zi,Zj,List.map_cons,List.map_nil,cond_true,cond_false,aop,Zv,Zq,Zp,ev,sput,Zt,Zy,Ya,unK,Zd,Zw,Nat.reduceBEq,Nat.reduceAdd,Int.reduceBEq,Int.reduceBNe,Int.reduceLT,Zu,Zz,tup,tyf,e],rfl⟩
   | true =>
     obtain ⟨nv,hc,hv⟩:=w.ext hs.2.1
     have ldn : ∀ {K:Value→Prop},Xn prog hp 89 (.pointer (some ⟨b,1,none⟩)) K=K nv:=fun {K}=>loadC (o:=1) hc shp_89 rfl
     have ix : ∀ {K:Value→Prop},Yv prog 89 nv (Zx i) K=K (Wq nv 1 i):=fun {K}=>hv.idx el_89 esz_88 (by rw [List.length_map]; exact hi') K
     have ld : ∀ {K:Value→Prop},Xn prog hp 88 (Wq nv 1 i) K=K (vu (nb nr i)):=fun {K}=>by
      rw [hv.load shp_88 (by rw [List.length_map]; exact hi'),getD_vu hi']
     have hi64:i<64:=by omega
     have hcutU:We .andNot .u64 ((Wh left (2 ^ i):Nat):Int) ((nb nr i:Nat):Int)=((cut nr left i:Nat):Int):=by
      rw [lessU (lt64 g (less_lt i1)) (nb64 g i),cut_swap]
     have hmo:=most_call (w.ext hs.2.1) g (cut nr left i) (cut_lt i1)
     have hp1:=A_pos g (Nat.lt_of_lt_of_le i1 (Nat.pow_le_pow_right (by decide) g.len)) hb
     have a1:=A_le nr (cut nr left i)
     have e1:addV .i64 1 ((A nr (cut nr left i):Nat):Int)=((1+A nr (cut nr left i):Nat):Int):=by rw [addV_id (by omega) (by omega)]; omega
     simp (maxSteps:=2000000) only [s12,↓Za,↓Zk,↓Zr,↓Ze,↓Zm,↓Zs,↓Zf,↓Zh,↓Zg,↓Zc,↓Zb,↓vdn,vup,Zn,Zl,Zo,Zi,Zj,List.map_cons,List.map_nil,cond_true,cond_false,aop,Zv,Zq,Zp,ev,sput,Zt,Zy,Ya,unK,Zd,Zw,Nat.reduceBEq,Nat.reduceAdd,Int.reduceBEq,Int.reduceBNe,Int.reduceLT,Zu,Zz,tup,tyf,l12_0,hin,hnn,testU hl64,hb,beq0,Bool.not_true,if_true,shlU1 hi64,lessU hl64 (bit64 hi64),nilK,fldA fld_91_1 esz_89,ldn,ix,ld,hcutU,Yz,List.nil_append,List.append_nil,List.toList_toArray,List.cons_append]
     refine hmo.mono ?_
     rintro _ hp ⟨rfl,rfl⟩
     by_cases hq:1+A nr (cut nr left i)=need
     · have e:cAt nr (i+1)=(cut nr left i,need-1,out++[i]):=by rw [es,cStep,if_pos (by exact hb),if_pos (by exact hq)]
       have hq2:(((1+A nr (cut nr left i):Nat):Int)==((need:Nat):Int))=true:=by rw [hq]; exact beq_self_eq_true _
       simp (maxSteps:=2000000) only [s12,↓Za,↓Zk,↓Zr,↓Ze,↓Zm,↓Zs,↓Zf,↓Zh,↓Zg,↓Zc,↓Zb,↓vdn,vup,Zn,Zl,Zo,Zi,Zj,List.map_cons,List.map_nil,cond_true,cond_false,aop,Zv,Zq,Zp,ev,sput,Zt,Zy,Ya,unK,Zd,Zw,Nat.reduceBEq,Nat.reduceAdd,Int.reduceBEq,Int.reduceBNe,Int.reduceLT,Zu,Zz,tup,tyf,e1,hq2,litI1]
       refine hs.push (by rw [List.length_map]; omega) fun v' h' s'=>?_
       simp (maxSteps:=2000000) only [s12,↓Za,↓Zk,↓Zr,↓Ze,↓Zm,↓Zs,↓Zf,↓Zh,↓Zg,↓Zc,↓Zb,↓vdn,vup,Zn,Zl,Zo,Zi,Zj,List.map_cons,List.map_nil,cond_true,cond_false,aop,Zv,Zq,Zp,ev,sput,Zt,Zy,Ya,unK,Zd,Zw,Nat.reduceBEq,Nat.reduceAdd,Int.reduceBEq,Int.reduceBNe,Int.reduceLT,Zu,Zz,tup,tyf,subN1 (show 1≤need by omega) (show need<9223372036854775808 by omega),Vd (show i<9223372036854775807 by omega)]
       have em:(out++[i]).map Int.ofNat=out.map Int.ofNat++[(i:Int)]:=by rw [List.map_append]; rfl
       exact hQ2 _ _ _ ⟨(i+1,v',h'),⟨by simp only; omega,by simp only [e,em]; exact s'⟩,by simp only; omega,by simp (maxSteps:=2000000) only [↓Za,↓Zk,↓Zr,↓Ze,↓Zm,↓Zs,↓Zf,↓Zh,↓Zg,↓Zc,↓Zb,↓vdn,vup,Zn,Zl,Zo,Zi,Zj,List.map_cons,List.map_nil,cond_true,cond_false,aop,Zv,Zq,Zp,ev,sput,Zt,Zy,Ya,unK,Zd,Zw,Nat.reduceBEq,Nat.reduceAdd,Int.reduceBEq,Int.reduceBNe,Int.reduceLT,Zu,Zz,tup,tyf,e],rfl⟩
     · have e:cAt nr (i+1)=(Wh left (2 ^ i),need,out):=by rw [es,cStep,if_pos (by exact hb),if_neg (by exact hq)]
       have hq2:(((1+A nr (cut nr left i):Nat):Int)==((need:Nat):Int))=false:=by
        rw [beq_eq_false_iff_ne]; omega
       simp (maxSteps:=2000000) only [s12,↓Za,↓Zk,↓Zr,↓Ze,↓Zm,↓Zs,↓Zf,↓Zh,↓Zg,↓Zc,↓Zb,↓vdn,vup,Zn,Zl,Zo,Zi,Zj,List.map_cons,List.map_nil,cond_true,cond_false,aop,Zv,Zq,Zp,ev,sput,Zt,Zy,Ya,unK,Zd,Zw,Nat.reduceBEq,Nat.reduceAdd,Int.reduceBEq,Int.reduceBNe,Int.reduceLT,Zu,Zz,tup,tyf,e1,hq2,Vd (show i<9223372036854775807 by omega)]
       exact hQ2 _ _ _ ⟨(i+1,ov,hp),⟨by simp only; omega,by simp only [e]; exact hs⟩,by simp only; omega,by simp (maxSteps:=2000000) only [↓Za,↓Zk,↓Zr,↓Ze,↓Zm,↓Zs,↓Zf,↓Zh,↓Zg,↓Zc,↓Zb,↓vdn,vup,Zn,Zl,Zo,Zi,Zj,List.map_cons,List.map_nil,cond_true,cond_false,aop,Zv,Zq,Zp,ev,sput,Zt,Zy,Ya,unK,Zd,Zw,Nat.reduceBEq,Nat.reduceAdd,Int.reduceBEq,Int.reduceBNe,Int.reduceLT,Zu,Zz,tup,tyf,e],rfl⟩
 · obtain rfl:i=nr.length:=by omega
   simp (maxSteps:=2000000) only [s12,↓Za,↓Zk,↓Zr,↓Ze,↓Zm,↓Zs,↓Zf,↓Zh,↓Zg,↓Zc,↓Zb,↓vdn,vup,Zn,Zl,Zo,Zi,Zj,List.map_cons,List.map_nil,cond_true,cond_false,aop,Zv,Zq,Zp,ev,sput,Zt,Zy,Ya,unK,Zd,Zw,Nat.reduceBEq,Nat.reduceAdd,Int.reduceBEq,Int.reduceBNe,Int.reduceLT,Zu,Zz,tup,tyf,l12_0,Int.lt_irrefl]
   refine hQ2 _ _ _ (hQ _ _ _ ?_)
   simp (maxSteps:=2000000) only [s12,↓Za,↓Zk,↓Zr,↓Ze,↓Zm,↓Zs,↓Zf,↓Zh,↓Zg,↓Zc,↓Zb,↓vdn,vup,Zn,Zl,Zo,Zi,Zj,List.map_cons,List.map_nil,cond_true,cond_false,aop,Zv,Zq,Zp,ev,sput,Zt,Zy,Ya,unK,Zd,Zw,Nat.reduceBEq,Nat.reduceAdd,Int.reduceBEq,Int.reduceBNe,Int.reduceLT,Zu,Zz,tup,tyf,if_true]
   exact hN hp ov _ hs (by simp (maxSteps:=2000000) only [↓Za,↓Zk,↓Zr,↓Ze,↓Zm,↓Zs,↓Zf,↓Zh,↓Zg,↓Zc,↓Zb,↓vdn,vup,Zn,Zl,Zo,Zi,Zj,List.map_cons,List.map_nil,cond_true,cond_false,aop,Zv,Zq,Zp,ev,sput,Zt,Zy,Ya,unK,Zd,Zw,Nat.reduceBEq,Nat.reduceAdd,Int.reduceBEq,Int.reduceBNe,Int.reduceLT,Zu,Zz,tup,tyf])
theorem s12_callW [Tabs Tryd.prog] {args:List Value} {h:Yc} {Q:Value→Yc→Prop} (hsz:args.length≤81) (hk:AWS Tryd.prog 81 s12 (Zu Tryd.prog [.tmp 4,.tmp 5] Q) (Zp 0 args) h):ACall Tryd.prog 12 args h Q :=
 Xg Tryd.func12 rfl (enters_of Tryd.func12 (by kernel_rfl) rfl) rfl rfl (by decide) s12_strip s12_ok hsz hk
theorem code_call [BitTab prog 0] {h:Yc} {v:Value} {xs:List Int} (hv:IntSl h v xs) (hl:xs.length<9223372036854775808) (hx : ∀ x∈xs,-9223372036854775808≤x∧x<9223372036854775808) {k:Int} :
  ACall prog 12 [v,Zx k] h fun r h'=>Ext (fun _=>False) h h'∧codeR h' xs k r:=by
 have hval:=valid_call hv hl hx
 refine s12_callW (by simp) ?_
 simp only [s12]
 refine Yb fun N hN=>?_
 simp (maxSteps:=2000000) only [s12,↓Za,↓Zk,↓Zr,↓Ze,↓Zm,↓Zs,↓Zf,↓Zh,↓Zg,↓Zc,↓Zb,↓vdn,vup,Zn,Zl,Zo,Zi,Zj,List.map_cons,List.map_nil,cond_true,cond_false,aop,Zv,Zq,Zp,ev,sput,Zt,Zy,Ya,unK,Zd,Zw,Nat.reduceBEq,Nat.reduceAdd,Int.reduceBEq,Int.reduceBNe,Int.reduceLT,Zu,Zz,tup,tyf]
 refine hN [(0,v),(1,Zx k),(4,.slice none 0 0),(5,.int .i64 0)] _ _ ?_ (by simp (maxSteps:=2000000) only [↓Za,↓Zk,↓Zr,↓Ze,↓Zm,↓Zs,↓Zf,↓Zh,↓Zg,↓Zc,↓Zb,↓vdn,vup,Zn,Zl,Zo,Zi,Zj,List.map_cons,List.map_nil,cond_true,cond_false,aop,Zv,Zq,Zp,ev,sput,Zt,Zy,Ya,unK,Zd,Zw,Nat.reduceBEq,Nat.reduceAdd,Int.reduceBEq,Int.reduceBNe,Int.reduceLT,Zu,Zz,tup,tyf])
 clear hN N
 refine Yb fun N hN=>?_
 simp (maxSteps:=2000000) only [s12,↓Za,↓Zk,↓Zr,↓Ze,↓Zm,↓Zs,↓Zf,↓Zh,↓Zg,↓Zc,↓Zb,↓vdn,vup,Zn,Zl,Zo,Zi,Zj,List.map_cons,List.map_nil,cond_true,cond_false,aop,Zv,Zq,Zp,ev,sput,Zt,Zy,Ya,unK,Zd,Zw,Nat.reduceBEq,Nat.reduceAdd,Int.reduceBEq,Int.reduceBNe,Int.reduceLT,Zu,Zz,tup,tyf,Yz,List.nil_append,List.append_nil,List.toList_toArray,List.cons_append]
 refine hval.mono ?_
 rintro _ h ⟨rfl,rfl⟩
 cases hg:grs xs with
 | false =>
   simp (maxSteps:=2000000) only [s12,↓Za,↓Zk,↓Zr,↓Ze,↓Zm,↓Zs,↓Zf,↓Zh,↓Zg,↓Zc,↓Zb,↓vdn,vup,Zn,Zl,Zo,Zi,Zj,List.map_cons,List.map_nil,cond_true,cond_false,aop,Zv,Zq,Zp,ev,sput,Zt,Zy,Ya,unK,Zd,Zw,Nat.reduceBEq,Nat.reduceAdd,Int.reduceBEq,Int.reduceBNe,Int.reduceLT,Zu,Zz,tup,tyf,hg,Bool.not_false]
   exact ⟨Ext.refl _ _,by rw [codeR,if_neg (by rw [hg]; exact fun h=>by cases h.1)]⟩
 | true =>
 have g:=grs_iff.1 hg
 by_cases k1:k<1
 · simp (maxSteps:=2000000) only [s12,↓Za,↓Zk,↓Zr,↓Ze,↓Zm,↓Zs,↓Zf,↓Zh,↓Zg,↓Zc,↓Zb,↓vdn,vup,Zn,Zl,Zo,Zi,Zj,List.map_cons,List.map_nil,cond_true,cond_false,aop,Zv,Zq,Zp,ev,sput,Zt,Zy,Ya,unK,Zd,Zw,Nat.reduceBEq,Nat.reduceAdd,Int.reduceBEq,Int.reduceBNe,Int.reduceLT,Zu,Zz,tup,tyf,hg,Bool.not_true,k1]
   exact ⟨Ext.refl _ _,by rw [codeR,if_neg (by omega)]⟩
 by_cases k3:3<k
 · simp (maxSteps:=2000000) only [s12,↓Za,↓Zk,↓Zr,↓Ze,↓Zm,↓Zs,↓Zf,↓Zh,↓Zg,↓Zc,↓Zb,↓vdn,vup,Zn,Zl,Zo,Zi,Zj,List.map_cons,List.map_nil,cond_true,cond_false,aop,Zv,Zq,Zp,ev,sput,Zt,Zy,Ya,unK,Zd,Zw,Nat.reduceBEq,Nat.reduceAdd,Int.reduceBEq,Int.reduceBNe,Int.reduceLT,Zu,Zz,tup,tyf,hg,Bool.not_true,k1,gt_iff_lt,k3]
   exact ⟨Ext.refl _ _,by rw [codeR,if_neg (by omega)]⟩
 simp (maxSteps:=2000000) only [s12,↓Za,↓Zk,↓Zr,↓Ze,↓Zm,↓Zs,↓Zf,↓Zh,↓Zg,↓Zc,↓Zb,↓vdn,vup,Zn,Zl,Zo,Zi,Zj,List.map_cons,List.map_nil,cond_true,cond_false,aop,Zv,Zq,Zp,ev,sput,Zt,Zy,Ya,unK,Zd,Zw,Nat.reduceBEq,Nat.reduceAdd,Int.reduceBEq,Int.reduceBNe,Int.reduceLT,Zu,Zz,tup,tyf,hg,Bool.not_true,k1,gt_iff_lt,k3]
 obtain ⟨n,rfl⟩ : ∃ n:Nat,k=(n:Int):=⟨k.toNat,by omega⟩
 refine hN [(0,v),(1,Zx n),(4,.slice none 0 0),(5,.int .i64 0)] _ _ ?_ (by simp (maxSteps:=2000000) only [↓Za,↓Zk,↓Zr,↓Ze,↓Zm,↓Zs,↓Zf,↓Zh,↓Zg,↓Zc,↓Zb,↓vdn,vup,Zn,Zl,Zo,Zi,Zj,List.map_cons,List.map_nil,cond_true,cond_false,aop,Zv,Zq,Zp,ev,sput,Zt,Zy,Ya,unK,Zd,Zw,Nat.reduceBEq,Nat.reduceAdd,Int.reduceBEq,Int.reduceBNe,Int.reduceLT,Zu,Zz,tup,tyf])
 clear hN N
 have hcr : ∀ h' r,(if wn xs n≤64 then ∃ w,r = .tuple #[w,.int .i64 0]∧OwnSl 3 h' w ((codeL (nearL xs n)).map Int.ofNat) else r = .tuple #[.slice none 0 0,.int .i64 6])→codeR h' xs n r:=fun h' r hr=>by
  rw [codeR,if_pos ⟨hg,by omega,by omega⟩]; exact hr
 refine Yb fun N hN=>?_
 simp (maxSteps:=2000000) only [s12,↓Za,↓Zk,↓Zr,↓Ze,↓Zm,↓Zs,↓Zf,↓Zh,↓Zg,↓Zc,↓Zb,↓vdn,vup,Zn,Zl,Zo,Zi,Zj,List.map_cons,List.map_nil,cond_true,cond_false,aop,Zv,Zq,Zp,ev,sput,Zt,Zy,Ya,unK,Zd,Zw,Nat.reduceBEq,Nat.reduceAdd,Int.reduceBEq,Int.reduceBNe,Int.reduceLT,Zu,Zz,tup,tyf,Yz,List.nil_append,List.append_nil,List.toList_toArray,List.cons_append]
 refine (words_call hv g (show n≤6 by omega)).mono ?_
 rintro r h1 ⟨hE,hr⟩
 by_cases hw:wn xs n≤64
 · rw [if_pos hw] at hr
   obtain ⟨b,rfl,w⟩:=hr
   have gr:=nearL_gr g hw
   simp (maxSteps:=2000000) only [s12,↓Za,↓Zk,↓Zr,↓Ze,↓Zm,↓Zs,↓Zf,↓Zh,↓Zg,↓Zc,↓Zb,↓vdn,vup,Zn,Zl,Zo,Zi,Zj,List.map_cons,List.map_nil,cond_true,cond_false,aop,Zv,Zq,Zp,ev,sput,Zt,Zy,Ya,unK,Zd,Zw,Nat.reduceBEq,Nat.reduceAdd,Int.reduceBEq,Int.reduceBNe,Int.reduceLT,Zu,Zz,tup,tyf]
   refine hN [(0,v),(1,Zx n),(4,.slice none 0 0),(5,.int .i64 0),(6,pt b),(7,.bool true)] _ _ ?_ (by simp (maxSteps:=2000000) only [↓Za,↓Zk,↓Zr,↓Ze,↓Zm,↓Zs,↓Zf,↓Zh,↓Zg,↓Zc,↓Zb,↓vdn,vup,Zn,Zl,Zo,Zi,Zj,List.map_cons,List.map_nil,cond_true,cond_false,aop,Zv,Zq,Zp,ev,sput,Zt,Zy,Ya,unK,Zd,Zw,Nat.reduceBEq,Nat.reduceAdd,Int.reduceBEq,Int.reduceBNe,Int.reduceLT,Zu,Zz,tup,tyf])
   clear hN N
   refine Yb fun N hN=>?_
   simp (maxSteps:=2000000) only [s12,↓Za,↓Zk,↓Zr,↓Ze,↓Zm,↓Zs,↓Zf,↓Zh,↓Zg,↓Zc,↓Zb,↓vdn,vup,Zn,Zl,Zo,Zi,Zj,List.map_cons,List.map_nil,cond_true,cond_false,aop,Zv,Zq,Zp,ev,sput,Zt,Zy,Ya,unK,Zd,Zw,Nat.reduceBEq,Nat.reduceAdd,Int.reduceBEq,Int.reduceBNe,Int.reduceLT,Zu,Zz,tup,tyf,Bool.not_true]
   refine hN [(0,v),(1,Zx n),(4,.slice none 0 0),(5,.int .i64 0),(6,pt b)] _ _ ?_ (by simp (maxSteps:=2000000) only [↓Za,↓Zk,↓Zr,↓Ze,↓Zm,↓Zs,↓Zf,↓Zh,↓Zg,↓Zc,↓Zb,↓vdn,vup,Zn,Zl,Zo,Zi,Zj,List.map_cons,List.map_nil,cond_true,cond_false,aop,Zv,Zq,Zp,ev,sput,Zt,Zy,Ya,unK,Zd,Zw,Nat.reduceBEq,Nat.reduceAdd,Int.reduceBEq,Int.reduceBNe,Int.reduceLT,Zu,Zz,tup,tyf])
   clear hN N
   have w0:=w
   obtain ⟨nv0,hc0,hv0⟩:=w0
   have ldl : ∀ {K:Value→Prop},Xn prog h1 3 (.pointer (some ⟨b,0,none⟩)) K=K (Zx (nearL xs n).length):=fun {K}=>loadC (o:=0) hc0 Yw rfl
   refine Yb fun N hN=>?_
   have n64:=gr.len
   have hnn:(0:Int)≤((64-(nearL xs n).length:Nat):Int):=Int.natCast_nonneg _
   simp (maxSteps:=2000000) only [s12,↓Za,↓Zk,↓Zr,↓Ze,↓Zm,↓Zs,↓Zf,↓Zh,↓Zg,↓Zc,↓Zb,↓vdn,vup,Zn,Zl,Zo,Zi,Zj,List.map_cons,List.map_nil,cond_true,cond_false,aop,Zv,Zq,Zp,ev,sput,Zt,Zy,Ya,unK,Zd,Zw,Nat.reduceBEq,Nat.reduceAdd,Int.reduceBEq,Int.reduceBNe,Int.reduceLT,Zu,Zz,tup,tyf,nilK,fldA fld_91_0 Xk,ldl,sub64 n64,hnn,shrAll n64]
   refine hN [(4,.slice none 0 0),(5,.int .i64 0),(6,pt b),(8,vu (2 ^ (nearL xs n).length-1))] _ _ ?_ (by simp (maxSteps:=2000000) only [↓Za,↓Zk,↓Zr,↓Ze,↓Zm,↓Zs,↓Zf,↓Zh,↓Zg,↓Zc,↓Zb,↓vdn,vup,Zn,Zl,Zo,Zi,Zj,List.map_cons,List.map_nil,cond_true,cond_false,aop,Zv,Zq,Zp,ev,sput,Zt,Zy,Ya,unK,Zd,Zw,Nat.reduceBEq,Nat.reduceAdd,Int.reduceBEq,Int.reduceBNe,Int.reduceLT,Zu,Zz,tup,tyf])
   clear hN N
   refine Yb fun N hN=>?_
   simp (maxSteps:=2000000) only [s12,↓Za,↓Zk,↓Zr,↓Ze,↓Zm,↓Zs,↓Zf,↓Zh,↓Zg,↓Zc,↓Zb,↓vdn,vup,Zn,Zl,Zo,Zi,Zj,List.map_cons,List.map_nil,cond_true,cond_false,aop,Zv,Zq,Zp,ev,sput,Zt,Zy,Ya,unK,Zd,Zw,Nat.reduceBEq,Nat.reduceAdd,Int.reduceBEq,Int.reduceBNe,Int.reduceLT,Zu,Zz,tup,tyf,Yz,List.nil_append,List.append_nil,List.toList_toArray,List.cons_append]
   refine (most_call w gr (2 ^ (nearL xs n).length-1) (by have:=Nat.two_pow_pos (nearL xs n).length; omega)).mono ?_
   rintro _ h1 ⟨rfl,rfl⟩
   refine hN [(4,.slice none 0 0),(5,.int .i64 0),(6,pt b),(8,vu (2 ^ (nearL xs n).length-1)),(9,Zx (A (nearL xs n) (2 ^ (nearL xs n).length-1):Nat))] _ _ ?_ (by simp (maxSteps:=2000000) only [↓Za,↓Zk,↓Zr,↓Ze,↓Zm,↓Zs,↓Zf,↓Zh,↓Zg,↓Zc,↓Zb,↓vdn,vup,Zn,Zl,Zo,Zi,Zj,List.map_cons,List.map_nil,cond_true,cond_false,aop,Zv,Zq,Zp,ev,sput,Zt,Zy,Ya,unK,Zd,Zw,Nat.reduceBEq,Nat.reduceAdd,Int.reduceBEq,Int.reduceBNe,Int.reduceLT,Zu,Zz,tup,tyf])
   clear hN N
   refine Yb fun N hN=>?_
   simp (maxSteps:=2000000) only [s12,↓Za,↓Zk,↓Zr,↓Ze,↓Zm,↓Zs,↓Zf,↓Zh,↓Zg,↓Zc,↓Zb,↓vdn,vup,Zn,Zl,Zo,Zi,Zj,List.map_cons,List.map_nil,cond_true,cond_false,aop,Zv,Zq,Zp,ev,sput,Zt,Zy,Ya,unK,Zd,Zw,Nat.reduceBEq,Nat.reduceAdd,Int.reduceBEq,Int.reduceBNe,Int.reduceLT,Zu,Zz,tup,tyf]
   refine hN [(4,.slice none 0 0),(5,.int .i64 0),(6,pt b),(8,vu (2 ^ (nearL xs n).length-1)),(9,Zx (A (nearL xs n) (2 ^ (nearL xs n).length-1):Nat)),(10,.slice none 0 0)] _ _ ?_ (by simp (maxSteps:=2000000) only [↓Za,↓Zk,↓Zr,↓Ze,↓Zm,↓Zs,↓Zf,↓Zh,↓Zg,↓Zc,↓Zb,↓vdn,vup,Zn,Zl,Zo,Zi,Zj,List.map_cons,List.map_nil,cond_true,cond_false,aop,Zv,Zq,Zp,ev,sput,Zt,Zy,Ya,unK,Zd,Zw,Nat.reduceBEq,Nat.reduceAdd,Int.reduceBEq,Int.reduceBNe,Int.reduceLT,Zu,Zz,tup,tyf])
   clear hN N
   refine Yb fun N hN=>?_
   refine code_loop w gr fun hp ov e hs he=>hN [(4,.slice none 0 0),(5,.int .i64 0),(10,ov)] _ _ ?_ he
   clear hN N
   refine Yd ?_
   simp (maxSteps:=2000000) only [s12,↓Za,↓Zk,↓Zr,↓Ze,↓Zm,↓Zs,↓Zf,↓Zh,↓Zg,↓Zc,↓Zb,↓vdn,vup,Zn,Zl,Zo,Zi,Zj,List.map_cons,List.map_nil,cond_true,cond_false,aop,Zv,Zq,Zp,ev,sput,Zt,Zy,Ya,unK,Zd,Zw,Nat.reduceBEq,Nat.reduceAdd,Int.reduceBEq,Int.reduceBNe,Int.reduceLT,Zu,Zz,tup,tyf]
   exact ⟨hE.trans hs.2.1,hcr _ _ (by rw [if_pos hw]; exact ⟨ov,rfl,hs.1⟩)⟩
 · rw [if_neg hw] at hr
   subst hr
   simp (maxSteps:=2000000) only [s12,↓Za,↓Zk,↓Zr,↓Ze,↓Zm,↓Zs,↓Zf,↓Zh,↓Zg,↓Zc,↓Zb,↓vdn,vup,Zn,Zl,Zo,Zi,Zj,List.map_cons,List.map_nil,cond_true,cond_false,aop,Zv,Zq,Zp,ev,sput,Zt,Zy,Ya,unK,Zd,Zw,Nat.reduceBEq,Nat.reduceAdd,Int.reduceBEq,Int.reduceBNe,Int.reduceLT,Zu,Zz,tup,tyf]
   refine hN [(0,v),(1,Zx n),(4,.slice none 0 0),(5,.int .i64 0),(6,.pointer none),(7,.bool false)] _ _ ?_ (by simp (maxSteps:=2000000) only [↓Za,↓Zk,↓Zr,↓Ze,↓Zm,↓Zs,↓Zf,↓Zh,↓Zg,↓Zc,↓Zb,↓vdn,vup,Zn,Zl,Zo,Zi,Zj,List.map_cons,List.map_nil,cond_true,cond_false,aop,Zv,Zq,Zp,ev,sput,Zt,Zy,Ya,unK,Zd,Zw,Nat.reduceBEq,Nat.reduceAdd,Int.reduceBEq,Int.reduceBNe,Int.reduceLT,Zu,Zz,tup,tyf])
   clear hN N
   refine Yd ?_
   simp (maxSteps:=2000000) only [s12,↓Za,↓Zk,↓Zr,↓Ze,↓Zm,↓Zs,↓Zf,↓Zh,↓Zg,↓Zc,↓Zb,↓vdn,vup,Zn,Zl,Zo,Zi,Zj,List.map_cons,List.map_nil,cond_true,cond_false,aop,Zv,Zq,Zp,ev,sput,Zt,Zy,Ya,unK,Zd,Zw,Nat.reduceBEq,Nat.reduceAdd,Int.reduceBEq,Int.reduceBNe,Int.reduceLT,Zu,Zz,tup,tyf,Bool.not_false]
   exact ⟨hE,hcr _ _ (by rw [if_neg hw])⟩
end Go.Proofs.Tryd.Am.Su
namespace Go.Proofs.Tryd.Am.Su
open Go.Proofs.Tryd.Am
open Go.Am Sr
set_option maxRecDepth 100000
set_option maxHeartbeats 1000000
def gn (xs:List Int) (i:Nat):Nat:=(xs.getD i 0).toNat
def cq (xs:List Int) (s i:Nat):Bool:=!s.testBit i || (Wh s (gn xs i)==2 ^ i)
def isC (xs:List Int) (s:Nat):Bool:=(List.range xs.length).all (cq xs s)
def clqTo (xs:List Int) (t:Nat):List Nat:=(List.range t).filter fun s=>decide (0<s)&&isC xs s
def clq (xs:List Int):List Nat:=clqTo xs (2 ^ xs.length)
theorem clqTo_yes {xs:List Int} {t:Nat} (ht:1≤t) (h:isC xs t=true):clqTo xs (t+1)=clqTo xs t++[t]:=by
 rw [clqTo,List.range_succ,List.filter_append,clqTo]
 simp [h,show 0<t from ht]
theorem clqTo_no {xs:List Int} {t:Nat} (h:isC xs t=false):clqTo xs (t+1)=clqTo xs t:=by
 rw [clqTo,List.range_succ,List.filter_append,clqTo]
 simp [h]
theorem clqTo_len (xs:List Int) (t:Nat):(clqTo xs t).length≤t:=by
 have:=List.length_filter_le (fun s=>decide (0<s)&&isC xs s) (List.range t)
 rw [List.length_range] at this; exact this
theorem isC_no {xs:List Int} {s i:Nat} (hi:i<xs.length) (h:cq xs s i=false):isC xs s=false:=by
 rw [isC,← Bool.not_eq_true,List.all_eq_true]
 intro h2
 rw [h2 i (List.mem_range.2 hi)] at h; cases h
theorem isC_yes {xs:List Int} {s:Nat} (h : ∀ i,i<xs.length→cq xs s i=true):isC xs s=true:=by
 rw [isC,List.all_eq_true]
 exact fun i hi=>h i (List.mem_range.1 hi)
theorem pow6N {n:Nat} (h:n≤6):2 ^ n≤64:=Nat.pow_le_pow_right (n:=2) (by decide) h
theorem gnE {xs:List Int} (g:Gs xs) {i:Nat} (hi:i<xs.length):xs.getD i 0=((gn xs i:Nat):Int)∧gn xs i<64:=by
 have:=gs_lt g hi
 unfold gn; omega
theorem shlI1 {n:Nat} (h:n≤62):shlV .i64 1 (n:Int)=((2 ^ n:Nat):Int):=by
 have h2:2 ^ n≤2 ^ 62:=Nat.pow_le_pow_right (by decide) h
 have:=shlV_nat (a:=1) (y:=n) (by omega) (by omega)
 simpa using this
theorem shlM {n M:Nat} (h:n≤62) (hM:2 ^ n=M):shlV .i64 1 (n:Int)=((M:Nat):Int):=by rw [shlI1 h,hM]
theorem s52_callW [Tabs Tryd.prog] {args:List Value} {h:Yc} {Q:Value→Yc→Prop} (hsz:args.length≤7) (hk:AWS Tryd.prog 7 s52 (Zu Tryd.prog [.tmp 2] Q) (Zp 0 args) h):ACall Tryd.prog 52 args h Q :=
 Xg Tryd.func52 rfl (enters_of Tryd.func52 (by kernel_rfl) rfl) rfl rfl (by decide) s52_strip s52_ok hsz hk
theorem Vq [Tabs prog] {h:Yc} {v:Value} {xs:List Int} (hv:IntSl h v xs) (hn:xs.length≤6) {M:Nat} (hM:2 ^ xs.length=M):APure prog 52 [v] h (Zx ((M-1:Nat):Int)):=by
 have h64:=pow6N hn
 have hp:=Nat.two_pow_pos xs.length
 rw [hM] at h64 hp
 refine s52_callW (by simp) ?_
 refine Yd ?_
 simp (maxSteps:=2000000) only [s52,↓Za,↓Zk,↓Zr,↓Ze,↓Zm,↓Zs,↓Zf,↓Zh,↓Zg,↓Zc,↓Zb,↓vdn,vup,Zn,Zl,Zo,Zi,Zj,List.map_cons,List.map_nil,cond_true,cond_false,aop,Zv,Zq,Zp,ev,sput,Zt,Zy,Ya,unK,Zd,Zw,Nat.reduceBEq,Nat.reduceAdd,Int.reduceBEq,Int.reduceBNe,Int.reduceLT,Zu,Zz,tup,tyf,hv.len,shlM (show xs.length≤62 by omega) hM,subN1 (show 1≤M by omega) (show M<9223372036854775808 by omega)]
theorem s53_callW [Tabs Tryd.prog] {args:List Value} {h:Yc} {Q:Value→Yc→Prop} (hsz:args.length≤39) (hk:AWS Tryd.prog 39 s53 (Zu Tryd.prog [.tmp 2] Q) (Zp 0 args) h):ACall Tryd.prog 53 args h Q :=
 Xg Tryd.func53 rfl (enters_of Tryd.func53 (by kernel_rfl) rfl) rfl rfl (by decide) s53_strip s53_ok hsz hk
theorem cliques_call [Tabs prog] {h:Yc} {v:Value} {xs:List Int} (hv:IntSl h v xs) (g:Gs xs):ACall prog 53 [v] h fun r h'=>RSI h h' r ((clq xs).map Int.ofNat):=by
 have h6:=g.2.1
 have h64:=pow6N h6
 have hp0:=Nat.two_pow_pos xs.length
 obtain ⟨M,hM⟩ : ∃ M,2 ^ xs.length=M:=⟨_,rfl⟩
 rw [hM] at h64 hp0
 have hnn : ∀ i:Nat,(0:Int)≤(i:Int):=Int.natCast_nonneg
 refine s53_callW (by simp) ?_
 simp only [s53]
 refine Yb fun N1 hN1=>?_
 simp (maxSteps:=2000000) only [s53,↓Za,↓Zk,↓Zr,↓Ze,↓Zm,↓Zs,↓Zf,↓Zh,↓Zg,↓Zc,↓Zb,↓vdn,vup,Zn,Zl,Zo,Zi,Zj,List.map_cons,List.map_nil,cond_true,cond_false,aop,Zv,Zq,Zp,ev,sput,Zt,Zy,Ya,unK,Zd,Zw,Nat.reduceBEq,Nat.reduceAdd,Int.reduceBEq,Int.reduceBNe,Int.reduceLT,Zu,Zz,tup,tyf]
 refine hN1 [(0,v),(2,.slice none 0 0)] _ _ ?_ (by simp (maxSteps:=2000000) only [↓Za,↓Zk,↓Zr,↓Ze,↓Zm,↓Zs,↓Zf,↓Zh,↓Zg,↓Zc,↓Zb,↓vdn,vup,Zn,Zl,Zo,Zi,Zj,List.map_cons,List.map_nil,cond_true,cond_false,aop,Zv,Zq,Zp,ev,sput,Zt,Zy,Ya,unK,Zd,Zw,Nat.reduceBEq,Nat.reduceAdd,Int.reduceBEq,Int.reduceBNe,Int.reduceLT,Zu,Zz,tup,tyf])
 clear hN1
 try clear N1
 refine aws_scope ?_
 refine Yb fun N2 hN2=>?_
 simp (maxSteps:=2000000) only [s53,↓Za,↓Zk,↓Zr,↓Ze,↓Zm,↓Zs,↓Zf,↓Zh,↓Zg,↓Zc,↓Zb,↓vdn,vup,Zn,Zl,Zo,Zi,Zj,List.map_cons,List.map_nil,cond_true,cond_false,aop,Zv,Zq,Zp,ev,sput,Zt,Zy,Ya,unK,Zd,Zw,Nat.reduceBEq,Nat.reduceAdd,Int.reduceBEq,Int.reduceBNe,Int.reduceLT,Zu,Zz,tup,tyf]
 refine hN2 [(0,v),(2,.slice none 0 0),(3,.slice none 0 0)] _ _ ?_ (by simp (maxSteps:=2000000) only [↓Za,↓Zk,↓Zr,↓Ze,↓Zm,↓Zs,↓Zf,↓Zh,↓Zg,↓Zc,↓Zb,↓vdn,vup,Zn,Zl,Zo,Zi,Zj,List.map_cons,List.map_nil,cond_true,cond_false,aop,Zv,Zq,Zp,ev,sput,Zt,Zy,Ya,unK,Zd,Zw,Nat.reduceBEq,Nat.reduceAdd,Int.reduceBEq,Int.reduceBNe,Int.reduceLT,Zu,Zz,tup,tyf])
 clear hN2
 try clear N2
 refine Yb fun N3 hN3=>?_
 simp (maxSteps:=2000000) only [s53,↓Za,↓Zk,↓Zr,↓Ze,↓Zm,↓Zs,↓Zf,↓Zh,↓Zg,↓Zc,↓Zb,↓vdn,vup,Zn,Zl,Zo,Zi,Zj,List.map_cons,List.map_nil,cond_true,cond_false,aop,Zv,Zq,Zp,ev,sput,Zt,Zy,Ya,unK,Zd,Zw,Nat.reduceBEq,Nat.reduceAdd,Int.reduceBEq,Int.reduceBNe,Int.reduceLT,Zu,Zz,tup,tyf]
 refine hN3 [(0,v),(2,.slice none 0 0),(3,.slice none 0 0)] _ _ ?_ (by simp (maxSteps:=2000000) only [↓Za,↓Zk,↓Zr,↓Ze,↓Zm,↓Zs,↓Zf,↓Zh,↓Zg,↓Zc,↓Zb,↓vdn,vup,Zn,Zl,Zo,Zi,Zj,List.map_cons,List.map_nil,cond_true,cond_false,aop,Zv,Zq,Zp,ev,sput,Zt,Zy,Ya,unK,Zd,Zw,Nat.reduceBEq,Nat.reduceAdd,Int.reduceBEq,Int.reduceBNe,Int.reduceLT,Zu,Zz,tup,tyf])
 clear hN3
 try clear N3
 refine Yb fun Z hZ=>?_
 simp (maxSteps:=2000000) only [s53,↓Za,↓Zk,↓Zr,↓Ze,↓Zm,↓Zs,↓Zf,↓Zh,↓Zg,↓Zc,↓Zb,↓vdn,vup,Zn,Zl,Zo,Zi,Zj,List.map_cons,List.map_nil,cond_true,cond_false,aop,Zv,Zq,Zp,ev,sput,Zt,Zy,Ya,unK,Zd,Zw,Nat.reduceBEq,Nat.reduceAdd,Int.reduceBEq,Int.reduceBNe,Int.reduceLT,Zu,Zz,tup,tyf,↓Xo]
 refine Yf fun Q hQ=>?_
 refine Xh (γ:=Nat×Value×Yc) (fun s=>1≤s.1∧s.1≤M∧RSI h s.2.2 s.2.1 ((clqTo xs s.1).map Int.ofNat))
  (fun s=>([(0,v),(2,.slice none 0 0),(3,s.2.1),(4,Zx s.1)],s.2.2)) (fun s=>M-s.1) (1,.slice none 0 0,h) ⟨Nat.le_refl _,hp0,RSI.nil h⟩ (by simp (maxSteps:=2000000) only [↓Za,↓Zk,↓Zr,↓Ze,↓Zm,↓Zs,↓Zf,↓Zh,↓Zg,↓Zc,↓Zb,↓vdn,vup,Zn,Zl,Zo,Zi,Zj,List.map_cons,List.map_nil,cond_true,cond_false,aop,Zv,Zq,Zp,ev,sput,Zt,Zy,Ya,unK,Zd,Zw,Nat.reduceBEq,Nat.reduceAdd,Int.reduceBEq,Int.reduceBNe,Int.reduceLT,Zu,Zz,tup,tyf,Int.natCast_one]) rfl ?_
 rintro ⟨t,ov,hp⟩ ⟨ht1,ht,hs⟩
 simp only at ht1 ht hs
 refine Yf fun Q2 hQ2=>?_
 simp only [l53_1]
 have hv1:=Wl hv hs.2.1
 have ht64:t<9223372036854775808:=by omega
 by_cases hin:t<M
 · have hle:((t:Nat):Int)≤((M-1:Nat):Int):=by omega
   refine Yb fun N4 hN4=>?_
   simp (maxSteps:=2000000) only [s53,↓Za,↓Zk,↓Zr,↓Ze,↓Zm,↓Zs,↓Zf,↓Zh,↓Zg,↓Zc,↓Zb,↓vdn,vup,Zn,Zl,Zo,Zi,Zj,List.map_cons,List.map_nil,cond_true,cond_false,aop,Zv,Zq,Zp,ev,sput,Zt,Zy,Ya,unK,Zd,Zw,Nat.reduceBEq,Nat.reduceAdd,Int.reduceBEq,Int.reduceBNe,Int.reduceLT,Zu,Zz,tup,tyf,Yz,List.nil_append,List.append_nil,List.toList_toArray,List.cons_append]
   refine (Vq hv1 h6 hM).mono ?_
   rintro _ hp ⟨rfl,rfl⟩
   simp (maxSteps:=2000000) only [s53,↓Za,↓Zk,↓Zr,↓Ze,↓Zm,↓Zs,↓Zf,↓Zh,↓Zg,↓Zc,↓Zb,↓vdn,vup,Zn,Zl,Zo,Zi,Zj,List.map_cons,List.map_nil,cond_true,cond_false,aop,Zv,Zq,Zp,ev,sput,Zt,Zy,Ya,unK,Zd,Zw,Nat.reduceBEq,Nat.reduceAdd,Int.reduceBEq,Int.reduceBNe,Int.reduceLT,Zu,Zz,tup,tyf,hle]
   refine hN4 [(0,v),(2,.slice none 0 0),(3,ov),(4,Zx t)] _ _ ?_ (by simp (maxSteps:=2000000) only [↓Za,↓Zk,↓Zr,↓Ze,↓Zm,↓Zs,↓Zf,↓Zh,↓Zg,↓Zc,↓Zb,↓vdn,vup,Zn,Zl,Zo,Zi,Zj,List.map_cons,List.map_nil,cond_true,cond_false,aop,Zv,Zq,Zp,ev,sput,Zt,Zy,Ya,unK,Zd,Zw,Nat.reduceBEq,Nat.reduceAdd,Int.reduceBEq,Int.reduceBNe,Int.reduceLT,Zu,Zz,tup,tyf])
   clear hN4
   try clear N4
   refine Ye fun K hK=>?_
   have fin : ∀ ov2 hp2,RSI h hp2 ov2 ((clqTo xs (t+1)).map Int.ofNat)→∀ e,ELe e [(0,v),(2,.slice none 0 0),(3,ov2),(4,Zx t)]→K e hp2:=by
    intro ov2 hp2 s2 e he
    refine hK [(0,v),(2,.slice none 0 0),(3,ov2),(4,Zx t)] _ _ ?_ he
    refine Yd ?_
    simp (maxSteps:=2000000) only [s53,↓Za,↓Zk,↓Zr,↓Ze,↓Zm,↓Zs,↓Zf,↓Zh,↓Zg,↓Zc,↓Zb,↓vdn,vup,Zn,Zl,Zo,Zi,Zj,List.map_cons,List.map_nil,cond_true,cond_false,aop,Zv,Zq,Zp,ev,sput,Zt,Zy,Ya,unK,Zd,Zw,Nat.reduceBEq,Nat.reduceAdd,Int.reduceBEq,Int.reduceBNe,Int.reduceLT,Zu,Zz,tup,tyf,Vd (show t<9223372036854775807 by omega)]
    exact hQ2 _ _ _ ⟨(t+1,ov2,hp2),⟨by simp only; omega,by simp only; omega,s2⟩,by simp only; omega,by simp (maxSteps:=2000000) only [↓Za,↓Zk,↓Zr,↓Ze,↓Zm,↓Zs,↓Zf,↓Zh,↓Zg,↓Zc,↓Zb,↓vdn,vup,Zn,Zl,Zo,Zi,Zj,List.map_cons,List.map_nil,cond_true,cond_false,aop,Zv,Zq,Zp,ev,sput,Zt,Zy,Ya,unK,Zd,Zw,Nat.reduceBEq,Nat.reduceAdd,Int.reduceBEq,Int.reduceBNe,Int.reduceLT,Zu,Zz,tup,tyf],rfl⟩
   clear hK
   refine Yh ?_
   refine Yb fun N5 hN5=>?_
   simp (maxSteps:=2000000) only [s53,↓Za,↓Zk,↓Zr,↓Ze,↓Zm,↓Zs,↓Zf,↓Zh,↓Zg,↓Zc,↓Zb,↓vdn,vup,Zn,Zl,Zo,Zi,Zj,List.map_cons,List.map_nil,cond_true,cond_false,aop,Zv,Zq,Zp,ev,sput,Zt,Zy,Ya,unK,Zd,Zw,Nat.reduceBEq,Nat.reduceAdd,Int.reduceBEq,Int.reduceBNe,Int.reduceLT,Zu,Zz,tup,tyf,hv1.len,↓Xo]
   refine Yf fun Q3 hQ3=>?_
   refine Ve (γ:=Nat) (fun i=>i≤xs.length∧∀ k,k<i→cq xs t k=true)
    (fun i=>([(0,v),(2,.slice none 0 0),(3,ov),(4,Zx t),(13,Zx xs.length),(14,Zx i)],hp)) (fun i=>xs.length-i) 0 ⟨Nat.zero_le _,fun _ h=>by omega⟩ (by simp (maxSteps:=2000000) only [↓Za,↓Zk,↓Zr,↓Ze,↓Zm,↓Zs,↓Zf,↓Zh,↓Zg,↓Zc,↓Zb,↓vdn,vup,Zn,Zl,Zo,Zi,Zj,List.map_cons,List.map_nil,cond_true,cond_false,aop,Zv,Zq,Zp,ev,sput,Zt,Zy,Ya,unK,Zd,Zw,Nat.reduceBEq,Nat.reduceAdd,Int.reduceBEq,Int.reduceBNe,Int.reduceLT,Zu,Zz,tup,tyf,Int.natCast_zero]) rfl ?_
   rintro i ⟨hi,hok⟩
   refine Vi fun Q4 hQ4=>?_
   by_cases hin2:(i:Int)<xs.length
   · have hi' : i<xs.length:=by omega
     obtain ⟨hge,hgl⟩:=gnE g hi'
     simp (maxSteps:=2000000) only [s53,↓Za,↓Zk,↓Zr,↓Ze,↓Zm,↓Zs,↓Zf,↓Zh,↓Zg,↓Zc,↓Zb,↓vdn,vup,Zn,Zl,Zo,Zi,Zj,List.map_cons,List.map_nil,cond_true,cond_false,aop,Zv,Zq,Zp,ev,sput,Zt,Zy,Ya,unK,Zd,Zw,Nat.reduceBEq,Nat.reduceAdd,Int.reduceBEq,Int.reduceBNe,Int.reduceLT,Zu,Zz,tup,tyf,l53_0,hin2]
     refine Xv [] (by kernel_rfl) (by kernel_rfl) (by kernel_rfl) (by kernel_rfl) ?_
     cases hb:t.testBit i with
     | false =>
       simp (maxSteps:=2000000) only [s53,↓Za,↓Zk,↓Zr,↓Ze,↓Zm,↓Zs,↓Zf,↓Zh,↓Zg,↓Zc,↓Zb,↓vdn,vup,Zn,Zl,Zo,Zi,Zj,List.map_cons,List.map_nil,cond_true,cond_false,aop,Zv,Zq,Zp,ev,sput,Zt,Zy,Ya,unK,Zd,Zw,Nat.reduceBEq,Nat.reduceAdd,Int.reduceBEq,Int.reduceBNe,Int.reduceLT,Zu,Zz,tup,tyf,hnn,testV ht64,hb,beq1,Bool.false_eq_true,if_false,Vd (show i<9223372036854775807 by omega)]
       refine hQ4 _ _ _ ⟨i+1,⟨by omega,fun k hk=>?_⟩,by omega,by simp (maxSteps:=2000000) only [↓Za,↓Zk,↓Zr,↓Ze,↓Zm,↓Zs,↓Zf,↓Zh,↓Zg,↓Zc,↓Zb,↓vdn,vup,Zn,Zl,Zo,Zi,Zj,List.map_cons,List.map_nil,cond_true,cond_false,aop,Zv,Zq,Zp,ev,sput,Zt,Zy,Ya,unK,Zd,Zw,Nat.reduceBEq,Nat.reduceAdd,Int.reduceBEq,Int.reduceBNe,Int.reduceLT,Zu,Zz,tup,tyf],rfl⟩
       by_cases hki:k=i
       · subst hki; rw [cq,hb]; rfl
       · exact hok k (by omega)
     | true =>
       cases hq:(Wh t (gn xs i)==2 ^ i) with
       | true =>
         simp (maxSteps:=2000000) only [s53,↓Za,↓Zk,↓Zr,↓Ze,↓Zm,↓Zs,↓Zf,↓Zh,↓Zg,↓Zc,↓Zb,↓vdn,vup,Zn,Zl,Zo,Zi,Zj,List.map_cons,List.map_nil,cond_true,cond_false,aop,Zv,Zq,Zp,ev,sput,Zt,Zy,Ya,unK,Zd,Zw,Nat.reduceBEq,Nat.reduceAdd,Int.reduceBEq,Int.reduceBNe,Int.reduceLT,Zu,Zz,tup,tyf,hnn,testV ht64,hb,beq1,if_true,hv1.idx el_84 Xk hi',hv1.load Yw hi',hge,Wc ht64 (show gn xs i<9223372036854775808 by omega),shlI1 (show i≤62 by omega),bneN,hq,Bool.not_true,Vd (show i<9223372036854775807 by omega)]
         refine hQ4 _ _ _ ⟨i+1,⟨by omega,fun k hk=>?_⟩,by omega,by simp (maxSteps:=2000000) only [↓Za,↓Zk,↓Zr,↓Ze,↓Zm,↓Zs,↓Zf,↓Zh,↓Zg,↓Zc,↓Zb,↓vdn,vup,Zn,Zl,Zo,Zi,Zj,List.map_cons,List.map_nil,cond_true,cond_false,aop,Zv,Zq,Zp,ev,sput,Zt,Zy,Ya,unK,Zd,Zw,Nat.reduceBEq,Nat.reduceAdd,Int.reduceBEq,Int.reduceBNe,Int.reduceLT,Zu,Zz,tup,tyf],rfl⟩
         by_cases hki:k=i
         · subst hki; rw [cq,hq,Bool.or_true]
         · exact hok k (by omega)
       | false =>
         have hc:isC xs t=false:=isC_no hi' (by rw [cq,hb,hq]; rfl)
         simp (maxSteps:=2000000) only [s53,↓Za,↓Zk,↓Zr,↓Ze,↓Zm,↓Zs,↓Zf,↓Zh,↓Zg,↓Zc,↓Zb,↓vdn,vup,Zn,Zl,Zo,Zi,Zj,List.map_cons,List.map_nil,cond_true,cond_false,aop,Zv,Zq,Zp,ev,sput,Zt,Zy,Ya,unK,Zd,Zw,Nat.reduceBEq,Nat.reduceAdd,Int.reduceBEq,Int.reduceBNe,Int.reduceLT,Zu,Zz,tup,tyf,hnn,testV ht64,hb,beq1,if_true,hv1.idx el_84 Xk hi',hv1.load Yw hi',hge,Wc ht64 (show gn xs i<9223372036854775808 by omega),shlI1 (show i≤62 by omega),bneN,hq,Bool.not_false]
         refine hQ4 _ _ _ (hQ3 _ _ _ ?_)
         simp (maxSteps:=2000000) only [s53,↓Za,↓Zk,↓Zr,↓Ze,↓Zm,↓Zs,↓Zf,↓Zh,↓Zg,↓Zc,↓Zb,↓vdn,vup,Zn,Zl,Zo,Zi,Zj,List.map_cons,List.map_nil,cond_true,cond_false,aop,Zv,Zq,Zp,ev,sput,Zt,Zy,Ya,unK,Zd,Zw,Nat.reduceBEq,Nat.reduceAdd,Int.reduceBEq,Int.reduceBNe,Int.reduceLT,Zu,Zz,tup,tyf,Nat.reduceEqDiff,if_true,if_false]
         exact fin ov hp (by rw [clqTo_no hc]; exact hs) _ (by simp (maxSteps:=2000000) only [↓Za,↓Zk,↓Zr,↓Ze,↓Zm,↓Zs,↓Zf,↓Zh,↓Zg,↓Zc,↓Zb,↓vdn,vup,Zn,Zl,Zo,Zi,Zj,List.map_cons,List.map_nil,cond_true,cond_false,aop,Zv,Zq,Zp,ev,sput,Zt,Zy,Ya,unK,Zd,Zw,Nat.reduceBEq,Nat.reduceAdd,Int.reduceBEq,Int.reduceBNe,Int.reduceLT,Zu,Zz,tup,tyf])
   · obtain rfl:i=xs.length:=by omega
     have hc:=isC_yes hok
     simp (maxSteps:=2000000) only [s53,↓Za,↓Zk,↓Zr,↓Ze,↓Zm,↓Zs,↓Zf,↓Zh,↓Zg,↓Zc,↓Zb,↓vdn,vup,Zn,Zl,Zo,Zi,Zj,List.map_cons,List.map_nil,cond_true,cond_false,aop,Zv,Zq,Zp,ev,sput,Zt,Zy,Ya,unK,Zd,Zw,Nat.reduceBEq,Nat.reduceAdd,Int.reduceBEq,Int.reduceBNe,Int.reduceLT,Zu,Zz,tup,tyf,l53_0,Int.lt_irrefl]
     refine hQ4 _ _ _ (hQ3 _ _ _ ?_)
     simp (maxSteps:=2000000) only [s53,↓Za,↓Zk,↓Zr,↓Ze,↓Zm,↓Zs,↓Zf,↓Zh,↓Zg,↓Zc,↓Zb,↓vdn,vup,Zn,Zl,Zo,Zi,Zj,List.map_cons,List.map_nil,cond_true,cond_false,aop,Zv,Zq,Zp,ev,sput,Zt,Zy,Ya,unK,Zd,Zw,Nat.reduceBEq,Nat.reduceAdd,Int.reduceBEq,Int.reduceBNe,Int.reduceLT,Zu,Zz,tup,tyf,if_true]
     refine hN5 [(0,v),(2,.slice none 0 0),(3,ov),(4,Zx t)] _ _ ?_ (by simp (maxSteps:=2000000) only [↓Za,↓Zk,↓Zr,↓Ze,↓Zm,↓Zs,↓Zf,↓Zh,↓Zg,↓Zc,↓Zb,↓vdn,vup,Zn,Zl,Zo,Zi,Zj,List.map_cons,List.map_nil,cond_true,cond_false,aop,Zv,Zq,Zp,ev,sput,Zt,Zy,Ya,unK,Zd,Zw,Nat.reduceBEq,Nat.reduceAdd,Int.reduceBEq,Int.reduceBNe,Int.reduceLT,Zu,Zz,tup,tyf])
     clear hN5
     try clear N5
     refine Yd ?_
     simp (maxSteps:=2000000) only [s53,↓Za,↓Zk,↓Zr,↓Ze,↓Zm,↓Zs,↓Zf,↓Zh,↓Zg,↓Zc,↓Zb,↓vdn,vup,Zn,Zl,Zo,Zi,Zj,List.map_cons,List.map_nil,cond_true,cond_false,aop,Zv,Zq,Zp,ev,sput,Zt,Zy,Ya,unK,Zd,Zw,Nat.reduceBEq,Nat.reduceAdd,Int.reduceBEq,Int.reduceBNe,Int.reduceLT,Zu,Zz,tup,tyf,litI1]
     refine hs.push (by rw [List.length_map]; have:=clqTo_len xs t; omega) fun v' h' s'=>?_
     exact fin v' h' (by rw [clqTo_yes ht1 hc,List.map_append]; exact s') _ (by simp (maxSteps:=2000000) only [↓Za,↓Zk,↓Zr,↓Ze,↓Zm,↓Zs,↓Zf,↓Zh,↓Zg,↓Zc,↓Zb,↓vdn,vup,Zn,Zl,Zo,Zi,Zj,List.map_cons,List.map_nil,cond_true,cond_false,aop,Zv,Zq,Zp,ev,sput,Zt,Zy,Ya,unK,Zd,Zw,Nat.reduceBEq,Nat.reduceAdd,Int.reduceBEq,Int.reduceBNe,Int.reduceLT,Zu,Zz,tup,tyf])
 · obtain rfl:t=M:=by omega
   have hle : ¬ ((t:Nat):Int)≤((t-1:Nat):Int):=by omega
   refine Yb fun N6 hN6=>?_
   simp (maxSteps:=2000000) only [s53,↓Za,↓Zk,↓Zr,↓Ze,↓Zm,↓Zs,↓Zf,↓Zh,↓Zg,↓Zc,↓Zb,↓vdn,vup,Zn,Zl,Zo,Zi,Zj,List.map_cons,List.map_nil,cond_true,cond_false,aop,Zv,Zq,Zp,ev,sput,Zt,Zy,Ya,unK,Zd,Zw,Nat.reduceBEq,Nat.reduceAdd,Int.reduceBEq,Int.reduceBNe,Int.reduceLT,Zu,Zz,tup,tyf,Yz,List.nil_append,List.append_nil,List.toList_toArray,List.cons_append]
   refine (Vq hv1 h6 hM).mono ?_
   rintro _ hp ⟨rfl,rfl⟩
   simp (maxSteps:=2000000) only [s53,↓Za,↓Zk,↓Zr,↓Ze,↓Zm,↓Zs,↓Zf,↓Zh,↓Zg,↓Zc,↓Zb,↓vdn,vup,Zn,Zl,Zo,Zi,Zj,List.map_cons,List.map_nil,cond_true,cond_false,aop,Zv,Zq,Zp,ev,sput,Zt,Zy,Ya,unK,Zd,Zw,Nat.reduceBEq,Nat.reduceAdd,Int.reduceBEq,Int.reduceBNe,Int.reduceLT,Zu,Zz,tup,tyf,hle]
   refine hQ2 _ _ _ (hQ _ _ _ ?_)
   simp (maxSteps:=2000000) only [s53,↓Za,↓Zk,↓Zr,↓Ze,↓Zm,↓Zs,↓Zf,↓Zh,↓Zg,↓Zc,↓Zb,↓vdn,vup,Zn,Zl,Zo,Zi,Zj,List.map_cons,List.map_nil,cond_true,cond_false,aop,Zv,Zq,Zp,ev,sput,Zt,Zy,Ya,unK,Zd,Zw,Nat.reduceBEq,Nat.reduceAdd,Int.reduceBEq,Int.reduceBNe,Int.reduceLT,Zu,Zz,tup,tyf,if_true]
   refine hZ [(0,v),(2,.slice none 0 0),(3,ov),(4,Zx t)] _ _ ?_ (by simp (maxSteps:=2000000) only [↓Za,↓Zk,↓Zr,↓Ze,↓Zm,↓Zs,↓Zf,↓Zh,↓Zg,↓Zc,↓Zb,↓vdn,vup,Zn,Zl,Zo,Zi,Zj,List.map_cons,List.map_nil,cond_true,cond_false,aop,Zv,Zq,Zp,ev,sput,Zt,Zy,Ya,unK,Zd,Zw,Nat.reduceBEq,Nat.reduceAdd,Int.reduceBEq,Int.reduceBNe,Int.reduceLT,Zu,Zz,tup,tyf])
   clear hZ
   try clear Z
   refine Yd ?_
   simp (maxSteps:=2000000) only [s53,↓Za,↓Zk,↓Zr,↓Ze,↓Zm,↓Zs,↓Zf,↓Zh,↓Zg,↓Zc,↓Zb,↓vdn,vup,Zn,Zl,Zo,Zi,Zj,List.map_cons,List.map_nil,cond_true,cond_false,aop,Zv,Zq,Zp,ev,sput,Zt,Zy,Ya,unK,Zd,Zw,Nat.reduceBEq,Nat.reduceAdd,Int.reduceBEq,Int.reduceBNe,Int.reduceLT,Zu,Zz,tup,tyf,noGo_ret]
   rw [clq,hM]
   exact hs
end Go.Proofs.Tryd.Am.Su
namespace Go.Proofs.Tryd.Am.Su
open Go.Proofs.Tryd.Am
open Go.Am Sr
set_option maxRecDepth 100000
set_option maxHeartbeats 1000000
def mn (a b:Nat):Nat:=if b<a then b else a
def cvS (s:Nat) (L:List Nat) (c:Nat):List Nat:=if c &&& s=0 then L else L.set s (mn (L.getD s 0) (1+L.getD (Wh s c) 0))
def cvJ (C:List Nat) (n s:Nat) (L:List Nat) (j:Nat):List Nat:=(C.take j).foldl (cvS s) (L.set s n)
def cvAt (C:List Nat) (n M:Nat):Nat→List Nat
 | 0=>List.replicate M 0
 | k+1=>cvJ C n (k+1) (cvAt C n M k) C.length
def cov (xs:List Int):Nat:=(cvAt (clq xs) xs.length (2 ^ xs.length) (2 ^ xs.length-1)).getD (2 ^ xs.length-1) 0
theorem getD_setN {L:List Nat} {s x i:Nat} (hs:s<L.length):(L.set s x).getD i 0=if i=s then x else L.getD i 0:=by
 rw [List.getD,List.getElem?_set]
 by_cases h:s=i
 · subst h; simp [hs]
 · rw [if_neg h,if_neg (Ne.symm h)]; rfl
structure CvB (M n:Nat) (L:List Nat):Prop where
 len:L.length=M
 le : ∀ i,L.getD i 0≤n
theorem CvB.set {M n s x:Nat} {L:List Nat} (b:CvB M n L) (hs:s<M) (hx:x≤n):CvB M n (L.set s x) :=
 ⟨by rw [List.length_set]; exact b.len,fun i=>by rw [getD_setN (by rw [b.len]; exact hs)]; split; exact hx; exact b.le i⟩
theorem CvB.step {M n s:Nat} {L:List Nat} (b:CvB M n L) (hs:s<M) (c:Nat):CvB M n (cvS s L c):=by
 unfold cvS
 split
 · exact b
 · refine b.set hs ?_
   have:=b.le s
   unfold mn; split <;> omega
theorem cvJ_zero (C:List Nat) (n s:Nat) (L:List Nat):cvJ C n s L 0=L.set s n:=by rw [cvJ,List.take_zero]; rfl
theorem cvJ_succ {C:List Nat} (n s:Nat) (L:List Nat) {j:Nat} (hj:j<C.length):cvJ C n s L (j+1)=cvS s (cvJ C n s L j) (C.getD j 0):=by
 rw [cvJ,List.take_succ_eq_append_getElem hj,List.foldl_append,cvJ,List.getD,List.getElem?_eq_getElem hj]; rfl
theorem CvB.run {C:List Nat} {M n s:Nat} {L:List Nat} (b:CvB M n L) (hs:s<M) : ∀ j,j≤C.length→CvB M n (cvJ C n s L j)
 | 0,_=>by rw [cvJ_zero]; exact b.set hs (Nat.le_refl _)
 | j+1,h=>by rw [cvJ_succ n s L (by omega)]; exact (b.run hs j (by omega)).step hs _
theorem cvB_at (C:List Nat) (n M:Nat) : ∀ k,k<M→CvB M n (cvAt C n M k)
 | 0,_=>⟨by simp [cvAt],fun i=>by
   rw [cvAt,List.getD]
   by_cases h:i<M
   · simp [h]
   · simp [Nat.le_of_not_lt h]⟩
 | k+1,h=>(cvB_at C n M k (by omega)).run h _ (Nat.le_refl _)
abbrev iL (L:List Nat):List Int:=L.map Int.ofNat
theorem iL_len (L:List Nat):(iL L).length=L.length:=by simp
theorem iL_get (L:List Nat) (i:Nat):(iL L).getD i 0=((L.getD i 0:Nat):Int):=by
 rw [List.getD,List.getElem?_map,List.getD]; cases L[i]? <;> rfl
theorem iL_set (L:List Nat) (i x:Nat):(iL L).set i ((x:Nat):Int)=iL (L.set i x):=by simp only [iL,List.map_set]; rfl
theorem clq_lt {xs:List Int} {j:Nat} (hj:j<(clq xs).length):(clq xs).getD j 0<2 ^ xs.length:=by
 have hm:(clq xs).getD j 0∈clq xs:=by rw [List.getD,List.getElem?_eq_getElem hj]; exact List.getElem_mem hj
 rw [clq,clqTo,List.mem_filter,List.mem_range] at hm
 exact hm.1
theorem bneZ {a:Nat}:(((a:Nat):Int) != 0) = !(a==0):=bneN (b:=0)
theorem mnI (a b:Nat):(if ((b:Nat):Int)<((a:Nat):Int) then ((b:Nat):Int) else ((a:Nat):Int))=((mn a b:Nat):Int):=by
 unfold mn
 by_cases h:b<a
 · rw [if_pos h,if_pos (by omega)]
 · rw [if_neg h,if_neg (by omega)]
abbrev tv (b M:Nat):Value:=.slice (some ⟨b,0,none⟩) M M
section tab
variable {hp:Yc} {b M:Nat} {L:List Nat}
theorem tab_idx (hb:hp[b]? = some (.ints (iL L) 3 false)) (hL:L.length=M) {i:Nat} (hi:i<M) {K:Value→Prop}:Yv prog 27 (tv b M) (Zx i) K=K (.pointer (some ⟨b,i,none⟩)):=by
 have h1:=intSl_blk hb
 rw [iL_len,hL] at h1
 rw [h1.idx Wp Xk (by rw [iL_len,hL]; exact hi),elemP_new]
theorem tab_load (hb:hp[b]? = some (.ints (iL L) 3 false)) (hL:L.length=M) {i:Nat} (hi:i<M) {K:Value→Prop}:Xn prog hp 3 (.pointer (some ⟨b,i,none⟩)) K=K (Zx (L.getD i 0:Nat)):=by
 have h1:=intSl_blk hb
 rw [iL_len,hL] at h1
 have:=h1.load Yw (i:=i) (by rw [iL_len,hL]; exact hi) K
 rw [elemP_new,iL_get] at this
 exact this
theorem tab_store (hb:hp[b]? = some (.ints (iL L) 3 false)) (hL:L.length=M) {i x:Nat} (hi:i<M) {K:Yc→Prop}:Xu prog hp 3 (.pointer (some ⟨b,i,none⟩)) (Zx (x:Nat)) K=K (hp.set b (.ints (iL (L.set i x)) 3 false)):=by
 rw [storeBI hb Yw (by rw [iL_len,hL]; exact hi),iL_set]
end tab
theorem s14_callW [Tabs Tryd.prog] {args:List Value} {h:Yc} {Q:Value→Yc→Prop} (hsz:args.length≤60) (hk:AWS Tryd.prog 60 s14 (Zu Tryd.prog [.tmp 2,.tmp 3] Q) (Zp 0 args) h):ACall Tryd.prog 14 args h Q :=
 Xg Tryd.func14 rfl (enters_of Tryd.func14 (by kernel_rfl) rfl) rfl rfl (by decide) s14_strip s14_ok hsz hk
theorem cover_call [Tabs prog] {h:Yc} {v:Value} {xs:List Int} (hv:IntSl h v xs) (hl:xs.length<9223372036854775808) (hx : ∀ x∈xs,-9223372036854775808≤x∧x<9223372036854775808) :
  ACall prog 14 [v] h fun r h'=>Ext (fun _=>False) h h'∧r=if grs xs=true then .tuple #[Zx (cov xs:Nat),.int .i64 0] else .tuple #[.int .i64 0,.int .i64 2]:=by
 refine s14_callW (by simp) ?_
 simp only [s14]
 refine Yb fun N1 hN1=>?_
 simp (maxSteps:=2000000) only [s14,↓Za,↓Zk,↓Zr,↓Ze,↓Zm,↓Zs,↓Zf,↓Zh,↓Zg,↓Zc,↓Zb,↓vdn,vup,Zn,Zl,Zo,Zi,Zj,List.map_cons,List.map_nil,cond_true,cond_false,aop,Zv,Zq,Zp,ev,sput,Zt,Zy,Ya,unK,Zd,Zw,Nat.reduceBEq,Nat.reduceAdd,Int.reduceBEq,Int.reduceBNe,Int.reduceLT,Zu,Zz,tup,tyf]
 refine hN1 [(0,v),(2,.int .i64 0)] _ _ ?_ (by simp (maxSteps:=2000000) only [↓Za,↓Zk,↓Zr,↓Ze,↓Zm,↓Zs,↓Zf,↓Zh,↓Zg,↓Zc,↓Zb,↓vdn,vup,Zn,Zl,Zo,Zi,Zj,List.map_cons,List.map_nil,cond_true,cond_false,aop,Zv,Zq,Zp,ev,sput,Zt,Zy,Ya,unK,Zd,Zw,Nat.reduceBEq,Nat.reduceAdd,Int.reduceBEq,Int.reduceBNe,Int.reduceLT,Zu,Zz,tup,tyf])
 clear hN1
 try clear N1
 refine Yb fun N2 hN2=>?_
 simp (maxSteps:=2000000) only [s14,↓Za,↓Zk,↓Zr,↓Ze,↓Zm,↓Zs,↓Zf,↓Zh,↓Zg,↓Zc,↓Zb,↓vdn,vup,Zn,Zl,Zo,Zi,Zj,List.map_cons,List.map_nil,cond_true,cond_false,aop,Zv,Zq,Zp,ev,sput,Zt,Zy,Ya,unK,Zd,Zw,Nat.reduceBEq,Nat.reduceAdd,Int.reduceBEq,Int.reduceBNe,Int.reduceLT,Zu,Zz,tup,tyf]
 refine hN2 [(0,v),(2,.int .i64 0),(4,v)] _ _ ?_ (by simp (maxSteps:=2000000) only [↓Za,↓Zk,↓Zr,↓Ze,↓Zm,↓Zs,↓Zf,↓Zh,↓Zg,↓Zc,↓Zb,↓vdn,vup,Zn,Zl,Zo,Zi,Zj,List.map_cons,List.map_nil,cond_true,cond_false,aop,Zv,Zq,Zp,ev,sput,Zt,Zy,Ya,unK,Zd,Zw,Nat.reduceBEq,Nat.reduceAdd,Int.reduceBEq,Int.reduceBNe,Int.reduceLT,Zu,Zz,tup,tyf])
 clear hN2
 try clear N2
 refine Yb fun N3 hN3=>?_
 simp (maxSteps:=2000000) only [s14,↓Za,↓Zk,↓Zr,↓Ze,↓Zm,↓Zs,↓Zf,↓Zh,↓Zg,↓Zc,↓Zb,↓vdn,vup,Zn,Zl,Zo,Zi,Zj,List.map_cons,List.map_nil,cond_true,cond_false,aop,Zv,Zq,Zp,ev,sput,Zt,Zy,Ya,unK,Zd,Zw,Nat.reduceBEq,Nat.reduceAdd,Int.reduceBEq,Int.reduceBNe,Int.reduceLT,Zu,Zz,tup,tyf,Yz,List.nil_append,List.append_nil,List.toList_toArray,List.cons_append]
 refine (valid_call hv hl hx).mono ?_
 rintro _ h ⟨rfl,rfl⟩
 cases hg:grs xs with
 | false =>
   simp (maxSteps:=2000000) only [s14,↓Za,↓Zk,↓Zr,↓Ze,↓Zm,↓Zs,↓Zf,↓Zh,↓Zg,↓Zc,↓Zb,↓vdn,vup,Zn,Zl,Zo,Zi,Zj,List.map_cons,List.map_nil,cond_true,cond_false,aop,Zv,Zq,Zp,ev,sput,Zt,Zy,Ya,unK,Zd,Zw,Nat.reduceBEq,Nat.reduceAdd,Int.reduceBEq,Int.reduceBNe,Int.reduceLT,Zu,Zz,tup,tyf,Bool.not_false]
   exact ⟨Ext.refl _ _,by simp⟩
 | true =>
 have g:=grs_iff.1 hg
 have h6:=g.2.1
 have h64:=pow6N h6
 have hp0:=Nat.two_pow_pos xs.length
 have hclt:=fun j (hj:j<(clq xs).length)=>clq_lt hj
 obtain ⟨M,hM⟩ : ∃ M,2 ^ xs.length=M:=⟨_,rfl⟩
 have hcov:cov xs=(cvAt (clq xs) xs.length M (M-1)).getD (M-1) 0:=by rw [cov,hM]
 have hcl:=clqTo_len xs (2 ^ xs.length)
 change (clq xs).length≤_ at hcl
 rw [hM] at h64 hp0 hcl
 simp only [hM] at hclt
 generalize hC:clq xs=C at hclt hcov hcl
 simp (maxSteps:=2000000) only [s14,↓Za,↓Zk,↓Zr,↓Ze,↓Zm,↓Zs,↓Zf,↓Zh,↓Zg,↓Zc,↓Zb,↓vdn,vup,Zn,Zl,Zo,Zi,Zj,List.map_cons,List.map_nil,cond_true,cond_false,aop,Zv,Zq,Zp,ev,sput,Zt,Zy,Ya,unK,Zd,Zw,Nat.reduceBEq,Nat.reduceAdd,Int.reduceBEq,Int.reduceBNe,Int.reduceLT,Zu,Zz,tup,tyf,Bool.not_true]
 refine hN3 [(0,v),(2,.int .i64 0),(4,v)] _ _ ?_ (by simp (maxSteps:=2000000) only [↓Za,↓Zk,↓Zr,↓Ze,↓Zm,↓Zs,↓Zf,↓Zh,↓Zg,↓Zc,↓Zb,↓vdn,vup,Zn,Zl,Zo,Zi,Zj,List.map_cons,List.map_nil,cond_true,cond_false,aop,Zv,Zq,Zp,ev,sput,Zt,Zy,Ya,unK,Zd,Zw,Nat.reduceBEq,Nat.reduceAdd,Int.reduceBEq,Int.reduceBNe,Int.reduceLT,Zu,Zz,tup,tyf])
 clear hN3
 try clear N3
 have hmk:(((M-1+1:Nat):Int))=((M:Nat):Int):=by omega
 refine Yb fun N4 hN4=>?_
 simp (maxSteps:=2000000) only [s14,↓Za,↓Zk,↓Zr,↓Ze,↓Zm,↓Zs,↓Zf,↓Zh,↓Zg,↓Zc,↓Zb,↓vdn,vup,Zn,Zl,Zo,Zi,Zj,List.map_cons,List.map_nil,cond_true,cond_false,aop,Zv,Zq,Zp,ev,sput,Zt,Zy,Ya,unK,Zd,Zw,Nat.reduceBEq,Nat.reduceAdd,Int.reduceBEq,Int.reduceBNe,Int.reduceLT,Zu,Zz,tup,tyf,Yz,List.nil_append,List.append_nil,List.toList_toArray,List.cons_append]
 refine (Vq hv h6 hM).mono ?_
 rintro _ h ⟨rfl,rfl⟩
 simp (maxSteps:=2000000) only [s14,↓Za,↓Zk,↓Zr,↓Ze,↓Zm,↓Zs,↓Zf,↓Zh,↓Zg,↓Zc,↓Zb,↓vdn,vup,Zn,Zl,Zo,Zi,Zj,List.map_cons,List.map_nil,cond_true,cond_false,aop,Zv,Zq,Zp,ev,sput,Zt,Zy,Ya,unK,Zd,Zw,Nat.reduceBEq,Nat.reduceAdd,Int.reduceBEq,Int.reduceBNe,Int.reduceLT,Zu,Zz,tup,tyf,Vd (show M-1<9223372036854775807 by omega),hmk,makeI Wp zero_3 info_3 (Int.natCast_nonneg M) (show ((M:Nat):Int)≤35184372088832 by omega),Int.toNat_natCast]
 refine hN4 [(0,v),(2,.int .i64 0),(4,v),(5,tv h.length M)] _ _ ?_ (by simp (maxSteps:=2000000) only [↓Za,↓Zk,↓Zr,↓Ze,↓Zm,↓Zs,↓Zf,↓Zh,↓Zg,↓Zc,↓Zb,↓vdn,vup,Zn,Zl,Zo,Zi,Zj,List.map_cons,List.map_nil,cond_true,cond_false,aop,Zv,Zq,Zp,ev,sput,Zt,Zy,Ya,unK,Zd,Zw,Nat.reduceBEq,Nat.reduceAdd,Int.reduceBEq,Int.reduceBNe,Int.reduceLT,Zu,Zz,tup,tyf])
 clear hN4
 try clear N4
 refine Yb fun Z hZ=>?_
 simp (maxSteps:=2000000) only [s14,↓Za,↓Zk,↓Zr,↓Ze,↓Zm,↓Zs,↓Zf,↓Zh,↓Zg,↓Zc,↓Zb,↓vdn,vup,Zn,Zl,Zo,Zi,Zj,List.map_cons,List.map_nil,cond_true,cond_false,aop,Zv,Zq,Zp,ev,sput,Zt,Zy,Ya,unK,Zd,Zw,Nat.reduceBEq,Nat.reduceAdd,Int.reduceBEq,Int.reduceBNe,Int.reduceLT,Zu,Zz,tup,tyf,↓Xo]
 refine Yf fun Q hQ=>?_
 have hr0:List.replicate M (0:Int)=iL (cvAt C xs.length M 0):=by simp [cvAt,iL]
 refine Xh (γ:=Nat×Yc) (fun s=>s.1<M∧Ext (fun _=>False) h s.2∧s.2[h.length]? = some (.ints (iL (cvAt C xs.length M s.1)) 3 false))
  (fun s=>([(0,v),(2,.int .i64 0),(4,v),(5,tv h.length M),(6,Zx (s.1+1:Nat))],s.2)) (fun s=>M-s.1) (0,_) ⟨hp0,Ext.app _ _ _,by rw [← hr0]; exact Yj _ _⟩ (by simp (maxSteps:=2000000) only [↓Za,↓Zk,↓Zr,↓Ze,↓Zm,↓Zs,↓Zf,↓Zh,↓Zg,↓Zc,↓Zb,↓vdn,vup,Zn,Zl,Zo,Zi,Zj,List.map_cons,List.map_nil,cond_true,cond_false,aop,Zv,Zq,Zp,ev,sput,Zt,Zy,Ya,unK,Zd,Zw,Nat.reduceBEq,Nat.reduceAdd,Int.reduceBEq,Int.reduceBNe,Int.reduceLT,Zu,Zz,tup,tyf,Nat.zero_add,Int.natCast_one]) rfl ?_
 rintro ⟨k,hp⟩ ⟨hk,hE,hb⟩
 simp only at hk hE hb
 refine Yf fun Q2 hQ2=>?_
 simp only [l14_1]
 obtain ⟨t,htk⟩ : ∃ t,k+1=t:=⟨_,rfl⟩
 rw [htk]
 have hv1:=Wl hv hE
 have hB:=cvB_at C xs.length M k hk
 by_cases hin:t<M
 · have hle:((t:Nat):Int)≤((M-1:Nat):Int):=by omega
   refine Yb fun N5 hN5=>?_
   simp (maxSteps:=2000000) only [s14,↓Za,↓Zk,↓Zr,↓Ze,↓Zm,↓Zs,↓Zf,↓Zh,↓Zg,↓Zc,↓Zb,↓vdn,vup,Zn,Zl,Zo,Zi,Zj,List.map_cons,List.map_nil,cond_true,cond_false,aop,Zv,Zq,Zp,ev,sput,Zt,Zy,Ya,unK,Zd,Zw,Nat.reduceBEq,Nat.reduceAdd,Int.reduceBEq,Int.reduceBNe,Int.reduceLT,Zu,Zz,tup,tyf,Yz,List.nil_append,List.append_nil,List.toList_toArray,List.cons_append]
   refine (Vq hv1 h6 hM).mono ?_
   rintro _ hp ⟨rfl,rfl⟩
   simp (maxSteps:=2000000) only [s14,↓Za,↓Zk,↓Zr,↓Ze,↓Zm,↓Zs,↓Zf,↓Zh,↓Zg,↓Zc,↓Zb,↓vdn,vup,Zn,Zl,Zo,Zi,Zj,List.map_cons,List.map_nil,cond_true,cond_false,aop,Zv,Zq,Zp,ev,sput,Zt,Zy,Ya,unK,Zd,Zw,Nat.reduceBEq,Nat.reduceAdd,Int.reduceBEq,Int.reduceBNe,Int.reduceLT,Zu,Zz,tup,tyf,hle]
   refine hN5 [(0,v),(2,.int .i64 0),(4,v),(5,tv h.length M),(6,Zx (t:Nat))] _ _ ?_ (by simp (maxSteps:=2000000) only [↓Za,↓Zk,↓Zr,↓Ze,↓Zm,↓Zs,↓Zf,↓Zh,↓Zg,↓Zc,↓Zb,↓vdn,vup,Zn,Zl,Zo,Zi,Zj,List.map_cons,List.map_nil,cond_true,cond_false,aop,Zv,Zq,Zp,ev,sput,Zt,Zy,Ya,unK,Zd,Zw,Nat.reduceBEq,Nat.reduceAdd,Int.reduceBEq,Int.reduceBNe,Int.reduceLT,Zu,Zz,tup,tyf])
   clear hN5
   try clear N5
   refine Ye fun K hK=>?_
   refine Yh ?_
   refine Yb fun N6 hN6=>?_
   simp (maxSteps:=2000000) only [s14,↓Za,↓Zk,↓Zr,↓Ze,↓Zm,↓Zs,↓Zf,↓Zh,↓Zg,↓Zc,↓Zb,↓vdn,vup,Zn,Zl,Zo,Zi,Zj,List.map_cons,List.map_nil,cond_true,cond_false,aop,Zv,Zq,Zp,ev,sput,Zt,Zy,Ya,unK,Zd,Zw,Nat.reduceBEq,Nat.reduceAdd,Int.reduceBEq,Int.reduceBNe,Int.reduceLT,Zu,Zz,tup,tyf,hv1.len,tab_idx hb hB.len hin,tab_store hb hB.len hin]
   refine hN6 [(0,v),(2,.int .i64 0),(4,v),(5,tv h.length M),(6,Zx (t:Nat))] _ _ ?_ (by simp (maxSteps:=2000000) only [↓Za,↓Zk,↓Zr,↓Ze,↓Zm,↓Zs,↓Zf,↓Zh,↓Zg,↓Zc,↓Zb,↓vdn,vup,Zn,Zl,Zo,Zi,Zj,List.map_cons,List.map_nil,cond_true,cond_false,aop,Zv,Zq,Zp,ev,sput,Zt,Zy,Ya,unK,Zd,Zw,Nat.reduceBEq,Nat.reduceAdd,Int.reduceBEq,Int.reduceBNe,Int.reduceLT,Zu,Zz,tup,tyf])
   clear hN6
   try clear N6
   refine Yd ?_
   have hlt:=Yp hb
   have hE1:=hE.set_ge (Nat.le_refl _) (.ints (iL ((cvAt C xs.length M k).set t xs.length)) 3 false)
   have hb1:(hp.set h.length (.ints (iL ((cvAt C xs.length M k).set t xs.length)) 3 false))[h.length]? = some (.ints (iL (cvJ C xs.length t (cvAt C xs.length M k) 0)) 3 false):=by rw [cvJ_zero]; exact Xy hlt _
   generalize hp.set h.length (.ints (iL ((cvAt C xs.length M k).set t xs.length)) 3 false)=h1 at hE1 hb1
   have hv2:=Wl hv hE1
   simp (maxSteps:=2000000) only [s14,↓Za,↓Zk,↓Zr,↓Ze,↓Zm,↓Zs,↓Zf,↓Zh,↓Zg,↓Zc,↓Zb,↓vdn,vup,Zn,Zl,Zo,Zi,Zj,List.map_cons,List.map_nil,cond_true,cond_false,aop,Zv,Zq,Zp,ev,sput,Zt,Zy,Ya,unK,Zd,Zw,Nat.reduceBEq,Nat.reduceAdd,Int.reduceBEq,Int.reduceBNe,Int.reduceLT,Zu,Zz,tup,tyf,Yz,List.nil_append,List.append_nil,List.toList_toArray,List.cons_append]
   refine (cliques_call hv2 g).mono ?_
   rintro w h2 ⟨hw,hE2,hwb2⟩
   rw [hC] at hw
   have hb2:h2[h.length]? = some (.ints (iL (cvJ C xs.length t (cvAt C xs.length M k) 0)) 3 false):=(hE2.2 _ (Yp hb1) id).trans hb1
   have hE3:=hE1.trans hE2
   simp (maxSteps:=2000000) only [s14,↓Za,↓Zk,↓Zr,↓Ze,↓Zm,↓Zs,↓Zf,↓Zh,↓Zg,↓Zc,↓Zb,↓vdn,vup,Zn,Zl,Zo,Zi,Zj,List.map_cons,List.map_nil,cond_true,cond_false,aop,Zv,Zq,Zp,ev,sput,Zt,Zy,Ya,unK,Zd,Zw,Nat.reduceBEq,Nat.reduceAdd,Int.reduceBEq,Int.reduceBNe,Int.reduceLT,Zu,Zz,tup,tyf,hw.int.len,iL_len,List.length_map,↓Xo]
   refine Yf fun Q3 hQ3=>?_
   refine Ve (γ:=Nat×Yc) (fun s=>s.1≤C.length∧Ext (fun _=>False) h s.2∧OwnSl 3 s.2 w (iL C)∧Yk w≠some h.length∧s.2[h.length]? = some (.ints (iL (cvJ C xs.length t (cvAt C xs.length M k) s.1)) 3 false))
    (fun s=>([(0,v),(2,.int .i64 0),(4,v),(5,tv h.length M),(6,Zx (t:Nat)),(29,w),(30,Zx C.length),(31,Zx s.1)],s.2)) (fun s=>C.length-s.1) (0,h2) ⟨Nat.zero_le _,hE3,hw,?_,hb2⟩ (by simp (maxSteps:=2000000) only [↓Za,↓Zk,↓Zr,↓Ze,↓Zm,↓Zs,↓Zf,↓Zh,↓Zg,↓Zc,↓Zb,↓vdn,vup,Zn,Zl,Zo,Zi,Zj,List.map_cons,List.map_nil,cond_true,cond_false,aop,Zv,Zq,Zp,ev,sput,Zt,Zy,Ya,unK,Zd,Zw,Nat.reduceBEq,Nat.reduceAdd,Int.reduceBEq,Int.reduceBNe,Int.reduceLT,Zu,Zz,tup,tyf,Int.natCast_zero]) rfl ?_
   · intro hh
     have:=hwb2 _ hh
     have:=Yp hb1
     omega
   rintro ⟨j,hq⟩ ⟨hj,hEq,hwq,hwb,hbq⟩
   simp only at hj hEq hwq hbq
   refine Vi fun Q4 hQ4=>?_
   have hBj:=hB.run (C:=C) hin j hj
   by_cases hjn:(j:Int)<C.length
   · have hj' : j<C.length:=by omega
     have hj2:j<(iL C).length:=by rw [iL_len]; exact hj'
     have hcM:=hclt j hj'
     have hlM:Wh t (C.getD j 0)<M:=Nat.lt_of_le_of_lt (Sr.less_le _ _) hin
     have hsucc:=cvJ_succ xs.length t (cvAt C xs.length M k) hj'
     have a1:=hBj.le (Wh t (C.getD j 0))
     have e1:addV .i64 1 (((cvJ C xs.length t (cvAt C xs.length M k) j).getD (Wh t (C.getD j 0)) 0:Nat):Int)=((1+(cvJ C xs.length t (cvAt C xs.length M k) j).getD (Wh t (C.getD j 0)) 0:Nat):Int):=by rw [addV_id (by omega) (by omega)]; omega
     have hand:=bitsV_and (a:=C.getD j 0) (b:=t) (by omega) (by omega)
     have hless:=Wc (a:=t) (b:=C.getD j 0) (by omega) (by omega)
     by_cases hz:C.getD j 0 &&& t=0
     · have hb0:(C.getD j 0 &&& t==0)=true:=beq_iff_eq.2 hz
       simp (maxSteps:=2000000) only [s14,↓Za,↓Zk,↓Zr,↓Ze,↓Zm,↓Zs,↓Zf,↓Zh,↓Zg,↓Zc,↓Zb,↓vdn,vup,Zn,Zl,Zo,Zi,Zj,List.map_cons,List.map_nil,cond_true,cond_false,aop,Zv,Zq,Zp,ev,sput,Zt,Zy,Ya,unK,Zd,Zw,Nat.reduceBEq,Nat.reduceAdd,Int.reduceBEq,Int.reduceBNe,Int.reduceLT,Zu,Zz,tup,tyf,l14_0,hjn,hwq.int.idx Wp Xk hj2,hwq.int.load Yw hj2,iL_get,hand,bneZ,hb0,Bool.not_true,Vd (show j<9223372036854775807 by omega)]
       refine hQ4 _ _ _ ⟨(j+1,hq),⟨by simp only; omega,hEq,hwq,hwb,?_⟩,by simp only; omega,by simp (maxSteps:=2000000) only [↓Za,↓Zk,↓Zr,↓Ze,↓Zm,↓Zs,↓Zf,↓Zh,↓Zg,↓Zc,↓Zb,↓vdn,vup,Zn,Zl,Zo,Zi,Zj,List.map_cons,List.map_nil,cond_true,cond_false,aop,Zv,Zq,Zp,ev,sput,Zt,Zy,Ya,unK,Zd,Zw,Nat.reduceBEq,Nat.reduceAdd,Int.reduceBEq,Int.reduceBNe,Int.reduceLT,Zu,Zz,tup,tyf],rfl⟩
       simp only
       rw [hsucc,cvS,if_pos hz]; exact hbq
     · have hb0:(C.getD j 0 &&& t==0)=false:=beq_eq_false_iff_ne.2 hz
       simp (maxSteps:=2000000) only [s14,↓Za,↓Zk,↓Zr,↓Ze,↓Zm,↓Zs,↓Zf,↓Zh,↓Zg,↓Zc,↓Zb,↓vdn,vup,Zn,Zl,Zo,Zi,Zj,List.map_cons,List.map_nil,cond_true,cond_false,aop,Zv,Zq,Zp,ev,sput,Zt,Zy,Ya,unK,Zd,Zw,Nat.reduceBEq,Nat.reduceAdd,Int.reduceBEq,Int.reduceBNe,Int.reduceLT,Zu,Zz,tup,tyf,l14_0,hjn,hwq.int.idx Wp Xk hj2,hwq.int.load Yw hj2,iL_get,hand,bneZ,hb0,Bool.not_false]
       refine Xv [] (by kernel_rfl) (by kernel_rfl) (by kernel_rfl) (by kernel_rfl) ?_
       simp (maxSteps:=2000000) only [s14,↓Za,↓Zk,↓Zr,↓Ze,↓Zm,↓Zs,↓Zf,↓Zh,↓Zg,↓Zc,↓Zb,↓vdn,vup,Zn,Zl,Zo,Zi,Zj,List.map_cons,List.map_nil,cond_true,cond_false,aop,Zv,Zq,Zp,ev,sput,Zt,Zy,Ya,unK,Zd,Zw,Nat.reduceBEq,Nat.reduceAdd,Int.reduceBEq,Int.reduceBNe,Int.reduceLT,Zu,Zz,tup,tyf,tab_idx hbq hBj.len hin,tab_load hbq hBj.len hin,hless,tab_idx hbq hBj.len hlM,tab_load hbq hBj.len hlM,e1,mmK,Bool.false_eq_true,if_false,gt_iff_lt,mnI,tab_store hbq hBj.len hin,Vd (show j<9223372036854775807 by omega)]
       refine hQ4 _ _ _ ⟨(j+1,_),⟨by simp only; omega,hEq.set_ge (Nat.le_refl _) _,hwq.same fun b hb3=>List.getElem?_set_ne (fun he=>hwb (hb3.trans (congrArg some he.symm))),hwb,?_⟩,by simp only; omega,by simp (maxSteps:=2000000) only [↓Za,↓Zk,↓Zr,↓Ze,↓Zm,↓Zs,↓Zf,↓Zh,↓Zg,↓Zc,↓Zb,↓vdn,vup,Zn,Zl,Zo,Zi,Zj,List.map_cons,List.map_nil,cond_true,cond_false,aop,Zv,Zq,Zp,ev,sput,Zt,Zy,Ya,unK,Zd,Zw,Nat.reduceBEq,Nat.reduceAdd,Int.reduceBEq,Int.reduceBNe,Int.reduceLT,Zu,Zz,tup,tyf],rfl⟩
       simp only
       rw [hsucc,cvS,if_neg hz]; exact Xy (Yp hbq) _
   · obtain rfl:j=C.length:=by omega
     simp (maxSteps:=2000000) only [s14,↓Za,↓Zk,↓Zr,↓Ze,↓Zm,↓Zs,↓Zf,↓Zh,↓Zg,↓Zc,↓Zb,↓vdn,vup,Zn,Zl,Zo,Zi,Zj,List.map_cons,List.map_nil,cond_true,cond_false,aop,Zv,Zq,Zp,ev,sput,Zt,Zy,Ya,unK,Zd,Zw,Nat.reduceBEq,Nat.reduceAdd,Int.reduceBEq,Int.reduceBNe,Int.reduceLT,Zu,Zz,tup,tyf,l14_0,Int.lt_irrefl]
     refine hQ4 _ _ _ (hQ3 _ _ _ ?_)
     simp (maxSteps:=2000000) only [s14,↓Za,↓Zk,↓Zr,↓Ze,↓Zm,↓Zs,↓Zf,↓Zh,↓Zg,↓Zc,↓Zb,↓vdn,vup,Zn,Zl,Zo,Zi,Zj,List.map_cons,List.map_nil,cond_true,cond_false,aop,Zv,Zq,Zp,ev,sput,Zt,Zy,Ya,unK,Zd,Zw,Nat.reduceBEq,Nat.reduceAdd,Int.reduceBEq,Int.reduceBNe,Int.reduceLT,Zu,Zz,tup,tyf,if_true]
     refine hK [(0,v),(2,.int .i64 0),(4,v),(5,tv h.length M),(6,Zx (t:Nat))] _ _ ?_ (by simp (maxSteps:=2000000) only [↓Za,↓Zk,↓Zr,↓Ze,↓Zm,↓Zs,↓Zf,↓Zh,↓Zg,↓Zc,↓Zb,↓vdn,vup,Zn,Zl,Zo,Zi,Zj,List.map_cons,List.map_nil,cond_true,cond_false,aop,Zv,Zq,Zp,ev,sput,Zt,Zy,Ya,unK,Zd,Zw,Nat.reduceBEq,Nat.reduceAdd,Int.reduceBEq,Int.reduceBNe,Int.reduceLT,Zu,Zz,tup,tyf])
     clear hK
     try clear K
     refine Yd ?_
     simp (maxSteps:=2000000) only [s14,↓Za,↓Zk,↓Zr,↓Ze,↓Zm,↓Zs,↓Zf,↓Zh,↓Zg,↓Zc,↓Zb,↓vdn,vup,Zn,Zl,Zo,Zi,Zj,List.map_cons,List.map_nil,cond_true,cond_false,aop,Zv,Zq,Zp,ev,sput,Zt,Zy,Ya,unK,Zd,Zw,Nat.reduceBEq,Nat.reduceAdd,Int.reduceBEq,Int.reduceBNe,Int.reduceLT,Zu,Zz,tup,tyf,Vd (show t<9223372036854775807 by omega)]
     refine hQ2 _ _ _ ⟨(k+1,hq),⟨by simp only; omega,hEq,by simp only; rw [cvAt,htk]; exact hbq⟩,by simp only; omega,by simp (maxSteps:=2000000) only [↓Za,↓Zk,↓Zr,↓Ze,↓Zm,↓Zs,↓Zf,↓Zh,↓Zg,↓Zc,↓Zb,↓vdn,vup,Zn,Zl,Zo,Zi,Zj,List.map_cons,List.map_nil,cond_true,cond_false,aop,Zv,Zq,Zp,ev,sput,Zt,Zy,Ya,unK,Zd,Zw,Nat.reduceBEq,Nat.reduceAdd,Int.reduceBEq,Int.reduceBNe,Int.reduceLT,Zu,Zz,tup,tyf,htk],rfl⟩
 · have hkM:k=M-1:=by omega
   have hle : ¬ ((t:Nat):Int)≤((M-1:Nat):Int):=by omega
   refine Yb fun N7 hN7=>?_
   simp (maxSteps:=2000000) only [s14,↓Za,↓Zk,↓Zr,↓Ze,↓Zm,↓Zs,↓Zf,↓Zh,↓Zg,↓Zc,↓Zb,↓vdn,vup,Zn,Zl,Zo,Zi,Zj,List.map_cons,List.map_nil,cond_true,cond_false,aop,Zv,Zq,Zp,ev,sput,Zt,Zy,Ya,unK,Zd,Zw,Nat.reduceBEq,Nat.reduceAdd,Int.reduceBEq,Int.reduceBNe,Int.reduceLT,Zu,Zz,tup,tyf,Yz,List.nil_append,List.append_nil,List.toList_toArray,List.cons_append]
   refine (Vq hv1 h6 hM).mono ?_
   rintro _ hp ⟨rfl,rfl⟩
   simp (maxSteps:=2000000) only [s14,↓Za,↓Zk,↓Zr,↓Ze,↓Zm,↓Zs,↓Zf,↓Zh,↓Zg,↓Zc,↓Zb,↓vdn,vup,Zn,Zl,Zo,Zi,Zj,List.map_cons,List.map_nil,cond_true,cond_false,aop,Zv,Zq,Zp,ev,sput,Zt,Zy,Ya,unK,Zd,Zw,Nat.reduceBEq,Nat.reduceAdd,Int.reduceBEq,Int.reduceBNe,Int.reduceLT,Zu,Zz,tup,tyf,hle]
   refine hQ2 _ _ _ (hQ _ _ _ ?_)
   simp (maxSteps:=2000000) only [s14,↓Za,↓Zk,↓Zr,↓Ze,↓Zm,↓Zs,↓Zf,↓Zh,↓Zg,↓Zc,↓Zb,↓vdn,vup,Zn,Zl,Zo,Zi,Zj,List.map_cons,List.map_nil,cond_true,cond_false,aop,Zv,Zq,Zp,ev,sput,Zt,Zy,Ya,unK,Zd,Zw,Nat.reduceBEq,Nat.reduceAdd,Int.reduceBEq,Int.reduceBNe,Int.reduceLT,Zu,Zz,tup,tyf,if_true]
   refine hZ [(0,v),(2,.int .i64 0),(4,v),(5,tv h.length M),(6,Zx (t:Nat))] _ _ ?_ (by simp (maxSteps:=2000000) only [↓Za,↓Zk,↓Zr,↓Ze,↓Zm,↓Zs,↓Zf,↓Zh,↓Zg,↓Zc,↓Zb,↓vdn,vup,Zn,Zl,Zo,Zi,Zj,List.map_cons,List.map_nil,cond_true,cond_false,aop,Zv,Zq,Zp,ev,sput,Zt,Zy,Ya,unK,Zd,Zw,Nat.reduceBEq,Nat.reduceAdd,Int.reduceBEq,Int.reduceBNe,Int.reduceLT,Zu,Zz,tup,tyf])
   clear hZ
   try clear Z
   refine Yd ?_
   have hm1:M-1<M:=by omega
   simp (maxSteps:=2000000) only [s14,↓Za,↓Zk,↓Zr,↓Ze,↓Zm,↓Zs,↓Zf,↓Zh,↓Zg,↓Zc,↓Zb,↓vdn,vup,Zn,Zl,Zo,Zi,Zj,List.map_cons,List.map_nil,cond_true,cond_false,aop,Zv,Zq,Zp,ev,sput,Zt,Zy,Ya,unK,Zd,Zw,Nat.reduceBEq,Nat.reduceAdd,Int.reduceBEq,Int.reduceBNe,Int.reduceLT,Zu,Zz,tup,tyf,Yz,List.nil_append,List.append_nil,List.toList_toArray,List.cons_append]
   refine (Vq hv1 h6 hM).mono ?_
   rintro _ hp ⟨rfl,rfl⟩
   simp (maxSteps:=2000000) only [s14,↓Za,↓Zk,↓Zr,↓Ze,↓Zm,↓Zs,↓Zf,↓Zh,↓Zg,↓Zc,↓Zb,↓vdn,vup,Zn,Zl,Zo,Zi,Zj,List.map_cons,List.map_nil,cond_true,cond_false,aop,Zv,Zq,Zp,ev,sput,Zt,Zy,Ya,unK,Zd,Zw,Nat.reduceBEq,Nat.reduceAdd,Int.reduceBEq,Int.reduceBNe,Int.reduceLT,Zu,Zz,tup,tyf,tab_idx hb hB.len hm1,tab_load hb hB.len hm1]
   refine ⟨hE,?_⟩
   rw [hcov,hkM]
   simp [hg]
end Go.Proofs.Tryd.Am.Su
namespace Go.Proofs.Tryd.Am.Su
open Go.Proofs.Tryd.Am
open Go.Am Sr
theorem getD_ne {L:List Nat} {s i x:Nat} (h:i≠s):(L.set s x).getD i 0=L.getD i 0:=by
 rw [List.getD,List.getElem?_set_ne (fun he=>h he.symm),List.getD]
theorem cvS_ne {s c i:Nat} {L:List Nat} (h:i≠s):(cvS s L c).getD i 0=L.getD i 0:=by
 rw [cvS]; split
 · rfl
 · exact getD_ne h
theorem cvJ_ne {C:List Nat} {n s i:Nat} {L:List Nat} (h:i≠s) : ∀ j,j≤C.length→(cvJ C n s L j).getD i 0=L.getD i 0
 | 0,_=>by rw [cvJ_zero]; exact getD_ne h
 | j+1,hj=>by rw [cvJ_succ n s L (by omega),cvS_ne h]; exact cvJ_ne h j (by omega)
theorem less_lt_self {s c:Nat} (h:c &&& s≠0):Wh s c<s:=by
 refine Nat.lt_of_le_of_ne (Sr.less_le s c) fun he=>h (Nat.eq_of_testBit_eq fun i=>?_)
 have:=Yo s c i
 rw [he] at this
 rw [Nat.testBit_and,Nat.zero_testBit]
 cases hs:s.testBit i with
 | false=>rw [Bool.and_false]
 | true=>rw [hs] at this; simpa using this
def CovAt (C:List Nat) (n s:Nat) (L:List Nat) (v:Nat):Prop:=(v=n∨∃ c∈C,c &&& s≠0∧v=1+L.getD (Wh s c) 0)∧v≤n∧∀ c∈C,c &&& s≠0→v≤1+L.getD (Wh s c) 0
theorem cvJ_at {C:List Nat} {M n s:Nat} {L:List Nat} (b:CvB M n L) (hs:s<M) : ∀ j,j≤C.length→CovAt (C.take j) n s L ((cvJ C n s L j).getD s 0)
 | 0,_=>by
   rw [cvJ_zero,getD_setN (by rw [b.len]; exact hs),if_pos rfl]
   exact ⟨.inl rfl,Nat.le_refl _,fun c hc=>by cases hc⟩
 | j+1,hj=>by
   obtain ⟨h1,h2,h3⟩:=cvJ_at b hs (C:=C) j (by omega)
   obtain ⟨V,hV⟩ : ∃ V,V=cvJ C n s L j:=⟨_,rfl⟩
   have hVl:V.length=M:=by rw [hV]; exact (b.run hs j (by omega)).len
   obtain ⟨c,hc⟩ : ∃ c,c=C.getD j 0:=⟨_,rfl⟩
   have hcm:C.take (j+1)=C.take j++[c]:=by
    rw [List.take_succ_eq_append_getElem (by omega),hc,List.getD,List.getElem?_eq_getElem (by omega)]; rfl
   rw [← hV] at h1 h2 h3
   rw [cvJ_succ n s L (by omega),← hc,← hV,hcm,cvS]
   split
   · next h0 =>
     refine ⟨h1.imp id fun ⟨d,hd,h⟩=>⟨d,List.mem_append_left _ hd,h⟩,h2,fun d hd hne=>?_⟩
     rcases List.mem_append.1 hd with hd | hd
     · exact h3 d hd hne
     · rw [List.mem_singleton.1 hd] at hne; exact absurd h0 hne
   · next h0 =>
     have hlt:=less_lt_self h0
     have e1:V.getD (Wh s c) 0=L.getD (Wh s c) 0:=by rw [hV]; exact cvJ_ne (by omega) j (by omega)
     rw [getD_setN (by rw [hVl]; exact hs),if_pos rfl,e1,mn]
     obtain ⟨w,hw⟩ : ∃ w,w=V.getD s 0:=⟨_,rfl⟩
     obtain ⟨u,hu⟩ : ∃ u,u=1+L.getD (Wh s c) 0:=⟨_,rfl⟩
     rw [← hw] at h1 h2 h3
     rw [← hw,← hu]
     by_cases huw:u<w
     · rw [if_pos huw]
       refine ⟨.inr ⟨c,by simp,h0,hu⟩,by omega,fun d hd hne=>?_⟩
       rcases List.mem_append.1 hd with hd | hd
       · have:=h3 d hd hne; omega
       · rw [List.mem_singleton.1 hd,← hu]; exact Nat.le_refl _
     · rw [if_neg huw]
       refine ⟨h1.imp id fun ⟨d,hd,h⟩=>⟨d,List.mem_append_left _ hd,h⟩,h2,fun d hd hne=>?_⟩
       rcases List.mem_append.1 hd with hd | hd
       · exact h3 d hd hne
       · rw [List.mem_singleton.1 hd,← hu]; omega
theorem cvAt_ge (C:List Nat) (n M:Nat) {i:Nat} : ∀ k,i≤k→(cvAt C n M k).getD i 0=(cvAt C n M i).getD i 0
 | 0,h=>by rw [Nat.le_zero.1 h]
 | k+1,h=>by
   by_cases hi:i=k+1
   · rw [hi]
   · rw [cvAt,cvJ_ne hi _ (Nat.le_refl _)]
     exact cvAt_ge C n M k (by omega)
def cvV (C:List Nat) (n M s:Nat):Nat:=(cvAt C n M s).getD s 0
theorem cvV_spec {C:List Nat} {n M s:Nat} (h0:0<s) (hs:s<M):(cvV C n M s=n∨∃ c∈C,c &&& s≠0∧cvV C n M s=1+cvV C n M (Wh s c))∧cvV C n M s≤n∧∀ c∈C,c &&& s≠0→cvV C n M s≤1+cvV C n M (Wh s c):=by
 obtain ⟨k,rfl⟩ : ∃ k,s=k+1:=⟨s-1,by omega⟩
 have h:=cvJ_at (cvB_at C n M k (by omega)) hs (C:=C) C.length (Nat.le_refl _)
 rw [List.take_length] at h
 have e : ∀ c,c &&& (k+1)≠0→(cvAt C n M k).getD (Wh (k+1) c) 0=cvV C n M (Wh (k+1) c):=fun c hc=>cvAt_ge C n M k (by have:=less_lt_self hc; omega)
 obtain ⟨h1,h2,h3⟩:=h
 refine ⟨h1.imp id fun ⟨c,hc,hne,h⟩=>⟨c,hc,hne,by rw [← e c hne]; exact h⟩,h2,fun c hc hne=>by rw [← e c hne]; exact h3 c hc hne⟩
end Go.Proofs.Tryd.Am.Su
namespace Go.Proofs.Tryd.Am.Su
open Go.Proofs.Tryd.Am
open Go.Am Sr
theorem gn_bit (xs:List Int) (i j:Nat):(gn xs i).testBit j=gb xs i j:=rfl
theorem cq_iff {xs:List Int} {s i:Nat} (hi:gb xs i i=false):cq xs s i=true↔(s.testBit i=true→∀ j,j≠i→s.testBit j=true→gb xs i j=true):=by
 rw [cq]
 cases hs:s.testBit i with
 | false=>simp
 | true =>
   rw [Bool.not_true,Bool.false_or,beq_iff_eq]
   constructor
   · intro h _ j hj hb
     have h1:=Yo s (gn xs i) j
     rw [h,hb,Nat.testBit_two_pow_of_ne (Ne.symm hj),gn_bit] at h1
     simpa using h1.symm
   · intro h
     refine Nat.eq_of_testBit_eq fun j=>?_
     rw [Yo,gn_bit,Nat.testBit_two_pow]
     by_cases hj:j=i
     · rw [hj,hs,hi]; simp
     · rw [decide_eq_false (fun h=>hj h.symm)]
       cases hb:s.testBit j with
       | false=>rfl
       | true=>rw [h rfl j hj hb]; rfl
theorem mem_clq {xs:List Int} (g:Gs xs) {s:Nat}:s∈clq xs↔s<2 ^ xs.length∧0<s∧∀ i,i<xs.length→s.testBit i=true→∀ j,j≠i→s.testBit j=true→gb xs i j=true:=by
 rw [clq,clqTo,List.mem_filter,List.mem_range,Bool.and_eq_true,decide_eq_true_eq,isC,List.all_eq_true]
 refine and_congr_right fun _=>and_congr_right fun _=>⟨fun h i hi=>(cq_iff (g.2.2 i hi).2.1).1 (h i (List.mem_range.2 hi)),fun h i hi=>?_⟩
 rw [List.mem_range] at hi
 exact (cq_iff (g.2.2 i hi).2.1).2 (h i hi)
theorem cvV_zero' (C:List Nat) (n M:Nat):cvV C n M 0=0:=by
 rw [cvV,cvAt,List.getD]
 by_cases h:0<M
 · rw [List.getElem?_replicate,if_pos h]; rfl
 · rw [List.getElem?_replicate,if_neg h]; rfl
theorem cov_le {xs:List Int} (g:Gs xs) : ∀ (L:List Nat) (s:Nat),s<2 ^ xs.length→(∀ c∈L,c∈clq xs)→(∀ i,s.testBit i=true→∃ c∈L,c.testBit i=true)→cvV (clq xs) xs.length (2 ^ xs.length) s≤L.length
 | [],s,hs,_,hc=>by
   have:s=0:=by
    apply Nat.eq_of_testBit_eq; intro i
    rw [Nat.zero_testBit]
    cases h:s.testBit i with
    | false=>rfl
    | true=>obtain ⟨c,h1,_⟩:=hc i h; cases h1
   rw [this,cvV_zero']; exact Nat.zero_le _
 | c::L,s,hs,hL,hc=>by
   by_cases h0:s=0
   · rw [h0,cvV_zero']; exact Nat.zero_le _
   by_cases hcs:c &&& s=0
   · have:=cov_le g L s hs (fun d hd=>hL d (by simp [hd])) fun i hi=>by
      obtain ⟨d,h1,h2⟩:=hc i hi
      rcases List.mem_cons.1 h1 with rfl | h1
      · have h3:(d &&& s).testBit i=true:=by rw [Nat.testBit_and,h2,hi]; rfl
        rw [hcs,Nat.zero_testBit] at h3; cases h3
      · exact ⟨d,h1,h2⟩
     rw [List.length_cons]; omega
   · have h1:=(cvV_spec (C:=clq xs) (n:=xs.length) (Nat.pos_of_ne_zero h0) hs).2.2 c (hL c (by simp)) hcs
     have h2:=cov_le g L (Wh s c) (Nat.lt_of_le_of_lt (Sr.less_le s c) hs) (fun d hd=>hL d (by simp [hd])) fun i hi=>by
      rw [Yo,Bool.and_eq_true] at hi
      obtain ⟨d,h1,h2⟩:=hc i hi.1
      rcases List.mem_cons.1 h1 with rfl | h1
      · rw [h2] at hi; cases hi.2
      · exact ⟨d,h1,h2⟩
     rw [List.length_cons]; omega
theorem cov_cvV (xs:List Int):cov xs=cvV (clq xs) xs.length (2 ^ xs.length) (2 ^ xs.length-1):=rfl
end Go.Proofs.Tryd.Am.Su
