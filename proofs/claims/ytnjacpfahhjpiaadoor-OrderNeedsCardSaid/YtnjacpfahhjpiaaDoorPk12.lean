/-
  order: law Needs.
-/
import Derived.Test.YtnjacpfahhjpiaaDoorPk11
set_option linter.all false
namespace Go.Proofs.Tryd.Am
open Go.Am Ord
set_option maxRecDepth 100000
set_option maxHeartbeats 4000000
theorem needTake (o:List Int):needV (o.take 9)=needV o:=by
 cases ho:ord o with
 | true=>rw [ord_take_eq ho]
 | false=>rw [needV,take_F ho,if_neg (by decide),needV,ho,if_neg (by decide)]
def zTo (o:List Int) (k:Nat):Bool:=(List.range k).all fun i=>o.getD i 0==0
theorem zTo_succ (o:List Int) (k:Nat):zTo o (k+1)=(zTo o k&&(o.getD k 0==0)):=by
 rw [zTo,zTo,List.range_succ,List.all_append]; simp
theorem zTo_all {o:List Int} (h:zTo o o.length=true):o=zeros o.length:=by
 refine List.ext_getElem (by simp [zeros]) fun i h1 h2=>?_
 have:=List.all_eq_true.1 h i (List.mem_range.2 h1)
 rw [List.getD,List.getElem?_eq_getElem h1,Option.getD_some,beq_iff_eq] at this
 rw [this]; simp [zeros]
theorem bld73 {K:Value→Prop}:Ww prog 73 [(0,.int .i64 0),(1,.int .i64 0),(2,.int .i64 1),(3,.int .i64 3),(4,.int .i64 5),(5,.int .i64 7),(6,.int .i64 10)] K=K (.agg #[.int .i64 0,.int .i64 0,.int .i64 1,.int .i64 3,.int .i64 5,.int .i64 7,.int .i64 10]):=by
 simp [Ww,zero_73,fillL,pl_73_0,pl_73_1,pl_73_2,pl_73_3,pl_73_4,pl_73_5,pl_73_6,Va,cellsOf,Yj]
theorem idx73 {n:Nat} (h:n≤6) {K:Value→Prop}:Vh prog 73 (.agg #[.int .i64 0,.int .i64 0,.int .i64 1,.int .i64 3,.int .i64 5,.int .i64 7,.int .i64 10]) (Zx (n:Nat)) K=K (Zx (knownN n:Nat)):=by
 have hs:shp prog 3=some none:=Xd
 match n,h with
 | 0,_=>simp [Vh,und_73,Xk,partK,Xd]; rfl
 | 1,_=>simp [Vh,und_73,Xk,partK,Xd]; rfl
 | 2,_=>simp [Vh,und_73,Xk,partK,Xd]; rfl
 | 3,_=>simp [Vh,und_73,Xk,partK,Xd]; rfl
 | 4,_=>simp [Vh,und_73,Xk,partK,Xd]; rfl
 | 5,_=>simp [Vh,und_73,Xk,partK,Xd]; rfl
 | 6,_=>simp [Vh,und_73,Xk,partK,Xd]; rfl
theorem need_zero {o:List Int} (ho:ord o=true):Vg o=0↔cn o=1:=by
 obtain ⟨h1,h2,h3⟩:=needN_spec ho
 constructor
 · intro h
   rw [h,Wv,beq_iff_eq] at h2
   exact h2
 · intro h
   exact needN_of (by decide) (by rw [Wv,h]; rfl) fun k hk=>absurd hk (Nat.not_lt_zero k)
theorem need_add {o:List Int} (ho:ord o=true) {i j:Nat} (hi:i<o.length) (hj:j<o.length) (hf:fr o i j=true):Vg (Wp o i j)≤Vg o:=by
 obtain ⟨f1,f2,f3⟩:=fr_out hf
 have o1:=Xu ho hi hj f1 f3
 obtain ⟨h1,h2,h3⟩:=needN_spec ho
 obtain ⟨g1,g2,g3⟩:=needN_spec o1
 have hs:=srtb_sub (Vg o) ho o1 Xh (fun a b h=>by rw [addL_ab hi ho,addR,h]; rfl) h2
 rcases Nat.lt_or_ge (Vg o) (Vg (Wp o i j)) with h | h
 · have:=g3 _ h
   rw [hs] at this; cases this
 · exact h
theorem s13_callW [Tabs Tryd.prog] {args:List Value} {h:Yb} {Q:Value→Yb→Prop} (hsz:args.length≤164) (hk:AWS Tryd.prog 164 s13 (Zu Tryd.prog [.tmp 6] Q) (Zp 0 args) h):ACall Tryd.prog 13 args h Q :=
 Wn Tryd.func13 rfl (enters_of Tryd.func13 (by kernel_rfl) rfl) rfl rfl (by decide) s13_strip s13_ok hsz hk
theorem law_needs [BitTab prog 1] {h:Yb} {v:Value} {o:List Int} (hv:IntSl h v o) (hl:o.length<9223372036854775808) (hx : ∀ x∈o,-9223372036854775808≤x∧x<9223372036854775808) (i j:Int) :
  ACall prog 13 [v,Zx i,Zx j] h fun r _=>r = .bool true:=by
 have hx9 : ∀ x∈o.take 9,-9223372036854775808≤x∧x<9223372036854775808:=fun x hm=>hx x (List.take_subset _ _ hm)
 have hl9:(o.take 9).length<9223372036854775808:=by simp; omega
 have n00:((0:Int) != 0)=false:=rfl
 have n20:((2:Int) != 0)=true:=rfl
 have n50:((5:Int) != 0)=true:=rfl
 have e55:((5:Int)==5)=true:=rfl
 have e22:((2:Int)==2)=true:=rfl
 have e00:((0:Int)==0)=true:=rfl
 refine s13_callW (by simp) ?_
 simp only [s13]
 refine Yc fun N1 hN1=>?_
 simp (maxSteps:=2000000) only [s13,↓Za,↓Zi,↓Zr,↓Ze,↓Zj,↓Zs,↓Zg,↓Zo,↓Zf,↓Zb,↓Zc,↓vdn,vup,Zm,Zk,Zn,Zl,Zh,List.map_cons,List.map_nil,cond_true,cond_false,aop,Zv,Zq,Zp,ev,sput,Zt,Zy,Ya,unK,Zd,Zw,Nat.reduceBEq,Nat.reduceAdd,Int.reduceBEq,Int.reduceBNe,Int.reduceLT,Zu,Zz,tup,tyf]
 refine hN1 [(0,v),(1,Zx i),(2,Zx j),(6,.bool false)] _ _ ?_ (by simp (maxSteps:=2000000) only [↓Za,↓Zi,↓Zr,↓Ze,↓Zj,↓Zs,↓Zg,↓Zo,↓Zf,↓Zb,↓Zc,↓vdn,vup,Zm,Zk,Zn,Zl,Zh,List.map_cons,List.map_nil,cond_true,cond_false,aop,Zv,Zq,Zp,ev,sput,Zt,Zy,Ya,unK,Zd,Zw,Nat.reduceBEq,Nat.reduceAdd,Int.reduceBEq,Int.reduceBNe,Int.reduceLT,Zu,Zz,tup,tyf])
 clear hN1
 try clear N1
 refine Yc fun N2 hN2=>?_
 simp (maxSteps:=2000000) only [s13,↓Za,↓Zi,↓Zr,↓Ze,↓Zj,↓Zs,↓Zg,↓Zo,↓Zf,↓Zb,↓Zc,↓vdn,vup,Zm,Zk,Zn,Zl,Zh,List.map_cons,List.map_nil,cond_true,cond_false,aop,Zv,Zq,Zp,ev,sput,Zt,Zy,Ya,unK,Zd,Zw,Nat.reduceBEq,Nat.reduceAdd,Int.reduceBEq,Int.reduceBNe,Int.reduceLT,Zu,Zz,tup,tyf,Yr,List.nil_append,List.append_nil,List.toList_toArray,List.cons_append]
 refine (list_call hv hl).mono ?_
 rintro l1 _ ⟨hl1,g1,rfl⟩
 refine (progNeed_call hl1 hl9 hx9).mono ?_
 rintro _ _ ⟨rfl,rfl⟩
 rw [needTake]
 have hv1:=hv.grow g1
 generalize h++g1=h1 at hv1 ⊢
 cases ho:ord o with
 | false =>
   rw [needV,ho,if_neg (by decide)]
   try simp (maxSteps:=2000000) only [s13,↓Za,↓Zi,↓Zr,↓Ze,↓Zj,↓Zs,↓Zg,↓Zo,↓Zf,↓Zb,↓Zc,↓vdn,vup,Zm,Zk,Zn,Zl,Zh,List.map_cons,List.map_nil,cond_true,cond_false,aop,Zv,Zq,Zp,ev,sput,Zt,Zy,Ya,unK,Zd,Zw,Nat.reduceBEq,Nat.reduceAdd,Int.reduceBEq,Int.reduceBNe,Int.reduceLT,Zu,Zz,tup,tyf]
   refine hN2 [(0,v),(1,Zx i),(2,Zx j),(6,.bool false),(7,.int .i64 0),(8,.int .i64 2)] _ _ ?_ (by simp (maxSteps:=2000000) only [↓Za,↓Zi,↓Zr,↓Ze,↓Zj,↓Zs,↓Zg,↓Zo,↓Zf,↓Zb,↓Zc,↓vdn,vup,Zm,Zk,Zn,Zl,Zh,List.map_cons,List.map_nil,cond_true,cond_false,aop,Zv,Zq,Zp,ev,sput,Zt,Zy,Ya,unK,Zd,Zw,Nat.reduceBEq,Nat.reduceAdd,Int.reduceBEq,Int.reduceBNe,Int.reduceLT,Zu,Zz,tup,tyf])
   clear hN2
   try clear N2
   refine Ym fun A hA=>?_
   refine Yc fun N3 hN3=>?_
   simp (maxSteps:=2000000) only [s13,↓Za,↓Zi,↓Zr,↓Ze,↓Zj,↓Zs,↓Zg,↓Zo,↓Zf,↓Zb,↓Zc,↓vdn,vup,Zm,Zk,Zn,Zl,Zh,List.map_cons,List.map_nil,cond_true,cond_false,aop,Zv,Zq,Zp,ev,sput,Zt,Zy,Ya,unK,Zd,Zw,Nat.reduceBEq,Nat.reduceAdd,Int.reduceBEq,Int.reduceBNe,Int.reduceLT,Zu,Zz,tup,tyf,n20]
   refine hN3 [(0,v),(1,Zx i),(2,Zx j),(6,.bool false),(7,.int .i64 0),(8,.int .i64 2),(33,.bool true)] _ _ ?_ (by simp (maxSteps:=2000000) only [↓Za,↓Zi,↓Zr,↓Ze,↓Zj,↓Zs,↓Zg,↓Zo,↓Zf,↓Zb,↓Zc,↓vdn,vup,Zm,Zk,Zn,Zl,Zh,List.map_cons,List.map_nil,cond_true,cond_false,aop,Zv,Zq,Zp,ev,sput,Zt,Zy,Ya,unK,Zd,Zw,Nat.reduceBEq,Nat.reduceAdd,Int.reduceBEq,Int.reduceBNe,Int.reduceLT,Zu,Zz,tup,tyf])
   clear hN3
   try clear N3
   refine Xb rfl ?_
   refine Yf ?_
   simp (maxSteps:=2000000) only [s13,↓Za,↓Zi,↓Zr,↓Ze,↓Zj,↓Zs,↓Zg,↓Zo,↓Zf,↓Zb,↓Zc,↓vdn,vup,Zm,Zk,Zn,Zl,Zh,List.map_cons,List.map_nil,cond_true,cond_false,aop,Zv,Zq,Zp,ev,sput,Zt,Zy,Ya,unK,Zd,Zw,Nat.reduceBEq,Nat.reduceAdd,Int.reduceBEq,Int.reduceBNe,Int.reduceLT,Zu,Zz,tup,tyf,e22,Yr,List.nil_append,List.append_nil,List.toList_toArray,List.cons_append]
   refine awake_call.mono ?_
   rintro _ _ ⟨rfl,rfl⟩
   try simp (maxSteps:=2000000) only [s13,↓Za,↓Zi,↓Zr,↓Ze,↓Zj,↓Zs,↓Zg,↓Zo,↓Zf,↓Zb,↓Zc,↓vdn,vup,Zm,Zk,Zn,Zl,Zh,List.map_cons,List.map_nil,cond_true,cond_false,aop,Zv,Zq,Zp,ev,sput,Zt,Zy,Ya,unK,Zd,Zw,Nat.reduceBEq,Nat.reduceAdd,Int.reduceBEq,Int.reduceBNe,Int.reduceLT,Zu,Zz,tup,tyf]
 | true =>
   have hlen:=Yz ho
   have hc720:=cn_720 ho
   have hcp:=cn_pos ho
   obtain ⟨hn16,hnT,hnF⟩:=needN_spec ho
   have hnz:=need_zero ho
   have hncn:=srtb_cn hnT
   have hadd:=fun {a b:Nat} (ha:a<o.length) (hb:b<o.length) (hf:fr o a b=true)=>need_add ho ha hb hf
   have hfree:o=zeros o.length→Vg o=knownN o.length:=fun he=>by
    have:=free_need hlen.1 hlen.2
    rw [← he] at this
    exact needN_of (by have h6:=hlen.2; match o.length,h6 with | 0,_=>decide | 1,_=>decide | 2,_=>decide | 3,_=>decide | 4,_=>decide | 5,_=>decide | 6,_=>decide) this.1 this.2
   rw [needV,ho,if_pos rfl]
   try simp (maxSteps:=2000000) only [s13,↓Za,↓Zi,↓Zr,↓Ze,↓Zj,↓Zs,↓Zg,↓Zo,↓Zf,↓Zb,↓Zc,↓vdn,vup,Zm,Zk,Zn,Zl,Zh,List.map_cons,List.map_nil,cond_true,cond_false,aop,Zv,Zq,Zp,ev,sput,Zt,Zy,Ya,unK,Zd,Zw,Nat.reduceBEq,Nat.reduceAdd,Int.reduceBEq,Int.reduceBNe,Int.reduceLT,Zu,Zz,tup,tyf]
   refine hN2 [(0,v),(1,Zx i),(2,Zx j),(6,.bool false),(7,Zx (Vg o:Nat)),(8,.int .i64 0)] _ _ ?_ (by simp (maxSteps:=2000000) only [↓Za,↓Zi,↓Zr,↓Ze,↓Zj,↓Zs,↓Zg,↓Zo,↓Zf,↓Zb,↓Zc,↓vdn,vup,Zm,Zk,Zn,Zl,Zh,List.map_cons,List.map_nil,cond_true,cond_false,aop,Zv,Zq,Zp,ev,sput,Zt,Zy,Ya,unK,Zd,Zw,Nat.reduceBEq,Nat.reduceAdd,Int.reduceBEq,Int.reduceBNe,Int.reduceLT,Zu,Zz,tup,tyf])
   clear hN2
   try clear N2
   refine Ym fun A hA=>?_
   refine Yc fun N4 hN4=>?_
   simp (maxSteps:=2000000) only [s13,↓Za,↓Zi,↓Zr,↓Ze,↓Zj,↓Zs,↓Zg,↓Zo,↓Zf,↓Zb,↓Zc,↓vdn,vup,Zm,Zk,Zn,Zl,Zh,List.map_cons,List.map_nil,cond_true,cond_false,aop,Zv,Zq,Zp,ev,sput,Zt,Zy,Ya,unK,Zd,Zw,Nat.reduceBEq,Nat.reduceAdd,Int.reduceBEq,Int.reduceBNe,Int.reduceLT,Zu,Zz,tup,tyf,n00,Yr,List.nil_append,List.append_nil,List.toList_toArray,List.cons_append]
   refine (rorder_call hv1 hl hx).mono ?_
   rintro _ h2 ⟨rfl,rfl⟩
   simp (maxSteps:=2000000) only [s13,↓Za,↓Zi,↓Zr,↓Ze,↓Zj,↓Zs,↓Zg,↓Zo,↓Zf,↓Zb,↓Zc,↓vdn,vup,Zm,Zk,Zn,Zl,Zh,List.map_cons,List.map_nil,cond_true,cond_false,aop,Zv,Zq,Zp,ev,sput,Zt,Zy,Ya,unK,Zd,Zw,Nat.reduceBEq,Nat.reduceAdd,Int.reduceBEq,Int.reduceBNe,Int.reduceLT,Zu,Zz,tup,tyf,ho]
   refine hN4 [(0,v),(1,Zx i),(2,Zx j),(6,.bool false),(7,Zx (Vg o:Nat)),(8,.int .i64 0),(33,.bool false)] _ _ ?_ (by simp (maxSteps:=2000000) only [↓Za,↓Zi,↓Zr,↓Ze,↓Zj,↓Zs,↓Zg,↓Zo,↓Zf,↓Zb,↓Zc,↓vdn,vup,Zm,Zk,Zn,Zl,Zh,List.map_cons,List.map_nil,cond_true,cond_false,aop,Zv,Zq,Zp,ev,sput,Zt,Zy,Ya,unK,Zd,Zw,Nat.reduceBEq,Nat.reduceAdd,Int.reduceBEq,Int.reduceBNe,Int.reduceLT,Zu,Zz,tup,tyf])
   clear hN4
   try clear N4
   refine Xa rfl ?_
   refine Yf ?_
   try simp (maxSteps:=2000000) only [s13,↓Za,↓Zi,↓Zr,↓Ze,↓Zj,↓Zs,↓Zg,↓Zo,↓Zf,↓Zb,↓Zc,↓vdn,vup,Zm,Zk,Zn,Zl,Zh,List.map_cons,List.map_nil,cond_true,cond_false,aop,Zv,Zq,Zp,ev,sput,Zt,Zy,Ya,unK,Zd,Zw,Nat.reduceBEq,Nat.reduceAdd,Int.reduceBEq,Int.reduceBNe,Int.reduceLT,Zu,Zz,tup,tyf]
   refine hA [(0,v),(1,Zx i),(2,Zx j),(6,.bool false),(7,Zx (Vg o:Nat)),(8,.int .i64 0)] _ _ ?_ (by simp (maxSteps:=2000000) only [↓Za,↓Zi,↓Zr,↓Ze,↓Zj,↓Zs,↓Zg,↓Zo,↓Zf,↓Zb,↓Zc,↓vdn,vup,Zm,Zk,Zn,Zl,Zh,List.map_cons,List.map_nil,cond_true,cond_false,aop,Zv,Zq,Zp,ev,sput,Zt,Zy,Ya,unK,Zd,Zw,Nat.reduceBEq,Nat.reduceAdd,Int.reduceBEq,Int.reduceBNe,Int.reduceLT,Zu,Zz,tup,tyf])
   clear hA
   try clear A
   refine Yc fun N5 hN5=>?_
   simp (maxSteps:=2000000) only [s13,↓Za,↓Zi,↓Zr,↓Ze,↓Zj,↓Zs,↓Zg,↓Zo,↓Zf,↓Zb,↓Zc,↓vdn,vup,Zm,Zk,Zn,Zl,Zh,List.map_cons,List.map_nil,cond_true,cond_false,aop,Zv,Zq,Zp,ev,sput,Zt,Zy,Ya,unK,Zd,Zw,Nat.reduceBEq,Nat.reduceAdd,Int.reduceBEq,Int.reduceBNe,Int.reduceLT,Zu,Zz,tup,tyf,Yr,List.nil_append,List.append_nil,List.toList_toArray,List.cons_append]
   refine (list_call hv1 hl).mono ?_
   rintro l2 _ ⟨hl2,g2,rfl⟩
   rw [ord_take_eq ho] at hl2
   refine (sort_call hl2 hl hx).mono ?_
   rintro _ h3 ⟨hE3,s,e,rfl,hsr⟩
   rw [SortR,ho,if_pos rfl] at hsr
   obtain ⟨rfl,P,hP,hP8,hisP,hlenP⟩:=hsr
   have hv3:=Vz (hv1.grow g2) hE3
   try simp (maxSteps:=2000000) only [s13,↓Za,↓Zi,↓Zr,↓Ze,↓Zj,↓Zs,↓Zg,↓Zo,↓Zf,↓Zb,↓Zc,↓vdn,vup,Zm,Zk,Zn,Zl,Zh,List.map_cons,List.map_nil,cond_true,cond_false,aop,Zv,Zq,Zp,ev,sput,Zt,Zy,Ya,unK,Zd,Zw,Nat.reduceBEq,Nat.reduceAdd,Int.reduceBEq,Int.reduceBNe,Int.reduceLT,Zu,Zz,tup,tyf]
   refine hN5 [(0,v),(1,Zx i),(2,Zx j),(6,.bool false),(7,Zx (Vg o:Nat)),(8,.int .i64 0),(9,s),(10,.int .i64 0)] _ _ ?_ (by simp (maxSteps:=2000000) only [↓Za,↓Zi,↓Zr,↓Ze,↓Zj,↓Zs,↓Zg,↓Zo,↓Zf,↓Zb,↓Zc,↓vdn,vup,Zm,Zk,Zn,Zl,Zh,List.map_cons,List.map_nil,cond_true,cond_false,aop,Zv,Zq,Zp,ev,sput,Zt,Zy,Ya,unK,Zd,Zw,Nat.reduceBEq,Nat.reduceAdd,Int.reduceBEq,Int.reduceBNe,Int.reduceLT,Zu,Zz,tup,tyf])
   clear hN5
   try clear N5
   refine Yc fun N6 hN6=>?_
   simp (maxSteps:=2000000) only [s13,↓Za,↓Zi,↓Zr,↓Ze,↓Zj,↓Zs,↓Zg,↓Zo,↓Zf,↓Zb,↓Zc,↓vdn,vup,Zm,Zk,Zn,Zl,Zh,List.map_cons,List.map_nil,cond_true,cond_false,aop,Zv,Zq,Zp,ev,sput,Zt,Zy,Ya,unK,Zd,Zw,Nat.reduceBEq,Nat.reduceAdd,Int.reduceBEq,Int.reduceBNe,Int.reduceLT,Zu,Zz,tup,tyf,Yr,List.nil_append,List.append_nil,List.toList_toArray,List.cons_append]
   refine (list_call hv3 hl).mono ?_
   rintro l4 _ ⟨hl4,g4,rfl⟩
   rw [ord_take_eq ho] at hl4
   refine (check_call hl4 hl hx (hP.grow g4) (by omega)).mono ?_
   rintro _ _ ⟨rfl,rfl⟩
   rw [checkV,ho,if_pos rfl,hisP,hlenP,if_pos ⟨rfl,rfl⟩]
   have hv5:=hv3.grow g4
   generalize h3++g4=h5 at hv5 ⊢
   try simp (maxSteps:=2000000) only [s13,↓Za,↓Zi,↓Zr,↓Ze,↓Zj,↓Zs,↓Zg,↓Zo,↓Zf,↓Zb,↓Zc,↓vdn,vup,Zm,Zk,Zn,Zl,Zh,List.map_cons,List.map_nil,cond_true,cond_false,aop,Zv,Zq,Zp,ev,sput,Zt,Zy,Ya,unK,Zd,Zw,Nat.reduceBEq,Nat.reduceAdd,Int.reduceBEq,Int.reduceBNe,Int.reduceLT,Zu,Zz,tup,tyf]
   refine hN6 [(0,v),(1,Zx i),(2,Zx j),(6,.bool false),(7,Zx (Vg o:Nat)),(8,.int .i64 0),(9,s),(10,.int .i64 0),(11,Zx (Vg o:Nat)),(12,.bool true),(13,.int .i64 0)] _ _ ?_ (by simp (maxSteps:=2000000) only [↓Za,↓Zi,↓Zr,↓Ze,↓Zj,↓Zs,↓Zg,↓Zo,↓Zf,↓Zb,↓Zc,↓vdn,vup,Zm,Zk,Zn,Zl,Zh,List.map_cons,List.map_nil,cond_true,cond_false,aop,Zv,Zq,Zp,ev,sput,Zt,Zy,Ya,unK,Zd,Zw,Nat.reduceBEq,Nat.reduceAdd,Int.reduceBEq,Int.reduceBNe,Int.reduceLT,Zu,Zz,tup,tyf])
   clear hN6
   try clear N6
   refine Yc fun N7 hN7=>?_
   simp (maxSteps:=2000000) only [s13,↓Za,↓Zi,↓Zr,↓Ze,↓Zj,↓Zs,↓Zg,↓Zo,↓Zf,↓Zb,↓Zc,↓vdn,vup,Zm,Zk,Zn,Zl,Zh,List.map_cons,List.map_nil,cond_true,cond_false,aop,Zv,Zq,Zp,ev,sput,Zt,Zy,Ya,unK,Zd,Zw,Nat.reduceBEq,Nat.reduceAdd,Int.reduceBEq,Int.reduceBNe,Int.reduceLT,Zu,Zz,tup,tyf,Yr,List.nil_append,List.append_nil,List.toList_toArray,List.cons_append]
   refine (list_call hv5 hl).mono ?_
   rintro l6 _ ⟨hl6,g6,rfl⟩
   rw [ord_take_eq ho] at hl6
   refine (count_call hl6 hl hx).mono ?_
   rintro _ _ ⟨rfl,rfl⟩
   rw [countV,ho,if_pos rfl]
   have hv6:=hv5.grow g6
   generalize h5++g6=h6 at hv6 ⊢
   try simp (maxSteps:=2000000) only [s13,↓Za,↓Zi,↓Zr,↓Ze,↓Zj,↓Zs,↓Zg,↓Zo,↓Zf,↓Zb,↓Zc,↓vdn,vup,Zm,Zk,Zn,Zl,Zh,List.map_cons,List.map_nil,cond_true,cond_false,aop,Zv,Zq,Zp,ev,sput,Zt,Zy,Ya,unK,Zd,Zw,Nat.reduceBEq,Nat.reduceAdd,Int.reduceBEq,Int.reduceBNe,Int.reduceLT,Zu,Zz,tup,tyf]
   refine hN7 [(0,v),(1,Zx i),(2,Zx j),(6,.bool false),(7,Zx (Vg o:Nat)),(8,.int .i64 0),(9,s),(10,.int .i64 0),(11,Zx (Vg o:Nat)),(12,.bool true),(13,.int .i64 0),(14,Zx (cn o:Nat)),(15,.int .i64 0)] _ _ ?_ (by simp (maxSteps:=2000000) only [↓Za,↓Zi,↓Zr,↓Ze,↓Zj,↓Zs,↓Zg,↓Zo,↓Zf,↓Zb,↓Zc,↓vdn,vup,Zm,Zk,Zn,Zl,Zh,List.map_cons,List.map_nil,cond_true,cond_false,aop,Zv,Zq,Zp,ev,sput,Zt,Zy,Ya,unK,Zd,Zw,Nat.reduceBEq,Nat.reduceAdd,Int.reduceBEq,Int.reduceBNe,Int.reduceLT,Zu,Zz,tup,tyf])
   clear hN7
   try clear N7
   obtain ⟨n,hn⟩ : ∃ n,n=Vg o:=⟨_,rfl⟩
   rw [← hn] at hn16 hnz hncn hfree ⊢
   have q1:(((n:Nat):Int) != ((n:Nat):Int))=false:=by simp
   have q2 : ¬ ((n:Nat):Int)<0:=by omega
   have q3 : ¬ (15:Int)<((n:Nat):Int):=by omega
   have q4:shlV .i64 1 ((n:Nat):Int)=((2 ^ n:Nat):Int):=by rw [shl1 (by omega),Vv]
   have q5 : ¬ ((2 ^ n:Nat):Int)<((cn o:Nat):Int):=fun hc=>absurd (Int.ofNat_lt.1 hc) (Nat.not_lt.2 hncn)
   have q6:((((n:Nat):Int)==0) != (((cn o:Nat):Int)==1))=false:=by
    have:(((n:Nat):Int)==0)=(((cn o:Nat):Int)==1):=by
     rw [Bool.eq_iff_iff,beq_iff_eq,beq_iff_eq]; omega
    rw [this]; simp
   have q0:(0:Int)≤((n:Nat):Int):=Int.natCast_nonneg _
   generalize ((2 ^ n:Nat):Int)=pw at q4 q5
   refine Ym fun B hB=>?_
   refine Yc fun N8 hN8=>?_
   refine Yd 3 fun N1 hN1=>?_
   simp (maxSteps:=2000000) only [s13,↓Za,↓Zi,↓Zr,↓Ze,↓Zj,↓Zs,↓Zg,↓Zo,↓Zf,↓Zb,↓Zc,↓vdn,vup,Zm,Zk,Zn,Zl,Zh,List.map_cons,List.map_nil,cond_true,cond_false,aop,Zv,Zq,Zp,ev,sput,Zt,Zy,Ya,unK,Zd,Zw,Nat.reduceBEq,Nat.reduceAdd,Int.reduceBEq,Int.reduceBNe,Int.reduceLT,Zu,Zz,tup,tyf,List.take_succ_cons,List.take_zero,n00]
   refine hN1 _ _ ?_
   clear hN1 N1
   simp only [List.drop_succ_cons,List.drop_zero]
   refine Yd 2 fun N1 hN1=>?_
   simp (maxSteps:=2000000) only [s13,↓Za,↓Zi,↓Zr,↓Ze,↓Zj,↓Zs,↓Zg,↓Zo,↓Zf,↓Zb,↓Zc,↓vdn,vup,Zm,Zk,Zn,Zl,Zh,List.map_cons,List.map_nil,cond_true,cond_false,aop,Zv,Zq,Zp,ev,sput,Zt,Zy,Ya,unK,Zd,Zw,Nat.reduceBEq,Nat.reduceAdd,Int.reduceBEq,Int.reduceBNe,Int.reduceLT,Zu,Zz,tup,tyf,List.take_succ_cons,List.take_zero,n00]
   refine hN1 _ _ ?_
   clear hN1 N1
   simp only [List.drop_succ_cons,List.drop_zero]
   refine Yd 2 fun N1 hN1=>?_
   simp (maxSteps:=2000000) only [s13,↓Za,↓Zi,↓Zr,↓Ze,↓Zj,↓Zs,↓Zg,↓Zo,↓Zf,↓Zb,↓Zc,↓vdn,vup,Zm,Zk,Zn,Zl,Zh,List.map_cons,List.map_nil,cond_true,cond_false,aop,Zv,Zq,Zp,ev,sput,Zt,Zy,Ya,unK,Zd,Zw,Nat.reduceBEq,Nat.reduceAdd,Int.reduceBEq,Int.reduceBNe,Int.reduceLT,Zu,Zz,tup,tyf,List.take_succ_cons,List.take_zero]
   refine hN1 _ _ ?_
   clear hN1 N1
   simp only [List.drop_succ_cons,List.drop_zero]
   refine Yd 2 fun N1 hN1=>?_
   simp (maxSteps:=2000000) only [s13,↓Za,↓Zi,↓Zr,↓Ze,↓Zj,↓Zs,↓Zg,↓Zo,↓Zf,↓Zb,↓Zc,↓vdn,vup,Zm,Zk,Zn,Zl,Zh,List.map_cons,List.map_nil,cond_true,cond_false,aop,Zv,Zq,Zp,ev,sput,Zt,Zy,Ya,unK,Zd,Zw,Nat.reduceBEq,Nat.reduceAdd,Int.reduceBEq,Int.reduceBNe,Int.reduceLT,Zu,Zz,tup,tyf,List.take_succ_cons,List.take_zero,n00]
   refine hN1 _ _ ?_
   clear hN1 N1
   simp only [List.drop_succ_cons,List.drop_zero]
   refine Yd 2 fun N1 hN1=>?_
   simp (maxSteps:=2000000) only [s13,↓Za,↓Zi,↓Zr,↓Ze,↓Zj,↓Zs,↓Zg,↓Zo,↓Zf,↓Zb,↓Zc,↓vdn,vup,Zm,Zk,Zn,Zl,Zh,List.map_cons,List.map_nil,cond_true,cond_false,aop,Zv,Zq,Zp,ev,sput,Zt,Zy,Ya,unK,Zd,Zw,Nat.reduceBEq,Nat.reduceAdd,Int.reduceBEq,Int.reduceBNe,Int.reduceLT,Zu,Zz,tup,tyf,List.take_succ_cons,List.take_zero]
   refine hN1 _ _ ?_
   clear hN1 N1
   simp only [List.drop_succ_cons,List.drop_zero]
   refine Yd 2 fun N1 hN1=>?_
   simp (maxSteps:=2000000) only [s13,↓Za,↓Zi,↓Zr,↓Ze,↓Zj,↓Zs,↓Zg,↓Zo,↓Zf,↓Zb,↓Zc,↓vdn,vup,Zm,Zk,Zn,Zl,Zh,List.map_cons,List.map_nil,cond_true,cond_false,aop,Zv,Zq,Zp,ev,sput,Zt,Zy,Ya,unK,Zd,Zw,Nat.reduceBEq,Nat.reduceAdd,Int.reduceBEq,Int.reduceBNe,Int.reduceLT,Zu,Zz,tup,tyf,List.take_succ_cons,List.take_zero]
   refine hN1 _ _ ?_
   clear hN1 N1
   simp only [List.drop_succ_cons,List.drop_zero]
   refine Yd 2 fun N1 hN1=>?_
   simp (maxSteps:=2000000) only [s13,↓Za,↓Zi,↓Zr,↓Ze,↓Zj,↓Zs,↓Zg,↓Zo,↓Zf,↓Zb,↓Zc,↓vdn,vup,Zm,Zk,Zn,Zl,Zh,List.map_cons,List.map_nil,cond_true,cond_false,aop,Zv,Zq,Zp,ev,sput,Zt,Zy,Ya,unK,Zd,Zw,Nat.reduceBEq,Nat.reduceAdd,Int.reduceBEq,Int.reduceBNe,Int.reduceLT,Zu,Zz,tup,tyf,List.take_succ_cons,List.take_zero]
   refine hN1 _ _ ?_
   clear hN1 N1
   simp only [List.drop_succ_cons,List.drop_zero]
   refine Yd 3 fun N1 hN1=>?_
   simp (maxSteps:=2000000) only [s13,↓Za,↓Zi,↓Zr,↓Ze,↓Zj,↓Zs,↓Zg,↓Zo,↓Zf,↓Zb,↓Zc,↓vdn,vup,Zm,Zk,Zn,Zl,Zh,List.map_cons,List.map_nil,cond_true,cond_false,aop,Zv,Zq,Zp,ev,sput,Zt,Zy,Ya,unK,Zd,Zw,Nat.reduceBEq,Nat.reduceAdd,Int.reduceBEq,Int.reduceBNe,Int.reduceLT,Zu,Zz,tup,tyf,List.take_succ_cons,List.take_zero,q1]
   refine hN1 _ _ ?_
   clear hN1 N1
   simp only [List.drop_succ_cons,List.drop_zero]
   refine Yd 2 fun N1 hN1=>?_
   simp (maxSteps:=2000000) only [s13,↓Za,↓Zi,↓Zr,↓Ze,↓Zj,↓Zs,↓Zg,↓Zo,↓Zf,↓Zb,↓Zc,↓vdn,vup,Zm,Zk,Zn,Zl,Zh,List.map_cons,List.map_nil,cond_true,cond_false,aop,Zv,Zq,Zp,ev,sput,Zt,Zy,Ya,unK,Zd,Zw,Nat.reduceBEq,Nat.reduceAdd,Int.reduceBEq,Int.reduceBNe,Int.reduceLT,Zu,Zz,tup,tyf,List.take_succ_cons,List.take_zero]
   refine hN1 _ _ ?_
   clear hN1 N1
   simp only [List.drop_succ_cons,List.drop_zero]
   refine Yd 2 fun N1 hN1=>?_
   simp (maxSteps:=2000000) only [s13,↓Za,↓Zi,↓Zr,↓Ze,↓Zj,↓Zs,↓Zg,↓Zo,↓Zf,↓Zb,↓Zc,↓vdn,vup,Zm,Zk,Zn,Zl,Zh,List.map_cons,List.map_nil,cond_true,cond_false,aop,Zv,Zq,Zp,ev,sput,Zt,Zy,Ya,unK,Zd,Zw,Nat.reduceBEq,Nat.reduceAdd,Int.reduceBEq,Int.reduceBNe,Int.reduceLT,Zu,Zz,tup,tyf,List.take_succ_cons,List.take_zero,q2,decide_false]
   refine hN1 _ _ ?_
   clear hN1 N1
   simp only [List.drop_succ_cons,List.drop_zero]
   refine Yd 2 fun N1 hN1=>?_
   simp (maxSteps:=2000000) only [s13,↓Za,↓Zi,↓Zr,↓Ze,↓Zj,↓Zs,↓Zg,↓Zo,↓Zf,↓Zb,↓Zc,↓vdn,vup,Zm,Zk,Zn,Zl,Zh,List.map_cons,List.map_nil,cond_true,cond_false,aop,Zv,Zq,Zp,ev,sput,Zt,Zy,Ya,unK,Zd,Zw,Nat.reduceBEq,Nat.reduceAdd,Int.reduceBEq,Int.reduceBNe,Int.reduceLT,Zu,Zz,tup,tyf,List.take_succ_cons,List.take_zero]
   refine hN1 _ _ ?_
   clear hN1 N1
   simp only [List.drop_succ_cons,List.drop_zero]
   refine Yd 2 fun N1 hN1=>?_
   simp (maxSteps:=2000000) only [s13,↓Za,↓Zi,↓Zr,↓Ze,↓Zj,↓Zs,↓Zg,↓Zo,↓Zf,↓Zb,↓Zc,↓vdn,vup,Zm,Zk,Zn,Zl,Zh,List.map_cons,List.map_nil,cond_true,cond_false,aop,Zv,Zq,Zp,ev,sput,Zt,Zy,Ya,unK,Zd,Zw,Nat.reduceBEq,Nat.reduceAdd,Int.reduceBEq,Int.reduceBNe,Int.reduceLT,Zu,Zz,tup,tyf,List.take_succ_cons,List.take_zero,gt_iff_lt,q3,decide_false]
   refine hN1 _ _ ?_
   clear hN1 N1
   simp only [List.drop_succ_cons,List.drop_zero]
   refine Yd 2 fun N1 hN1=>?_
   simp (maxSteps:=2000000) only [s13,↓Za,↓Zi,↓Zr,↓Ze,↓Zj,↓Zs,↓Zg,↓Zo,↓Zf,↓Zb,↓Zc,↓vdn,vup,Zm,Zk,Zn,Zl,Zh,List.map_cons,List.map_nil,cond_true,cond_false,aop,Zv,Zq,Zp,ev,sput,Zt,Zy,Ya,unK,Zd,Zw,Nat.reduceBEq,Nat.reduceAdd,Int.reduceBEq,Int.reduceBNe,Int.reduceLT,Zu,Zz,tup,tyf,List.take_succ_cons,List.take_zero]
   refine hN1 _ _ ?_
   clear hN1 N1
   simp only [List.drop_succ_cons,List.drop_zero]
   refine Yd 4 fun N1 hN1=>?_
   simp (maxSteps:=2000000) only [s13,↓Za,↓Zi,↓Zr,↓Ze,↓Zj,↓Zs,↓Zg,↓Zo,↓Zf,↓Zb,↓Zc,↓vdn,vup,Zm,Zk,Zn,Zl,Zh,List.map_cons,List.map_nil,cond_true,cond_false,aop,Zv,Zq,Zp,ev,sput,Zt,Zy,Ya,unK,Zd,Zw,Nat.reduceBEq,Nat.reduceAdd,Int.reduceBEq,Int.reduceBNe,Int.reduceLT,Zu,Zz,tup,tyf,List.take_succ_cons,List.take_zero,q0,q4,gt_iff_lt,q5,decide_false]
   refine hN1 _ _ ?_
   clear hN1 N1
   simp only [List.drop_succ_cons,List.drop_zero]
   refine Yd 2 fun N1 hN1=>?_
   simp (maxSteps:=2000000) only [s13,↓Za,↓Zi,↓Zr,↓Ze,↓Zj,↓Zs,↓Zg,↓Zo,↓Zf,↓Zb,↓Zc,↓vdn,vup,Zm,Zk,Zn,Zl,Zh,List.map_cons,List.map_nil,cond_true,cond_false,aop,Zv,Zq,Zp,ev,sput,Zt,Zy,Ya,unK,Zd,Zw,Nat.reduceBEq,Nat.reduceAdd,Int.reduceBEq,Int.reduceBNe,Int.reduceLT,Zu,Zz,tup,tyf,List.take_succ_cons,List.take_zero]
   refine hN1 _ _ ?_
   clear hN1 N1
   simp only [List.drop_succ_cons,List.drop_zero]
   refine Yd 5 fun N1 hN1=>?_
   simp (maxSteps:=2000000) only [s13,↓Za,↓Zi,↓Zr,↓Ze,↓Zj,↓Zs,↓Zg,↓Zo,↓Zf,↓Zb,↓Zc,↓vdn,vup,Zm,Zk,Zn,Zl,Zh,List.map_cons,List.map_nil,cond_true,cond_false,aop,Zv,Zq,Zp,ev,sput,Zt,Zy,Ya,unK,Zd,Zw,Nat.reduceBEq,Nat.reduceAdd,Int.reduceBEq,Int.reduceBNe,Int.reduceLT,Zu,Zz,tup,tyf,List.take_succ_cons,List.take_zero,q6]
   refine hN1 _ _ ?_
   clear hN1 N1
   simp only [List.drop_succ_cons,List.drop_zero]
   simp (maxSteps:=2000000) only [s13,↓Za,↓Zi,↓Zr,↓Ze,↓Zj,↓Zs,↓Zg,↓Zo,↓Zf,↓Zb,↓Zc,↓vdn,vup,Zm,Zk,Zn,Zl,Zh,List.map_cons,List.map_nil,cond_true,cond_false,aop,Zv,Zq,Zp,ev,sput,Zt,Zy,Ya,unK,Zd,Zw,Nat.reduceBEq,Nat.reduceAdd,Int.reduceBEq,Int.reduceBNe,Int.reduceLT,Zu,Zz,tup,tyf]
   refine hN8 [(0,v),(1,Zx i),(2,Zx j),(6,.bool false),(7,Zx (n:Nat)),(8,.int .i64 0),(9,s),(10,.int .i64 0),(11,Zx (n:Nat)),(12,.bool true),(13,.int .i64 0),(14,Zx (cn o:Nat)),(15,.int .i64 0),(98,.bool false)] _ _ ?_ (by simp (maxSteps:=2000000) only [↓Za,↓Zi,↓Zr,↓Ze,↓Zj,↓Zs,↓Zg,↓Zo,↓Zf,↓Zb,↓Zc,↓vdn,vup,Zm,Zk,Zn,Zl,Zh,List.map_cons,List.map_nil,cond_true,cond_false,aop,Zv,Zq,Zp,ev,sput,Zt,Zy,Ya,unK,Zd,Zw,Nat.reduceBEq,Nat.reduceAdd,Int.reduceBEq,Int.reduceBNe,Int.reduceLT,Zu,Zz,tup,tyf])
   clear hN8
   try clear N8
   refine Xa rfl ?_
   refine Yf ?_
   try simp (maxSteps:=2000000) only [s13,↓Za,↓Zi,↓Zr,↓Ze,↓Zj,↓Zs,↓Zg,↓Zo,↓Zf,↓Zb,↓Zc,↓vdn,vup,Zm,Zk,Zn,Zl,Zh,List.map_cons,List.map_nil,cond_true,cond_false,aop,Zv,Zq,Zp,ev,sput,Zt,Zy,Ya,unK,Zd,Zw,Nat.reduceBEq,Nat.reduceAdd,Int.reduceBEq,Int.reduceBNe,Int.reduceLT,Zu,Zz,tup,tyf]
   refine hB [(0,v),(1,Zx i),(2,Zx j),(6,.bool false),(7,Zx (n:Nat)),(8,.int .i64 0)] _ _ ?_ (by simp (maxSteps:=2000000) only [↓Za,↓Zi,↓Zr,↓Ze,↓Zj,↓Zs,↓Zg,↓Zo,↓Zf,↓Zb,↓Zc,↓vdn,vup,Zm,Zk,Zn,Zl,Zh,List.map_cons,List.map_nil,cond_true,cond_false,aop,Zv,Zq,Zp,ev,sput,Zt,Zy,Ya,unK,Zd,Zw,Nat.reduceBEq,Nat.reduceAdd,Int.reduceBEq,Int.reduceBNe,Int.reduceLT,Zu,Zz,tup,tyf])
   clear hB
   try clear B
   clear q1 q2 q3 q4 q5 q6 hncn
   refine Yc fun N9 hN9=>?_
   simp (maxSteps:=2000000) only [s13,↓Za,↓Zi,↓Zr,↓Ze,↓Zj,↓Zs,↓Zg,↓Zo,↓Zf,↓Zb,↓Zc,↓vdn,vup,Zm,Zk,Zn,Zl,Zh,List.map_cons,List.map_nil,cond_true,cond_false,aop,Zv,Zq,Zp,ev,sput,Zt,Zy,Ya,unK,Zd,Zw,Nat.reduceBEq,Nat.reduceAdd,Int.reduceBEq,Int.reduceBNe,Int.reduceLT,Zu,Zz,tup,tyf]
   refine hN9 [(0,v),(1,Zx i),(2,Zx j),(6,.bool false),(7,Zx (n:Nat)),(8,.int .i64 0),(16,.bool true)] _ _ ?_ (by simp (maxSteps:=2000000) only [↓Za,↓Zi,↓Zr,↓Ze,↓Zj,↓Zs,↓Zg,↓Zo,↓Zf,↓Zb,↓Zc,↓vdn,vup,Zm,Zk,Zn,Zl,Zh,List.map_cons,List.map_nil,cond_true,cond_false,aop,Zv,Zq,Zp,ev,sput,Zt,Zy,Ya,unK,Zd,Zw,Nat.reduceBEq,Nat.reduceAdd,Int.reduceBEq,Int.reduceBNe,Int.reduceLT,Zu,Zz,tup,tyf])
   clear hN9
   try clear N9
   refine Ym fun M hM=>?_
   refine Yc fun N10 hN10=>?_
   simp (maxSteps:=2000000) only [s13,↓Za,↓Zi,↓Zr,↓Ze,↓Zj,↓Zs,↓Zg,↓Zo,↓Zf,↓Zb,↓Zc,↓vdn,vup,Zm,Zk,Zn,Zl,Zh,List.map_cons,List.map_nil,cond_true,cond_false,aop,Zv,Zq,Zp,ev,sput,Zt,Zy,Ya,unK,Zd,Zw,Nat.reduceBEq,Nat.reduceAdd,Int.reduceBEq,Int.reduceBNe,Int.reduceLT,Zu,Zz,tup,tyf,hv6.len]
   refine hN10 [(0,v),(1,Zx i),(2,Zx j),(6,.bool false),(7,Zx (n:Nat)),(8,.int .i64 0),(16,.bool true),(99,v),(100,Zx o.length),(101,.int .i64 0)] _ _ ?_ (by simp (maxSteps:=2000000) only [↓Za,↓Zi,↓Zr,↓Ze,↓Zj,↓Zs,↓Zg,↓Zo,↓Zf,↓Zb,↓Zc,↓vdn,vup,Zm,Zk,Zn,Zl,Zh,List.map_cons,List.map_nil,cond_true,cond_false,aop,Zv,Zq,Zp,ev,sput,Zt,Zy,Ya,unK,Zd,Zw,Nat.reduceBEq,Nat.reduceAdd,Int.reduceBEq,Int.reduceBNe,Int.reduceLT,Zu,Zz,tup,tyf])
   clear hN10
   try clear N10
   refine Xp ?_
   refine Xf fun Q hQ=>?_
   refine Vi (γ:=Nat) (fun s=>s≤o.length) (fun s=>([(0,v),(1,Zx i),(2,Zx j),(6,.bool false),(7,Zx (n:Nat)),(8,.int .i64 0),(16,.bool (zTo o s)),(99,v),(100,Zx o.length),(101,Zx (s:Nat))],h6)) (fun s=>o.length-s) 0 (Nat.zero_le _) (by simp (maxSteps:=2000000) only [↓Za,↓Zi,↓Zr,↓Ze,↓Zj,↓Zs,↓Zg,↓Zo,↓Zf,↓Zb,↓Zc,↓vdn,vup,Zm,Zk,Zn,Zl,Zh,List.map_cons,List.map_nil,cond_true,cond_false,aop,Zv,Zq,Zp,ev,sput,Zt,Zy,Ya,unK,Zd,Zw,Nat.reduceBEq,Nat.reduceAdd,Int.reduceBEq,Int.reduceBNe,Int.reduceLT,Zu,Zz,tup,tyf,Int.natCast_zero,show zTo o 0=true from rfl]) rfl ?_
   rintro k hk
   refine Xf fun Q2 hQ2=>?_
   simp only [l13_0]
   by_cases hkn:(k:Int)<o.length
   · have hk' : k<o.length:=by omega
     have hz:=zTo_succ o k
     refine Yc fun N11 hN11=>?_
     simp (maxSteps:=2000000) only [s13,↓Za,↓Zi,↓Zr,↓Ze,↓Zj,↓Zs,↓Zg,↓Zo,↓Zf,↓Zb,↓Zc,↓vdn,vup,Zm,Zk,Zn,Zl,Zh,List.map_cons,List.map_nil,cond_true,cond_false,aop,Zv,Zq,Zp,ev,sput,Zt,Zy,Ya,unK,Zd,Zw,Nat.reduceBEq,Nat.reduceAdd,Int.reduceBEq,Int.reduceBNe,Int.reduceLT,Zu,Zz,tup,tyf,hkn]
     refine hN11 [(0,v),(1,Zx i),(2,Zx j),(6,.bool false),(7,Zx (n:Nat)),(8,.int .i64 0),(16,.bool (zTo o k)),(99,v),(100,Zx o.length),(101,Zx (k:Nat)),(102,.bool true)] _ _ ?_ (by simp (maxSteps:=2000000) only [↓Za,↓Zi,↓Zr,↓Ze,↓Zj,↓Zs,↓Zg,↓Zo,↓Zf,↓Zb,↓Zc,↓vdn,vup,Zm,Zk,Zn,Zl,Zh,List.map_cons,List.map_nil,cond_true,cond_false,aop,Zv,Zq,Zp,ev,sput,Zt,Zy,Ya,unK,Zd,Zw,Nat.reduceBEq,Nat.reduceAdd,Int.reduceBEq,Int.reduceBNe,Int.reduceLT,Zu,Zz,tup,tyf])
     clear hN11
     try clear N11
     refine Yc fun N12 hN12=>?_
     simp (maxSteps:=2000000) only [s13,↓Za,↓Zi,↓Zr,↓Ze,↓Zj,↓Zs,↓Zg,↓Zo,↓Zf,↓Zb,↓Zc,↓vdn,vup,Zm,Zk,Zn,Zl,Zh,List.map_cons,List.map_nil,cond_true,cond_false,aop,Zv,Zq,Zp,ev,sput,Zt,Zy,Ya,unK,Zd,Zw,Nat.reduceBEq,Nat.reduceAdd,Int.reduceBEq,Int.reduceBNe,Int.reduceLT,Zu,Zz,tup,tyf]
     refine hN12 [(0,v),(1,Zx i),(2,Zx j),(6,.bool false),(7,Zx (n:Nat)),(8,.int .i64 0),(16,.bool (zTo o k)),(99,v),(100,Zx o.length),(101,Zx (k:Nat))] _ _ ?_ (by simp (maxSteps:=2000000) only [↓Za,↓Zi,↓Zr,↓Ze,↓Zj,↓Zs,↓Zg,↓Zo,↓Zf,↓Zb,↓Zc,↓vdn,vup,Zm,Zk,Zn,Zl,Zh,List.map_cons,List.map_nil,cond_true,cond_false,aop,Zv,Zq,Zp,ev,sput,Zt,Zy,Ya,unK,Zd,Zw,Nat.reduceBEq,Nat.reduceAdd,Int.reduceBEq,Int.reduceBNe,Int.reduceLT,Zu,Zz,tup,tyf])
     clear hN12
     try clear N12
     refine Ym fun Y hY=>?_
     refine Xp ?_
     refine Yc fun N13 hN13=>?_
     simp (maxSteps:=2000000) only [s13,↓Za,↓Zi,↓Zr,↓Ze,↓Zj,↓Zs,↓Zg,↓Zo,↓Zf,↓Zb,↓Zc,↓vdn,vup,Zm,Zk,Zn,Zl,Zh,List.map_cons,List.map_nil,cond_true,cond_false,aop,Zv,Zq,Zp,ev,sput,Zt,Zy,Ya,unK,Zd,Zw,Nat.reduceBEq,Nat.reduceAdd,Int.reduceBEq,Int.reduceBNe,Int.reduceLT,Zu,Zz,tup,tyf,hv6.idx el_22 Xk hk',hv6.load Xd hk']
     refine hN13 [(0,v),(1,Zx i),(2,Zx j),(6,.bool false),(7,Zx (n:Nat)),(8,.int .i64 0),(16,.bool (zTo o k)),(18,Zx (o.getD k 0)),(99,v),(100,Zx o.length),(101,Zx (k:Nat))] _ _ ?_ (by simp (maxSteps:=2000000) only [↓Za,↓Zi,↓Zr,↓Ze,↓Zj,↓Zs,↓Zg,↓Zo,↓Zf,↓Zb,↓Zc,↓vdn,vup,Zm,Zk,Zn,Zl,Zh,List.map_cons,List.map_nil,cond_true,cond_false,aop,Zv,Zq,Zp,ev,sput,Zt,Zy,Ya,unK,Zd,Zw,Nat.reduceBEq,Nat.reduceAdd,Int.reduceBEq,Int.reduceBNe,Int.reduceLT,Zu,Zz,tup,tyf])
     clear hN13
     try clear N13
     cases hzk:zTo o k with
     | false =>
       rw [hzk,Bool.false_and] at hz
       refine Yf ?_
       try simp (maxSteps:=2000000) only [s13,↓Za,↓Zi,↓Zr,↓Ze,↓Zj,↓Zs,↓Zg,↓Zo,↓Zf,↓Zb,↓Zc,↓vdn,vup,Zm,Zk,Zn,Zl,Zh,List.map_cons,List.map_nil,cond_true,cond_false,aop,Zv,Zq,Zp,ev,sput,Zt,Zy,Ya,unK,Zd,Zw,Nat.reduceBEq,Nat.reduceAdd,Int.reduceBEq,Int.reduceBNe,Int.reduceLT,Zu,Zz,tup,tyf]
       refine hY [(0,v),(1,Zx i),(2,Zx j),(6,.bool false),(7,Zx (n:Nat)),(8,.int .i64 0),(16,.bool false),(99,v),(100,Zx o.length),(101,Zx (k:Nat))] _ _ ?_ (by simp (maxSteps:=2000000) only [↓Za,↓Zi,↓Zr,↓Ze,↓Zj,↓Zs,↓Zg,↓Zo,↓Zf,↓Zb,↓Zc,↓vdn,vup,Zm,Zk,Zn,Zl,Zh,List.map_cons,List.map_nil,cond_true,cond_false,aop,Zv,Zq,Zp,ev,sput,Zt,Zy,Ya,unK,Zd,Zw,Nat.reduceBEq,Nat.reduceAdd,Int.reduceBEq,Int.reduceBNe,Int.reduceLT,Zu,Zz,tup,tyf])
       clear hY
       try clear Y
       refine Yf ?_
       simp (maxSteps:=2000000) only [s13,↓Za,↓Zi,↓Zr,↓Ze,↓Zj,↓Zs,↓Zg,↓Zo,↓Zf,↓Zb,↓Zc,↓vdn,vup,Zm,Zk,Zn,Zl,Zh,List.map_cons,List.map_nil,cond_true,cond_false,aop,Zv,Zq,Zp,ev,sput,Zt,Zy,Ya,unK,Zd,Zw,Nat.reduceBEq,Nat.reduceAdd,Int.reduceBEq,Int.reduceBNe,Int.reduceLT,Zu,Zz,tup,tyf,add1 (show k<9223372036854775807 by omega)]
       exact hQ2 _ _ _ ⟨k+1,hk',by show o.length-(k+1)<o.length-k; omega,by simp (maxSteps:=2000000) only [↓Za,↓Zi,↓Zr,↓Ze,↓Zj,↓Zs,↓Zg,↓Zo,↓Zf,↓Zb,↓Zc,↓vdn,vup,Zm,Zk,Zn,Zl,Zh,List.map_cons,List.map_nil,cond_true,cond_false,aop,Zv,Zq,Zp,ev,sput,Zt,Zy,Ya,unK,Zd,Zw,Nat.reduceBEq,Nat.reduceAdd,Int.reduceBEq,Int.reduceBNe,Int.reduceLT,Zu,Zz,tup,tyf,hz],rfl⟩
     | true =>
       rw [hzk,Bool.true_and] at hz
       refine Yf ?_
       try simp (maxSteps:=2000000) only [s13,↓Za,↓Zi,↓Zr,↓Ze,↓Zj,↓Zs,↓Zg,↓Zo,↓Zf,↓Zb,↓Zc,↓vdn,vup,Zm,Zk,Zn,Zl,Zh,List.map_cons,List.map_nil,cond_true,cond_false,aop,Zv,Zq,Zp,ev,sput,Zt,Zy,Ya,unK,Zd,Zw,Nat.reduceBEq,Nat.reduceAdd,Int.reduceBEq,Int.reduceBNe,Int.reduceLT,Zu,Zz,tup,tyf]
       refine hY [(0,v),(1,Zx i),(2,Zx j),(6,.bool false),(7,Zx (n:Nat)),(8,.int .i64 0),(16,.bool (o.getD k 0==0)),(99,v),(100,Zx o.length),(101,Zx (k:Nat))] _ _ ?_ (by simp (maxSteps:=2000000) only [↓Za,↓Zi,↓Zr,↓Ze,↓Zj,↓Zs,↓Zg,↓Zo,↓Zf,↓Zb,↓Zc,↓vdn,vup,Zm,Zk,Zn,Zl,Zh,List.map_cons,List.map_nil,cond_true,cond_false,aop,Zv,Zq,Zp,ev,sput,Zt,Zy,Ya,unK,Zd,Zw,Nat.reduceBEq,Nat.reduceAdd,Int.reduceBEq,Int.reduceBNe,Int.reduceLT,Zu,Zz,tup,tyf])
       clear hY
       try clear Y
       refine Yf ?_
       simp (maxSteps:=2000000) only [s13,↓Za,↓Zi,↓Zr,↓Ze,↓Zj,↓Zs,↓Zg,↓Zo,↓Zf,↓Zb,↓Zc,↓vdn,vup,Zm,Zk,Zn,Zl,Zh,List.map_cons,List.map_nil,cond_true,cond_false,aop,Zv,Zq,Zp,ev,sput,Zt,Zy,Ya,unK,Zd,Zw,Nat.reduceBEq,Nat.reduceAdd,Int.reduceBEq,Int.reduceBNe,Int.reduceLT,Zu,Zz,tup,tyf,add1 (show k<9223372036854775807 by omega)]
       exact hQ2 _ _ _ ⟨k+1,hk',by show o.length-(k+1)<o.length-k; omega,by simp (maxSteps:=2000000) only [↓Za,↓Zi,↓Zr,↓Ze,↓Zj,↓Zs,↓Zg,↓Zo,↓Zf,↓Zb,↓Zc,↓vdn,vup,Zm,Zk,Zn,Zl,Zh,List.map_cons,List.map_nil,cond_true,cond_false,aop,Zv,Zq,Zp,ev,sput,Zt,Zy,Ya,unK,Zd,Zw,Nat.reduceBEq,Nat.reduceAdd,Int.reduceBEq,Int.reduceBNe,Int.reduceLT,Zu,Zz,tup,tyf,hz],rfl⟩
   · obtain rfl:k=o.length:=by omega
     refine Yc fun N14 hN14=>?_
     simp (maxSteps:=2000000) only [s13,↓Za,↓Zi,↓Zr,↓Ze,↓Zj,↓Zs,↓Zg,↓Zo,↓Zf,↓Zb,↓Zc,↓vdn,vup,Zm,Zk,Zn,Zl,Zh,List.map_cons,List.map_nil,cond_true,cond_false,aop,Zv,Zq,Zp,ev,sput,Zt,Zy,Ya,unK,Zd,Zw,Nat.reduceBEq,Nat.reduceAdd,Int.reduceBEq,Int.reduceBNe,Int.reduceLT,Zu,Zz,tup,tyf,hkn]
     refine hN14 [(0,v),(1,Zx i),(2,Zx j),(6,.bool false),(7,Zx (n:Nat)),(8,.int .i64 0),(16,.bool (zTo o o.length)),(99,v),(100,Zx o.length),(101,Zx (o.length:Nat)),(102,.bool false)] _ _ ?_ (by simp (maxSteps:=2000000) only [↓Za,↓Zi,↓Zr,↓Ze,↓Zj,↓Zs,↓Zg,↓Zo,↓Zf,↓Zb,↓Zc,↓vdn,vup,Zm,Zk,Zn,Zl,Zh,List.map_cons,List.map_nil,cond_true,cond_false,aop,Zv,Zq,Zp,ev,sput,Zt,Zy,Ya,unK,Zd,Zw,Nat.reduceBEq,Nat.reduceAdd,Int.reduceBEq,Int.reduceBNe,Int.reduceLT,Zu,Zz,tup,tyf])
     clear hN14
     try clear N14
     refine Yc fun N15 hN15=>?_
     try simp (maxSteps:=2000000) only [s13,↓Za,↓Zi,↓Zr,↓Ze,↓Zj,↓Zs,↓Zg,↓Zo,↓Zf,↓Zb,↓Zc,↓vdn,vup,Zm,Zk,Zn,Zl,Zh,List.map_cons,List.map_nil,cond_true,cond_false,aop,Zv,Zq,Zp,ev,sput,Zt,Zy,Ya,unK,Zd,Zw,Nat.reduceBEq,Nat.reduceAdd,Int.reduceBEq,Int.reduceBNe,Int.reduceLT,Zu,Zz,tup,tyf]
     refine hQ2 _ _ _ (hQ _ _ _ ?_)
     simp (maxSteps:=2000000) only [s13,↓Za,↓Zi,↓Zr,↓Ze,↓Zj,↓Zs,↓Zg,↓Zo,↓Zf,↓Zb,↓Zc,↓vdn,vup,Zm,Zk,Zn,Zl,Zh,List.map_cons,List.map_nil,cond_true,cond_false,aop,Zv,Zq,Zp,ev,sput,Zt,Zy,Ya,unK,Zd,Zw,Nat.reduceBEq,Nat.reduceAdd,Int.reduceBEq,Int.reduceBNe,Int.reduceLT,Zu,Zz,tup,tyf,if_true]
     obtain ⟨z,hz⟩ : ∃ z,zTo o o.length=z:=⟨_,rfl⟩
     rw [hz]
     refine hM [(0,v),(1,Zx i),(2,Zx j),(6,.bool false),(7,Zx (n:Nat)),(8,.int .i64 0),(16,.bool z),(102,.bool false)] _ _ ?_ (by simp (maxSteps:=2000000) only [↓Za,↓Zi,↓Zr,↓Ze,↓Zj,↓Zs,↓Zg,↓Zo,↓Zf,↓Zb,↓Zc,↓vdn,vup,Zm,Zk,Zn,Zl,Zh,List.map_cons,List.map_nil,cond_true,cond_false,aop,Zv,Zq,Zp,ev,sput,Zt,Zy,Ya,unK,Zd,Zw,Nat.reduceBEq,Nat.reduceAdd,Int.reduceBEq,Int.reduceBNe,Int.reduceLT,Zu,Zz,tup,tyf])
     clear hM
     try clear M
     refine Ym fun B hB=>?_
     have hkn2:z=true→(((n:Nat):Int) != ((knownN o.length:Nat):Int))=false:=fun hzt=>by
      rw [hzt] at hz
      rw [hfree (zTo_all hz)]; simp
     have goOn : ∀ e,ELe e [(0,v),(1,Zx i),(2,Zx j),(6,.bool false),(7,Zx (n:Nat)),(8,.int .i64 0)]→B e h6:=by
      intro e he
      refine hB [(0,v),(1,Zx i),(2,Zx j),(6,.bool false),(7,Zx (n:Nat)),(8,.int .i64 0)] _ _ ?_ he
      clear he e
      obtain ⟨a,ha,ea⟩:=remU i hlen.1 hlen.2
      obtain ⟨b,hb,eb⟩:=remU j hlen.1 hlen.2
      have hn0 : ¬ IntKind.u64.wrap ((o.length:Nat):Int)=0:=by simp [IntKind.wrap,IntKind.signed,IntKind.bits]; omega
      refine Yc fun N2 hN2=>?_
      simp only [q13_17]
      refine Xs [] (by kernel_rfl) (by kernel_rfl) (by kernel_rfl) (by kernel_rfl) ?_
      simp (maxSteps:=2000000) only [s13,↓Za,↓Zi,↓Zr,↓Ze,↓Zj,↓Zs,↓Zg,↓Zo,↓Zf,↓Zb,↓Zc,↓vdn,vup,Zm,Zk,Zn,Zl,Zh,List.map_cons,List.map_nil,cond_true,cond_false,aop,Zv,Zq,Zp,ev,sput,Zt,Zy,Ya,unK,Zd,Zw,Nat.reduceBEq,Nat.reduceAdd,Int.reduceBEq,Int.reduceBNe,Int.reduceLT,Zu,Zz,tup,tyf,hv6.len,convK,und_29,und_3,ne_eq,hn0,not_false_eq_true,ea,eb]
      refine hN2 [(0,v),(1,Zx (a:Nat)),(2,Zx (b:Nat)),(6,.bool false),(7,Zx (n:Nat)),(8,.int .i64 0)] _ _ ?_ (by simp (maxSteps:=2000000) only [↓Za,↓Zi,↓Zr,↓Ze,↓Zj,↓Zs,↓Zg,↓Zo,↓Zf,↓Zb,↓Zc,↓vdn,vup,Zm,Zk,Zn,Zl,Zh,List.map_cons,List.map_nil,cond_true,cond_false,aop,Zv,Zq,Zp,ev,sput,Zt,Zy,Ya,unK,Zd,Zw,Nat.reduceBEq,Nat.reduceAdd,Int.reduceBEq,Int.reduceBNe,Int.reduceLT,Zu,Zz,tup,tyf])
      clear hN2 N2 hn0 ea eb
      refine Yc fun N16 hN16=>?_
      simp (maxSteps:=2000000) only [s13,↓Za,↓Zi,↓Zr,↓Ze,↓Zj,↓Zs,↓Zg,↓Zo,↓Zf,↓Zb,↓Zc,↓vdn,vup,Zm,Zk,Zn,Zl,Zh,List.map_cons,List.map_nil,cond_true,cond_false,aop,Zv,Zq,Zp,ev,sput,Zt,Zy,Ya,unK,Zd,Zw,Nat.reduceBEq,Nat.reduceAdd,Int.reduceBEq,Int.reduceBNe,Int.reduceLT,Zu,Zz,tup,tyf,Yr,List.nil_append,List.append_nil,List.toList_toArray,List.cons_append]
      refine (list_call hv6 hl).mono ?_
      rintro l7 _ ⟨hl7,g7,rfl⟩
      rw [ord_take_eq ho] at hl7
      refine (add21_call hl7 hl hx).mono ?_
      rintro _ h8 ⟨hE8,s8,e8,rfl,hadr⟩
      have hel : ∀ x:Nat,x<o.length→elI o (x:Int)=true:=fun x hx=>by
       rw [elI,decide_eq_true (Int.natCast_nonneg x),decide_eq_true (Int.ofNat_lt.2 hx)]; rfl
      rw [AddR,if_pos ⟨ho,hel a ha,hel b hb⟩,Int.toNat_natCast,Int.toNat_natCast] at hadr
      cases hf:fr o a b with
      | false =>
        rw [hf,if_neg (by decide)] at hadr
        obtain ⟨rfl,rfl⟩:=hadr
        try simp (maxSteps:=2000000) only [s13,↓Za,↓Zi,↓Zr,↓Ze,↓Zj,↓Zs,↓Zg,↓Zo,↓Zf,↓Zb,↓Zc,↓vdn,vup,Zm,Zk,Zn,Zl,Zh,List.map_cons,List.map_nil,cond_true,cond_false,aop,Zv,Zq,Zp,ev,sput,Zt,Zy,Ya,unK,Zd,Zw,Nat.reduceBEq,Nat.reduceAdd,Int.reduceBEq,Int.reduceBNe,Int.reduceLT,Zu,Zz,tup,tyf]
        refine hN16 [(0,v),(1,Zx (a:Nat)),(2,Zx (b:Nat)),(6,.bool false),(7,Zx (n:Nat)),(8,.int .i64 5),(19,.slice none 0 0)] _ _ ?_ (by simp (maxSteps:=2000000) only [↓Za,↓Zi,↓Zr,↓Ze,↓Zj,↓Zs,↓Zg,↓Zo,↓Zf,↓Zb,↓Zc,↓vdn,vup,Zm,Zk,Zn,Zl,Zh,List.map_cons,List.map_nil,cond_true,cond_false,aop,Zv,Zq,Zp,ev,sput,Zt,Zy,Ya,unK,Zd,Zw,Nat.reduceBEq,Nat.reduceAdd,Int.reduceBEq,Int.reduceBNe,Int.reduceLT,Zu,Zz,tup,tyf])
        clear hN16
        try clear N16
        refine Ym fun D hD=>?_
        refine Yc fun N17 hN17=>?_
        simp (maxSteps:=2000000) only [s13,↓Za,↓Zi,↓Zr,↓Ze,↓Zj,↓Zs,↓Zg,↓Zo,↓Zf,↓Zb,↓Zc,↓vdn,vup,Zm,Zk,Zn,Zl,Zh,List.map_cons,List.map_nil,cond_true,cond_false,aop,Zv,Zq,Zp,ev,sput,Zt,Zy,Ya,unK,Zd,Zw,Nat.reduceBEq,Nat.reduceAdd,Int.reduceBEq,Int.reduceBNe,Int.reduceLT,Zu,Zz,tup,tyf,n50]
        refine hN17 [(0,v),(1,Zx (a:Nat)),(2,Zx (b:Nat)),(6,.bool false),(7,Zx (n:Nat)),(8,.int .i64 5),(19,.slice none 0 0),(143,.bool true)] _ _ ?_ (by simp (maxSteps:=2000000) only [↓Za,↓Zi,↓Zr,↓Ze,↓Zj,↓Zs,↓Zg,↓Zo,↓Zf,↓Zb,↓Zc,↓vdn,vup,Zm,Zk,Zn,Zl,Zh,List.map_cons,List.map_nil,cond_true,cond_false,aop,Zv,Zq,Zp,ev,sput,Zt,Zy,Ya,unK,Zd,Zw,Nat.reduceBEq,Nat.reduceAdd,Int.reduceBEq,Int.reduceBNe,Int.reduceLT,Zu,Zz,tup,tyf])
        clear hN17
        try clear N17
        refine Xb rfl ?_
        refine Yf ?_
        simp (maxSteps:=2000000) only [s13,↓Za,↓Zi,↓Zr,↓Ze,↓Zj,↓Zs,↓Zg,↓Zo,↓Zf,↓Zb,↓Zc,↓vdn,vup,Zm,Zk,Zn,Zl,Zh,List.map_cons,List.map_nil,cond_true,cond_false,aop,Zv,Zq,Zp,ev,sput,Zt,Zy,Ya,unK,Zd,Zw,Nat.reduceBEq,Nat.reduceAdd,Int.reduceBEq,Int.reduceBNe,Int.reduceLT,Zu,Zz,tup,tyf,e55,Yr,List.nil_append,List.append_nil,List.toList_toArray,List.cons_append]
        refine awake_call.mono ?_
        rintro _ _ ⟨rfl,rfl⟩
        try simp (maxSteps:=2000000) only [s13,↓Za,↓Zi,↓Zr,↓Ze,↓Zj,↓Zs,↓Zg,↓Zo,↓Zf,↓Zb,↓Zc,↓vdn,vup,Zm,Zk,Zn,Zl,Zh,List.map_cons,List.map_nil,cond_true,cond_false,aop,Zv,Zq,Zp,ev,sput,Zt,Zy,Ya,unK,Zd,Zw,Nat.reduceBEq,Nat.reduceAdd,Int.reduceBEq,Int.reduceBNe,Int.reduceLT,Zu,Zz,tup,tyf]
      | true =>
        rw [hf,if_pos rfl] at hadr
        obtain ⟨rfl,hs8⟩:=hadr
        obtain ⟨f1,f2,f3⟩:=fr_out hf
        have o1:=Xu ho ha hb f1 f3
        have hle:=hadd ha hb hf
        rw [← hn] at hle
        try simp (maxSteps:=2000000) only [s13,↓Za,↓Zi,↓Zr,↓Ze,↓Zj,↓Zs,↓Zg,↓Zo,↓Zf,↓Zb,↓Zc,↓vdn,vup,Zm,Zk,Zn,Zl,Zh,List.map_cons,List.map_nil,cond_true,cond_false,aop,Zv,Zq,Zp,ev,sput,Zt,Zy,Ya,unK,Zd,Zw,Nat.reduceBEq,Nat.reduceAdd,Int.reduceBEq,Int.reduceBNe,Int.reduceLT,Zu,Zz,tup,tyf]
        refine hN16 [(0,v),(1,Zx (a:Nat)),(2,Zx (b:Nat)),(6,.bool false),(7,Zx (n:Nat)),(8,.int .i64 0),(19,s8)] _ _ ?_ (by simp (maxSteps:=2000000) only [↓Za,↓Zi,↓Zr,↓Ze,↓Zj,↓Zs,↓Zg,↓Zo,↓Zf,↓Zb,↓Zc,↓vdn,vup,Zm,Zk,Zn,Zl,Zh,List.map_cons,List.map_nil,cond_true,cond_false,aop,Zv,Zq,Zp,ev,sput,Zt,Zy,Ya,unK,Zd,Zw,Nat.reduceBEq,Nat.reduceAdd,Int.reduceBEq,Int.reduceBNe,Int.reduceLT,Zu,Zz,tup,tyf])
        clear hN16
        try clear N16
        refine Ym fun D hD=>?_
        refine Yc fun N18 hN18=>?_
        simp (maxSteps:=2000000) only [s13,↓Za,↓Zi,↓Zr,↓Ze,↓Zj,↓Zs,↓Zg,↓Zo,↓Zf,↓Zb,↓Zc,↓vdn,vup,Zm,Zk,Zn,Zl,Zh,List.map_cons,List.map_nil,cond_true,cond_false,aop,Zv,Zq,Zp,ev,sput,Zt,Zy,Ya,unK,Zd,Zw,Nat.reduceBEq,Nat.reduceAdd,Int.reduceBEq,Int.reduceBNe,Int.reduceLT,Zu,Zz,tup,tyf,n00]
        refine hN18 [(0,v),(1,Zx (a:Nat)),(2,Zx (b:Nat)),(6,.bool false),(7,Zx (n:Nat)),(8,.int .i64 0),(19,s8),(143,.bool false)] _ _ ?_ (by simp (maxSteps:=2000000) only [↓Za,↓Zi,↓Zr,↓Ze,↓Zj,↓Zs,↓Zg,↓Zo,↓Zf,↓Zb,↓Zc,↓vdn,vup,Zm,Zk,Zn,Zl,Zh,List.map_cons,List.map_nil,cond_true,cond_false,aop,Zv,Zq,Zp,ev,sput,Zt,Zy,Ya,unK,Zd,Zw,Nat.reduceBEq,Nat.reduceAdd,Int.reduceBEq,Int.reduceBNe,Int.reduceLT,Zu,Zz,tup,tyf])
        clear hN18
        try clear N18
        refine Xa rfl ?_
        refine Yf ?_
        try simp (maxSteps:=2000000) only [s13,↓Za,↓Zi,↓Zr,↓Ze,↓Zj,↓Zs,↓Zg,↓Zo,↓Zf,↓Zb,↓Zc,↓vdn,vup,Zm,Zk,Zn,Zl,Zh,List.map_cons,List.map_nil,cond_true,cond_false,aop,Zv,Zq,Zp,ev,sput,Zt,Zy,Ya,unK,Zd,Zw,Nat.reduceBEq,Nat.reduceAdd,Int.reduceBEq,Int.reduceBNe,Int.reduceLT,Zu,Zz,tup,tyf]
        refine hD [(0,v),(1,Zx (a:Nat)),(2,Zx (b:Nat)),(6,.bool false),(7,Zx (n:Nat)),(8,.int .i64 0),(19,s8)] _ _ ?_ (by simp (maxSteps:=2000000) only [↓Za,↓Zi,↓Zr,↓Ze,↓Zj,↓Zs,↓Zg,↓Zo,↓Zf,↓Zb,↓Zc,↓vdn,vup,Zm,Zk,Zn,Zl,Zh,List.map_cons,List.map_nil,cond_true,cond_false,aop,Zv,Zq,Zp,ev,sput,Zt,Zy,Ya,unK,Zd,Zw,Nat.reduceBEq,Nat.reduceAdd,Int.reduceBEq,Int.reduceBNe,Int.reduceLT,Zu,Zz,tup,tyf])
        clear hD
        try clear D
        have hxr : ∀ x∈Wp o a b,-9223372036854775808≤x∧x<9223372036854775808:=fun x hx=>by
         obtain ⟨k,hk,rfl⟩:=List.mem_iff_getElem.1 hx
         obtain ⟨q1,q2⟩:=ord_nat o1 (i:=k) hk
         rw [List.getD,List.getElem?_eq_getElem hk,Option.getD_some] at q1
         have:=pow6 (Yz o1).2
         rw [q1]; omega
        refine Yc fun N19 hN19=>?_
        simp (maxSteps:=2000000) only [s13,↓Za,↓Zi,↓Zr,↓Ze,↓Zj,↓Zs,↓Zg,↓Zo,↓Zf,↓Zb,↓Zc,↓vdn,vup,Zm,Zk,Zn,Zl,Zh,List.map_cons,List.map_nil,cond_true,cond_false,aop,Zv,Zq,Zp,ev,sput,Zt,Zy,Ya,unK,Zd,Zw,Nat.reduceBEq,Nat.reduceAdd,Int.reduceBEq,Int.reduceBNe,Int.reduceLT,Zu,Zz,tup,tyf,Yr,List.nil_append,List.append_nil,List.toList_toArray,List.cons_append]
        refine (progNeed_call hs8 (by rw [Xh]; exact hl) hxr).mono ?_
        rintro _ _ ⟨rfl,rfl⟩
        rw [needV,o1,if_pos rfl]
        try simp (maxSteps:=2000000) only [s13,↓Za,↓Zi,↓Zr,↓Ze,↓Zj,↓Zs,↓Zg,↓Zo,↓Zf,↓Zb,↓Zc,↓vdn,vup,Zm,Zk,Zn,Zl,Zh,List.map_cons,List.map_nil,cond_true,cond_false,aop,Zv,Zq,Zp,ev,sput,Zt,Zy,Ya,unK,Zd,Zw,Nat.reduceBEq,Nat.reduceAdd,Int.reduceBEq,Int.reduceBNe,Int.reduceLT,Zu,Zz,tup,tyf]
        refine hN19 [(0,v),(1,Zx (a:Nat)),(2,Zx (b:Nat)),(6,.bool false),(7,Zx (n:Nat)),(8,.int .i64 0),(19,s8),(20,Zx (Vg (Wp o a b):Nat))] _ _ ?_ (by simp (maxSteps:=2000000) only [↓Za,↓Zi,↓Zr,↓Ze,↓Zj,↓Zs,↓Zg,↓Zo,↓Zf,↓Zb,↓Zc,↓vdn,vup,Zm,Zk,Zn,Zl,Zh,List.map_cons,List.map_nil,cond_true,cond_false,aop,Zv,Zq,Zp,ev,sput,Zt,Zy,Ya,unK,Zd,Zw,Nat.reduceBEq,Nat.reduceAdd,Int.reduceBEq,Int.reduceBNe,Int.reduceLT,Zu,Zz,tup,tyf])
        clear hN19
        try clear N19
        have hle' : ((Vg (Wp o a b):Nat):Int)≤((n:Nat):Int):=by omega
        refine Yf ?_
        simp (maxSteps:=2000000) only [s13,↓Za,↓Zi,↓Zr,↓Ze,↓Zj,↓Zs,↓Zg,↓Zo,↓Zf,↓Zb,↓Zc,↓vdn,vup,Zm,Zk,Zn,Zl,Zh,List.map_cons,List.map_nil,cond_true,cond_false,aop,Zv,Zq,Zp,ev,sput,Zt,Zy,Ya,unK,Zd,Zw,Nat.reduceBEq,Nat.reduceAdd,Int.reduceBEq,Int.reduceBNe,Int.reduceLT,Zu,Zz,tup,tyf,e00,hle',Yr,List.nil_append,List.append_nil,List.toList_toArray,List.cons_append]
        refine awake_call.mono ?_
        rintro _ _ ⟨rfl,rfl⟩
        try simp (maxSteps:=2000000) only [s13,↓Za,↓Zi,↓Zr,↓Ze,↓Zj,↓Zs,↓Zg,↓Zo,↓Zf,↓Zb,↓Zc,↓vdn,vup,Zm,Zk,Zn,Zl,Zh,List.map_cons,List.map_nil,cond_true,cond_false,aop,Zv,Zq,Zp,ev,sput,Zt,Zy,Ya,unK,Zd,Zw,Nat.reduceBEq,Nat.reduceAdd,Int.reduceBEq,Int.reduceBNe,Int.reduceLT,Zu,Zz,tup,tyf]
     cases z with
     | false =>
       refine Yc fun N20 hN20=>?_
       refine Yd 2 fun N1 hN1=>?_
       simp (maxSteps:=2000000) only [s13,↓Za,↓Zi,↓Zr,↓Ze,↓Zj,↓Zs,↓Zg,↓Zo,↓Zf,↓Zb,↓Zc,↓vdn,vup,Zm,Zk,Zn,Zl,Zh,List.map_cons,List.map_nil,cond_true,cond_false,aop,Zv,Zq,Zp,ev,sput,Zt,Zy,Ya,unK,Zd,Zw,Nat.reduceBEq,Nat.reduceAdd,Int.reduceBEq,Int.reduceBNe,Int.reduceLT,Zu,Zz,tup,tyf,List.take_succ_cons,List.take_zero]
       refine hN1 _ _ ?_
       clear hN1 N1
       simp only [List.drop_succ_cons,List.drop_zero]
       refine Yd 2 fun N1 hN1=>?_
       simp (maxSteps:=2000000) only [s13,↓Za,↓Zi,↓Zr,↓Ze,↓Zj,↓Zs,↓Zg,↓Zo,↓Zf,↓Zb,↓Zc,↓vdn,vup,Zm,Zk,Zn,Zl,Zh,List.map_cons,List.map_nil,cond_true,cond_false,aop,Zv,Zq,Zp,ev,sput,Zt,Zy,Ya,unK,Zd,Zw,Nat.reduceBEq,Nat.reduceAdd,Int.reduceBEq,Int.reduceBNe,Int.reduceLT,Zu,Zz,tup,tyf,List.take_succ_cons,List.take_zero]
       refine hN1 _ _ ?_
       clear hN1 N1
       simp only [List.drop_succ_cons,List.drop_zero]
       refine Yd 2 fun N1 hN1=>?_
       simp (maxSteps:=2000000) only [s13,↓Za,↓Zi,↓Zr,↓Ze,↓Zj,↓Zs,↓Zg,↓Zo,↓Zf,↓Zb,↓Zc,↓vdn,vup,Zm,Zk,Zn,Zl,Zh,List.map_cons,List.map_nil,cond_true,cond_false,aop,Zv,Zq,Zp,ev,sput,Zt,Zy,Ya,unK,Zd,Zw,Nat.reduceBEq,Nat.reduceAdd,Int.reduceBEq,Int.reduceBNe,Int.reduceLT,Zu,Zz,tup,tyf,List.take_succ_cons,List.take_zero]
       refine hN1 _ _ ?_
       clear hN1 N1
       simp only [List.drop_succ_cons,List.drop_zero]
       refine Yd 2 fun N1 hN1=>?_
       simp (maxSteps:=2000000) only [s13,↓Za,↓Zi,↓Zr,↓Ze,↓Zj,↓Zs,↓Zg,↓Zo,↓Zf,↓Zb,↓Zc,↓vdn,vup,Zm,Zk,Zn,Zl,Zh,List.map_cons,List.map_nil,cond_true,cond_false,aop,Zv,Zq,Zp,ev,sput,Zt,Zy,Ya,unK,Zd,Zw,Nat.reduceBEq,Nat.reduceAdd,Int.reduceBEq,Int.reduceBNe,Int.reduceLT,Zu,Zz,tup,tyf,List.take_succ_cons,List.take_zero]
       refine hN1 _ _ ?_
       clear hN1 N1
       simp only [List.drop_succ_cons,List.drop_zero]
       simp (maxSteps:=2000000) only [s13,↓Za,↓Zi,↓Zr,↓Ze,↓Zj,↓Zs,↓Zg,↓Zo,↓Zf,↓Zb,↓Zc,↓vdn,vup,Zm,Zk,Zn,Zl,Zh,List.map_cons,List.map_nil,cond_true,cond_false,aop,Zv,Zq,Zp,ev,sput,Zt,Zy,Ya,unK,Zd,Zw,Nat.reduceBEq,Nat.reduceAdd,Int.reduceBEq,Int.reduceBNe,Int.reduceLT,Zu,Zz,tup,tyf]
       refine hN20 [(0,v),(1,Zx i),(2,Zx j),(6,.bool false),(7,Zx (n:Nat)),(8,.int .i64 0),(16,.bool false),(102,.bool false),(119,.bool false)] _ _ ?_ (by simp (maxSteps:=2000000) only [↓Za,↓Zi,↓Zr,↓Ze,↓Zj,↓Zs,↓Zg,↓Zo,↓Zf,↓Zb,↓Zc,↓vdn,vup,Zm,Zk,Zn,Zl,Zh,List.map_cons,List.map_nil,cond_true,cond_false,aop,Zv,Zq,Zp,ev,sput,Zt,Zy,Ya,unK,Zd,Zw,Nat.reduceBEq,Nat.reduceAdd,Int.reduceBEq,Int.reduceBNe,Int.reduceLT,Zu,Zz,tup,tyf])
       clear hN20
       try clear N20
       refine Xa rfl ?_
       refine Yf ?_
       try simp (maxSteps:=2000000) only [s13,↓Za,↓Zi,↓Zr,↓Ze,↓Zj,↓Zs,↓Zg,↓Zo,↓Zf,↓Zb,↓Zc,↓vdn,vup,Zm,Zk,Zn,Zl,Zh,List.map_cons,List.map_nil,cond_true,cond_false,aop,Zv,Zq,Zp,ev,sput,Zt,Zy,Ya,unK,Zd,Zw,Nat.reduceBEq,Nat.reduceAdd,Int.reduceBEq,Int.reduceBNe,Int.reduceLT,Zu,Zz,tup,tyf]
       exact goOn _ (by simp (maxSteps:=2000000) only [↓Za,↓Zi,↓Zr,↓Ze,↓Zj,↓Zs,↓Zg,↓Zo,↓Zf,↓Zb,↓Zc,↓vdn,vup,Zm,Zk,Zn,Zl,Zh,List.map_cons,List.map_nil,cond_true,cond_false,aop,Zv,Zq,Zp,ev,sput,Zt,Zy,Ya,unK,Zd,Zw,Nat.reduceBEq,Nat.reduceAdd,Int.reduceBEq,Int.reduceBNe,Int.reduceLT,Zu,Zz,tup,tyf])
     | true =>
       have hk2:=hkn2 rfl
       refine Yc fun N21 hN21=>?_
       refine Yd 2 fun N1 hN1=>?_
       simp (maxSteps:=2000000) only [s13,↓Za,↓Zi,↓Zr,↓Ze,↓Zj,↓Zs,↓Zg,↓Zo,↓Zf,↓Zb,↓Zc,↓vdn,vup,Zm,Zk,Zn,Zl,Zh,List.map_cons,List.map_nil,cond_true,cond_false,aop,Zv,Zq,Zp,ev,sput,Zt,Zy,Ya,unK,Zd,Zw,Nat.reduceBEq,Nat.reduceAdd,Int.reduceBEq,Int.reduceBNe,Int.reduceLT,Zu,Zz,tup,tyf,List.take_succ_cons,List.take_zero]
       refine hN1 _ _ ?_
       clear hN1 N1
       simp only [List.drop_succ_cons,List.drop_zero]
       refine Yd 2 fun N1 hN1=>?_
       simp (maxSteps:=2000000) only [s13,↓Za,↓Zi,↓Zr,↓Ze,↓Zj,↓Zs,↓Zg,↓Zo,↓Zf,↓Zb,↓Zc,↓vdn,vup,Zm,Zk,Zn,Zl,Zh,List.map_cons,List.map_nil,cond_true,cond_false,aop,Zv,Zq,Zp,ev,sput,Zt,Zy,Ya,unK,Zd,Zw,Nat.reduceBEq,Nat.reduceAdd,Int.reduceBEq,Int.reduceBNe,Int.reduceLT,Zu,Zz,tup,tyf,List.take_succ_cons,List.take_zero,bld73]
       refine hN1 _ _ ?_
       clear hN1 N1
       simp only [List.drop_succ_cons,List.drop_zero]
       refine Yd 2 fun N1 hN1=>?_
       simp (maxSteps:=2000000) only [s13,↓Za,↓Zi,↓Zr,↓Ze,↓Zj,↓Zs,↓Zg,↓Zo,↓Zf,↓Zb,↓Zc,↓vdn,vup,Zm,Zk,Zn,Zl,Zh,List.map_cons,List.map_nil,cond_true,cond_false,aop,Zv,Zq,Zp,ev,sput,Zt,Zy,Ya,unK,Zd,Zw,Nat.reduceBEq,Nat.reduceAdd,Int.reduceBEq,Int.reduceBNe,Int.reduceLT,Zu,Zz,tup,tyf,List.take_succ_cons,List.take_zero,hv6.len]
       refine hN1 _ _ ?_
       clear hN1 N1
       simp only [List.drop_succ_cons,List.drop_zero]
       refine Yd 2 fun N1 hN1=>?_
       simp (maxSteps:=2000000) only [s13,↓Za,↓Zi,↓Zr,↓Ze,↓Zj,↓Zs,↓Zg,↓Zo,↓Zf,↓Zb,↓Zc,↓vdn,vup,Zm,Zk,Zn,Zl,Zh,List.map_cons,List.map_nil,cond_true,cond_false,aop,Zv,Zq,Zp,ev,sput,Zt,Zy,Ya,unK,Zd,Zw,Nat.reduceBEq,Nat.reduceAdd,Int.reduceBEq,Int.reduceBNe,Int.reduceLT,Zu,Zz,tup,tyf,List.take_succ_cons,List.take_zero,idx73 hlen.2,hk2]
       refine hN1 _ _ ?_
       clear hN1 N1
       simp only [List.drop_succ_cons,List.drop_zero]
       simp (maxSteps:=2000000) only [s13,↓Za,↓Zi,↓Zr,↓Ze,↓Zj,↓Zs,↓Zg,↓Zo,↓Zf,↓Zb,↓Zc,↓vdn,vup,Zm,Zk,Zn,Zl,Zh,List.map_cons,List.map_nil,cond_true,cond_false,aop,Zv,Zq,Zp,ev,sput,Zt,Zy,Ya,unK,Zd,Zw,Nat.reduceBEq,Nat.reduceAdd,Int.reduceBEq,Int.reduceBNe,Int.reduceLT,Zu,Zz,tup,tyf]
       refine hN21 [(0,v),(1,Zx i),(2,Zx j),(6,.bool false),(7,Zx (n:Nat)),(8,.int .i64 0),(16,.bool true),(102,.bool false),(119,.bool false)] _ _ ?_ (by simp (maxSteps:=2000000) only [↓Za,↓Zi,↓Zr,↓Ze,↓Zj,↓Zs,↓Zg,↓Zo,↓Zf,↓Zb,↓Zc,↓vdn,vup,Zm,Zk,Zn,Zl,Zh,List.map_cons,List.map_nil,cond_true,cond_false,aop,Zv,Zq,Zp,ev,sput,Zt,Zy,Ya,unK,Zd,Zw,Nat.reduceBEq,Nat.reduceAdd,Int.reduceBEq,Int.reduceBNe,Int.reduceLT,Zu,Zz,tup,tyf])
       clear hN21
       try clear N21
       refine Xa rfl ?_
       refine Yf ?_
       try simp (maxSteps:=2000000) only [s13,↓Za,↓Zi,↓Zr,↓Ze,↓Zj,↓Zs,↓Zg,↓Zo,↓Zf,↓Zb,↓Zc,↓vdn,vup,Zm,Zk,Zn,Zl,Zh,List.map_cons,List.map_nil,cond_true,cond_false,aop,Zv,Zq,Zp,ev,sput,Zt,Zy,Ya,unK,Zd,Zw,Nat.reduceBEq,Nat.reduceAdd,Int.reduceBEq,Int.reduceBNe,Int.reduceLT,Zu,Zz,tup,tyf]
       exact goOn _ (by simp (maxSteps:=2000000) only [↓Za,↓Zi,↓Zr,↓Ze,↓Zj,↓Zs,↓Zg,↓Zo,↓Zf,↓Zb,↓Zc,↓vdn,vup,Zm,Zk,Zn,Zl,Zh,List.map_cons,List.map_nil,cond_true,cond_false,aop,Zv,Zq,Zp,ev,sput,Zt,Zy,Ya,unK,Zd,Zw,Nat.reduceBEq,Nat.reduceAdd,Int.reduceBEq,Int.reduceBNe,Int.reduceLT,Zu,Zz,tup,tyf])
end Go.Proofs.Tryd.Am
