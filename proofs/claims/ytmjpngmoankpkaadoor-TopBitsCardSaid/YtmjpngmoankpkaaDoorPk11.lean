/-
  top: law Bits.
-/
import Derived.Test.YtmjpngmoankpkaaDoorPk9
import Derived.Test.YtmjpngmoankpkaaDoorPk10
set_option linter.all false
namespace Go.Proofs.Tryd.Am.Tg
open Go.Proofs.Tryd.Am
open Go.Am Ord
set_option maxRecDepth 100000
set_option maxHeartbeats 4000000
theorem min9 (n:Nat):(if (9:Int)<n then 9 else (n:Int))=((min n 9:Nat):Int):=by split <;> omega
theorem ord_take {o:List Int}:ord (o.take 9)=ord o:=by
 by_cases h:o.length≤9
 · rw [List.take_of_length_le h]
 · have h1:ord o=false:=by simp [ord]; omega
   have h2:ord (o.take 9)=false:=by simp [ord]; omega
   rw [h1,h2]
theorem ord_take_eq {o:List Int} (h:ord o=true):o.take 9=o:=List.take_of_length_le (by have:=Xq h; omega)
theorem needN_spec {o:List Int} (ho:ord o=true):Or.needN o<16∧srtb (Or.needN o) o=true∧∀ k,k<Or.needN o→srtb k o=false:=by
 have key : ∀ d,d≤15→(∀ k,k<15-d→srtb k o=false)→∃ n,n<16∧srtb n o=true∧∀ k,k<n→srtb k o=false:=by
  intro d
  induction d with
  | zero=>exact fun _ h=>⟨15,by decide,Or.srtb_15 ho,h⟩
  | succ d ih =>
    intro hd h
    cases hb:srtb (15-(d+1)) o with
    | true=>exact ⟨_,by omega,hb,h⟩
    | false =>
      refine ih (by omega) fun k hk=>?_
      by_cases he:k=15-(d+1)
      · rw [he]; exact hb
      · exact h k (by omega)
 obtain ⟨n,h1,h2,h3⟩:=key 15 (Nat.le_refl _) fun k hk=>absurd hk (Nat.not_lt_zero k)
 rw [Or.needN_of h1 h2 h3]
 exact ⟨h1,h2,h3⟩
def frRow (o:List Int) (i j:Nat):Nat:=(List.range j).countP fun b=>fr o i b
def Wd (o:List Int):Nat→Nat
 | 0=>0
 | i+1=>Wd o i+frRow o i i
theorem frRow_succ (o:List Int) (i j:Nat):frRow o i (j+1)=frRow o i j+if fr o i j=true then 1 else 0:=by
 rw [frRow,List.range_succ,List.countP_append,frRow]
 simp [List.countP_cons]
theorem frRow_le (o:List Int) (i j:Nat):frRow o i j≤j:=by
 have:=List.countP_le_length (p:=fun b=>fr o i b) (l:=List.range j)
 rwa [List.length_range] at this
theorem frAll_le (o:List Int) : ∀ i,Wd o i≤i*i
 | 0=>Nat.le_refl _
 | i+1=>by
   have h1:=frAll_le o i
   have h2:=frRow_le o i i
   rw [Wd,Nat.succ_mul,Nat.mul_succ]; omega
theorem countP_swap (p:Nat→Nat→Bool) : ∀ n,((List.range n).map fun i=>(List.range n).countP fun j=>decide (i<j)&&p i j).sum=((List.range n).map fun i=>(List.range i).countP fun j=>p j i).sum
 | 0=>rfl
 | n+1=>by
   have ih:=countP_swap p n
   have h1 : ∀ i,i<n→((List.range (n+1)).countP fun j=>decide (i<j)&&p i j)=((List.range n).countP fun j=>decide (i<j)&&p i j)+if p i n=true then 1 else 0:=fun i hi=>by
    rw [List.range_succ,List.countP_append]
    simp [List.countP_cons,hi]
   have h2:((List.range (n+1)).countP fun j=>decide (n<j)&&p n j)=0:=by
    rw [List.countP_eq_zero]
    intro j hj
    have:=List.mem_range.1 hj
    simp; omega
   have h3 : ∀ l:List Nat,(∀ i∈l,i<n)→(l.map fun i=>(List.range (n+1)).countP fun j=>decide (i<j)&&p i j).sum=(l.map fun i=>(List.range n).countP fun j=>decide (i<j)&&p i j).sum+l.countP fun i=>p i n:=by
    intro l
    induction l with
    | nil=>intro _; rfl
    | cons a l ihl =>
      intro h
      rw [List.map_cons,List.map_cons,List.sum_cons,List.sum_cons,List.countP_cons,ihl fun i hi=>h i (by simp [hi]),h1 a (h a (by simp))]
      omega
   have h4:=h3 (List.range n) fun i hi=>List.mem_range.1 hi
   rw [show (List.range (n+1)).map (fun i=>(List.range (n+1)).countP fun j=>decide (i<j)&&p i j)=((List.range n).map fun i=>(List.range (n+1)).countP fun j=>decide (i<j)&&p i j)++[(List.range (n+1)).countP fun j=>decide (n<j)&&p n j] by rw [List.range_succ,List.map_append]; rfl]
   rw [List.sum_append,h4,ih,h2]
   rw [show (List.range (n+1)).map (fun i=>(List.range i).countP fun j=>p j i)=((List.range n).map fun i=>(List.range i).countP fun j=>p j i)++[(List.range n).countP fun j=>p j n] by rw [List.range_succ,List.map_append]; rfl]
   rw [List.sum_append]
   simp
theorem frAll_sum (o:List Int) : ∀ n,Wd o n=((List.range n).map fun i=>(List.range i).countP fun j=>fr o j i).sum
 | 0=>rfl
 | n+1=>by
   rw [Wd,frAll_sum o n,List.range_succ,List.map_append,List.sum_append,frRow]
   simp only [List.map_cons,List.map_nil,List.sum_cons,List.sum_nil,Nat.add_zero]
   congr 1
   exact List.countP_congr fun j _=>by rw [fr_comm]
theorem countP_flat {α β:Type} (p:β→Bool) (f:α→List β) : ∀ l:List α,(l.flatMap f).countP p=(l.map fun a=>(f a).countP p).sum
 | []=>rfl
 | a::l=>by rw [List.flatMap_cons,List.countP_append,List.map_cons,List.sum_cons,countP_flat p f l]
theorem frees_all (o:List Int):frees o=Wd o o.length:=by
 rw [frAll_sum,← countP_swap,frees,prsN,countP_flat]
 congr 1
 refine List.map_congr_left fun i _=>?_
 rw [List.countP_map,List.countP_filter]
 exact List.countP_congr fun j _=>by
  simp only [Function.comp]
  rw [Bool.and_comm]
theorem need_le_free {o:List Int} (ho:ord o=true):Or.needN o≤Wd o o.length:=by
 obtain ⟨h1,h2,h3⟩:=needN_spec ho
 have hs:=srtb_free (Wd o o.length) o ho (by rw [frees_all]; exact Nat.le_refl _)
 rcases Nat.lt_or_ge (Wd o o.length) (Or.needN o) with h | h
 · have:=h3 _ h
   rw [hs] at this; cases this
 · exact h
theorem needTake (o:List Int):Or.needV (o.take 9)=Or.needV o:=by
 cases ho:ord o with
 | true=>rw [ord_take_eq ho]
 | false=>rw [Or.needV,ord_take,ho,if_neg (by decide),Or.needV,ho,if_neg (by decide)]
theorem s4_callW [Tabs Tryd.prog] {args:List Value} {h:Yb} {Q:Value→Yb→Prop} (hsz:args.length≤86) (hk:AWS Tryd.prog 86 s4 (Zu Tryd.prog [.tmp 2] Q) (Zp 0 args) h):ACall Tryd.prog 4 args h Q :=
 Xy Tryd.func4 rfl (enters_of Tryd.func4 (by kernel_rfl) rfl) rfl rfl (by decide) s4_strip s4_ok hsz hk
theorem law_bits [BitTab prog 0] {h:Yb} {v:Value} {o:List Int} (hv:IntSl h v o) (hl:o.length<9223372036854775808) (hx : ∀ x∈o,-9223372036854775808≤x∧x<9223372036854775808) :
  ACall prog 4 [v] h fun r _=>r = .bool true:=by
 have hx9 : ∀ x∈o.take 9,-9223372036854775808≤x∧x<9223372036854775808:=fun x hm=>hx x (List.take_subset _ _ hm)
 have hl9:(o.take 9).length<9223372036854775808:=by simp; omega
 have n00:((0:Int) != 0)=false:=rfl
 have n20:((2:Int) != 0)=true:=rfl
 have e22:((2:Int)==2)=true:=rfl
 have et:o.take (min o.length 9)=o.take 9:=by
  by_cases h:o.length≤9
  · rw [Nat.min_eq_left h,List.take_length,List.take_of_length_le h]
  · rw [Nat.min_eq_right (by omega)]
 refine s4_callW (by simp) ?_
 simp only [s4]
 refine Yc fun N1 hN1=>?_
 simp (maxSteps:=2000000) only [s4,↓Za,↓Zj,↓Zr,↓Ze,↓Zi,↓Zs,↓Zf,↓Zo,↓Zg,↓Zb,↓Zc,↓vdn,vup,Zh,Zn,Zl,Zm,Zk,List.map_cons,List.map_nil,cond_true,cond_false,aop,Zv,Zq,Zp,ev,sput,Zt,Zy,Ya,unK,Zd,Zw,Nat.reduceBEq,Nat.reduceAdd,Int.reduceBEq,Int.reduceBNe,Int.reduceLT,Zu,Zz,tup,tyf]
 refine hN1 [(0,v),(2,.bool false)] _ _ ?_ (by simp (maxSteps:=2000000) only [↓Za,↓Zj,↓Zr,↓Ze,↓Zi,↓Zs,↓Zf,↓Zo,↓Zg,↓Zb,↓Zc,↓vdn,vup,Zh,Zn,Zl,Zm,Zk,List.map_cons,List.map_nil,cond_true,cond_false,aop,Zv,Zq,Zp,ev,sput,Zt,Zy,Ya,unK,Zd,Zw,Nat.reduceBEq,Nat.reduceAdd,Int.reduceBEq,Int.reduceBNe,Int.reduceLT,Zu,Zz,tup,tyf])
 clear hN1
 try clear N1
 refine Yc fun N2 hN2=>?_
 refine Xo 4 fun N1 hN1=>?_
 simp (maxSteps:=2000000) only [s4,↓Za,↓Zj,↓Zr,↓Ze,↓Zi,↓Zs,↓Zf,↓Zo,↓Zg,↓Zb,↓Zc,↓vdn,vup,Zh,Zn,Zl,Zm,Zk,List.map_cons,List.map_nil,cond_true,cond_false,aop,Zv,Zq,Zp,ev,sput,Zt,Zy,Ya,unK,Zd,Zw,Nat.reduceBEq,Nat.reduceAdd,Int.reduceBEq,Int.reduceBNe,Int.reduceLT,Zu,Zz,tup,tyf,List.take_succ_cons,List.take_zero,hv.len,mmK,Bool.false_eq_true,if_false,gt_iff_lt,min9,Option.map_none,Option.map_some]
 refine hN1 _ _ ?_
 clear hN1 N1
 simp only [List.drop_succ_cons,List.drop_zero]
 simp (maxSteps:=2000000) only [s4,↓Za,↓Zj,↓Zr,↓Ze,↓Zi,↓Zs,↓Zf,↓Zo,↓Zg,↓Zb,↓Zc,↓vdn,vup,Zh,Zn,Zl,Zm,Zk,List.map_cons,List.map_nil,cond_true,cond_false,aop,Zv,Zq,Zp,ev,sput,Zt,Zy,Ya,unK,Zd,Zw,Nat.reduceBEq,Nat.reduceAdd,Int.reduceBEq,Int.reduceBNe,Int.reduceLT,Zu,Zz,tup,tyf,Option.map_none,Option.map_some]
 refine hv.pre el_27 Wc (Nat.min_le_left _ _) ?_
 intro w hw
 rw [et] at hw
 simp (maxSteps:=2000000) only [s4,↓Za,↓Zj,↓Zr,↓Ze,↓Zi,↓Zs,↓Zf,↓Zo,↓Zg,↓Zb,↓Zc,↓vdn,vup,Zh,Zn,Zl,Zm,Zk,List.map_cons,List.map_nil,cond_true,cond_false,aop,Zv,Zq,Zp,ev,sput,Zt,Zy,Ya,unK,Zd,Zw,Nat.reduceBEq,Nat.reduceAdd,Int.reduceBEq,Int.reduceBNe,Int.reduceLT,Zu,Zz,tup,tyf,Yz,List.nil_append,List.append_nil,List.toList_toArray,List.cons_append]
 refine (Or.clone_call hw (by simp; omega)).mono ?_
 rintro l1 _ ⟨hl1,g1,rfl⟩
 try simp (maxSteps:=2000000) only [s4,↓Za,↓Zj,↓Zr,↓Ze,↓Zi,↓Zs,↓Zf,↓Zo,↓Zg,↓Zb,↓Zc,↓vdn,vup,Zh,Zn,Zl,Zm,Zk,List.map_cons,List.map_nil,cond_true,cond_false,aop,Zv,Zq,Zp,ev,sput,Zt,Zy,Ya,unK,Zd,Zw,Nat.reduceBEq,Nat.reduceAdd,Int.reduceBEq,Int.reduceBNe,Int.reduceLT,Zu,Zz,tup,tyf,Yz,List.nil_append,List.append_nil,List.toList_toArray,List.cons_append]
 refine (Or.progNeed_call hl1 hl9 hx9).mono ?_
 rintro _ _ ⟨rfl,rfl⟩
 rw [needTake]
 have hv1:=hv.grow g1
 generalize h++g1=h1 at hv1 ⊢
 cases ho:ord o with
 | false =>
   rw [Or.needV,ho,if_neg (by decide)]
   try simp (maxSteps:=2000000) only [s4,↓Za,↓Zj,↓Zr,↓Ze,↓Zi,↓Zs,↓Zf,↓Zo,↓Zg,↓Zb,↓Zc,↓vdn,vup,Zh,Zn,Zl,Zm,Zk,List.map_cons,List.map_nil,cond_true,cond_false,aop,Zv,Zq,Zp,ev,sput,Zt,Zy,Ya,unK,Zd,Zw,Nat.reduceBEq,Nat.reduceAdd,Int.reduceBEq,Int.reduceBNe,Int.reduceLT,Zu,Zz,tup,tyf]
   refine hN2 [(0,v),(2,.bool false),(3,.int .i64 0),(4,.int .i64 2)] _ _ ?_ (by simp (maxSteps:=2000000) only [↓Za,↓Zj,↓Zr,↓Ze,↓Zi,↓Zs,↓Zf,↓Zo,↓Zg,↓Zb,↓Zc,↓vdn,vup,Zh,Zn,Zl,Zm,Zk,List.map_cons,List.map_nil,cond_true,cond_false,aop,Zv,Zq,Zp,ev,sput,Zt,Zy,Ya,unK,Zd,Zw,Nat.reduceBEq,Nat.reduceAdd,Int.reduceBEq,Int.reduceBNe,Int.reduceLT,Zu,Zz,tup,tyf])
   clear hN2
   try clear N2
   refine Yg fun A hA=>?_
   refine Yc fun N3 hN3=>?_
   simp (maxSteps:=2000000) only [s4,↓Za,↓Zj,↓Zr,↓Ze,↓Zi,↓Zs,↓Zf,↓Zo,↓Zg,↓Zb,↓Zc,↓vdn,vup,Zh,Zn,Zl,Zm,Zk,List.map_cons,List.map_nil,cond_true,cond_false,aop,Zv,Zq,Zp,ev,sput,Zt,Zy,Ya,unK,Zd,Zw,Nat.reduceBEq,Nat.reduceAdd,Int.reduceBEq,Int.reduceBNe,Int.reduceLT,Zu,Zz,tup,tyf,n20]
   refine hN3 [(0,v),(2,.bool false),(3,.int .i64 0),(4,.int .i64 2),(26,.bool true)] _ _ ?_ (by simp (maxSteps:=2000000) only [↓Za,↓Zj,↓Zr,↓Ze,↓Zi,↓Zs,↓Zf,↓Zo,↓Zg,↓Zb,↓Zc,↓vdn,vup,Zh,Zn,Zl,Zm,Zk,List.map_cons,List.map_nil,cond_true,cond_false,aop,Zv,Zq,Zp,ev,sput,Zt,Zy,Ya,unK,Zd,Zw,Nat.reduceBEq,Nat.reduceAdd,Int.reduceBEq,Int.reduceBNe,Int.reduceLT,Zu,Zz,tup,tyf])
   clear hN3
   try clear N3
   refine Xl rfl ?_
   refine Yf ?_
   simp (maxSteps:=2000000) only [s4,↓Za,↓Zj,↓Zr,↓Ze,↓Zi,↓Zs,↓Zf,↓Zo,↓Zg,↓Zb,↓Zc,↓vdn,vup,Zh,Zn,Zl,Zm,Zk,List.map_cons,List.map_nil,cond_true,cond_false,aop,Zv,Zq,Zp,ev,sput,Zt,Zy,Ya,unK,Zd,Zw,Nat.reduceBEq,Nat.reduceAdd,Int.reduceBEq,Int.reduceBNe,Int.reduceLT,Zu,Zz,tup,tyf,e22,Yz,List.nil_append,List.append_nil,List.toList_toArray,List.cons_append]
   refine Or.awake_call.mono ?_
   rintro _ _ ⟨rfl,rfl⟩
   try simp (maxSteps:=2000000) only [s4,↓Za,↓Zj,↓Zr,↓Ze,↓Zi,↓Zs,↓Zf,↓Zo,↓Zg,↓Zb,↓Zc,↓vdn,vup,Zh,Zn,Zl,Zm,Zk,List.map_cons,List.map_nil,cond_true,cond_false,aop,Zv,Zq,Zp,ev,sput,Zt,Zy,Ya,unK,Zd,Zw,Nat.reduceBEq,Nat.reduceAdd,Int.reduceBEq,Int.reduceBNe,Int.reduceLT,Zu,Zz,tup,tyf]
 | true =>
   have hlen:=Xq ho
   have hcp:=cn_pos ho
   obtain ⟨hn16,hnT,hnF⟩:=needN_spec ho
   have hncn:=srtb_cn hnT
   have hT36:Wd o o.length≤36:=Nat.le_trans (frAll_le o _) (Nat.mul_le_mul hlen.2 hlen.2)
   have hnT2:=need_le_free ho
   rw [Or.needV,ho,if_pos rfl]
   try simp (maxSteps:=2000000) only [s4,↓Za,↓Zj,↓Zr,↓Ze,↓Zi,↓Zs,↓Zf,↓Zo,↓Zg,↓Zb,↓Zc,↓vdn,vup,Zh,Zn,Zl,Zm,Zk,List.map_cons,List.map_nil,cond_true,cond_false,aop,Zv,Zq,Zp,ev,sput,Zt,Zy,Ya,unK,Zd,Zw,Nat.reduceBEq,Nat.reduceAdd,Int.reduceBEq,Int.reduceBNe,Int.reduceLT,Zu,Zz,tup,tyf]
   refine hN2 [(0,v),(2,.bool false),(3,Zx (Or.needN o:Nat)),(4,.int .i64 0)] _ _ ?_ (by simp (maxSteps:=2000000) only [↓Za,↓Zj,↓Zr,↓Ze,↓Zi,↓Zs,↓Zf,↓Zo,↓Zg,↓Zb,↓Zc,↓vdn,vup,Zh,Zn,Zl,Zm,Zk,List.map_cons,List.map_nil,cond_true,cond_false,aop,Zv,Zq,Zp,ev,sput,Zt,Zy,Ya,unK,Zd,Zw,Nat.reduceBEq,Nat.reduceAdd,Int.reduceBEq,Int.reduceBNe,Int.reduceLT,Zu,Zz,tup,tyf])
   clear hN2
   try clear N2
   refine Yg fun A hA=>?_
   refine Yc fun N4 hN4=>?_
   simp (maxSteps:=2000000) only [s4,↓Za,↓Zj,↓Zr,↓Ze,↓Zi,↓Zs,↓Zf,↓Zo,↓Zg,↓Zb,↓Zc,↓vdn,vup,Zh,Zn,Zl,Zm,Zk,List.map_cons,List.map_nil,cond_true,cond_false,aop,Zv,Zq,Zp,ev,sput,Zt,Zy,Ya,unK,Zd,Zw,Nat.reduceBEq,Nat.reduceAdd,Int.reduceBEq,Int.reduceBNe,Int.reduceLT,Zu,Zz,tup,tyf,n00,Yz,List.nil_append,List.append_nil,List.toList_toArray,List.cons_append]
   refine (Or.rorder_call hv1 hl hx).mono ?_
   rintro _ h2 ⟨rfl,rfl⟩
   simp (maxSteps:=2000000) only [s4,↓Za,↓Zj,↓Zr,↓Ze,↓Zi,↓Zs,↓Zf,↓Zo,↓Zg,↓Zb,↓Zc,↓vdn,vup,Zh,Zn,Zl,Zm,Zk,List.map_cons,List.map_nil,cond_true,cond_false,aop,Zv,Zq,Zp,ev,sput,Zt,Zy,Ya,unK,Zd,Zw,Nat.reduceBEq,Nat.reduceAdd,Int.reduceBEq,Int.reduceBNe,Int.reduceLT,Zu,Zz,tup,tyf,ho]
   refine hN4 [(0,v),(2,.bool false),(3,Zx (Or.needN o:Nat)),(4,.int .i64 0),(26,.bool false)] _ _ ?_ (by simp (maxSteps:=2000000) only [↓Za,↓Zj,↓Zr,↓Ze,↓Zi,↓Zs,↓Zf,↓Zo,↓Zg,↓Zb,↓Zc,↓vdn,vup,Zh,Zn,Zl,Zm,Zk,List.map_cons,List.map_nil,cond_true,cond_false,aop,Zv,Zq,Zp,ev,sput,Zt,Zy,Ya,unK,Zd,Zw,Nat.reduceBEq,Nat.reduceAdd,Int.reduceBEq,Int.reduceBNe,Int.reduceLT,Zu,Zz,tup,tyf])
   clear hN4
   try clear N4
   refine Xe rfl ?_
   refine Yf ?_
   try simp (maxSteps:=2000000) only [s4,↓Za,↓Zj,↓Zr,↓Ze,↓Zi,↓Zs,↓Zf,↓Zo,↓Zg,↓Zb,↓Zc,↓vdn,vup,Zh,Zn,Zl,Zm,Zk,List.map_cons,List.map_nil,cond_true,cond_false,aop,Zv,Zq,Zp,ev,sput,Zt,Zy,Ya,unK,Zd,Zw,Nat.reduceBEq,Nat.reduceAdd,Int.reduceBEq,Int.reduceBNe,Int.reduceLT,Zu,Zz,tup,tyf]
   refine hA [(0,v),(2,.bool false),(3,Zx (Or.needN o:Nat)),(4,.int .i64 0)] _ _ ?_ (by simp (maxSteps:=2000000) only [↓Za,↓Zj,↓Zr,↓Ze,↓Zi,↓Zs,↓Zf,↓Zo,↓Zg,↓Zb,↓Zc,↓vdn,vup,Zh,Zn,Zl,Zm,Zk,List.map_cons,List.map_nil,cond_true,cond_false,aop,Zv,Zq,Zp,ev,sput,Zt,Zy,Ya,unK,Zd,Zw,Nat.reduceBEq,Nat.reduceAdd,Int.reduceBEq,Int.reduceBNe,Int.reduceLT,Zu,Zz,tup,tyf])
   clear hA
   try clear A
   refine Yc fun N5 hN5=>?_
   simp (maxSteps:=2000000) only [s4,↓Za,↓Zj,↓Zr,↓Ze,↓Zi,↓Zs,↓Zf,↓Zo,↓Zg,↓Zb,↓Zc,↓vdn,vup,Zh,Zn,Zl,Zm,Zk,List.map_cons,List.map_nil,cond_true,cond_false,aop,Zv,Zq,Zp,ev,sput,Zt,Zy,Ya,unK,Zd,Zw,Nat.reduceBEq,Nat.reduceAdd,Int.reduceBEq,Int.reduceBNe,Int.reduceLT,Zu,Zz,tup,tyf,Yz,List.nil_append,List.append_nil,List.toList_toArray,List.cons_append]
   refine (Or.clone_call hv1 (by omega)).mono ?_
   rintro l3 _ ⟨hl3,g3,rfl⟩
   refine (Or.count_call hl3 hl hx).mono ?_
   rintro _ _ ⟨rfl,rfl⟩
   rw [Or.countV,ho,if_pos rfl]
   have hv3:=hv1.grow g3
   generalize h2++g3=H at hv3 ⊢
   try simp (maxSteps:=2000000) only [s4,↓Za,↓Zj,↓Zr,↓Ze,↓Zi,↓Zs,↓Zf,↓Zo,↓Zg,↓Zb,↓Zc,↓vdn,vup,Zh,Zn,Zl,Zm,Zk,List.map_cons,List.map_nil,cond_true,cond_false,aop,Zv,Zq,Zp,ev,sput,Zt,Zy,Ya,unK,Zd,Zw,Nat.reduceBEq,Nat.reduceAdd,Int.reduceBEq,Int.reduceBNe,Int.reduceLT,Zu,Zz,tup,tyf]
   refine hN5 [(0,v),(2,.bool false),(3,Zx (Or.needN o:Nat)),(4,.int .i64 0),(5,Zx (cn o:Nat))] _ _ ?_ (by simp (maxSteps:=2000000) only [↓Za,↓Zj,↓Zr,↓Ze,↓Zi,↓Zs,↓Zf,↓Zo,↓Zg,↓Zb,↓Zc,↓vdn,vup,Zh,Zn,Zl,Zm,Zk,List.map_cons,List.map_nil,cond_true,cond_false,aop,Zv,Zq,Zp,ev,sput,Zt,Zy,Ya,unK,Zd,Zw,Nat.reduceBEq,Nat.reduceAdd,Int.reduceBEq,Int.reduceBNe,Int.reduceLT,Zu,Zz,tup,tyf])
   clear hN5
   try clear N5
   refine Yg fun B hB=>?_
   refine Yc fun N6 hN6=>?_
   simp (maxSteps:=2000000) only [s4,↓Za,↓Zj,↓Zr,↓Ze,↓Zi,↓Zs,↓Zf,↓Zo,↓Zg,↓Zb,↓Zc,↓vdn,vup,Zh,Zn,Zl,Zm,Zk,List.map_cons,List.map_nil,cond_true,cond_false,aop,Zv,Zq,Zp,ev,sput,Zt,Zy,Ya,unK,Zd,Zw,Nat.reduceBEq,Nat.reduceAdd,Int.reduceBEq,Int.reduceBNe,Int.reduceLT,Zu,Zz,tup,tyf,n00]
   refine hN6 [(0,v),(2,.bool false),(3,Zx (Or.needN o:Nat)),(4,.int .i64 0),(5,Zx (cn o:Nat)),(39,.bool false)] _ _ ?_ (by simp (maxSteps:=2000000) only [↓Za,↓Zj,↓Zr,↓Ze,↓Zi,↓Zs,↓Zf,↓Zo,↓Zg,↓Zb,↓Zc,↓vdn,vup,Zh,Zn,Zl,Zm,Zk,List.map_cons,List.map_nil,cond_true,cond_false,aop,Zv,Zq,Zp,ev,sput,Zt,Zy,Ya,unK,Zd,Zw,Nat.reduceBEq,Nat.reduceAdd,Int.reduceBEq,Int.reduceBNe,Int.reduceLT,Zu,Zz,tup,tyf])
   clear hN6
   try clear N6
   refine Xe rfl ?_
   refine Yf ?_
   try simp (maxSteps:=2000000) only [s4,↓Za,↓Zj,↓Zr,↓Ze,↓Zi,↓Zs,↓Zf,↓Zo,↓Zg,↓Zb,↓Zc,↓vdn,vup,Zh,Zn,Zl,Zm,Zk,List.map_cons,List.map_nil,cond_true,cond_false,aop,Zv,Zq,Zp,ev,sput,Zt,Zy,Ya,unK,Zd,Zw,Nat.reduceBEq,Nat.reduceAdd,Int.reduceBEq,Int.reduceBNe,Int.reduceLT,Zu,Zz,tup,tyf]
   refine hB [(0,v),(2,.bool false),(3,Zx (Or.needN o:Nat)),(4,.int .i64 0),(5,Zx (cn o:Nat))] _ _ ?_ (by simp (maxSteps:=2000000) only [↓Za,↓Zj,↓Zr,↓Ze,↓Zi,↓Zs,↓Zf,↓Zo,↓Zg,↓Zb,↓Zc,↓vdn,vup,Zh,Zn,Zl,Zm,Zk,List.map_cons,List.map_nil,cond_true,cond_false,aop,Zv,Zq,Zp,ev,sput,Zt,Zy,Ya,unK,Zd,Zw,Nat.reduceBEq,Nat.reduceAdd,Int.reduceBEq,Int.reduceBNe,Int.reduceLT,Zu,Zz,tup,tyf])
   clear hB
   try clear B
   refine Yc fun N7 hN7=>?_
   simp (maxSteps:=2000000) only [s4,↓Za,↓Zj,↓Zr,↓Ze,↓Zi,↓Zs,↓Zf,↓Zo,↓Zg,↓Zb,↓Zc,↓vdn,vup,Zh,Zn,Zl,Zm,Zk,List.map_cons,List.map_nil,cond_true,cond_false,aop,Zv,Zq,Zp,ev,sput,Zt,Zy,Ya,unK,Zd,Zw,Nat.reduceBEq,Nat.reduceAdd,Int.reduceBEq,Int.reduceBNe,Int.reduceLT,Zu,Zz,tup,tyf]
   refine hN7 [(0,v),(2,.bool false),(3,Zx (Or.needN o:Nat)),(4,.int .i64 0),(5,Zx (cn o:Nat)),(6,.int .i64 0)] _ _ ?_ (by simp (maxSteps:=2000000) only [↓Za,↓Zj,↓Zr,↓Ze,↓Zi,↓Zs,↓Zf,↓Zo,↓Zg,↓Zb,↓Zc,↓vdn,vup,Zh,Zn,Zl,Zm,Zk,List.map_cons,List.map_nil,cond_true,cond_false,aop,Zv,Zq,Zp,ev,sput,Zt,Zy,Ya,unK,Zd,Zw,Nat.reduceBEq,Nat.reduceAdd,Int.reduceBEq,Int.reduceBNe,Int.reduceLT,Zu,Zz,tup,tyf])
   clear hN7
   try clear N7
   refine Yg fun M hM=>?_
   refine Yc fun N8 hN8=>?_
   simp (maxSteps:=2000000) only [s4,↓Za,↓Zj,↓Zr,↓Ze,↓Zi,↓Zs,↓Zf,↓Zo,↓Zg,↓Zb,↓Zc,↓vdn,vup,Zh,Zn,Zl,Zm,Zk,List.map_cons,List.map_nil,cond_true,cond_false,aop,Zv,Zq,Zp,ev,sput,Zt,Zy,Ya,unK,Zd,Zw,Nat.reduceBEq,Nat.reduceAdd,Int.reduceBEq,Int.reduceBNe,Int.reduceLT,Zu,Zz,tup,tyf,hv3.len]
   refine hN8 [(0,v),(2,.bool false),(3,Zx (Or.needN o:Nat)),(4,.int .i64 0),(5,Zx (cn o:Nat)),(6,.int .i64 0),(40,v),(41,Zx o.length),(42,.int .i64 0)] _ _ ?_ (by simp (maxSteps:=2000000) only [↓Za,↓Zj,↓Zr,↓Ze,↓Zi,↓Zs,↓Zf,↓Zo,↓Zg,↓Zb,↓Zc,↓vdn,vup,Zh,Zn,Zl,Zm,Zk,List.map_cons,List.map_nil,cond_true,cond_false,aop,Zv,Zq,Zp,ev,sput,Zt,Zy,Ya,unK,Zd,Zw,Nat.reduceBEq,Nat.reduceAdd,Int.reduceBEq,Int.reduceBNe,Int.reduceLT,Zu,Zz,tup,tyf])
   clear hN8
   try clear N8
   refine Yo ?_
   refine Yn fun Q hQ=>?_
   refine Xx (γ:=Nat) (fun s=>s≤o.length) (fun s=>([(0,v),(2,.bool false),(3,Zx (Or.needN o:Nat)),(4,.int .i64 0),(5,Zx (cn o:Nat)),(6,Zx (Wd o s:Nat)),(40,v),(41,Zx o.length),(42,Zx (s:Nat))],H)) (fun s=>o.length-s) 0 (Nat.zero_le _) (by simp (maxSteps:=2000000) only [↓Za,↓Zj,↓Zr,↓Ze,↓Zi,↓Zs,↓Zf,↓Zo,↓Zg,↓Zb,↓Zc,↓vdn,vup,Zh,Zn,Zl,Zm,Zk,List.map_cons,List.map_nil,cond_true,cond_false,aop,Zv,Zq,Zp,ev,sput,Zt,Zy,Ya,unK,Zd,Zw,Nat.reduceBEq,Nat.reduceAdd,Int.reduceBEq,Int.reduceBNe,Int.reduceLT,Zu,Zz,tup,tyf,Int.natCast_zero,Wd]) rfl ?_
   rintro i hi
   refine Yn fun Q2 hQ2=>?_
   simp only [l4_1]
   have hai:Wd o i≤36:=Nat.le_trans (frAll_le o i) (Nat.mul_le_mul (show i≤6 by omega) (show i≤6 by omega))
   by_cases hin:(i:Int)<o.length
   · have hi' : i<o.length:=by omega
     refine Yc fun N9 hN9=>?_
     simp (maxSteps:=2000000) only [s4,↓Za,↓Zj,↓Zr,↓Ze,↓Zi,↓Zs,↓Zf,↓Zo,↓Zg,↓Zb,↓Zc,↓vdn,vup,Zh,Zn,Zl,Zm,Zk,List.map_cons,List.map_nil,cond_true,cond_false,aop,Zv,Zq,Zp,ev,sput,Zt,Zy,Ya,unK,Zd,Zw,Nat.reduceBEq,Nat.reduceAdd,Int.reduceBEq,Int.reduceBNe,Int.reduceLT,Zu,Zz,tup,tyf,hin]
     refine hN9 [(0,v),(2,.bool false),(3,Zx (Or.needN o:Nat)),(4,.int .i64 0),(5,Zx (cn o:Nat)),(6,Zx (Wd o i:Nat)),(40,v),(41,Zx o.length),(42,Zx (i:Nat)),(43,.bool true)] _ _ ?_ (by simp (maxSteps:=2000000) only [↓Za,↓Zj,↓Zr,↓Ze,↓Zi,↓Zs,↓Zf,↓Zo,↓Zg,↓Zb,↓Zc,↓vdn,vup,Zh,Zn,Zl,Zm,Zk,List.map_cons,List.map_nil,cond_true,cond_false,aop,Zv,Zq,Zp,ev,sput,Zt,Zy,Ya,unK,Zd,Zw,Nat.reduceBEq,Nat.reduceAdd,Int.reduceBEq,Int.reduceBNe,Int.reduceLT,Zu,Zz,tup,tyf])
     clear hN9
     try clear N9
     refine Yc fun N10 hN10=>?_
     simp (maxSteps:=2000000) only [s4,↓Za,↓Zj,↓Zr,↓Ze,↓Zi,↓Zs,↓Zf,↓Zo,↓Zg,↓Zb,↓Zc,↓vdn,vup,Zh,Zn,Zl,Zm,Zk,List.map_cons,List.map_nil,cond_true,cond_false,aop,Zv,Zq,Zp,ev,sput,Zt,Zy,Ya,unK,Zd,Zw,Nat.reduceBEq,Nat.reduceAdd,Int.reduceBEq,Int.reduceBNe,Int.reduceLT,Zu,Zz,tup,tyf]
     refine hN10 [(0,v),(2,.bool false),(3,Zx (Or.needN o:Nat)),(4,.int .i64 0),(5,Zx (cn o:Nat)),(6,Zx (Wd o i:Nat)),(40,v),(41,Zx o.length),(42,Zx (i:Nat))] _ _ ?_ (by simp (maxSteps:=2000000) only [↓Za,↓Zj,↓Zr,↓Ze,↓Zi,↓Zs,↓Zf,↓Zo,↓Zg,↓Zb,↓Zc,↓vdn,vup,Zh,Zn,Zl,Zm,Zk,List.map_cons,List.map_nil,cond_true,cond_false,aop,Zv,Zq,Zp,ev,sput,Zt,Zy,Ya,unK,Zd,Zw,Nat.reduceBEq,Nat.reduceAdd,Int.reduceBEq,Int.reduceBNe,Int.reduceLT,Zu,Zz,tup,tyf])
     clear hN10
     try clear N10
     refine Yg fun Y hY=>?_
     refine Yo ?_
     refine Yc fun N11 hN11=>?_
     simp (maxSteps:=2000000) only [s4,↓Za,↓Zj,↓Zr,↓Ze,↓Zi,↓Zs,↓Zf,↓Zo,↓Zg,↓Zb,↓Zc,↓vdn,vup,Zh,Zn,Zl,Zm,Zk,List.map_cons,List.map_nil,cond_true,cond_false,aop,Zv,Zq,Zp,ev,sput,Zt,Zy,Ya,unK,Zd,Zw,Nat.reduceBEq,Nat.reduceAdd,Int.reduceBEq,Int.reduceBNe,Int.reduceLT,Zu,Zz,tup,tyf]
     refine hN11 [(0,v),(2,.bool false),(3,Zx (Or.needN o:Nat)),(4,.int .i64 0),(5,Zx (cn o:Nat)),(6,Zx (Wd o i:Nat)),(7,Zx (i:Nat)),(40,v),(41,Zx o.length),(42,Zx (i:Nat))] _ _ ?_ (by simp (maxSteps:=2000000) only [↓Za,↓Zj,↓Zr,↓Ze,↓Zi,↓Zs,↓Zf,↓Zo,↓Zg,↓Zb,↓Zc,↓vdn,vup,Zh,Zn,Zl,Zm,Zk,List.map_cons,List.map_nil,cond_true,cond_false,aop,Zv,Zq,Zp,ev,sput,Zt,Zy,Ya,unK,Zd,Zw,Nat.reduceBEq,Nat.reduceAdd,Int.reduceBEq,Int.reduceBNe,Int.reduceLT,Zu,Zz,tup,tyf])
     clear hN11
     try clear N11
     refine Yc fun N12 hN12=>?_
     simp (maxSteps:=2000000) only [s4,↓Za,↓Zj,↓Zr,↓Ze,↓Zi,↓Zs,↓Zf,↓Zo,↓Zg,↓Zb,↓Zc,↓vdn,vup,Zh,Zn,Zl,Zm,Zk,List.map_cons,List.map_nil,cond_true,cond_false,aop,Zv,Zq,Zp,ev,sput,Zt,Zy,Ya,unK,Zd,Zw,Nat.reduceBEq,Nat.reduceAdd,Int.reduceBEq,Int.reduceBNe,Int.reduceLT,Zu,Zz,tup,tyf]
     refine hN12 [(0,v),(2,.bool false),(3,Zx (Or.needN o:Nat)),(4,.int .i64 0),(5,Zx (cn o:Nat)),(6,Zx (Wd o i:Nat)),(7,Zx (i:Nat)),(40,v),(41,Zx o.length),(42,Zx (i:Nat)),(45,Zx (i:Nat)),(46,.int .i64 0)] _ _ ?_ (by simp (maxSteps:=2000000) only [↓Za,↓Zj,↓Zr,↓Ze,↓Zi,↓Zs,↓Zf,↓Zo,↓Zg,↓Zb,↓Zc,↓vdn,vup,Zh,Zn,Zl,Zm,Zk,List.map_cons,List.map_nil,cond_true,cond_false,aop,Zv,Zq,Zp,ev,sput,Zt,Zy,Ya,unK,Zd,Zw,Nat.reduceBEq,Nat.reduceAdd,Int.reduceBEq,Int.reduceBNe,Int.reduceLT,Zu,Zz,tup,tyf])
     clear hN12
     try clear N12
     refine Yo ?_
     refine Yn fun Qa hQa=>?_
     refine Xx (γ:=Nat) (fun s=>s≤i) (fun s=>([(0,v),(2,.bool false),(3,Zx (Or.needN o:Nat)),(4,.int .i64 0),(5,Zx (cn o:Nat)),(6,Zx (Wd o i+frRow o i s:Nat)),(7,Zx (i:Nat)),(40,v),(41,Zx o.length),(42,Zx (i:Nat)),(45,Zx (i:Nat)),(46,Zx (s:Nat))],H)) (fun s=>i-s) 0 (Nat.zero_le _) (by simp (maxSteps:=2000000) only [↓Za,↓Zj,↓Zr,↓Ze,↓Zi,↓Zs,↓Zf,↓Zo,↓Zg,↓Zb,↓Zc,↓vdn,vup,Zh,Zn,Zl,Zm,Zk,List.map_cons,List.map_nil,cond_true,cond_false,aop,Zv,Zq,Zp,ev,sput,Zt,Zy,Ya,unK,Zd,Zw,Nat.reduceBEq,Nat.reduceAdd,Int.reduceBEq,Int.reduceBNe,Int.reduceLT,Zu,Zz,tup,tyf,Int.natCast_zero,frRow,List.range_zero,List.countP_nil,Nat.add_zero]) rfl ?_
     rintro j hj
     refine Yn fun Qb hQb=>?_
     simp only [l4_0]
     have hrj:=frRow_le o i j
     have hsu:=frRow_succ o i j
     by_cases hjn:(j:Int)<(i:Int)
     · have hj' : j<i:=by omega
       refine Yc fun N13 hN13=>?_
       simp (maxSteps:=2000000) only [s4,↓Za,↓Zj,↓Zr,↓Ze,↓Zi,↓Zs,↓Zf,↓Zo,↓Zg,↓Zb,↓Zc,↓vdn,vup,Zh,Zn,Zl,Zm,Zk,List.map_cons,List.map_nil,cond_true,cond_false,aop,Zv,Zq,Zp,ev,sput,Zt,Zy,Ya,unK,Zd,Zw,Nat.reduceBEq,Nat.reduceAdd,Int.reduceBEq,Int.reduceBNe,Int.reduceLT,Zu,Zz,tup,tyf,hjn]
       refine hN13 [(0,v),(2,.bool false),(3,Zx (Or.needN o:Nat)),(4,.int .i64 0),(5,Zx (cn o:Nat)),(6,Zx (Wd o i+frRow o i j:Nat)),(7,Zx (i:Nat)),(40,v),(41,Zx o.length),(42,Zx (i:Nat)),(45,Zx (i:Nat)),(46,Zx (j:Nat)),(47,.bool true)] _ _ ?_ (by simp (maxSteps:=2000000) only [↓Za,↓Zj,↓Zr,↓Ze,↓Zi,↓Zs,↓Zf,↓Zo,↓Zg,↓Zb,↓Zc,↓vdn,vup,Zh,Zn,Zl,Zm,Zk,List.map_cons,List.map_nil,cond_true,cond_false,aop,Zv,Zq,Zp,ev,sput,Zt,Zy,Ya,unK,Zd,Zw,Nat.reduceBEq,Nat.reduceAdd,Int.reduceBEq,Int.reduceBNe,Int.reduceLT,Zu,Zz,tup,tyf])
       clear hN13
       try clear N13
       refine Yc fun N14 hN14=>?_
       simp (maxSteps:=2000000) only [s4,↓Za,↓Zj,↓Zr,↓Ze,↓Zi,↓Zs,↓Zf,↓Zo,↓Zg,↓Zb,↓Zc,↓vdn,vup,Zh,Zn,Zl,Zm,Zk,List.map_cons,List.map_nil,cond_true,cond_false,aop,Zv,Zq,Zp,ev,sput,Zt,Zy,Ya,unK,Zd,Zw,Nat.reduceBEq,Nat.reduceAdd,Int.reduceBEq,Int.reduceBNe,Int.reduceLT,Zu,Zz,tup,tyf]
       refine hN14 [(0,v),(2,.bool false),(3,Zx (Or.needN o:Nat)),(4,.int .i64 0),(5,Zx (cn o:Nat)),(6,Zx (Wd o i+frRow o i j:Nat)),(7,Zx (i:Nat)),(40,v),(41,Zx o.length),(42,Zx (i:Nat)),(45,Zx (i:Nat)),(46,Zx (j:Nat))] _ _ ?_ (by simp (maxSteps:=2000000) only [↓Za,↓Zj,↓Zr,↓Ze,↓Zi,↓Zs,↓Zf,↓Zo,↓Zg,↓Zb,↓Zc,↓vdn,vup,Zh,Zn,Zl,Zm,Zk,List.map_cons,List.map_nil,cond_true,cond_false,aop,Zv,Zq,Zp,ev,sput,Zt,Zy,Ya,unK,Zd,Zw,Nat.reduceBEq,Nat.reduceAdd,Int.reduceBEq,Int.reduceBNe,Int.reduceLT,Zu,Zz,tup,tyf])
       clear hN14
       try clear N14
       refine Yg fun Z hZ=>?_
       refine Yo ?_
       refine Yc fun N15 hN15=>?_
       simp (maxSteps:=2000000) only [s4,↓Za,↓Zj,↓Zr,↓Ze,↓Zi,↓Zs,↓Zf,↓Zo,↓Zg,↓Zb,↓Zc,↓vdn,vup,Zh,Zn,Zl,Zm,Zk,List.map_cons,List.map_nil,cond_true,cond_false,aop,Zv,Zq,Zp,ev,sput,Zt,Zy,Ya,unK,Zd,Zw,Nat.reduceBEq,Nat.reduceAdd,Int.reduceBEq,Int.reduceBNe,Int.reduceLT,Zu,Zz,tup,tyf]
       refine hN15 [(0,v),(2,.bool false),(3,Zx (Or.needN o:Nat)),(4,.int .i64 0),(5,Zx (cn o:Nat)),(6,Zx (Wd o i+frRow o i j:Nat)),(7,Zx (i:Nat)),(8,Zx (j:Nat)),(40,v),(41,Zx o.length),(42,Zx (i:Nat)),(45,Zx (i:Nat)),(46,Zx (j:Nat))] _ _ ?_ (by simp (maxSteps:=2000000) only [↓Za,↓Zj,↓Zr,↓Ze,↓Zi,↓Zs,↓Zf,↓Zo,↓Zg,↓Zb,↓Zc,↓vdn,vup,Zh,Zn,Zl,Zm,Zk,List.map_cons,List.map_nil,cond_true,cond_false,aop,Zv,Zq,Zp,ev,sput,Zt,Zy,Ya,unK,Zd,Zw,Nat.reduceBEq,Nat.reduceAdd,Int.reduceBEq,Int.reduceBNe,Int.reduceLT,Zu,Zz,tup,tyf])
       clear hN15
       try clear N15
       refine Yc fun N16 hN16=>?_
       simp (maxSteps:=2000000) only [s4,↓Za,↓Zj,↓Zr,↓Ze,↓Zi,↓Zs,↓Zf,↓Zo,↓Zg,↓Zb,↓Zc,↓vdn,vup,Zh,Zn,Zl,Zm,Zk,List.map_cons,List.map_nil,cond_true,cond_false,aop,Zv,Zq,Zp,ev,sput,Zt,Zy,Ya,unK,Zd,Zw,Nat.reduceBEq,Nat.reduceAdd,Int.reduceBEq,Int.reduceBNe,Int.reduceLT,Zu,Zz,tup,tyf,Yz,List.nil_append,List.append_nil,List.toList_toArray,List.cons_append]
       refine (Or.rfree_call hv3 ho hi' (show j<o.length by omega)).mono ?_
       rintro _ H ⟨rfl,rfl⟩
       cases hf:fr o i j with
       | false =>
         rw [hf,if_neg (by decide),Nat.add_zero] at hsu
         refine hN16 [(0,v),(2,.bool false),(3,Zx (Or.needN o:Nat)),(4,.int .i64 0),(5,Zx (cn o:Nat)),(6,Zx (Wd o i+frRow o i j:Nat)),(7,Zx (i:Nat)),(8,Zx (j:Nat)),(40,v),(41,Zx o.length),(42,Zx (i:Nat)),(45,Zx (i:Nat)),(46,Zx (j:Nat)),(52,.bool false)] _ _ ?_ (by simp (maxSteps:=2000000) only [↓Za,↓Zj,↓Zr,↓Ze,↓Zi,↓Zs,↓Zf,↓Zo,↓Zg,↓Zb,↓Zc,↓vdn,vup,Zh,Zn,Zl,Zm,Zk,List.map_cons,List.map_nil,cond_true,cond_false,aop,Zv,Zq,Zp,ev,sput,Zt,Zy,Ya,unK,Zd,Zw,Nat.reduceBEq,Nat.reduceAdd,Int.reduceBEq,Int.reduceBNe,Int.reduceLT,Zu,Zz,tup,tyf])
         clear hN16
         try clear N16
         refine Xe rfl ?_
         refine Yf ?_
         try simp (maxSteps:=2000000) only [s4,↓Za,↓Zj,↓Zr,↓Ze,↓Zi,↓Zs,↓Zf,↓Zo,↓Zg,↓Zb,↓Zc,↓vdn,vup,Zh,Zn,Zl,Zm,Zk,List.map_cons,List.map_nil,cond_true,cond_false,aop,Zv,Zq,Zp,ev,sput,Zt,Zy,Ya,unK,Zd,Zw,Nat.reduceBEq,Nat.reduceAdd,Int.reduceBEq,Int.reduceBNe,Int.reduceLT,Zu,Zz,tup,tyf]
         refine hZ [(0,v),(2,.bool false),(3,Zx (Or.needN o:Nat)),(4,.int .i64 0),(5,Zx (cn o:Nat)),(6,Zx (Wd o i+frRow o i j:Nat)),(7,Zx (i:Nat)),(40,v),(41,Zx o.length),(42,Zx (i:Nat)),(45,Zx (i:Nat)),(46,Zx (j:Nat))] _ _ ?_ (by simp (maxSteps:=2000000) only [↓Za,↓Zj,↓Zr,↓Ze,↓Zi,↓Zs,↓Zf,↓Zo,↓Zg,↓Zb,↓Zc,↓vdn,vup,Zh,Zn,Zl,Zm,Zk,List.map_cons,List.map_nil,cond_true,cond_false,aop,Zv,Zq,Zp,ev,sput,Zt,Zy,Ya,unK,Zd,Zw,Nat.reduceBEq,Nat.reduceAdd,Int.reduceBEq,Int.reduceBNe,Int.reduceLT,Zu,Zz,tup,tyf])
         clear hZ
         try clear Z
         refine Yf ?_
         simp (maxSteps:=2000000) only [s4,↓Za,↓Zj,↓Zr,↓Ze,↓Zi,↓Zs,↓Zf,↓Zo,↓Zg,↓Zb,↓Zc,↓vdn,vup,Zh,Zn,Zl,Zm,Zk,List.map_cons,List.map_nil,cond_true,cond_false,aop,Zv,Zq,Zp,ev,sput,Zt,Zy,Ya,unK,Zd,Zw,Nat.reduceBEq,Nat.reduceAdd,Int.reduceBEq,Int.reduceBNe,Int.reduceLT,Zu,Zz,tup,tyf,add1 (show j<9223372036854775807 by omega)]
         exact hQb _ _ _ ⟨j+1,hj',by show i-(j+1)<i-j; omega,by simp (maxSteps:=2000000) only [↓Za,↓Zj,↓Zr,↓Ze,↓Zi,↓Zs,↓Zf,↓Zo,↓Zg,↓Zb,↓Zc,↓vdn,vup,Zh,Zn,Zl,Zm,Zk,List.map_cons,List.map_nil,cond_true,cond_false,aop,Zv,Zq,Zp,ev,sput,Zt,Zy,Ya,unK,Zd,Zw,Nat.reduceBEq,Nat.reduceAdd,Int.reduceBEq,Int.reduceBNe,Int.reduceLT,Zu,Zz,tup,tyf,hsu,Nat.add_zero],rfl⟩
       | true =>
         rw [hf,if_pos rfl] at hsu
         have hsu2:Wd o i+frRow o i j+1=Wd o i+frRow o i (j+1):=by omega
         refine hN16 [(0,v),(2,.bool false),(3,Zx (Or.needN o:Nat)),(4,.int .i64 0),(5,Zx (cn o:Nat)),(6,Zx (Wd o i+frRow o i j:Nat)),(7,Zx (i:Nat)),(8,Zx (j:Nat)),(40,v),(41,Zx o.length),(42,Zx (i:Nat)),(45,Zx (i:Nat)),(46,Zx (j:Nat)),(52,.bool true)] _ _ ?_ (by simp (maxSteps:=2000000) only [↓Za,↓Zj,↓Zr,↓Ze,↓Zi,↓Zs,↓Zf,↓Zo,↓Zg,↓Zb,↓Zc,↓vdn,vup,Zh,Zn,Zl,Zm,Zk,List.map_cons,List.map_nil,cond_true,cond_false,aop,Zv,Zq,Zp,ev,sput,Zt,Zy,Ya,unK,Zd,Zw,Nat.reduceBEq,Nat.reduceAdd,Int.reduceBEq,Int.reduceBNe,Int.reduceLT,Zu,Zz,tup,tyf])
         clear hN16
         try clear N16
         refine Xl rfl ?_
         refine Yf ?_
         simp (maxSteps:=2000000) only [s4,↓Za,↓Zj,↓Zr,↓Ze,↓Zi,↓Zs,↓Zf,↓Zo,↓Zg,↓Zb,↓Zc,↓vdn,vup,Zh,Zn,Zl,Zm,Zk,List.map_cons,List.map_nil,cond_true,cond_false,aop,Zv,Zq,Zp,ev,sput,Zt,Zy,Ya,unK,Zd,Zw,Nat.reduceBEq,Nat.reduceAdd,Int.reduceBEq,Int.reduceBNe,Int.reduceLT,Zu,Zz,tup,tyf,add1 (show Wd o i+frRow o i j<9223372036854775807 by omega),hsu2]
         refine hZ [(0,v),(2,.bool false),(3,Zx (Or.needN o:Nat)),(4,.int .i64 0),(5,Zx (cn o:Nat)),(6,Zx (Wd o i+frRow o i (j+1):Nat)),(7,Zx (i:Nat)),(40,v),(41,Zx o.length),(42,Zx (i:Nat)),(45,Zx (i:Nat)),(46,Zx (j:Nat))] _ _ ?_ (by simp (maxSteps:=2000000) only [↓Za,↓Zj,↓Zr,↓Ze,↓Zi,↓Zs,↓Zf,↓Zo,↓Zg,↓Zb,↓Zc,↓vdn,vup,Zh,Zn,Zl,Zm,Zk,List.map_cons,List.map_nil,cond_true,cond_false,aop,Zv,Zq,Zp,ev,sput,Zt,Zy,Ya,unK,Zd,Zw,Nat.reduceBEq,Nat.reduceAdd,Int.reduceBEq,Int.reduceBNe,Int.reduceLT,Zu,Zz,tup,tyf])
         clear hZ
         try clear Z
         refine Yf ?_
         simp (maxSteps:=2000000) only [s4,↓Za,↓Zj,↓Zr,↓Ze,↓Zi,↓Zs,↓Zf,↓Zo,↓Zg,↓Zb,↓Zc,↓vdn,vup,Zh,Zn,Zl,Zm,Zk,List.map_cons,List.map_nil,cond_true,cond_false,aop,Zv,Zq,Zp,ev,sput,Zt,Zy,Ya,unK,Zd,Zw,Nat.reduceBEq,Nat.reduceAdd,Int.reduceBEq,Int.reduceBNe,Int.reduceLT,Zu,Zz,tup,tyf,add1 (show j<9223372036854775807 by omega)]
         exact hQb _ _ _ ⟨j+1,hj',by show i-(j+1)<i-j; omega,by simp (maxSteps:=2000000) only [↓Za,↓Zj,↓Zr,↓Ze,↓Zi,↓Zs,↓Zf,↓Zo,↓Zg,↓Zb,↓Zc,↓vdn,vup,Zh,Zn,Zl,Zm,Zk,List.map_cons,List.map_nil,cond_true,cond_false,aop,Zv,Zq,Zp,ev,sput,Zt,Zy,Ya,unK,Zd,Zw,Nat.reduceBEq,Nat.reduceAdd,Int.reduceBEq,Int.reduceBNe,Int.reduceLT,Zu,Zz,tup,tyf],rfl⟩
     · obtain rfl:i=j:=by omega
       refine Yc fun N17 hN17=>?_
       simp (maxSteps:=2000000) only [s4,↓Za,↓Zj,↓Zr,↓Ze,↓Zi,↓Zs,↓Zf,↓Zo,↓Zg,↓Zb,↓Zc,↓vdn,vup,Zh,Zn,Zl,Zm,Zk,List.map_cons,List.map_nil,cond_true,cond_false,aop,Zv,Zq,Zp,ev,sput,Zt,Zy,Ya,unK,Zd,Zw,Nat.reduceBEq,Nat.reduceAdd,Int.reduceBEq,Int.reduceBNe,Int.reduceLT,Zu,Zz,tup,tyf,hjn]
       refine hN17 [(0,v),(2,.bool false),(3,Zx (Or.needN o:Nat)),(4,.int .i64 0),(5,Zx (cn o:Nat)),(6,Zx (Wd o i+frRow o i i:Nat)),(7,Zx (i:Nat)),(40,v),(41,Zx o.length),(42,Zx (i:Nat)),(45,Zx (i:Nat)),(46,Zx (i:Nat)),(47,.bool false)] _ _ ?_ (by simp (maxSteps:=2000000) only [↓Za,↓Zj,↓Zr,↓Ze,↓Zi,↓Zs,↓Zf,↓Zo,↓Zg,↓Zb,↓Zc,↓vdn,vup,Zh,Zn,Zl,Zm,Zk,List.map_cons,List.map_nil,cond_true,cond_false,aop,Zv,Zq,Zp,ev,sput,Zt,Zy,Ya,unK,Zd,Zw,Nat.reduceBEq,Nat.reduceAdd,Int.reduceBEq,Int.reduceBNe,Int.reduceLT,Zu,Zz,tup,tyf])
       clear hN17
       try clear N17
       refine Yc fun N18 hN18=>?_
       try simp (maxSteps:=2000000) only [s4,↓Za,↓Zj,↓Zr,↓Ze,↓Zi,↓Zs,↓Zf,↓Zo,↓Zg,↓Zb,↓Zc,↓vdn,vup,Zh,Zn,Zl,Zm,Zk,List.map_cons,List.map_nil,cond_true,cond_false,aop,Zv,Zq,Zp,ev,sput,Zt,Zy,Ya,unK,Zd,Zw,Nat.reduceBEq,Nat.reduceAdd,Int.reduceBEq,Int.reduceBNe,Int.reduceLT,Zu,Zz,tup,tyf]
       refine hQb _ _ _ (hQa _ _ _ ?_)
       simp (maxSteps:=2000000) only [s4,↓Za,↓Zj,↓Zr,↓Ze,↓Zi,↓Zs,↓Zf,↓Zo,↓Zg,↓Zb,↓Zc,↓vdn,vup,Zh,Zn,Zl,Zm,Zk,List.map_cons,List.map_nil,cond_true,cond_false,aop,Zv,Zq,Zp,ev,sput,Zt,Zy,Ya,unK,Zd,Zw,Nat.reduceBEq,Nat.reduceAdd,Int.reduceBEq,Int.reduceBNe,Int.reduceLT,Zu,Zz,tup,tyf,if_true]
       refine hY [(0,v),(2,.bool false),(3,Zx (Or.needN o:Nat)),(4,.int .i64 0),(5,Zx (cn o:Nat)),(6,Zx (Wd o i+frRow o i i:Nat)),(40,v),(41,Zx o.length),(42,Zx (i:Nat)),(47,.bool false)] _ _ ?_ (by simp (maxSteps:=2000000) only [↓Za,↓Zj,↓Zr,↓Ze,↓Zi,↓Zs,↓Zf,↓Zo,↓Zg,↓Zb,↓Zc,↓vdn,vup,Zh,Zn,Zl,Zm,Zk,List.map_cons,List.map_nil,cond_true,cond_false,aop,Zv,Zq,Zp,ev,sput,Zt,Zy,Ya,unK,Zd,Zw,Nat.reduceBEq,Nat.reduceAdd,Int.reduceBEq,Int.reduceBNe,Int.reduceLT,Zu,Zz,tup,tyf])
       clear hY
       try clear Y
       refine Yf ?_
       simp (maxSteps:=2000000) only [s4,↓Za,↓Zj,↓Zr,↓Ze,↓Zi,↓Zs,↓Zf,↓Zo,↓Zg,↓Zb,↓Zc,↓vdn,vup,Zh,Zn,Zl,Zm,Zk,List.map_cons,List.map_nil,cond_true,cond_false,aop,Zv,Zq,Zp,ev,sput,Zt,Zy,Ya,unK,Zd,Zw,Nat.reduceBEq,Nat.reduceAdd,Int.reduceBEq,Int.reduceBNe,Int.reduceLT,Zu,Zz,tup,tyf,add1 (show i<9223372036854775807 by omega)]
       exact hQ2 _ _ _ ⟨i+1,hi',by show o.length-(i+1)<o.length-i; omega,by simp (maxSteps:=2000000) only [↓Za,↓Zj,↓Zr,↓Ze,↓Zi,↓Zs,↓Zf,↓Zo,↓Zg,↓Zb,↓Zc,↓vdn,vup,Zh,Zn,Zl,Zm,Zk,List.map_cons,List.map_nil,cond_true,cond_false,aop,Zv,Zq,Zp,ev,sput,Zt,Zy,Ya,unK,Zd,Zw,Nat.reduceBEq,Nat.reduceAdd,Int.reduceBEq,Int.reduceBNe,Int.reduceLT,Zu,Zz,tup,tyf,Wd],rfl⟩
   · obtain rfl:i=o.length:=by omega
     refine Yc fun N19 hN19=>?_
     simp (maxSteps:=2000000) only [s4,↓Za,↓Zj,↓Zr,↓Ze,↓Zi,↓Zs,↓Zf,↓Zo,↓Zg,↓Zb,↓Zc,↓vdn,vup,Zh,Zn,Zl,Zm,Zk,List.map_cons,List.map_nil,cond_true,cond_false,aop,Zv,Zq,Zp,ev,sput,Zt,Zy,Ya,unK,Zd,Zw,Nat.reduceBEq,Nat.reduceAdd,Int.reduceBEq,Int.reduceBNe,Int.reduceLT,Zu,Zz,tup,tyf,hin]
     refine hN19 [(0,v),(2,.bool false),(3,Zx (Or.needN o:Nat)),(4,.int .i64 0),(5,Zx (cn o:Nat)),(6,Zx (Wd o o.length:Nat)),(40,v),(41,Zx o.length),(42,Zx (o.length:Nat)),(43,.bool false)] _ _ ?_ (by simp (maxSteps:=2000000) only [↓Za,↓Zj,↓Zr,↓Ze,↓Zi,↓Zs,↓Zf,↓Zo,↓Zg,↓Zb,↓Zc,↓vdn,vup,Zh,Zn,Zl,Zm,Zk,List.map_cons,List.map_nil,cond_true,cond_false,aop,Zv,Zq,Zp,ev,sput,Zt,Zy,Ya,unK,Zd,Zw,Nat.reduceBEq,Nat.reduceAdd,Int.reduceBEq,Int.reduceBNe,Int.reduceLT,Zu,Zz,tup,tyf])
     clear hN19
     try clear N19
     refine Yc fun N20 hN20=>?_
     try simp (maxSteps:=2000000) only [s4,↓Za,↓Zj,↓Zr,↓Ze,↓Zi,↓Zs,↓Zf,↓Zo,↓Zg,↓Zb,↓Zc,↓vdn,vup,Zh,Zn,Zl,Zm,Zk,List.map_cons,List.map_nil,cond_true,cond_false,aop,Zv,Zq,Zp,ev,sput,Zt,Zy,Ya,unK,Zd,Zw,Nat.reduceBEq,Nat.reduceAdd,Int.reduceBEq,Int.reduceBNe,Int.reduceLT,Zu,Zz,tup,tyf]
     refine hQ2 _ _ _ (hQ _ _ _ ?_)
     simp (maxSteps:=2000000) only [s4,↓Za,↓Zj,↓Zr,↓Ze,↓Zi,↓Zs,↓Zf,↓Zo,↓Zg,↓Zb,↓Zc,↓vdn,vup,Zh,Zn,Zl,Zm,Zk,List.map_cons,List.map_nil,cond_true,cond_false,aop,Zv,Zq,Zp,ev,sput,Zt,Zy,Ya,unK,Zd,Zw,Nat.reduceBEq,Nat.reduceAdd,Int.reduceBEq,Int.reduceBNe,Int.reduceLT,Zu,Zz,tup,tyf,if_true]
     refine hM [(0,v),(2,.bool false),(3,Zx (Or.needN o:Nat)),(4,.int .i64 0),(5,Zx (cn o:Nat)),(6,Zx (Wd o o.length:Nat)),(43,.bool false)] _ _ ?_ (by simp (maxSteps:=2000000) only [↓Za,↓Zj,↓Zr,↓Ze,↓Zi,↓Zs,↓Zf,↓Zo,↓Zg,↓Zb,↓Zc,↓vdn,vup,Zh,Zn,Zl,Zm,Zk,List.map_cons,List.map_nil,cond_true,cond_false,aop,Zv,Zq,Zp,ev,sput,Zt,Zy,Ya,unK,Zd,Zw,Nat.reduceBEq,Nat.reduceAdd,Int.reduceBEq,Int.reduceBNe,Int.reduceLT,Zu,Zz,tup,tyf])
     clear hM
     try clear M
     have q1 : ¬ ((Wd o o.length:Nat):Int)<((Or.needN o:Nat):Int):=by omega
     refine Yg fun C hC=>?_
     refine Yc fun N21 hN21=>?_
     simp (maxSteps:=2000000) only [s4,↓Za,↓Zj,↓Zr,↓Ze,↓Zi,↓Zs,↓Zf,↓Zo,↓Zg,↓Zb,↓Zc,↓vdn,vup,Zh,Zn,Zl,Zm,Zk,List.map_cons,List.map_nil,cond_true,cond_false,aop,Zv,Zq,Zp,ev,sput,Zt,Zy,Ya,unK,Zd,Zw,Nat.reduceBEq,Nat.reduceAdd,Int.reduceBEq,Int.reduceBNe,Int.reduceLT,Zu,Zz,tup,tyf,gt_iff_lt,q1,decide_false]
     refine hN21 [(0,v),(2,.bool false),(3,Zx (Or.needN o:Nat)),(4,.int .i64 0),(5,Zx (cn o:Nat)),(6,Zx (Wd o o.length:Nat)),(43,.bool false),(59,.bool false)] _ _ ?_ (by simp (maxSteps:=2000000) only [↓Za,↓Zj,↓Zr,↓Ze,↓Zi,↓Zs,↓Zf,↓Zo,↓Zg,↓Zb,↓Zc,↓vdn,vup,Zh,Zn,Zl,Zm,Zk,List.map_cons,List.map_nil,cond_true,cond_false,aop,Zv,Zq,Zp,ev,sput,Zt,Zy,Ya,unK,Zd,Zw,Nat.reduceBEq,Nat.reduceAdd,Int.reduceBEq,Int.reduceBNe,Int.reduceLT,Zu,Zz,tup,tyf])
     clear hN21
     try clear N21
     refine Xe rfl ?_
     refine Yf ?_
     try simp (maxSteps:=2000000) only [s4,↓Za,↓Zj,↓Zr,↓Ze,↓Zi,↓Zs,↓Zf,↓Zo,↓Zg,↓Zb,↓Zc,↓vdn,vup,Zh,Zn,Zl,Zm,Zk,List.map_cons,List.map_nil,cond_true,cond_false,aop,Zv,Zq,Zp,ev,sput,Zt,Zy,Ya,unK,Zd,Zw,Nat.reduceBEq,Nat.reduceAdd,Int.reduceBEq,Int.reduceBNe,Int.reduceLT,Zu,Zz,tup,tyf]
     refine hC [(0,v),(2,.bool false),(3,Zx (Or.needN o:Nat)),(4,.int .i64 0),(5,Zx (cn o:Nat)),(6,Zx (Wd o o.length:Nat)),(43,.bool false)] _ _ ?_ (by simp (maxSteps:=2000000) only [↓Za,↓Zj,↓Zr,↓Ze,↓Zi,↓Zs,↓Zf,↓Zo,↓Zg,↓Zb,↓Zc,↓vdn,vup,Zh,Zn,Zl,Zm,Zk,List.map_cons,List.map_nil,cond_true,cond_false,aop,Zv,Zq,Zp,ev,sput,Zt,Zy,Ya,unK,Zd,Zw,Nat.reduceBEq,Nat.reduceAdd,Int.reduceBEq,Int.reduceBNe,Int.reduceLT,Zu,Zz,tup,tyf])
     clear hC
     try clear C
     refine Yc fun N22 hN22=>?_
     simp (maxSteps:=2000000) only [s4,↓Za,↓Zj,↓Zr,↓Ze,↓Zi,↓Zs,↓Zf,↓Zo,↓Zg,↓Zb,↓Zc,↓vdn,vup,Zh,Zn,Zl,Zm,Zk,List.map_cons,List.map_nil,cond_true,cond_false,aop,Zv,Zq,Zp,ev,sput,Zt,Zy,Ya,unK,Zd,Zw,Nat.reduceBEq,Nat.reduceAdd,Int.reduceBEq,Int.reduceBNe,Int.reduceLT,Zu,Zz,tup,tyf,Yz,List.nil_append,List.append_nil,List.toList_toArray,List.cons_append]
     refine (least_call).mono ?_
     rintro _ H ⟨rfl,rfl⟩
     by_cases h40:cn o≤40
     · rw [leastV,if_pos ⟨hcp,h40⟩]
       try simp (maxSteps:=2000000) only [s4,↓Za,↓Zj,↓Zr,↓Ze,↓Zi,↓Zs,↓Zf,↓Zo,↓Zg,↓Zb,↓Zc,↓vdn,vup,Zh,Zn,Zl,Zm,Zk,List.map_cons,List.map_nil,cond_true,cond_false,aop,Zv,Zq,Zp,ev,sput,Zt,Zy,Ya,unK,Zd,Zw,Nat.reduceBEq,Nat.reduceAdd,Int.reduceBEq,Int.reduceBNe,Int.reduceLT,Zu,Zz,tup,tyf]
       refine hN22 [(0,v),(2,.bool false),(3,Zx (Or.needN o:Nat)),(4,.int .i64 0),(5,Zx (cn o:Nat)),(6,Zx (Wd o o.length:Nat)),(9,Zx (leastQ (cn o):Nat)),(43,.bool false)] _ _ ?_ (by simp (maxSteps:=2000000) only [↓Za,↓Zj,↓Zr,↓Ze,↓Zi,↓Zs,↓Zf,↓Zo,↓Zg,↓Zb,↓Zc,↓vdn,vup,Zh,Zn,Zl,Zm,Zk,List.map_cons,List.map_nil,cond_true,cond_false,aop,Zv,Zq,Zp,ev,sput,Zt,Zy,Ya,unK,Zd,Zw,Nat.reduceBEq,Nat.reduceAdd,Int.reduceBEq,Int.reduceBNe,Int.reduceLT,Zu,Zz,tup,tyf])
       clear hN22
       try clear N22
       refine Yg fun D hD=>?_
       refine Yc fun N23 hN23=>?_
       simp (maxSteps:=2000000) only [s4,↓Za,↓Zj,↓Zr,↓Ze,↓Zi,↓Zs,↓Zf,↓Zo,↓Zg,↓Zb,↓Zc,↓vdn,vup,Zh,Zn,Zl,Zm,Zk,List.map_cons,List.map_nil,cond_true,cond_false,aop,Zv,Zq,Zp,ev,sput,Zt,Zy,Ya,unK,Zd,Zw,Nat.reduceBEq,Nat.reduceAdd,Int.reduceBEq,Int.reduceBNe,Int.reduceLT,Zu,Zz,tup,tyf,n00]
       refine hN23 [(0,v),(2,.bool false),(3,Zx (Or.needN o:Nat)),(4,.int .i64 0),(5,Zx (cn o:Nat)),(6,Zx (Wd o o.length:Nat)),(9,Zx (leastQ (cn o):Nat)),(43,.bool false),(66,.bool false)] _ _ ?_ (by simp (maxSteps:=2000000) only [↓Za,↓Zj,↓Zr,↓Ze,↓Zi,↓Zs,↓Zf,↓Zo,↓Zg,↓Zb,↓Zc,↓vdn,vup,Zh,Zn,Zl,Zm,Zk,List.map_cons,List.map_nil,cond_true,cond_false,aop,Zv,Zq,Zp,ev,sput,Zt,Zy,Ya,unK,Zd,Zw,Nat.reduceBEq,Nat.reduceAdd,Int.reduceBEq,Int.reduceBNe,Int.reduceLT,Zu,Zz,tup,tyf])
       clear hN23
       try clear N23
       refine Xe rfl ?_
       refine Yf ?_
       try simp (maxSteps:=2000000) only [s4,↓Za,↓Zj,↓Zr,↓Ze,↓Zi,↓Zs,↓Zf,↓Zo,↓Zg,↓Zb,↓Zc,↓vdn,vup,Zh,Zn,Zl,Zm,Zk,List.map_cons,List.map_nil,cond_true,cond_false,aop,Zv,Zq,Zp,ev,sput,Zt,Zy,Ya,unK,Zd,Zw,Nat.reduceBEq,Nat.reduceAdd,Int.reduceBEq,Int.reduceBNe,Int.reduceLT,Zu,Zz,tup,tyf]
       refine hD [(0,v),(2,.bool false),(3,Zx (Or.needN o:Nat)),(4,.int .i64 0),(5,Zx (cn o:Nat)),(6,Zx (Wd o o.length:Nat)),(9,Zx (leastQ (cn o):Nat)),(43,.bool false)] _ _ ?_ (by simp (maxSteps:=2000000) only [↓Za,↓Zj,↓Zr,↓Ze,↓Zi,↓Zs,↓Zf,↓Zo,↓Zg,↓Zb,↓Zc,↓vdn,vup,Zh,Zn,Zl,Zm,Zk,List.map_cons,List.map_nil,cond_true,cond_false,aop,Zv,Zq,Zp,ev,sput,Zt,Zy,Ya,unK,Zd,Zw,Nat.reduceBEq,Nat.reduceAdd,Int.reduceBEq,Int.reduceBNe,Int.reduceLT,Zu,Zz,tup,tyf])
       clear hD
       try clear D
       have hq:=leastQ_le h40 hncn
       have q2:((leastQ (cn o):Nat):Int)≤((Or.needN o:Nat):Int):=by omega
       refine Yf ?_
       simp (maxSteps:=2000000) only [s4,↓Za,↓Zj,↓Zr,↓Ze,↓Zi,↓Zs,↓Zf,↓Zo,↓Zg,↓Zb,↓Zc,↓vdn,vup,Zh,Zn,Zl,Zm,Zk,List.map_cons,List.map_nil,cond_true,cond_false,aop,Zv,Zq,Zp,ev,sput,Zt,Zy,Ya,unK,Zd,Zw,Nat.reduceBEq,Nat.reduceAdd,Int.reduceBEq,Int.reduceBNe,Int.reduceLT,Zu,Zz,tup,tyf,ge_iff_le,q2,decide_true,Yz,List.nil_append,List.append_nil,List.toList_toArray,List.cons_append]
       refine Or.awake_call.mono ?_
       rintro _ _ ⟨rfl,rfl⟩
       try simp (maxSteps:=2000000) only [s4,↓Za,↓Zj,↓Zr,↓Ze,↓Zi,↓Zs,↓Zf,↓Zo,↓Zg,↓Zb,↓Zc,↓vdn,vup,Zh,Zn,Zl,Zm,Zk,List.map_cons,List.map_nil,cond_true,cond_false,aop,Zv,Zq,Zp,ev,sput,Zt,Zy,Ya,unK,Zd,Zw,Nat.reduceBEq,Nat.reduceAdd,Int.reduceBEq,Int.reduceBNe,Int.reduceLT,Zu,Zz,tup,tyf]
     · rw [leastV,if_neg (by omega)]
       try simp (maxSteps:=2000000) only [s4,↓Za,↓Zj,↓Zr,↓Ze,↓Zi,↓Zs,↓Zf,↓Zo,↓Zg,↓Zb,↓Zc,↓vdn,vup,Zh,Zn,Zl,Zm,Zk,List.map_cons,List.map_nil,cond_true,cond_false,aop,Zv,Zq,Zp,ev,sput,Zt,Zy,Ya,unK,Zd,Zw,Nat.reduceBEq,Nat.reduceAdd,Int.reduceBEq,Int.reduceBNe,Int.reduceLT,Zu,Zz,tup,tyf]
       refine hN22 [(0,v),(2,.bool false),(3,Zx (Or.needN o:Nat)),(4,.int .i64 2),(5,Zx (cn o:Nat)),(6,Zx (Wd o o.length:Nat)),(9,.int .i64 0),(43,.bool false)] _ _ ?_ (by simp (maxSteps:=2000000) only [↓Za,↓Zj,↓Zr,↓Ze,↓Zi,↓Zs,↓Zf,↓Zo,↓Zg,↓Zb,↓Zc,↓vdn,vup,Zh,Zn,Zl,Zm,Zk,List.map_cons,List.map_nil,cond_true,cond_false,aop,Zv,Zq,Zp,ev,sput,Zt,Zy,Ya,unK,Zd,Zw,Nat.reduceBEq,Nat.reduceAdd,Int.reduceBEq,Int.reduceBNe,Int.reduceLT,Zu,Zz,tup,tyf])
       clear hN22
       try clear N22
       refine Yg fun D hD=>?_
       refine Yc fun N24 hN24=>?_
       simp (maxSteps:=2000000) only [s4,↓Za,↓Zj,↓Zr,↓Ze,↓Zi,↓Zs,↓Zf,↓Zo,↓Zg,↓Zb,↓Zc,↓vdn,vup,Zh,Zn,Zl,Zm,Zk,List.map_cons,List.map_nil,cond_true,cond_false,aop,Zv,Zq,Zp,ev,sput,Zt,Zy,Ya,unK,Zd,Zw,Nat.reduceBEq,Nat.reduceAdd,Int.reduceBEq,Int.reduceBNe,Int.reduceLT,Zu,Zz,tup,tyf,n20]
       refine hN24 [(0,v),(2,.bool false),(3,Zx (Or.needN o:Nat)),(4,.int .i64 2),(5,Zx (cn o:Nat)),(6,Zx (Wd o o.length:Nat)),(9,.int .i64 0),(43,.bool false),(66,.bool true)] _ _ ?_ (by simp (maxSteps:=2000000) only [↓Za,↓Zj,↓Zr,↓Ze,↓Zi,↓Zs,↓Zf,↓Zo,↓Zg,↓Zb,↓Zc,↓vdn,vup,Zh,Zn,Zl,Zm,Zk,List.map_cons,List.map_nil,cond_true,cond_false,aop,Zv,Zq,Zp,ev,sput,Zt,Zy,Ya,unK,Zd,Zw,Nat.reduceBEq,Nat.reduceAdd,Int.reduceBEq,Int.reduceBNe,Int.reduceLT,Zu,Zz,tup,tyf])
       clear hN24
       try clear N24
       refine Xl rfl ?_
       have h6:6≤Or.needN o:=by
        apply Classical.byContradiction
        intro hc
        have:2 ^ Or.needN o≤2 ^ 5:=Nat.pow_le_pow_right (by decide) (by omega)
        omega
       have q3:(40:Int)<((cn o:Nat):Int):=by omega
       have q4:(6:Int)≤((Or.needN o:Nat):Int):=by omega
       refine Yf ?_
       simp (maxSteps:=2000000) only [s4,↓Za,↓Zj,↓Zr,↓Ze,↓Zi,↓Zs,↓Zf,↓Zo,↓Zg,↓Zb,↓Zc,↓vdn,vup,Zh,Zn,Zl,Zm,Zk,List.map_cons,List.map_nil,cond_true,cond_false,aop,Zv,Zq,Zp,ev,sput,Zt,Zy,Ya,unK,Zd,Zw,Nat.reduceBEq,Nat.reduceAdd,Int.reduceBEq,Int.reduceBNe,Int.reduceLT,Zu,Zz,tup,tyf,e22,gt_iff_lt,q3,ge_iff_le,q4,decide_true,Yz,List.nil_append,List.append_nil,List.toList_toArray,List.cons_append]
       refine Or.awake_call.mono ?_
       rintro _ _ ⟨rfl,rfl⟩
       try simp (maxSteps:=2000000) only [s4,↓Za,↓Zj,↓Zr,↓Ze,↓Zi,↓Zs,↓Zf,↓Zo,↓Zg,↓Zb,↓Zc,↓vdn,vup,Zh,Zn,Zl,Zm,Zk,List.map_cons,List.map_nil,cond_true,cond_false,aop,Zv,Zq,Zp,ev,sput,Zt,Zy,Ya,unK,Zd,Zw,Nat.reduceBEq,Nat.reduceAdd,Int.reduceBEq,Int.reduceBNe,Int.reduceLT,Zu,Zz,tup,tyf]
end Go.Proofs.Tryd.Am.Tg
