/-
  order: law Turned.
-/
import Derived.Test.YtnjacpfahhjpiaaDoorPk10
import Derived.Test.YtnjacpfahhjpiaaDoorPk11
import Derived.Test.YtnjacpfahhjpiaaDoorPk9
set_option linter.all false
namespace Go.Proofs.Tryd.Am
open Go.Am Ord
set_option maxRecDepth 100000
set_option maxHeartbeats 4000000
theorem intSl_clash {h:Yb} {w:Value} {xs:List Int} (hw:IntSl h w xs):Wp w=true∧cellsOf w=[w]∧(∀ n,w≠.int .i64 n):=by
 rcases hw with ⟨rfl,rfl⟩ | ⟨b,o,sp,cap,c,e',ro,rfl,_⟩
 · exact ⟨rfl,rfl,fun n h=>by cases h⟩
 · exact ⟨rfl,rfl,fun n h=>by cases h⟩
theorem buildSl2 {h:Yb} {w z:Value} {xs ys:List Int} (hw:IntSl h w xs) (hz:IntSl h z ys) {K:Value→Yb→Prop} :
  Yw prog h 45 2 [(0,w),(1,z)] K=K (.slice (some ⟨h.length,0,none⟩) 2 2) (h++[.cells [w,z] 22 false]):=by
 obtain ⟨a1,a2,a3⟩:=intSl_clash hw
 obtain ⟨b1,b2,b3⟩:=intSl_clash hz
 have e1:Ub (fun i=>some (i*1,1)) (reps [.slice none 0 0] 2) [(0,w),(1,z)]=some [w,z]:=by
  simp [Ub,a1,a2,b1,b2,reps,Yp]
 have e2:mkb [w,z] 22 = .cells [w,z] 22 false:=by
  have:Xa [w,z]=none:=by
   rcases hw with ⟨rfl,rfl⟩ | ⟨b,o,sp,cap,c,e',ro,rfl,_⟩ <;> rfl
  rw [mkb,this]
 simp only [Yw,el_45,zero_22,esz_22,e1,e2]
 exact propext ⟨fun h=>h.2.2.2,fun h=>⟨rfl,by decide,by decide,h⟩⟩
theorem load2 {h:Yb} {b:Nat} {w z:Value} {e:TypeId} {ro:Bool} (hb:h[b]? = some (.cells [w,z] e ro)) {s:Nat} (hs:s<2) {K:Value→Prop}:Xw prog h 22 (.pointer (some ⟨b,s,none⟩)) K=K (if s=0 then w else z):=by
 rcases s with _ | _ | s
 · exact loadC hb Wd rfl
 · exact loadC hb Wd rfl
 · omega
theorem idx2 {b s:Nat} (hs:s<2) {K:Value→Prop}:Yt prog 45 (.slice (some ⟨b,0,none⟩) 2 2) (Zx (s:Nat)) K=K (.pointer (some ⟨b,s,none⟩)):=idxL el_45 esz_22 hs
abbrev c3 (x y z:Nat):List Value:=[Zx (x:Nat),Zx (y:Nat),Zx (z:Nat)]
theorem load3 {h:Yb} {b x y z:Nat} {e:TypeId} {ro:Bool} (hb:h[b]? = some (.cells (c3 x y z) e ro)) {K:Value→Prop}:Xw prog h 74 (ptB b) K=K (.agg #[Zx (x:Nat),Zx (y:Nat),Zx (z:Nat)]):=loadA hb (by rw [shp_74]; rfl)
theorem store3 {h:Yb} {b x y z:Nat} {e:TypeId} {c:List Value} (hb:h[b]? = some (.cells c e false)) (hc:c.length=3) {K:Yb→Prop}:Xv prog h 74 (ptB b) (.agg #[Zx (x:Nat),Zx (y:Nat),Zx (z:Nat)]) K=K (h.set b (.cells (c3 x y z) e false)) :=
 storeA (vs:=c3 x y z) hb (by rw [shp_74]; rfl) rfl (by rw [hc]; rfl)
theorem bld3 {x y z:Nat} {K:Value→Prop}:Wv prog 74 [(0,Zx (x:Nat)),(1,Zx (y:Nat)),(2,Zx (z:Nat))] K=K (.agg #[Zx (x:Nat),Zx (y:Nat),Zx (z:Nat)]):=by
 simp [Wv,zero_74,Ub,pl_74_0,pl_74_1,pl_74_2,Wp,cellsOf,Yp]
theorem eq74 [Tabs prog]:EqT prog 74 3:=eqT_array und_74 und_3 Xt (by kernel_rfl)
theorem turn_need {o:List Int} (ho:ord o=true):Ui (Xu o)=Ui o:=by
 obtain ⟨h1,h2,h3⟩:=needN_spec ho
 exact needN_of h1 (by rw [turn_srtb _ ho]; exact h2) fun k hk=>by rw [turn_srtb _ ho]; exact h3 k hk
structure TB (n:Nat) (q:Nat→Nat→Nat) (G:Nat→Nat×Nat) (s:Nat) (z:Yb):Prop where
 x:z[n]? = some (.cells (c3 (q s 0) (q s 1) (q s 2)) 74 false)
 y:z[n+1]? = some (.cells (c3 (q (s-1) 0) (q (s-1) 1) (q (s-1) 2)) 74 false)
 f:z[n+2]? = some (.cells [Zx ((G s).1:Nat),Zx ((G s).2:Nat)] 37 false)
 g:z[n+3]? = some (.cells [Zx ((G (s-1)).1:Nat),Zx ((G (s-1)).2:Nat)] 37 false)
theorem stF {h:Yb} {b:Nat} {x y:Int} {c:List Value} {K:Yb→Prop} (hb:h[b]? = some (.cells c 37 false)) (hc:c.length=2):Xv prog h 37 (ptB b) (.agg #[Zx x,Zx y]) K=K (h.set b (.cells [Zx x,Zx y] 37 false)):=storeF hb hc
theorem height_cross {S S' c m:Nat} (hc:0<c) (h:S' + S=m*c):num S' c*den S c+num S c*den S' c=m*den S' c*den S c:=by
 have h1:=red_cross (a:=S') hc
 have h2:=red_cross (a:=S) hc
 refine Nat.eq_of_mul_eq_mul_right hc ?_
 calc (num S' c*den S c+num S c*den S' c)*c=(num S' c*c)*den S c+(num S c*c)*den S' c:=by
       rw [Nat.add_mul,Nat.mul_right_comm,Nat.mul_right_comm (num S c)]
  _=(S' * den S' c)*den S c+(S*den S c)*den S' c:=by rw [h1,h2]
  _=(S' + S)*(den S' c*den S c):=by rw [Nat.add_mul,Nat.mul_assoc,Nat.mul_assoc,Nat.mul_comm (den S c)]
  _=m*den S' c*den S c*c:=by rw [h]; simp only [Nat.mul_assoc,Nat.mul_left_comm,Nat.mul_comm]
theorem height_small {o:List Int} (ho:ord o=true) {a:Nat} (ha:a<o.length):num (hsum o a) (cn o)≤4320∧den (hsum o a) (cn o)≤720∧1≤den (hsum o a) (cn o)∧num (hsum o a) (cn o)≤6*den (hsum o a) (cn o):=by
 have h1:=hsum_le ho ha
 have h2:=cn_720 ho
 have h3:=cn_pos ho
 exact ⟨Nat.le_trans (num_le _ _) (by omega),Nat.le_trans (den_le _ _) h2,(red_eq (a:=hsum o a) h3).2.2.2,red_le h3 h1⟩
theorem s14_callW [Tabs Tryd.prog] {args:List Value} {h:Yb} {Q:Value→Yb→Prop} (hsz:args.length≤160) (hk:AWS Tryd.prog 160 s14 (Zu Tryd.prog [.tmp 4] Q) (Zp 0 args) h):ACall Tryd.prog 14 args h Q :=
 Wx Tryd.func14 rfl (enters_of Tryd.func14 (by kernel_rfl) rfl) rfl rfl (by decide) s14_strip s14_ok hsz hk
theorem law_turned [BitTab prog 1] {h:Yb} {v:Value} {o:List Int} (hv:IntSl h v o) (hl:o.length<9223372036854775808) (hx : ∀ x∈o,-9223372036854775808≤x∧x<9223372036854775808) (i:Int) :
  ACall prog 14 [v,Zx i] h fun r _=>r = .bool true:=by
 have hx9 : ∀ x∈o.take 9,-9223372036854775808≤x∧x<9223372036854775808:=fun x hm=>hx x (List.take_subset _ _ hm)
 have hl9:(o.take 9).length<9223372036854775808:=by simp; omega
 have n00:((0:Int) != 0)=false:=rfl
 have n20:((2:Int) != 0)=true:=rfl
 have e22:((2:Int)==2)=true:=rfl
 have e00:((0:Int)==0)=true:=rfl
 refine s14_callW (by simp) ?_
 simp only [s14]
 refine Yc fun N1 hN1=>?_
 simp (maxSteps:=2000000) only [s14,↓Za,↓Zi,↓Zr,↓Ze,↓Zo,↓Zs,↓Zg,↓Zm,↓Zf,↓Zb,↓Zc,↓vdn,vup,Zk,Zn,Zl,Zh,Zj,List.map_cons,List.map_nil,cond_true,cond_false,aop,Zv,Zq,Zp,ev,sput,Zt,Zy,Ya,unK,Zd,Zw,Nat.reduceBEq,Nat.reduceAdd,Int.reduceBEq,Int.reduceBNe,Int.reduceLT,Zu,Zz,tup,tyf]
 refine hN1 [(0,v),(1,Zx i),(4,.bool false)] _ _ ?_ (by simp (maxSteps:=2000000) only [↓Za,↓Zi,↓Zr,↓Ze,↓Zo,↓Zs,↓Zg,↓Zm,↓Zf,↓Zb,↓Zc,↓vdn,vup,Zk,Zn,Zl,Zh,Zj,List.map_cons,List.map_nil,cond_true,cond_false,aop,Zv,Zq,Zp,ev,sput,Zt,Zy,Ya,unK,Zd,Zw,Nat.reduceBEq,Nat.reduceAdd,Int.reduceBEq,Int.reduceBNe,Int.reduceLT,Zu,Zz,tup,tyf])
 clear hN1
 try clear N1
 refine Yc fun N2 hN2=>?_
 simp (maxSteps:=2000000) only [s14,↓Za,↓Zi,↓Zr,↓Ze,↓Zo,↓Zs,↓Zg,↓Zm,↓Zf,↓Zb,↓Zc,↓vdn,vup,Zk,Zn,Zl,Zh,Zj,List.map_cons,List.map_nil,cond_true,cond_false,aop,Zv,Zq,Zp,ev,sput,Zt,Zy,Ya,unK,Zd,Zw,Nat.reduceBEq,Nat.reduceAdd,Int.reduceBEq,Int.reduceBNe,Int.reduceLT,Zu,Zz,tup,tyf,Yx,List.nil_append,List.append_nil,List.toList_toArray,List.cons_append]
 refine (list_call hv hl).mono ?_
 rintro l1 _ ⟨hl1,g1,rfl⟩
 refine (turn_call hl1 hl9 hx9).mono ?_
 rintro _ h1 ⟨hE1,t,e1,rfl,hi1⟩
 replace hi1:=ints_take hi1
 have hv1:=Wb (hv.grow g1) hE1
 try simp (maxSteps:=2000000) only [s14,↓Za,↓Zi,↓Zr,↓Ze,↓Zo,↓Zs,↓Zg,↓Zm,↓Zf,↓Zb,↓Zc,↓vdn,vup,Zk,Zn,Zl,Zh,Zj,List.map_cons,List.map_nil,cond_true,cond_false,aop,Zv,Zq,Zp,ev,sput,Zt,Zy,Ya,unK,Zd,Zw,Nat.reduceBEq,Nat.reduceAdd,Int.reduceBEq,Int.reduceBNe,Int.reduceLT,Zu,Zz,tup,tyf]
 refine hN2 [(0,v),(1,Zx i),(4,.bool false),(5,t),(6,.int .i64 e1)] _ _ ?_ (by simp (maxSteps:=2000000) only [↓Za,↓Zi,↓Zr,↓Ze,↓Zo,↓Zs,↓Zg,↓Zm,↓Zf,↓Zb,↓Zc,↓vdn,vup,Zk,Zn,Zl,Zh,Zj,List.map_cons,List.map_nil,cond_true,cond_false,aop,Zv,Zq,Zp,ev,sput,Zt,Zy,Ya,unK,Zd,Zw,Nat.reduceBEq,Nat.reduceAdd,Int.reduceBEq,Int.reduceBNe,Int.reduceLT,Zu,Zz,tup,tyf])
 clear hN2
 try clear N2
 refine Yi fun A hA=>?_
 cases ho:ord o with
 | false =>
   rw [IntsIs,ho,if_neg (by decide)] at hi1
   obtain ⟨rfl,rfl⟩:=hi1
   refine Yc fun N3 hN3=>?_
   simp (maxSteps:=2000000) only [s14,↓Za,↓Zi,↓Zr,↓Ze,↓Zo,↓Zs,↓Zg,↓Zm,↓Zf,↓Zb,↓Zc,↓vdn,vup,Zk,Zn,Zl,Zh,Zj,List.map_cons,List.map_nil,cond_true,cond_false,aop,Zv,Zq,Zp,ev,sput,Zt,Zy,Ya,unK,Zd,Zw,Nat.reduceBEq,Nat.reduceAdd,Int.reduceBEq,Int.reduceBNe,Int.reduceLT,Zu,Zz,tup,tyf,n20]
   refine hN3 [(0,v),(1,Zx i),(4,.bool false),(5,.slice none 0 0),(6,.int .i64 2),(34,.bool true)] _ _ ?_ (by simp (maxSteps:=2000000) only [↓Za,↓Zi,↓Zr,↓Ze,↓Zo,↓Zs,↓Zg,↓Zm,↓Zf,↓Zb,↓Zc,↓vdn,vup,Zk,Zn,Zl,Zh,Zj,List.map_cons,List.map_nil,cond_true,cond_false,aop,Zv,Zq,Zp,ev,sput,Zt,Zy,Ya,unK,Zd,Zw,Nat.reduceBEq,Nat.reduceAdd,Int.reduceBEq,Int.reduceBNe,Int.reduceLT,Zu,Zz,tup,tyf])
   clear hN3
   try clear N3
   refine Wh rfl ?_
   refine Yk ?_
   simp (maxSteps:=2000000) only [s14,↓Za,↓Zi,↓Zr,↓Ze,↓Zo,↓Zs,↓Zg,↓Zm,↓Zf,↓Zb,↓Zc,↓vdn,vup,Zk,Zn,Zl,Zh,Zj,List.map_cons,List.map_nil,cond_true,cond_false,aop,Zv,Zq,Zp,ev,sput,Zt,Zy,Ya,unK,Zd,Zw,Nat.reduceBEq,Nat.reduceAdd,Int.reduceBEq,Int.reduceBNe,Int.reduceLT,Zu,Zz,tup,tyf,e22,Yx,List.nil_append,List.append_nil,List.toList_toArray,List.cons_append]
   refine awake_call.mono ?_
   rintro _ _ ⟨rfl,rfl⟩
   try simp (maxSteps:=2000000) only [s14,↓Za,↓Zi,↓Zr,↓Ze,↓Zo,↓Zs,↓Zg,↓Zm,↓Zf,↓Zb,↓Zc,↓vdn,vup,Zk,Zn,Zl,Zh,Zj,List.map_cons,List.map_nil,cond_true,cond_false,aop,Zv,Zq,Zp,ev,sput,Zt,Zy,Ya,unK,Zd,Zw,Nat.reduceBEq,Nat.reduceAdd,Int.reduceBEq,Int.reduceBNe,Int.reduceLT,Zu,Zz,tup,tyf]
 | true =>
   have hlen:=Yu ho
   have hcn:=cn_720 ho
   have hcp:=cn_pos ho
   rw [IntsIs,ho,if_pos rfl] at hi1
   obtain ⟨rfl,ht⟩:=hi1
   refine Yc fun N4 hN4=>?_
   simp (maxSteps:=2000000) only [s14,↓Za,↓Zi,↓Zr,↓Ze,↓Zo,↓Zs,↓Zg,↓Zm,↓Zf,↓Zb,↓Zc,↓vdn,vup,Zk,Zn,Zl,Zh,Zj,List.map_cons,List.map_nil,cond_true,cond_false,aop,Zv,Zq,Zp,ev,sput,Zt,Zy,Ya,unK,Zd,Zw,Nat.reduceBEq,Nat.reduceAdd,Int.reduceBEq,Int.reduceBNe,Int.reduceLT,Zu,Zz,tup,tyf,n00,Yx,List.nil_append,List.append_nil,List.toList_toArray,List.cons_append]
   refine (rorder_call hv1 hl hx).mono ?_
   rintro _ h2 ⟨rfl,rfl⟩
   simp (maxSteps:=2000000) only [s14,↓Za,↓Zi,↓Zr,↓Ze,↓Zo,↓Zs,↓Zg,↓Zm,↓Zf,↓Zb,↓Zc,↓vdn,vup,Zk,Zn,Zl,Zh,Zj,List.map_cons,List.map_nil,cond_true,cond_false,aop,Zv,Zq,Zp,ev,sput,Zt,Zy,Ya,unK,Zd,Zw,Nat.reduceBEq,Nat.reduceAdd,Int.reduceBEq,Int.reduceBNe,Int.reduceLT,Zu,Zz,tup,tyf,ho,Bool.not_true]
   refine hN4 [(0,v),(1,Zx i),(4,.bool false),(5,t),(6,.int .i64 0),(34,.bool false)] _ _ ?_ (by simp (maxSteps:=2000000) only [↓Za,↓Zi,↓Zr,↓Ze,↓Zo,↓Zs,↓Zg,↓Zm,↓Zf,↓Zb,↓Zc,↓vdn,vup,Zk,Zn,Zl,Zh,Zj,List.map_cons,List.map_nil,cond_true,cond_false,aop,Zv,Zq,Zp,ev,sput,Zt,Zy,Ya,unK,Zd,Zw,Nat.reduceBEq,Nat.reduceAdd,Int.reduceBEq,Int.reduceBNe,Int.reduceLT,Zu,Zz,tup,tyf])
   clear hN4
   try clear N4
   refine Xx rfl ?_
   refine Yk ?_
   try simp (maxSteps:=2000000) only [s14,↓Za,↓Zi,↓Zr,↓Ze,↓Zo,↓Zs,↓Zg,↓Zm,↓Zf,↓Zb,↓Zc,↓vdn,vup,Zk,Zn,Zl,Zh,Zj,List.map_cons,List.map_nil,cond_true,cond_false,aop,Zv,Zq,Zp,ev,sput,Zt,Zy,Ya,unK,Zd,Zw,Nat.reduceBEq,Nat.reduceAdd,Int.reduceBEq,Int.reduceBNe,Int.reduceLT,Zu,Zz,tup,tyf]
   refine hA [(0,v),(1,Zx i),(4,.bool false),(5,t),(6,.int .i64 0)] _ _ ?_ (by simp (maxSteps:=2000000) only [↓Za,↓Zi,↓Zr,↓Ze,↓Zo,↓Zs,↓Zg,↓Zm,↓Zf,↓Zb,↓Zc,↓vdn,vup,Zk,Zn,Zl,Zh,Zj,List.map_cons,List.map_nil,cond_true,cond_false,aop,Zv,Zq,Zp,ev,sput,Zt,Zy,Ya,unK,Zd,Zw,Nat.reduceBEq,Nat.reduceAdd,Int.reduceBEq,Int.reduceBNe,Int.reduceLT,Zu,Zz,tup,tyf])
   clear hA
   try clear A
   have hot:=turn_ord ho
   have htl:=Wr o
   have htr : ∀ x∈Xu o,-9223372036854775808≤x∧x<9223372036854775808:=fun x hx=>by
    obtain ⟨k,hk,rfl⟩:=List.mem_iff_getElem.1 hx
    obtain ⟨q1,q2⟩:=Vv hot (i:=k) hk
    rw [List.getD,List.getElem?_eq_getElem hk,Option.getD_some] at q1
    have:=pow6 (Yu hot).2
    rw [q1]; omega
   refine Yi fun B hB=>?_
   refine Yc fun N5 hN5=>?_
   simp (maxSteps:=2000000) only [s14,↓Za,↓Zi,↓Zr,↓Ze,↓Zo,↓Zs,↓Zg,↓Zm,↓Zf,↓Zb,↓Zc,↓vdn,vup,Zk,Zn,Zl,Zh,Zj,List.map_cons,List.map_nil,cond_true,cond_false,aop,Zv,Zq,Zp,ev,sput,Zt,Zy,Ya,unK,Zd,Zw,Nat.reduceBEq,Nat.reduceAdd,Int.reduceBEq,Int.reduceBNe,Int.reduceLT,Zu,Zz,tup,tyf,Yx,List.nil_append,List.append_nil,List.toList_toArray,List.cons_append]
   refine (rorder_call ht (by omega) htr).mono ?_
   rintro _ h2 ⟨rfl,rfl⟩
   simp (maxSteps:=2000000) only [s14,↓Za,↓Zi,↓Zr,↓Ze,↓Zo,↓Zs,↓Zg,↓Zm,↓Zf,↓Zb,↓Zc,↓vdn,vup,Zk,Zn,Zl,Zh,Zj,List.map_cons,List.map_nil,cond_true,cond_false,aop,Zv,Zq,Zp,ev,sput,Zt,Zy,Ya,unK,Zd,Zw,Nat.reduceBEq,Nat.reduceAdd,Int.reduceBEq,Int.reduceBNe,Int.reduceLT,Zu,Zz,tup,tyf,hot,Bool.not_true,ht.len,hv1.len,htl,show (((o.length:Nat):Int) != ((o.length:Nat):Int))=false by simp]
   refine hN5 [(0,v),(1,Zx i),(4,.bool false),(5,t),(6,.int .i64 0),(49,.bool false)] _ _ ?_ (by simp (maxSteps:=2000000) only [↓Za,↓Zi,↓Zr,↓Ze,↓Zo,↓Zs,↓Zg,↓Zm,↓Zf,↓Zb,↓Zc,↓vdn,vup,Zk,Zn,Zl,Zh,Zj,List.map_cons,List.map_nil,cond_true,cond_false,aop,Zv,Zq,Zp,ev,sput,Zt,Zy,Ya,unK,Zd,Zw,Nat.reduceBEq,Nat.reduceAdd,Int.reduceBEq,Int.reduceBNe,Int.reduceLT,Zu,Zz,tup,tyf])
   clear hN5
   try clear N5
   refine Xx rfl ?_
   refine Yk ?_
   try simp (maxSteps:=2000000) only [s14,↓Za,↓Zi,↓Zr,↓Ze,↓Zo,↓Zs,↓Zg,↓Zm,↓Zf,↓Zb,↓Zc,↓vdn,vup,Zk,Zn,Zl,Zh,Zj,List.map_cons,List.map_nil,cond_true,cond_false,aop,Zv,Zq,Zp,ev,sput,Zt,Zy,Ya,unK,Zd,Zw,Nat.reduceBEq,Nat.reduceAdd,Int.reduceBEq,Int.reduceBNe,Int.reduceLT,Zu,Zz,tup,tyf]
   refine hB [(0,v),(1,Zx i),(4,.bool false),(5,t),(6,.int .i64 0)] _ _ ?_ (by simp (maxSteps:=2000000) only [↓Za,↓Zi,↓Zr,↓Ze,↓Zo,↓Zs,↓Zg,↓Zm,↓Zf,↓Zb,↓Zc,↓vdn,vup,Zk,Zn,Zl,Zh,Zj,List.map_cons,List.map_nil,cond_true,cond_false,aop,Zv,Zq,Zp,ev,sput,Zt,Zy,Ya,unK,Zd,Zw,Nat.reduceBEq,Nat.reduceAdd,Int.reduceBEq,Int.reduceBNe,Int.reduceLT,Zu,Zz,tup,tyf])
   clear hB
   try clear B
   obtain ⟨a,ha,ea⟩:=remU i hlen.1 hlen.2
   have hn0 : ¬ IntKind.u64.wrap ((o.length:Nat):Int)=0:=by simp [IntKind.wrap,IntKind.signed,IntKind.bits]; omega
   refine Yc fun N6 hN6=>?_
   simp (maxSteps:=2000000) only [s14,↓Za,↓Zi,↓Zr,↓Ze,↓Zo,↓Zs,↓Zg,↓Zm,↓Zf,↓Zb,↓Zc,↓vdn,vup,Zk,Zn,Zl,Zh,Zj,List.map_cons,List.map_nil,cond_true,cond_false,aop,Zv,Zq,Zp,ev,sput,Zt,Zy,Ya,unK,Zd,Zw,Nat.reduceBEq,Nat.reduceAdd,Int.reduceBEq,Int.reduceBNe,Int.reduceLT,Zu,Zz,tup,tyf,convK,und_29,und_3,ne_eq,hn0,not_false_eq_true,hv1.len,ea]
   refine hN6 [(0,v),(1,Zx (a:Nat)),(4,.bool false),(5,t),(6,.int .i64 0)] _ _ ?_ (by simp (maxSteps:=2000000) only [↓Za,↓Zi,↓Zr,↓Ze,↓Zo,↓Zs,↓Zg,↓Zm,↓Zf,↓Zb,↓Zc,↓vdn,vup,Zk,Zn,Zl,Zh,Zj,List.map_cons,List.map_nil,cond_true,cond_false,aop,Zv,Zq,Zp,ev,sput,Zt,Zy,Ya,unK,Zd,Zw,Nat.reduceBEq,Nat.reduceAdd,Int.reduceBEq,Int.reduceBNe,Int.reduceLT,Zu,Zz,tup,tyf])
   clear hN6
   try clear N6
   clear ea hn0 hE1 hv
   obtain ⟨n,hn⟩ : ∃ n,n=h2.length:=⟨_,rfl⟩
   refine Yc fun N7 hN7=>?_
   simp (maxSteps:=2000000) only [s14,↓Za,↓Zi,↓Zr,↓Ze,↓Zo,↓Zs,↓Zg,↓Zm,↓Zf,↓Zb,↓Zc,↓vdn,vup,Zk,Zn,Zl,Zh,Zj,List.map_cons,List.map_nil,cond_true,cond_false,aop,Zv,Zq,Zp,ev,sput,Zt,Zy,Ya,unK,Zd,Zw,Nat.reduceBEq,Nat.reduceAdd,Int.reduceBEq,Int.reduceBNe,Int.reduceLT,Zu,Zz,tup,tyf,Xr,Ys,zero_74,List.length_append,List.length_cons,List.length_nil,Nat.zero_add,Nat.add_assoc,Nat.reduceAdd]
   rw [← hn]
   refine hN7 [(0,v),(1,Zx (a:Nat)),(4,.bool false),(5,t),(6,.int .i64 0),(7,ptB n),(8,ptB (n+1))] _ _ ?_ (by simp (maxSteps:=2000000) only [↓Za,↓Zi,↓Zr,↓Ze,↓Zo,↓Zs,↓Zg,↓Zm,↓Zf,↓Zb,↓Zc,↓vdn,vup,Zk,Zn,Zl,Zh,Zj,List.map_cons,List.map_nil,cond_true,cond_false,aop,Zv,Zq,Zp,ev,sput,Zt,Zy,Ya,unK,Zd,Zw,Nat.reduceBEq,Nat.reduceAdd,Int.reduceBEq,Int.reduceBNe,Int.reduceLT,Zu,Zz,tup,tyf])
   clear hN7
   try clear N7
   refine Yc fun N8 hN8=>?_
   simp (maxSteps:=2000000) only [s14,↓Za,↓Zi,↓Zr,↓Ze,↓Zo,↓Zs,↓Zg,↓Zm,↓Zf,↓Zb,↓Zc,↓vdn,vup,Zk,Zn,Zl,Zh,Zj,List.map_cons,List.map_nil,cond_true,cond_false,aop,Zv,Zq,Zp,ev,sput,Zt,Zy,Ya,unK,Zd,Zw,Nat.reduceBEq,Nat.reduceAdd,Int.reduceBEq,Int.reduceBNe,Int.reduceLT,Zu,Zz,tup,tyf,Xr,Ys,zero_37,List.length_append,List.length_cons,List.length_nil,Nat.zero_add,Nat.add_assoc,Nat.reduceAdd]
   rw [← hn]
   obtain ⟨H0,hH0⟩ : ∃ H0,H0=h2++[Blk.cells (c3 0 0 0) 74 false,Blk.cells (c3 0 0 0) 74 false,Blk.cells [Zx 0,Zx 0] 37 false,Blk.cells [Zx 0,Zx 0] 37 false]:=⟨_,rfl⟩
   have hH0' : h2++[Blk.cells [Value.int .i64 0,.int .i64 0,.int .i64 0] 74 false]++[Blk.cells [Value.int .i64 0,.int .i64 0,.int .i64 0] 74 false]++[Blk.cells [Value.int .i64 0,.int .i64 0] 37 false]++[Blk.cells [Value.int .i64 0,.int .i64 0] 37 false]=H0:=by rw [hH0]; simp
   rw [hH0']
   refine hN8 [(0,v),(1,Zx (a:Nat)),(4,.bool false),(5,t),(6,.int .i64 0),(7,ptB n),(8,ptB (n+1)),(9,ptB (n+2)),(10,ptB (n+3))] _ _ ?_ (by simp (maxSteps:=2000000) only [↓Za,↓Zi,↓Zr,↓Ze,↓Zo,↓Zs,↓Zg,↓Zm,↓Zf,↓Zb,↓Zc,↓vdn,vup,Zk,Zn,Zl,Zh,Zj,List.map_cons,List.map_nil,cond_true,cond_false,aop,Zv,Zq,Zp,ev,sput,Zt,Zy,Ya,unK,Zd,Zw,Nat.reduceBEq,Nat.reduceAdd,Int.reduceBEq,Int.reduceBNe,Int.reduceLT,Zu,Zz,tup,tyf])
   clear hN8
   try clear N8
   have at0 : ∀ k B,([Blk.cells (c3 0 0 0) 74 false,Blk.cells (c3 0 0 0) 74 false,Blk.cells [Zx 0,Zx 0] 37 false,Blk.cells [Zx 0,Zx 0] 37 false]:Yb)[k]? = some B→H0[n+k]? = some B:=fun k B hk=>by
    rw [hH0,hn,List.getElem?_append_right (by omega),show h2.length+k-h2.length=k by omega]; exact hk
   have hE0:Ext (fun _=>False) h2 H0:=by rw [hH0]; exact Ext.app _ _ _
   have hl0:H0.length=n+4:=by rw [hH0,hn]; simp
   have hvH:=Wb hv1 hE0
   have htH:=Wb ht hE0
   obtain ⟨q,hq⟩ : ∃ q:Nat→Nat→Nat,q=fun s k=>if s=0 then 0 else if k=0 then cn o else if k=1 then Ui o else (Ve o).length:=⟨_,rfl⟩
   obtain ⟨F,hF⟩ : ∃ F:Nat→Nat×Nat,F=fun s=>if s=0 then (0,0) else if s=1 then (num (hsum o a) (cn o),den (hsum o a) (cn o)) else (num (hsum (Xu o) a) (cn o),den (hsum (Xu o) a) (cn o)):=⟨_,rfl⟩
   have q0 : ∀ k,q 0 k=0:=fun k=>by rw [hq]; rfl
   have q1 : ∀ s,q (s+1) 0=cn o∧q (s+1) 1=Ui o∧q (s+1) 2=(Ve o).length:=fun s=>by rw [hq]; exact ⟨rfl,rfl,rfl⟩
   have F0:F 0=(0,0):=by rw [hF]; rfl
   have tb0:TB n q F 0 H0:=⟨by rw [q0,q0,q0]; exact at0 0 _ rfl,by rw [q0,q0,q0]; exact at0 1 _ rfl,by rw [F0]; exact at0 2 _ rfl,by rw [F0]; exact at0 3 _ rfl⟩
   clear at0 hH0 hH0'
   refine Yi fun M hM=>?_
   refine Yc fun N9 hN9=>?_
   simp (maxSteps:=2000000) only [s14,↓Za,↓Zi,↓Zr,↓Ze,↓Zo,↓Zs,↓Zg,↓Zm,↓Zf,↓Zb,↓Zc,↓vdn,vup,Zk,Zn,Zl,Zh,Zj,List.map_cons,List.map_nil,cond_true,cond_false,aop,Zv,Zq,Zp,ev,sput,Zt,Zy,Ya,unK,Zd,Zw,Nat.reduceBEq,Nat.reduceAdd,Int.reduceBEq,Int.reduceBNe,Int.reduceLT,Zu,Zz,tup,tyf,buildSl2 hvH htH,lenK]
   have hlb:=Yl H0 (Blk.cells [v,t] 22 false)
   have hE1:Ext (fun _=>False) H0 (H0++[Blk.cells [v,t] 22 false]):=Ext.app _ _ _
   have tb1:TB n q F 0 (H0++[Blk.cells [v,t] 22 false]):=⟨Yh tb0.x _,Yh tb0.y _,Yh tb0.f _,Yh tb0.g _⟩
   have hvB:=Wb hvH hE1
   have htB:=Wb htH hE1
   have hlB:(H0++[Blk.cells [v,t] 22 false]).length=n+5:=by simp [hl0]
   rw [hl0] at hlb ⊢
   generalize H0++[Blk.cells [v,t] 22 false]=B0 at hlb tb1 hvB htB hlB ⊢
   clear tb0 hE0 hE1 hvH htH hl0
   refine hN9 [(0,v),(1,Zx (a:Nat)),(4,.bool false),(5,t),(6,.int .i64 0),(7,ptB n),(8,ptB (n+1)),(9,ptB (n+2)),(10,ptB (n+3)),(59,.slice (some ⟨n+4,0,none⟩) 2 2),(60,Zx ((2:Nat):Int)),(61,.int .i64 0)] _ _ ?_ (by simp (maxSteps:=2000000) only [↓Za,↓Zi,↓Zr,↓Ze,↓Zo,↓Zs,↓Zg,↓Zm,↓Zf,↓Zb,↓Zc,↓vdn,vup,Zk,Zn,Zl,Zh,Zj,List.map_cons,List.map_nil,cond_true,cond_false,aop,Zv,Zq,Zp,ev,sput,Zt,Zy,Ya,unK,Zd,Zw,Nat.reduceBEq,Nat.reduceAdd,Int.reduceBEq,Int.reduceBNe,Int.reduceLT,Zu,Zz,tup,tyf])
   clear hN9
   try clear N9
   refine Yr ?_
   refine Yn fun Q hQ=>?_
   refine We (γ:=Nat×Yb) (fun s=>s.1≤2∧TB n q F s.1 s.2∧B0.length≤s.2.length∧∀ k,k<B0.length→(k<n∨k=n+4)→s.2[k]? = B0[k]?)
    (fun s=>([(0,v),(1,Zx (a:Nat)),(4,.bool false),(5,t),(6,.int .i64 0),(7,ptB n),(8,ptB (n+1)),(9,ptB (n+2)),(10,ptB (n+3)),(59,.slice (some ⟨n+4,0,none⟩) 2 2),(60,Zx ((2:Nat):Int)),(61,Zx (s.1:Nat))],s.2)) (fun s=>2-s.1) (0,B0) ⟨Nat.zero_le _,tb1,Nat.le_refl _,fun _ _ _=>rfl⟩ (by simp (maxSteps:=2000000) only [↓Za,↓Zi,↓Zr,↓Ze,↓Zo,↓Zs,↓Zg,↓Zm,↓Zf,↓Zb,↓Zc,↓vdn,vup,Zk,Zn,Zl,Zh,Zj,List.map_cons,List.map_nil,cond_true,cond_false,aop,Zv,Zq,Zp,ev,sput,Zt,Zy,Ya,unK,Zd,Zw,Nat.reduceBEq,Nat.reduceAdd,Int.reduceBEq,Int.reduceBNe,Int.reduceLT,Zu,Zz,tup,tyf,Int.natCast_zero]) rfl ?_
   rintro ⟨s,z⟩ ⟨hs2,tb,hlz,hsame⟩
   simp only at hs2 tb hlz hsame
   refine Yn fun Q2 hQ2=>?_
   simp only [l14_0]
   have hvz:IntSl z v o:=hvB.same fun b hb=>hsame b (hvB.lt hb) (by
    have:=hvB.lt hb
    have h1:=(hv1).lt hb
    left; omega)
   have htz:IntSl z t (Xu o):=htB.same fun b hb=>hsame b (htB.lt hb) (by
    have h1:=ht.lt hb
    left; omega)
   have hlbz:z[n+4]? = some (.cells [v,t] 22 false):=(hsame (n+4) (by omega) (.inr rfl)).trans hlb
   by_cases hsn:(s:Int)<((2:Nat):Int)
   · have hs' : s<2:=by omega
     obtain ⟨w,hw⟩ : ∃ w:Value,w=if s=0 then v else t:=⟨_,rfl⟩
     obtain ⟨L,hL⟩ : ∃ L:List Int,L=if s=0 then o else Xu o:=⟨_,rfl⟩
     have hwz:IntSl z w L:=by
      rw [hw,hL]; split <;> assumption
     have hoL:ord L=true:=by rw [hL]; split <;> assumption
     have hLn:L.length=o.length:=by rw [hL]; split; rfl; exact htl
     have hLr : ∀ x∈L,-9223372036854775808≤x∧x<9223372036854775808:=by rw [hL]; split <;> assumption
     have hcL:cn L=cn o:=by rw [hL]; split; rfl; exact turn_cn ho
     have hnL:Ui L=Ui o:=by rw [hL]; split; rfl; exact turn_need ho
     have hdL:(Ve L).length=(Ve o).length:=by rw [hL]; split; rfl; exact turn_dim ho
     have hFs:F (s+1)=(num (hsum L a) (cn o),den (hsum L a) (cn o)):=by
      rw [hF,hL]
      rcases s with _ | _ | s
      · rfl
      · rfl
      · omega
     have hLl:L.length<9223372036854775808:=by omega
     have hld:=load2 hlbz hs' (K:=fun _=>True)
     refine Yc fun N10 hN10=>?_
     simp (maxSteps:=2000000) only [s14,↓Za,↓Zi,↓Zr,↓Ze,↓Zo,↓Zs,↓Zg,↓Zm,↓Zf,↓Zb,↓Zc,↓vdn,vup,Zk,Zn,Zl,Zh,Zj,List.map_cons,List.map_nil,cond_true,cond_false,aop,Zv,Zq,Zp,ev,sput,Zt,Zy,Ya,unK,Zd,Zw,Nat.reduceBEq,Nat.reduceAdd,Int.reduceBEq,Int.reduceBNe,Int.reduceLT,Zu,Zz,tup,tyf,hsn]
     refine hN10 [(0,v),(1,Zx (a:Nat)),(4,.bool false),(5,t),(6,.int .i64 0),(7,ptB n),(8,ptB (n+1)),(9,ptB (n+2)),(10,ptB (n+3)),(59,.slice (some ⟨n+4,0,none⟩) 2 2),(60,Zx ((2:Nat):Int)),(61,Zx (s:Nat)),(62,.bool true)] _ _ ?_ (by simp (maxSteps:=2000000) only [↓Za,↓Zi,↓Zr,↓Ze,↓Zo,↓Zs,↓Zg,↓Zm,↓Zf,↓Zb,↓Zc,↓vdn,vup,Zk,Zn,Zl,Zh,Zj,List.map_cons,List.map_nil,cond_true,cond_false,aop,Zv,Zq,Zp,ev,sput,Zt,Zy,Ya,unK,Zd,Zw,Nat.reduceBEq,Nat.reduceAdd,Int.reduceBEq,Int.reduceBNe,Int.reduceLT,Zu,Zz,tup,tyf])
     clear hN10
     try clear N10
     refine Yc fun N11 hN11=>?_
     simp (maxSteps:=2000000) only [s14,↓Za,↓Zi,↓Zr,↓Ze,↓Zo,↓Zs,↓Zg,↓Zm,↓Zf,↓Zb,↓Zc,↓vdn,vup,Zk,Zn,Zl,Zh,Zj,List.map_cons,List.map_nil,cond_true,cond_false,aop,Zv,Zq,Zp,ev,sput,Zt,Zy,Ya,unK,Zd,Zw,Nat.reduceBEq,Nat.reduceAdd,Int.reduceBEq,Int.reduceBNe,Int.reduceLT,Zu,Zz,tup,tyf]
     refine hN11 [(0,v),(1,Zx (a:Nat)),(4,.bool false),(5,t),(6,.int .i64 0),(7,ptB n),(8,ptB (n+1)),(9,ptB (n+2)),(10,ptB (n+3)),(59,.slice (some ⟨n+4,0,none⟩) 2 2),(60,Zx ((2:Nat):Int)),(61,Zx (s:Nat))] _ _ ?_ (by simp (maxSteps:=2000000) only [↓Za,↓Zi,↓Zr,↓Ze,↓Zo,↓Zs,↓Zg,↓Zm,↓Zf,↓Zb,↓Zc,↓vdn,vup,Zk,Zn,Zl,Zh,Zj,List.map_cons,List.map_nil,cond_true,cond_false,aop,Zv,Zq,Zp,ev,sput,Zt,Zy,Ya,unK,Zd,Zw,Nat.reduceBEq,Nat.reduceAdd,Int.reduceBEq,Int.reduceBNe,Int.reduceLT,Zu,Zz,tup,tyf])
     clear hN11
     try clear N11
     refine Yi fun Y hY=>?_
     refine Yr ?_
     refine Yc fun N12 hN12=>?_
     simp (maxSteps:=2000000) only [s14,↓Za,↓Zi,↓Zr,↓Ze,↓Zo,↓Zs,↓Zg,↓Zm,↓Zf,↓Zb,↓Zc,↓vdn,vup,Zk,Zn,Zl,Zh,Zj,List.map_cons,List.map_nil,cond_true,cond_false,aop,Zv,Zq,Zp,ev,sput,Zt,Zy,Ya,unK,Zd,Zw,Nat.reduceBEq,Nat.reduceAdd,Int.reduceBEq,Int.reduceBNe,Int.reduceLT,Zu,Zz,tup,tyf,idx2 hs',load2 hlbz hs']
     rw [← hw]
     refine hN12 [(0,v),(1,Zx (a:Nat)),(4,.bool false),(5,t),(6,.int .i64 0),(7,ptB n),(8,ptB (n+1)),(9,ptB (n+2)),(10,ptB (n+3)),(12,w),(59,.slice (some ⟨n+4,0,none⟩) 2 2),(60,Zx ((2:Nat):Int)),(61,Zx (s:Nat))] _ _ ?_ (by simp (maxSteps:=2000000) only [↓Za,↓Zi,↓Zr,↓Ze,↓Zo,↓Zs,↓Zg,↓Zm,↓Zf,↓Zb,↓Zc,↓vdn,vup,Zk,Zn,Zl,Zh,Zj,List.map_cons,List.map_nil,cond_true,cond_false,aop,Zv,Zq,Zp,ev,sput,Zt,Zy,Ya,unK,Zd,Zw,Nat.reduceBEq,Nat.reduceAdd,Int.reduceBEq,Int.reduceBNe,Int.reduceLT,Zu,Zz,tup,tyf])
     clear hN12
     try clear N12
     refine Yc fun N13 hN13=>?_
     simp (maxSteps:=2000000) only [s14,↓Za,↓Zi,↓Zr,↓Ze,↓Zo,↓Zs,↓Zg,↓Zm,↓Zf,↓Zb,↓Zc,↓vdn,vup,Zk,Zn,Zl,Zh,Zj,List.map_cons,List.map_nil,cond_true,cond_false,aop,Zv,Zq,Zp,ev,sput,Zt,Zy,Ya,unK,Zd,Zw,Nat.reduceBEq,Nat.reduceAdd,Int.reduceBEq,Int.reduceBNe,Int.reduceLT,Zu,Zz,tup,tyf,Yx,List.nil_append,List.append_nil,List.toList_toArray,List.cons_append]
     refine (list_call hwz hLl).mono ?_
     rintro m1 _ ⟨hm1,k1,rfl⟩
     rw [ord_take_eq hoL] at hm1
     refine (count_call hm1 hLl hLr).mono ?_
     rintro _ _ ⟨rfl,rfl⟩
     rw [countV,hoL,if_pos rfl,hcL]
     try simp (maxSteps:=2000000) only [s14,↓Za,↓Zi,↓Zr,↓Ze,↓Zo,↓Zs,↓Zg,↓Zm,↓Zf,↓Zb,↓Zc,↓vdn,vup,Zk,Zn,Zl,Zh,Zj,List.map_cons,List.map_nil,cond_true,cond_false,aop,Zv,Zq,Zp,ev,sput,Zt,Zy,Ya,unK,Zd,Zw,Nat.reduceBEq,Nat.reduceAdd,Int.reduceBEq,Int.reduceBNe,Int.reduceLT,Zu,Zz,tup,tyf]
     refine hN13 [(0,v),(1,Zx (a:Nat)),(4,.bool false),(5,t),(6,.int .i64 0),(7,ptB n),(8,ptB (n+1)),(9,ptB (n+2)),(10,ptB (n+3)),(12,w),(13,Zx (cn o:Nat)),(14,.int .i64 0),(59,.slice (some ⟨n+4,0,none⟩) 2 2),(60,Zx ((2:Nat):Int)),(61,Zx (s:Nat))] _ _ ?_ (by simp (maxSteps:=2000000) only [↓Za,↓Zi,↓Zr,↓Ze,↓Zo,↓Zs,↓Zg,↓Zm,↓Zf,↓Zb,↓Zc,↓vdn,vup,Zk,Zn,Zl,Zh,Zj,List.map_cons,List.map_nil,cond_true,cond_false,aop,Zv,Zq,Zp,ev,sput,Zt,Zy,Ya,unK,Zd,Zw,Nat.reduceBEq,Nat.reduceAdd,Int.reduceBEq,Int.reduceBNe,Int.reduceLT,Zu,Zz,tup,tyf])
     clear hN13
     try clear N13
     refine Yc fun N14 hN14=>?_
     simp (maxSteps:=2000000) only [s14,↓Za,↓Zi,↓Zr,↓Ze,↓Zo,↓Zs,↓Zg,↓Zm,↓Zf,↓Zb,↓Zc,↓vdn,vup,Zk,Zn,Zl,Zh,Zj,List.map_cons,List.map_nil,cond_true,cond_false,aop,Zv,Zq,Zp,ev,sput,Zt,Zy,Ya,unK,Zd,Zw,Nat.reduceBEq,Nat.reduceAdd,Int.reduceBEq,Int.reduceBNe,Int.reduceLT,Zu,Zz,tup,tyf,Yx,List.nil_append,List.append_nil,List.toList_toArray,List.cons_append]
     refine (list_call (hwz.grow k1) hLl).mono ?_
     rintro m2 _ ⟨hm2,k2,rfl⟩
     rw [ord_take_eq hoL] at hm2
     refine (progNeed_call hm2 hLl hLr).mono ?_
     rintro _ _ ⟨rfl,rfl⟩
     rw [needV,hoL,if_pos rfl,hnL]
     try simp (maxSteps:=2000000) only [s14,↓Za,↓Zi,↓Zr,↓Ze,↓Zo,↓Zs,↓Zg,↓Zm,↓Zf,↓Zb,↓Zc,↓vdn,vup,Zk,Zn,Zl,Zh,Zj,List.map_cons,List.map_nil,cond_true,cond_false,aop,Zv,Zq,Zp,ev,sput,Zt,Zy,Ya,unK,Zd,Zw,Nat.reduceBEq,Nat.reduceAdd,Int.reduceBEq,Int.reduceBNe,Int.reduceLT,Zu,Zz,tup,tyf]
     refine hN14 [(0,v),(1,Zx (a:Nat)),(4,.bool false),(5,t),(6,.int .i64 0),(7,ptB n),(8,ptB (n+1)),(9,ptB (n+2)),(10,ptB (n+3)),(12,w),(13,Zx (cn o:Nat)),(14,.int .i64 0),(15,Zx (Ui o:Nat)),(16,.int .i64 0),(59,.slice (some ⟨n+4,0,none⟩) 2 2),(60,Zx ((2:Nat):Int)),(61,Zx (s:Nat))] _ _ ?_ (by simp (maxSteps:=2000000) only [↓Za,↓Zi,↓Zr,↓Ze,↓Zo,↓Zs,↓Zg,↓Zm,↓Zf,↓Zb,↓Zc,↓vdn,vup,Zk,Zn,Zl,Zh,Zj,List.map_cons,List.map_nil,cond_true,cond_false,aop,Zv,Zq,Zp,ev,sput,Zt,Zy,Ya,unK,Zd,Zw,Nat.reduceBEq,Nat.reduceAdd,Int.reduceBEq,Int.reduceBNe,Int.reduceLT,Zu,Zz,tup,tyf])
     clear hN14
     try clear N14
     refine Yc fun N15 hN15=>?_
     simp (maxSteps:=2000000) only [s14,↓Za,↓Zi,↓Zr,↓Ze,↓Zo,↓Zs,↓Zg,↓Zm,↓Zf,↓Zb,↓Zc,↓vdn,vup,Zk,Zn,Zl,Zh,Zj,List.map_cons,List.map_nil,cond_true,cond_false,aop,Zv,Zq,Zp,ev,sput,Zt,Zy,Ya,unK,Zd,Zw,Nat.reduceBEq,Nat.reduceAdd,Int.reduceBEq,Int.reduceBNe,Int.reduceLT,Zu,Zz,tup,tyf,Yx,List.nil_append,List.append_nil,List.toList_toArray,List.cons_append]
     refine (list_call ((hwz.grow k1).grow k2) hLl).mono ?_
     rintro m3 _ ⟨hm3,k3,rfl⟩
     rw [ord_take_eq hoL] at hm3
     refine (dim_call hm3 hLl hLr).mono ?_
     rintro _ _ ⟨rfl,rfl⟩
     rw [dimV,hoL,if_pos rfl,hdL]
     try simp (maxSteps:=2000000) only [s14,↓Za,↓Zi,↓Zr,↓Ze,↓Zo,↓Zs,↓Zg,↓Zm,↓Zf,↓Zb,↓Zc,↓vdn,vup,Zk,Zn,Zl,Zh,Zj,List.map_cons,List.map_nil,cond_true,cond_false,aop,Zv,Zq,Zp,ev,sput,Zt,Zy,Ya,unK,Zd,Zw,Nat.reduceBEq,Nat.reduceAdd,Int.reduceBEq,Int.reduceBNe,Int.reduceLT,Zu,Zz,tup,tyf]
     refine hN15 [(0,v),(1,Zx (a:Nat)),(4,.bool false),(5,t),(6,.int .i64 0),(7,ptB n),(8,ptB (n+1)),(9,ptB (n+2)),(10,ptB (n+3)),(12,w),(13,Zx (cn o:Nat)),(14,.int .i64 0),(15,Zx (Ui o:Nat)),(16,.int .i64 0),(17,Zx ((Ve o).length:Nat)),(18,.int .i64 0),(59,.slice (some ⟨n+4,0,none⟩) 2 2),(60,Zx ((2:Nat):Int)),(61,Zx (s:Nat))] _ _ ?_ (by simp (maxSteps:=2000000) only [↓Za,↓Zi,↓Zr,↓Ze,↓Zo,↓Zs,↓Zg,↓Zm,↓Zf,↓Zb,↓Zc,↓vdn,vup,Zk,Zn,Zl,Zh,Zj,List.map_cons,List.map_nil,cond_true,cond_false,aop,Zv,Zq,Zp,ev,sput,Zt,Zy,Ya,unK,Zd,Zw,Nat.reduceBEq,Nat.reduceAdd,Int.reduceBEq,Int.reduceBNe,Int.reduceLT,Zu,Zz,tup,tyf])
     clear hN15
     try clear N15
     refine Yc fun N16 hN16=>?_
     simp (maxSteps:=2000000) only [s14,↓Za,↓Zi,↓Zr,↓Ze,↓Zo,↓Zs,↓Zg,↓Zm,↓Zf,↓Zb,↓Zc,↓vdn,vup,Zk,Zn,Zl,Zh,Zj,List.map_cons,List.map_nil,cond_true,cond_false,aop,Zv,Zq,Zp,ev,sput,Zt,Zy,Ya,unK,Zd,Zw,Nat.reduceBEq,Nat.reduceAdd,Int.reduceBEq,Int.reduceBNe,Int.reduceLT,Zu,Zz,tup,tyf,Yx,List.nil_append,List.append_nil,List.toList_toArray,List.cons_append]
     refine (list_call (((hwz.grow k1).grow k2).grow k3) hLl).mono ?_
     rintro m4 _ ⟨hm4,k4,rfl⟩
     rw [ord_take_eq hoL] at hm4
     have hhc:=height_call (i:=(a:Int)) hm4 hLl hLr
     rw [heightV_at hoL (by rw [hLn]; exact ha),hcL] at hhc
     have hFb:=height_small hoL (show a<L.length by rw [hLn]; exact ha)
     rw [hcL] at hFb
     refine hhc.mono ?_
     rintro _ _ ⟨rfl,rfl⟩
     obtain ⟨NX,hNX⟩ : ∃ NX,NX=num (hsum L a) (cn o):=⟨_,rfl⟩
     obtain ⟨NY,hNY⟩ : ∃ NY,NY=den (hsum L a) (cn o):=⟨_,rfl⟩
     rw [← hNX,← hNY] at hFs hFb ⊢
     obtain ⟨f1,f2,f3,f4⟩:=hFb
     have tb4:TB n q F s (z++k1++k2++k3++k4):=⟨Yh (Yh (Yh (Yh tb.x _) _) _) _,Yh (Yh (Yh (Yh tb.y _) _) _) _,Yh (Yh (Yh (Yh tb.f _) _) _) _,Yh (Yh (Yh (Yh tb.g _) _) _) _⟩
     have hE4:Ext (fun _=>False) z (z++k1++k2++k3++k4):=by simp only [List.append_assoc]; exact Ext.app _ _ _
     generalize z++k1++k2++k3++k4=z4 at tb4 hE4 ⊢
     simp (maxSteps:=2000000) only [s14,↓Za,↓Zi,↓Zr,↓Ze,↓Zo,↓Zs,↓Zg,↓Zm,↓Zf,↓Zb,↓Zc,↓vdn,vup,Zk,Zn,Zl,Zh,Zj,List.map_cons,List.map_nil,cond_true,cond_false,aop,Zv,Zq,Zp,ev,sput,Zt,Zy,Ya,unK,Zd,Zw,Nat.reduceBEq,Nat.reduceAdd,Int.reduceBEq,Int.reduceBNe,Int.reduceLT,Zu,Zz,tup,tyf,Xr,Ys,zero_37]
     rw [storeQ rfl]
     obtain ⟨dq,hE5⟩:=frBox z4 (NX:Int) (NY:Int)
     generalize (z4++[Blk.cells [.int .i64 0,.int .i64 0] 37 false]).set z4.length (.cells [Zx (NX:Int),Zx (NY:Int)] 37 false)=z5 at dq hE5 ⊢
     have hlz4:n+5≤z4.length:=by have:=hE4.1; omega
     generalize z4.length=b19 at dq hlz4 ⊢
     have keep : ∀ {b B},z4[b]? = some B→z5[b]? = some B:=fun hb=>(hE5.2 _ (Yd hb) id).trans hb
     have tb5:TB n q F s z5:=⟨keep tb4.x,keep tb4.y,keep tb4.f,keep tb4.g⟩
     refine hN16 [(0,v),(1,Zx (a:Nat)),(4,.bool false),(5,t),(6,.int .i64 0),(7,ptB n),(8,ptB (n+1)),(9,ptB (n+2)),(10,ptB (n+3)),(12,w),(13,Zx (cn o:Nat)),(14,.int .i64 0),(15,Zx (Ui o:Nat)),(16,.int .i64 0),(17,Zx ((Ve o).length:Nat)),(18,.int .i64 0),(19,ptB b19),(20,.int .i64 0),(59,.slice (some ⟨n+4,0,none⟩) 2 2),(60,Zx ((2:Nat):Int)),(61,Zx (s:Nat))] _ _ ?_ (by simp (maxSteps:=2000000) only [↓Za,↓Zi,↓Zr,↓Ze,↓Zo,↓Zs,↓Zg,↓Zm,↓Zf,↓Zb,↓Zc,↓vdn,vup,Zk,Zn,Zl,Zh,Zj,List.map_cons,List.map_nil,cond_true,cond_false,aop,Zv,Zq,Zp,ev,sput,Zt,Zy,Ya,unK,Zd,Zw,Nat.reduceBEq,Nat.reduceAdd,Int.reduceBEq,Int.reduceBNe,Int.reduceLT,Zu,Zz,tup,tyf])
     clear hN16
     try clear N16
     refine Yi fun D hD=>?_
     refine Yc fun N17 hN17=>?_
     simp (maxSteps:=2000000) only [s14,↓Za,↓Zi,↓Zr,↓Ze,↓Zo,↓Zs,↓Zg,↓Zm,↓Zf,↓Zb,↓Zc,↓vdn,vup,Zk,Zn,Zl,Zh,Zj,List.map_cons,List.map_nil,cond_true,cond_false,aop,Zv,Zq,Zp,ev,sput,Zt,Zy,Ya,unK,Zd,Zw,Nat.reduceBEq,Nat.reduceAdd,Int.reduceBEq,Int.reduceBNe,Int.reduceLT,Zu,Zz,tup,tyf,n00,loadF dq,Yx,List.nil_append,List.append_nil,List.toList_toArray,List.cons_append]
     refine (right_call (n:=6) f3 f2 (by decide) f4).mono ?_
     rintro _ z5 ⟨rfl,rfl⟩
     try simp (maxSteps:=2000000) only [s14,↓Za,↓Zi,↓Zr,↓Ze,↓Zo,↓Zs,↓Zg,↓Zm,↓Zf,↓Zb,↓Zc,↓vdn,vup,Zk,Zn,Zl,Zh,Zj,List.map_cons,List.map_nil,cond_true,cond_false,aop,Zv,Zq,Zp,ev,sput,Zt,Zy,Ya,unK,Zd,Zw,Nat.reduceBEq,Nat.reduceAdd,Int.reduceBEq,Int.reduceBNe,Int.reduceLT,Zu,Zz,tup,tyf]
     refine hN17 [(0,v),(1,Zx (a:Nat)),(4,.bool false),(5,t),(6,.int .i64 0),(7,ptB n),(8,ptB (n+1)),(9,ptB (n+2)),(10,ptB (n+3)),(12,w),(13,Zx (cn o:Nat)),(14,.int .i64 0),(15,Zx (Ui o:Nat)),(16,.int .i64 0),(17,Zx ((Ve o).length:Nat)),(18,.int .i64 0),(19,ptB b19),(20,.int .i64 0),(59,.slice (some ⟨n+4,0,none⟩) 2 2),(60,Zx ((2:Nat):Int)),(61,Zx (s:Nat)),(108,.bool false)] _ _ ?_ (by simp (maxSteps:=2000000) only [↓Za,↓Zi,↓Zr,↓Ze,↓Zo,↓Zs,↓Zg,↓Zm,↓Zf,↓Zb,↓Zc,↓vdn,vup,Zk,Zn,Zl,Zh,Zj,List.map_cons,List.map_nil,cond_true,cond_false,aop,Zv,Zq,Zp,ev,sput,Zt,Zy,Ya,unK,Zd,Zw,Nat.reduceBEq,Nat.reduceAdd,Int.reduceBEq,Int.reduceBNe,Int.reduceLT,Zu,Zz,tup,tyf])
     clear hN17
     try clear N17
     refine Xx rfl ?_
     refine Yk ?_
     try simp (maxSteps:=2000000) only [s14,↓Za,↓Zi,↓Zr,↓Ze,↓Zo,↓Zs,↓Zg,↓Zm,↓Zf,↓Zb,↓Zc,↓vdn,vup,Zk,Zn,Zl,Zh,Zj,List.map_cons,List.map_nil,cond_true,cond_false,aop,Zv,Zq,Zp,ev,sput,Zt,Zy,Ya,unK,Zd,Zw,Nat.reduceBEq,Nat.reduceAdd,Int.reduceBEq,Int.reduceBNe,Int.reduceLT,Zu,Zz,tup,tyf]
     refine hD [(0,v),(1,Zx (a:Nat)),(4,.bool false),(5,t),(6,.int .i64 0),(7,ptB n),(8,ptB (n+1)),(9,ptB (n+2)),(10,ptB (n+3)),(12,w),(13,Zx (cn o:Nat)),(14,.int .i64 0),(15,Zx (Ui o:Nat)),(16,.int .i64 0),(17,Zx ((Ve o).length:Nat)),(18,.int .i64 0),(19,ptB b19),(20,.int .i64 0),(59,.slice (some ⟨n+4,0,none⟩) 2 2),(60,Zx ((2:Nat):Int)),(61,Zx (s:Nat))] _ _ ?_ (by simp (maxSteps:=2000000) only [↓Za,↓Zi,↓Zr,↓Ze,↓Zo,↓Zs,↓Zg,↓Zm,↓Zf,↓Zb,↓Zc,↓vdn,vup,Zk,Zn,Zl,Zh,Zj,List.map_cons,List.map_nil,cond_true,cond_false,aop,Zv,Zq,Zp,ev,sput,Zt,Zy,Ya,unK,Zd,Zw,Nat.reduceBEq,Nat.reduceAdd,Int.reduceBEq,Int.reduceBNe,Int.reduceLT,Zu,Zz,tup,tyf])
     clear hD
     try clear D
     -- what was becomes the other one's
     refine Yc fun N18 hN18=>?_
     simp only [q14_18]
     refine aw_drawR (fun y=>y[n+2]? = some (.cells [Zx ((F s).1:Nat),Zx ((F s).2:Nat)] 37 false)) [(1,5)] (by kernel_rfl) (by kernel_rfl) (by kernel_rfl) (by kernel_rfl) tb5.f ?_
     simp (maxSteps:=2000000) only [s14,↓Za,↓Zi,↓Zr,↓Ze,↓Zo,↓Zs,↓Zg,↓Zm,↓Zf,↓Zb,↓Zc,↓vdn,vup,Zk,Zn,Zl,Zh,Zj,List.map_cons,List.map_nil,cond_true,cond_false,aop,Zv,Zq,Zp,ev,sput,Zt,Zy,Ya,unK,Zd,Zw,Nat.reduceBEq,Nat.reduceAdd,Int.reduceBEq,Int.reduceBNe,Int.reduceLT,Zu,Zz,tup,tyf,load3 tb5.x]
     refine ⟨.agg #[Zx ((F s).1:Nat),Zx ((F s).2:Nat)],fun y hy=>by simp only [loadF hy],?_⟩
     try simp (maxSteps:=2000000) only [s14,↓Za,↓Zi,↓Zr,↓Ze,↓Zo,↓Zs,↓Zg,↓Zm,↓Zf,↓Zb,↓Zc,↓vdn,vup,Zk,Zn,Zl,Zh,Zj,List.map_cons,List.map_nil,cond_true,cond_false,aop,Zv,Zq,Zp,ev,sput,Zt,Zy,Ya,unK,Zd,Zw,Nat.reduceBEq,Nat.reduceAdd,Int.reduceBEq,Int.reduceBNe,Int.reduceLT,Zu,Zz,tup,tyf]
     rw [store3 tb5.y rfl]
     have e6 : ∀ b,b≠n+1→(z5.set (n+1) (.cells (c3 (q s 0) (q s 1) (q s 2)) 74 false))[b]? = z5[b]?:=fun b hb=>List.getElem?_set_ne (Ne.symm hb)
     have e6y:(z5.set (n+1) (.cells (c3 (q s 0) (q s 1) (q s 2)) 74 false))[n+1]? = some (.cells (c3 (q s 0) (q s 1) (q s 2)) 74 false):=Xc (Yd tb5.y) _
     have e6l:(z5.set (n+1) (.cells (c3 (q s 0) (q s 1) (q s 2)) 74 false)).length=z5.length:=List.length_set
     generalize z5.set (n+1) (.cells (c3 (q s 0) (q s 1) (q s 2)) 74 false)=z6 at e6 e6y e6l ⊢
     refine ⟨(e6 _ (by omega)).trans tb5.f,?_⟩
     try simp (maxSteps:=2000000) only [s14,↓Za,↓Zi,↓Zr,↓Ze,↓Zo,↓Zs,↓Zg,↓Zm,↓Zf,↓Zb,↓Zc,↓vdn,vup,Zk,Zn,Zl,Zh,Zj,List.map_cons,List.map_nil,cond_true,cond_false,aop,Zv,Zq,Zp,ev,sput,Zt,Zy,Ya,unK,Zd,Zw,Nat.reduceBEq,Nat.reduceAdd,Int.reduceBEq,Int.reduceBNe,Int.reduceLT,Zu,Zz,tup,tyf]
     rw [stF ((e6 _ (by omega)).trans tb5.g) rfl]
     have e7 : ∀ b,b≠n+3→(z6.set (n+3) (.cells [Zx ((F s).1:Nat),Zx ((F s).2:Nat)] 37 false))[b]? = z6[b]?:=fun b hb=>List.getElem?_set_ne (Ne.symm hb)
     have e7g:(z6.set (n+3) (.cells [Zx ((F s).1:Nat),Zx ((F s).2:Nat)] 37 false))[n+3]? = some (.cells [Zx ((F s).1:Nat),Zx ((F s).2:Nat)] 37 false):=Xc (by rw [e6l]; exact Yd tb5.g) _
     have e7l:(z6.set (n+3) (.cells [Zx ((F s).1:Nat),Zx ((F s).2:Nat)] 37 false)).length=z6.length:=List.length_set
     generalize z6.set (n+3) (.cells [Zx ((F s).1:Nat),Zx ((F s).2:Nat)] 37 false)=z7 at e7 e7g e7l ⊢
     try refine ⟨(e7 _ (by omega)).trans ((e6 _ (by omega)).trans tb5.f),?_⟩
     refine hN18 [(0,v),(1,Zx (a:Nat)),(4,.bool false),(5,t),(6,.int .i64 0),(7,ptB n),(8,ptB (n+1)),(9,ptB (n+2)),(10,ptB (n+3)),(12,w),(13,Zx (cn o:Nat)),(14,.int .i64 0),(15,Zx (Ui o:Nat)),(16,.int .i64 0),(17,Zx ((Ve o).length:Nat)),(18,.int .i64 0),(19,ptB b19),(20,.int .i64 0),(59,.slice (some ⟨n+4,0,none⟩) 2 2),(60,Zx ((2:Nat):Int)),(61,Zx (s:Nat))] _ _ ?_ (by simp (maxSteps:=2000000) only [↓Za,↓Zi,↓Zr,↓Ze,↓Zo,↓Zs,↓Zg,↓Zm,↓Zf,↓Zb,↓Zc,↓vdn,vup,Zk,Zn,Zl,Zh,Zj,List.map_cons,List.map_nil,cond_true,cond_false,aop,Zv,Zq,Zp,ev,sput,Zt,Zy,Ya,unK,Zd,Zw,Nat.reduceBEq,Nat.reduceAdd,Int.reduceBEq,Int.reduceBNe,Int.reduceLT,Zu,Zz,tup,tyf])
     clear hN18
     try clear N18
     have x7:=(e7 n (by omega)).trans ((e6 n (by omega)).trans tb5.x)
     have y7:=(e7 (n+1) (by omega)).trans e6y
     have f7:=(e7 (n+2) (by omega)).trans ((e6 _ (by omega)).trans tb5.f)
     have d7:=(e7 b19 (by omega)).trans ((e6 b19 (by omega)).trans dq)
     refine Yk ?_
     simp only [q14_19]
     refine aw_drawR (fun y=>y[b19]? = some (.cells [Zx (NX:Int),Zx (NY:Int)] 37 false)) [(4,5)] (by kernel_rfl) (by kernel_rfl) (by kernel_rfl) (by kernel_rfl) d7 ?_
     simp (maxSteps:=2000000) only [s14,↓Za,↓Zi,↓Zr,↓Ze,↓Zo,↓Zs,↓Zg,↓Zm,↓Zf,↓Zb,↓Zc,↓vdn,vup,Zk,Zn,Zl,Zh,Zj,List.map_cons,List.map_nil,cond_true,cond_false,aop,Zv,Zq,Zp,ev,sput,Zt,Zy,Ya,unK,Zd,Zw,Nat.reduceBEq,Nat.reduceAdd,Int.reduceBEq,Int.reduceBNe,Int.reduceLT,Zu,Zz,tup,tyf,bld3]
     refine ⟨.agg #[Zx (NX:Int),Zx (NY:Int)],fun y hy=>by simp only [loadF hy],?_⟩
     try simp (maxSteps:=2000000) only [s14,↓Za,↓Zi,↓Zr,↓Ze,↓Zo,↓Zs,↓Zg,↓Zm,↓Zf,↓Zb,↓Zc,↓vdn,vup,Zk,Zn,Zl,Zh,Zj,List.map_cons,List.map_nil,cond_true,cond_false,aop,Zv,Zq,Zp,ev,sput,Zt,Zy,Ya,unK,Zd,Zw,Nat.reduceBEq,Nat.reduceAdd,Int.reduceBEq,Int.reduceBNe,Int.reduceLT,Zu,Zz,tup,tyf]
     rw [store3 x7 rfl]
     have e8 : ∀ b,b≠n→(z7.set n (.cells (c3 (cn o) (Ui o) (Ve o).length) 74 false))[b]? = z7[b]?:=fun b hb=>List.getElem?_set_ne (Ne.symm hb)
     have e8x:(z7.set n (.cells (c3 (cn o) (Ui o) (Ve o).length) 74 false))[n]? = some (.cells (c3 (cn o) (Ui o) (Ve o).length) 74 false):=Xc (Yd x7) _
     have e8l:(z7.set n (.cells (c3 (cn o) (Ui o) (Ve o).length) 74 false)).length=z7.length:=List.length_set
     generalize z7.set n (.cells (c3 (cn o) (Ui o) (Ve o).length) 74 false)=z8 at e8 e8x e8l ⊢
     refine ⟨(e8 _ (by omega)).trans d7,?_⟩
     try simp (maxSteps:=2000000) only [s14,↓Za,↓Zi,↓Zr,↓Ze,↓Zo,↓Zs,↓Zg,↓Zm,↓Zf,↓Zb,↓Zc,↓vdn,vup,Zk,Zn,Zl,Zh,Zj,List.map_cons,List.map_nil,cond_true,cond_false,aop,Zv,Zq,Zp,ev,sput,Zt,Zy,Ya,unK,Zd,Zw,Nat.reduceBEq,Nat.reduceAdd,Int.reduceBEq,Int.reduceBNe,Int.reduceLT,Zu,Zz,tup,tyf]
     rw [stF ((e8 _ (by omega)).trans f7) rfl]
     have e9 : ∀ b,b≠n+2→(z8.set (n+2) (.cells [Zx (NX:Int),Zx (NY:Int)] 37 false))[b]? = z8[b]?:=fun b hb=>List.getElem?_set_ne (Ne.symm hb)
     have e9f:(z8.set (n+2) (.cells [Zx (NX:Int),Zx (NY:Int)] 37 false))[n+2]? = some (.cells [Zx (NX:Int),Zx (NY:Int)] 37 false):=Xc (by rw [e8l]; exact Yd f7) _
     have e9l:(z8.set (n+2) (.cells [Zx (NX:Int),Zx (NY:Int)] 37 false)).length=z8.length:=List.length_set
     generalize z8.set (n+2) (.cells [Zx (NX:Int),Zx (NY:Int)] 37 false)=z9 at e9 e9f e9l ⊢
     try refine ⟨(e9 _ (by omega)).trans ((e8 _ (by omega)).trans d7),?_⟩
     refine hY [(0,v),(1,Zx (a:Nat)),(4,.bool false),(5,t),(6,.int .i64 0),(7,ptB n),(8,ptB (n+1)),(9,ptB (n+2)),(10,ptB (n+3)),(59,.slice (some ⟨n+4,0,none⟩) 2 2),(60,Zx ((2:Nat):Int)),(61,Zx (s:Nat))] _ _ ?_ (by simp (maxSteps:=2000000) only [↓Za,↓Zi,↓Zr,↓Ze,↓Zo,↓Zs,↓Zg,↓Zm,↓Zf,↓Zb,↓Zc,↓vdn,vup,Zk,Zn,Zl,Zh,Zj,List.map_cons,List.map_nil,cond_true,cond_false,aop,Zv,Zq,Zp,ev,sput,Zt,Zy,Ya,unK,Zd,Zw,Nat.reduceBEq,Nat.reduceAdd,Int.reduceBEq,Int.reduceBNe,Int.reduceLT,Zu,Zz,tup,tyf])
     clear hY
     try clear Y
     refine Yk ?_
     simp (maxSteps:=2000000) only [s14,↓Za,↓Zi,↓Zr,↓Ze,↓Zo,↓Zs,↓Zg,↓Zm,↓Zf,↓Zb,↓Zc,↓vdn,vup,Zk,Zn,Zl,Zh,Zj,List.map_cons,List.map_nil,cond_true,cond_false,aop,Zv,Zq,Zp,ev,sput,Zt,Zy,Ya,unK,Zd,Zw,Nat.reduceBEq,Nat.reduceAdd,Int.reduceBEq,Int.reduceBNe,Int.reduceLT,Zu,Zz,tup,tyf,add1 (show s<9223372036854775807 by omega)]
     have hEz5:=hE4.trans hE5
     obtain ⟨g1,g2,g3⟩:=q1 s
     refine hQ2 _ _ _ ⟨(s+1,z9),⟨hs',⟨?_,?_,?_,?_⟩,?_,fun k hk hkk=>?_⟩,by simp only; omega,by simp (maxSteps:=2000000) only [↓Za,↓Zi,↓Zr,↓Ze,↓Zo,↓Zs,↓Zg,↓Zm,↓Zf,↓Zb,↓Zc,↓vdn,vup,Zk,Zn,Zl,Zh,Zj,List.map_cons,List.map_nil,cond_true,cond_false,aop,Zv,Zq,Zp,ev,sput,Zt,Zy,Ya,unK,Zd,Zw,Nat.reduceBEq,Nat.reduceAdd,Int.reduceBEq,Int.reduceBNe,Int.reduceLT,Zu,Zz,tup,tyf],rfl⟩
     · rw [g1,g2,g3]; exact (e9 n (by omega)).trans e8x
     · exact (e9 _ (by omega)).trans ((e8 _ (by omega)).trans y7)
     · rw [hFs]; exact e9f
     · exact (e9 _ (by omega)).trans ((e8 _ (by omega)).trans e7g)
     · have:=hEz5.1
       simp only; omega
     · simp only
       rw [e9 k (by omega),e8 k (by omega),e7 k (by omega),e6 k (by omega),hEz5.2 k (by omega) id]
       exact hsame k hk hkk
   · obtain rfl:s=2:=by omega
     refine Yc fun N19 hN19=>?_
     simp (maxSteps:=2000000) only [s14,↓Za,↓Zi,↓Zr,↓Ze,↓Zo,↓Zs,↓Zg,↓Zm,↓Zf,↓Zb,↓Zc,↓vdn,vup,Zk,Zn,Zl,Zh,Zj,List.map_cons,List.map_nil,cond_true,cond_false,aop,Zv,Zq,Zp,ev,sput,Zt,Zy,Ya,unK,Zd,Zw,Nat.reduceBEq,Nat.reduceAdd,Int.reduceBEq,Int.reduceBNe,Int.reduceLT,Zu,Zz,tup,tyf,hsn]
     refine hN19 [(0,v),(1,Zx (a:Nat)),(4,.bool false),(5,t),(6,.int .i64 0),(7,ptB n),(8,ptB (n+1)),(9,ptB (n+2)),(10,ptB (n+3)),(59,.slice (some ⟨n+4,0,none⟩) 2 2),(60,Zx ((2:Nat):Int)),(61,Zx ((2:Nat):Int)),(62,.bool false)] _ _ ?_ (by simp (maxSteps:=2000000) only [↓Za,↓Zi,↓Zr,↓Ze,↓Zo,↓Zs,↓Zg,↓Zm,↓Zf,↓Zb,↓Zc,↓vdn,vup,Zk,Zn,Zl,Zh,Zj,List.map_cons,List.map_nil,cond_true,cond_false,aop,Zv,Zq,Zp,ev,sput,Zt,Zy,Ya,unK,Zd,Zw,Nat.reduceBEq,Nat.reduceAdd,Int.reduceBEq,Int.reduceBNe,Int.reduceLT,Zu,Zz,tup,tyf])
     clear hN19
     try clear N19
     refine Yc fun N20 hN20=>?_
     try simp (maxSteps:=2000000) only [s14,↓Za,↓Zi,↓Zr,↓Ze,↓Zo,↓Zs,↓Zg,↓Zm,↓Zf,↓Zb,↓Zc,↓vdn,vup,Zk,Zn,Zl,Zh,Zj,List.map_cons,List.map_nil,cond_true,cond_false,aop,Zv,Zq,Zp,ev,sput,Zt,Zy,Ya,unK,Zd,Zw,Nat.reduceBEq,Nat.reduceAdd,Int.reduceBEq,Int.reduceBNe,Int.reduceLT,Zu,Zz,tup,tyf]
     refine hQ2 _ _ _ (hQ _ _ _ ?_)
     simp (maxSteps:=2000000) only [s14,↓Za,↓Zi,↓Zr,↓Ze,↓Zo,↓Zs,↓Zg,↓Zm,↓Zf,↓Zb,↓Zc,↓vdn,vup,Zk,Zn,Zl,Zh,Zj,List.map_cons,List.map_nil,cond_true,cond_false,aop,Zv,Zq,Zp,ev,sput,Zt,Zy,Ya,unK,Zd,Zw,Nat.reduceBEq,Nat.reduceAdd,Int.reduceBEq,Int.reduceBNe,Int.reduceLT,Zu,Zz,tup,tyf,if_true]
     refine hM [(0,v),(4,.bool false),(5,t),(6,.int .i64 0),(7,ptB n),(8,ptB (n+1)),(9,ptB (n+2)),(10,ptB (n+3)),(62,.bool false)] _ _ ?_ (by simp (maxSteps:=2000000) only [↓Za,↓Zi,↓Zr,↓Ze,↓Zo,↓Zs,↓Zg,↓Zm,↓Zf,↓Zb,↓Zc,↓vdn,vup,Zk,Zn,Zl,Zh,Zj,List.map_cons,List.map_nil,cond_true,cond_false,aop,Zv,Zq,Zp,ev,sput,Zt,Zy,Ya,unK,Zd,Zw,Nat.reduceBEq,Nat.reduceAdd,Int.reduceBEq,Int.reduceBNe,Int.reduceLT,Zu,Zz,tup,tyf])
     clear hM
     try clear M
     refine Yc fun N21 hN21=>?_
     simp (maxSteps:=2000000) only [s14,↓Za,↓Zi,↓Zr,↓Ze,↓Zo,↓Zs,↓Zg,↓Zm,↓Zf,↓Zb,↓Zc,↓vdn,vup,Zk,Zn,Zl,Zh,Zj,List.map_cons,List.map_nil,cond_true,cond_false,aop,Zv,Zq,Zp,ev,sput,Zt,Zy,Ya,unK,Zd,Zw,Nat.reduceBEq,Nat.reduceAdd,Int.reduceBEq,Int.reduceBNe,Int.reduceLT,Zu,Zz,tup,tyf,Yx,List.nil_append,List.append_nil,List.toList_toArray,List.cons_append]
     refine (turn_call htz (by omega) htr).mono ?_
     rintro _ h9 ⟨hE9,back,e9,rfl,hi9⟩
     rw [IntsIs,hot,if_pos rfl,turn_turn ho] at hi9
     obtain ⟨rfl,hback⟩:=hi9
     try simp (maxSteps:=2000000) only [s14,↓Za,↓Zi,↓Zr,↓Ze,↓Zo,↓Zs,↓Zg,↓Zm,↓Zf,↓Zb,↓Zc,↓vdn,vup,Zk,Zn,Zl,Zh,Zj,List.map_cons,List.map_nil,cond_true,cond_false,aop,Zv,Zq,Zp,ev,sput,Zt,Zy,Ya,unK,Zd,Zw,Nat.reduceBEq,Nat.reduceAdd,Int.reduceBEq,Int.reduceBNe,Int.reduceLT,Zu,Zz,tup,tyf]
     refine hN21 [(0,v),(4,.bool false),(5,t),(6,.int .i64 0),(7,ptB n),(8,ptB (n+1)),(9,ptB (n+2)),(10,ptB (n+3)),(21,back),(62,.bool false)] _ _ ?_ (by simp (maxSteps:=2000000) only [↓Za,↓Zi,↓Zr,↓Ze,↓Zo,↓Zs,↓Zg,↓Zm,↓Zf,↓Zb,↓Zc,↓vdn,vup,Zk,Zn,Zl,Zh,Zj,List.map_cons,List.map_nil,cond_true,cond_false,aop,Zv,Zq,Zp,ev,sput,Zt,Zy,Ya,unK,Zd,Zw,Nat.reduceBEq,Nat.reduceAdd,Int.reduceBEq,Int.reduceBNe,Int.reduceLT,Zu,Zz,tup,tyf])
     clear hN21
     try clear N21
     have F1:F 1=(num (hsum o a) (cn o),den (hsum o a) (cn o)):=by rw [hF]; rfl
     have F2:F 2=(num (hsum (Xu o) a) (cn o),den (hsum (Xu o) a) (cn o)):=by rw [hF]; rfl
     have bx:=(hE9.2 _ (Yd tb.x) id).trans tb.x
     have by':=(hE9.2 _ (Yd tb.y) id).trans tb.y
     have bf:=(hE9.2 _ (Yd tb.f) id).trans tb.f
     have bg:=(hE9.2 _ (Yd tb.g) id).trans tb.g
     obtain ⟨g1,g2,g3⟩:=q1 1
     obtain ⟨k1,k2,k3⟩:=q1 0
     rw [show (1+1:Nat)=2 from rfl] at g1 g2 g3
     rw [show (0+1:Nat)=1 from rfl] at k1 k2 k3
     rw [g1,g2,g3] at bx
     rw [show (2-1:Nat)=1 from rfl,k1,k2,k3] at by'
     rw [F2] at bf
     rw [show (2-1:Nat)=1 from rfl,F1] at bg
     have hv9:=Wb hvz hE9
     have hsm0:=height_small ho ha
     have hsm1:=height_small hot (show a<(Xu o).length by rw [htl]; exact ha)
     rw [turn_cn ho] at hsm1
     have hx9:=height_cross (m:=o.length-1) hcp (hsum_add ho ha)
     generalize num (hsum o a) (cn o)=X0 at bg hsm0 hx9
     generalize den (hsum o a) (cn o)=Y0 at bg hsm0 hx9
     generalize num (hsum (Xu o) a) (cn o)=X1 at bf hsm1 hx9
     generalize den (hsum (Xu o) a) (cn o)=Y1 at bf hsm1 hx9
     have b1:X1*Y0≤4320*720:=Nat.mul_le_mul hsm1.1 hsm0.2.1
     have b2:X0*Y1≤4320*720:=Nat.mul_le_mul hsm0.1 hsm1.2.1
     have b3:(o.length-1)*Y1≤5*720:=Nat.mul_le_mul (by omega) hsm1.2.1
     have b4:(o.length-1)*Y1*Y0≤5*720*720:=Nat.mul_le_mul b3 hsm0.2.1
     have m1:mulV .i64 ((X1:Nat):Int) ((Y0:Nat):Int)=((X1*Y0:Nat):Int):=mulN b1 (by decide)
     have m2:mulV .i64 ((X0:Nat):Int) ((Y1:Nat):Int)=((X0*Y1:Nat):Int):=mulN b2 (by decide)
     have m0:subV .i64 ((o.length:Nat):Int) 1=((o.length-1:Nat):Int):=by rw [subV_id (by omega) (by omega)]; omega
     have m3:mulV .i64 ((o.length-1:Nat):Int) ((Y1:Nat):Int)=(((o.length-1)*Y1:Nat):Int):=mulN b3 (by decide)
     have m4:mulV .i64 (((o.length-1)*Y1:Nat):Int) ((Y0:Nat):Int)=((X1*Y0+X0*Y1:Nat):Int):=by rw [mulN b4 (by decide),← hx9]
     have m5:addV .i64 ((X1*Y0:Nat):Int) ((X0*Y1:Nat):Int)=((X1*Y0+X0*Y1:Nat):Int):=by rw [addV_id (by omega) (by omega)]; rfl
     generalize ((X1*Y0+X0*Y1:Nat):Int)=Z at m4 m5
     generalize ((X1*Y0:Nat):Int)=Z1 at m1 m5
     generalize ((X0*Y1:Nat):Int)=Z2 at m2 m5
     generalize (((o.length-1)*Y1:Nat):Int)=Z3 at m3 m4
     generalize ((o.length-1:Nat):Int)=Z4 at m0 m3
     refine Yk ?_
     refine Wj fun N9 hN9=>?_
     refine aw_regcut 6 fun N1 hN1=>?_
     simp (maxSteps:=2000000) only [s14,↓Za,↓Zi,↓Zr,↓Ze,↓Zo,↓Zs,↓Zg,↓Zm,↓Zf,↓Zb,↓Zc,↓vdn,vup,Zk,Zn,Zl,Zh,Zj,List.map_cons,List.map_nil,cond_true,cond_false,aop,Zv,Zq,Zp,ev,sput,Zt,Zy,Ya,unK,Zd,Zw,Nat.reduceBEq,Nat.reduceAdd,Int.reduceBEq,Int.reduceBNe,Int.reduceLT,Zu,Zz,tup,tyf,Yx,List.nil_append,List.append_nil,List.toList_toArray,List.cons_append,List.take_succ_cons,List.take_zero,e00]
     refine (equal_call hback hv9 hl hl).mono ?_
     rintro _ _ ⟨rfl,rfl⟩
     refine hN1 _ _ ?_
     clear hN1 N1
     simp only [List.drop_succ_cons,List.drop_zero]
     have hs3 : ∀ a b c:Int,(([a,b,c]:List Int)==[a,b,c])=true:=fun a b c=>beq_self_eq_true _
     simp (maxSteps:=2000000) only [s14,↓Za,↓Zi,↓Zr,↓Ze,↓Zo,↓Zs,↓Zg,↓Zm,↓Zf,↓Zb,↓Zc,↓vdn,vup,Zk,Zn,Zl,Zh,Zj,List.map_cons,List.map_nil,cond_true,cond_false,aop,Zv,Zq,Zp,ev,sput,Zt,Zy,Ya,unK,Zd,Zw,Nat.reduceBEq,Nat.reduceAdd,Int.reduceBEq,Int.reduceBNe,Int.reduceLT,Zu,Zz,tup,tyf,decide_true,beq_self_eq_true,load3 bx,load3 by',Xa,Option.map_some,List.length_cons,List.length_nil,Nat.zero_add,eq74,hs3,fldA fld_37_0 Xt,fldA fld_37_1 Xt,loadC0 bf,loadC1 bf,loadC0 bg,loadC1 bg,hv9.len,m0,m1,m2,m3,m4,m5,Yx,List.nil_append,List.append_nil,List.toList_toArray,List.cons_append]
     refine awake_call.mono ?_
     rintro _ _ ⟨rfl,rfl⟩
     try simp (maxSteps:=2000000) only [s14,↓Za,↓Zi,↓Zr,↓Ze,↓Zo,↓Zs,↓Zg,↓Zm,↓Zf,↓Zb,↓Zc,↓vdn,vup,Zk,Zn,Zl,Zh,Zj,List.map_cons,List.map_nil,cond_true,cond_false,aop,Zv,Zq,Zp,ev,sput,Zt,Zy,Ya,unK,Zd,Zw,Nat.reduceBEq,Nat.reduceAdd,Int.reduceBEq,Int.reduceBNe,Int.reduceLT,Zu,Zz,tup,tyf]
     refine hN9 _ _ ?_
     try simp (maxSteps:=2000000) only [s14,↓Za,↓Zi,↓Zr,↓Ze,↓Zo,↓Zs,↓Zg,↓Zm,↓Zf,↓Zb,↓Zc,↓vdn,vup,Zk,Zn,Zl,Zh,Zj,List.map_cons,List.map_nil,cond_true,cond_false,aop,Zv,Zq,Zp,ev,sput,Zt,Zy,Ya,unK,Zd,Zw,Nat.reduceBEq,Nat.reduceAdd,Int.reduceBEq,Int.reduceBNe,Int.reduceLT,Zu,Zz,tup,tyf]
end Go.Proofs.Tryd.Am
