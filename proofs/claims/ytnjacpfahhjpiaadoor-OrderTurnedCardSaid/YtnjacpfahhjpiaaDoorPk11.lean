/-
  order: the sorter's pair and sorts.
  order: the library's Len: no more than a power of two above its argument tells.
  order: the sorter's sorts and need; Need.
  order: the reference's realizer, one level after another.
  order: the reference's Real.
  order: law Reals.
  order: fractions.
  order: chances and heights.
  order: Chance and Height; the law OrderChances.
  Printed by gen.py: the code of some functions, without what no step looks at; held against the program's own by the kernel.
  order: OrderSums: right; both chances.
  order: OrderSums: the heights, added.
  order: OrderSums: the end.
  order: the law OrderSums.
-/
import Derived.Test.YtnjacpfahhjpiaaDoorPk10
import Derived.Test.YtnjacpfahhjpiaaDoorPk7
import Derived.Test.YtnjacpfahhjpiaaDoorPk9
import Derived.Test.YtnjacpfahhjpiaaDoorPk6
import Derived.Test.YtnjacpfahhjpiaaDoorPk4
import Derived.Test.YtnjacpfahhjpiaaDoorPk3
import Derived.Test.YtnjacpfahhjpiaaDoorProg
import Derived.KernelRfl
import Derived.Shelf.Abstract
set_option linter.all false
namespace Go.Proofs.Tryd.Am
open Go.Am Ord
set_option maxRecDepth 100000
set_option maxHeartbeats 4000000
theorem lit1P {h:Yb} {p:Int×Int} {K:Value→Yb→Prop}:Yw prog h 52 1 [(0,pV p)] K=K (.slice (some ⟨h.length,0,none⟩) 1 1) (h++[.ints [p.1,p.2] 33 false]):=by
 simp only [Yw,el_52,zero_33,esz_33,reps,Ub,mkb,Xa,Wp,cellsOf,List.length_cons,List.length_nil,Nat.mul_one,Nat.zero_mul,Nat.zero_add]
 refine propext ⟨fun h=>h.2.2.2,fun h=>⟨trivial,by decide,by decide,h⟩⟩
theorem boxB {h:Yb} {b:Nat} {K:Value→Yb→Prop}:boxK prog h 97 (ptB b) K=K (Ys h) (h++[.cells [ptB b] 97 false]):=by
 simp only [boxK,esz_97,Option.isSome_some,true_and,cellsOf]
theorem boxI3 {h:Yb} {x:Int} {K:Value→Yb→Prop}:boxK prog h 3 (Zx x) K=K (Ys h) (h++[.cells [Zx x] 3 false]):=by
 simp only [boxK,Xt,Option.isSome_some,true_and,cellsOf]
structure PFr (bs:Nat) (o:List Int) (m n0:Nat) (h z:Yb):Prop where
 b3:z[n0]? = some (.cells [ptB bs] 97 false)
 b4:z[n0+1]? = some (.cells (Wa o) 77 false)
 b5:z[n0+2]? = some (.cells [Zx ((m+1:Nat):Int)] 3 false)
 b6:z[n0+3]? = some (.cells [.int .i64 0,.int .i64 0] 33 false)
 bu:z[n0+5]? = some (.cells [.map (some (n0+4))] 137 false)
 bm : ∃ l:List (List Int×Int),z[n0+4]? = some (.map (mA Zx l))∧KeysN 2 l
 ext:Ext (fun _=>False) h z
 n0h:n0=h.length
theorem PFr.step {bs m n0:Nat} {o:List Int} {h z z' : Yb} (p:PFr bs o m n0 h z) {S:Nat→Prop} (hS : ∀ b,S b→n0+6≤b) (he:Ext S z z'):PFr bs o m n0 h z':=by
 obtain ⟨l,hl,hk⟩:=p.bm
 have old : ∀ {b B},z[b]? = some B→b<n0+6→z'[b]? = some B:=fun {b B} hb hlt=>(he.2 b (Yd hb) fun hs=>by have:=hS b hs; omega).trans hb
 refine ⟨old p.b3 (by omega),old p.b4 (by omega),old p.b5 (by omega),old p.b6 (by omega),old p.bu (by omega),⟨l,old hl (by omega),hk⟩,⟨Nat.le_trans p.ext.1 he.1,fun i hi hf=>?_⟩,p.n0h⟩
 have:=p.n0h
 rw [he.2 i (Nat.lt_of_lt_of_le hi p.ext.1) fun hs=>by have:=hS i hs; omega]
 exact p.ext.2 i hi hf
theorem PFr.put {bs m n0:Nat} {o:List Int} {h z:Yb} (p:PFr bs o m n0 h z) {l:List (List Int×Int)} (hl:KeysN 2 l):PFr bs o m n0 h (z.set (n0+4) (.map (mA Zx l))):=by
 obtain ⟨l',hl',hk⟩:=p.bm
 have hlt:=Yd hl'
 have old : ∀ {b B},z[b]? = some B→b≠n0+4→(z.set (n0+4) (.map (mA Zx l)))[b]? = some B:=fun {b B} hb hne=>by rw [List.getElem?_set_ne (Ne.symm hne)]; exact hb
 refine ⟨old p.b3 (by omega),old p.b4 (by omega),old p.b5 (by omega),old p.b6 (by omega),old p.bu (by omega),⟨l,Xc hlt _,hl⟩,⟨by rw [List.length_set]; exact p.ext.1,fun i hi hf=>?_⟩,p.n0h⟩
 have:=p.n0h
 rw [List.getElem?_set_ne (by omega)]
 exact p.ext.2 i hi hf
theorem notCellsP {e e2:TypeId} {h:Yb} {v:Value} {xs:List (Int×Int)} {c:List Value} {ro:Bool} {j:Nat} (ho:OwnP e h v xs) (hj:h[j]? = some (.cells c e2 ro)):Ye v≠some j:=by
 rcases ho with ⟨rfl,_⟩ | ⟨b,ys,rfl,hb⟩
 · intro h; cases h
 · intro h
   obtain rfl:b=j:=by simpa [Ye] using h
   rw [hb] at hj; cases hj
theorem tri_small (n i:Nat):triN n i≤i*n:=by
 induction i with
 | zero=>exact Nat.zero_le _
 | succ i ih=>rw [triN,Nat.succ_mul]; omega
theorem bld00 {K:Value→Prop}:Wv prog 33 [] K=K (.agg #[.int .i64 0,.int .i64 0]):=by
 simp [Wv,zero_33,Ub,pl_33_0]
theorem key2_in {i j:Nat} (hi:i<6) (hj:j<6):inR64 [(i:Int),(j:Int)]:=fun x hx=>by
 simp only [List.mem_cons,List.not_mem_nil,or_false] at hx
 rcases hx with rfl | rfl <;> omega
theorem s110_callW [Tabs Tryd.prog] {args:List Value} {h:Yb} {Q:Value→Yb→Prop} (hsz:args.length≤70) (hk:AWS Tryd.prog 70 s110 (Zu Tryd.prog [.cell 6 33,.tmp 7] Q) (Zp 0 args) h):ACall Tryd.prog 110 args h Q :=
 Wx Tryd.func110 rfl (enters_of Tryd.func110 (by kernel_rfl) rfl) rfl rfl (by decide) s110_strip s110_ok hsz hk
theorem pair_call [BitTab prog 1] {bs bm m:Nat} (ih:SortsOK bs bm m) (hm:m≤60) {h:Yb} {o:List Int} (ho:ord o=true) (hcn:1<cn o) (hs:SK bs bm h) :
  ACall prog 110 [ptB bs,ordV o,Zx ((m+1:Nat):Int)] h fun r h'=>SK bs bm h'∧Ext (fun b=>b=bm) h h' ∧
   ((∃ i j:Nat,i<j∧j<o.length∧fr o i j=true∧bothB m o i j=true∧r = .tuple #[pV ((i:Int),(j:Int)),.bool true])∨(pairB m o=false∧∃ p,r = .tuple #[pV p,.bool false])):=by
 have hl:=Yu ho
 refine s110_callW (by simp) ?_
 simp only [s110]
 obtain ⟨n0,hn0⟩ : ∃ n0,n0=h.length:=⟨_,rfl⟩
 refine Yc fun N1 hN1=>?_
 simp (maxSteps:=2000000) only [s110,↓Za,↓Zi,↓Zr,↓Ze,↓Zo,↓Zs,↓Zg,↓Zm,↓Zf,↓Zb,↓Zc,↓vdn,vup,Zk,Zn,Zl,Zh,Zj,List.map_cons,List.map_nil,cond_true,cond_false,aop,Zv,Zq,Zp,ev,sput,Zt,Zy,Ya,unK,Zd,Zw,Nat.reduceBEq,Nat.reduceAdd,Int.reduceBEq,Int.reduceBNe,Int.reduceLT,Zu,Zz,tup,tyf,boxO esz_77,boxB,boxI3,Ys,Xr,zero_33,List.length_append,List.length_cons,List.length_nil,Nat.zero_add,Nat.add_assoc,Nat.reduceAdd]
 obtain ⟨H0,hH0⟩ : ∃ H0,H0=h++[Blk.cells [ptB bs] 97 false]++[Blk.cells (Wa o) 77 false]++[Blk.cells [Zx ((m+1:Nat):Int)] 3 false]++[Blk.cells [.int .i64 0,.int .i64 0] 33 false]:=⟨_,rfl⟩
 have hH0' : H0=h++[Blk.cells [ptB bs] 97 false,Blk.cells (Wa o) 77 false,Blk.cells [Zx ((m+1:Nat):Int)] 3 false,Blk.cells [.int .i64 0,.int .i64 0] 33 false]:=by rw [hH0]; simp
 rw [← hH0,← hn0]
 have hl0:H0.length=n0+4:=by rw [hH0',hn0]; simp
 have at0 : ∀ k B,([Blk.cells [ptB bs] 97 false,Blk.cells (Wa o) 77 false,Blk.cells [Zx ((m+1:Nat):Int)] 3 false,Blk.cells [.int .i64 0,.int .i64 0] 33 false]:Yb)[k]? = some B→H0[n0+k]? = some B:=fun k B hk=>by
  rw [hH0',hn0,List.getElem?_append_right (by omega)]
  rw [show h.length+k-h.length=k by omega]; exact hk
 have hE0:Ext (fun _=>False) h H0:=by rw [hH0']; exact Ext.app _ _ _
 have b3:=at0 0 _ rfl
 have b4:=at0 1 _ rfl
 have b5:=at0 2 _ rfl
 have b6:=at0 3 _ rfl
 clear at0 hH0 hH0'
 refine hN1 [(0,ptB bs),(1,ordV o),(2,Zx ((m+1:Nat):Int)),(3,ptB n0),(4,ptB (n0+1)),(5,ptB (n0+2)),(6,ptB (n0+3)),(7,.bool false)] _ _ ?_ (by simp (maxSteps:=2000000) only [↓Za,↓Zi,↓Zr,↓Ze,↓Zo,↓Zs,↓Zg,↓Zm,↓Zf,↓Zb,↓Zc,↓vdn,vup,Zk,Zn,Zl,Zh,Zj,List.map_cons,List.map_nil,cond_true,cond_false,aop,Zv,Zq,Zp,ev,sput,Zt,Zy,Ya,unK,Zd,Zw,Nat.reduceBEq,Nat.reduceAdd,Int.reduceBEq,Int.reduceBNe,Int.reduceLT,Zu,Zz,tup,tyf])
 clear hN1
 try clear N1
 refine Yc fun N2 hN2=>?_
 simp (maxSteps:=2000000) only [s110,↓Za,↓Zi,↓Zr,↓Ze,↓Zo,↓Zs,↓Zg,↓Zm,↓Zf,↓Zb,↓Zc,↓vdn,vup,Zk,Zn,Zl,Zh,Zj,List.map_cons,List.map_nil,cond_true,cond_false,aop,Zv,Zq,Zp,ev,sput,Zt,Zy,Ya,unK,Zd,Zw,Nat.reduceBEq,Nat.reduceAdd,Int.reduceBEq,Int.reduceBNe,Int.reduceLT,Zu,Zz,tup,tyf]
 refine hN2 [(0,ptB bs),(1,ordV o),(2,Zx ((m+1:Nat):Int)),(3,ptB n0),(4,ptB (n0+1)),(5,ptB (n0+2)),(6,ptB (n0+3)),(7,.bool false),(8,.slice none 0 0)] _ _ ?_ (by simp (maxSteps:=2000000) only [↓Za,↓Zi,↓Zr,↓Ze,↓Zo,↓Zs,↓Zg,↓Zm,↓Zf,↓Zb,↓Zc,↓vdn,vup,Zk,Zn,Zl,Zh,Zj,List.map_cons,List.map_nil,cond_true,cond_false,aop,Zv,Zq,Zp,ev,sput,Zt,Zy,Ya,unK,Zd,Zw,Nat.reduceBEq,Nat.reduceAdd,Int.reduceBEq,Int.reduceBNe,Int.reduceLT,Zu,Zz,tup,tyf])
 clear hN2
 try clear N2
 refine Yc fun N3 hN3=>?_
 simp (maxSteps:=2000000) only [s110,↓Za,↓Zi,↓Zr,↓Ze,↓Zo,↓Zs,↓Zg,↓Zm,↓Zf,↓Zb,↓Zc,↓vdn,vup,Zk,Zn,Zl,Zh,Zj,List.map_cons,List.map_nil,cond_true,cond_false,aop,Zv,Zq,Zp,ev,sput,Zt,Zy,Ya,unK,Zd,Zw,Nat.reduceBEq,Nat.reduceAdd,Int.reduceBEq,Int.reduceBNe,Int.reduceLT,Zu,Zz,tup,tyf,Yx,List.nil_append,List.append_nil,List.toList_toArray,List.cons_append,Vd b4 Xb hl.2]
 refine (Wy ho).mono ?_
 rintro _ H0 ⟨rfl,rfl⟩
 try simp (maxSteps:=2000000) only [s110,↓Za,↓Zi,↓Zr,↓Ze,↓Zo,↓Zs,↓Zg,↓Zm,↓Zf,↓Zb,↓Zc,↓vdn,vup,Zk,Zn,Zl,Zh,Zj,List.map_cons,List.map_nil,cond_true,cond_false,aop,Zv,Zq,Zp,ev,sput,Zt,Zy,Ya,unK,Zd,Zw,Nat.reduceBEq,Nat.reduceAdd,Int.reduceBEq,Int.reduceBNe,Int.reduceLT,Zu,Zz,tup,tyf]
 refine hN3 [(0,ptB bs),(1,ordV o),(2,Zx ((m+1:Nat):Int)),(3,ptB n0),(4,ptB (n0+1)),(5,ptB (n0+2)),(6,ptB (n0+3)),(7,.bool false),(8,.slice none 0 0),(9,Zx (cn o:Nat))] _ _ ?_ (by simp (maxSteps:=2000000) only [↓Za,↓Zi,↓Zr,↓Ze,↓Zo,↓Zs,↓Zg,↓Zm,↓Zf,↓Zb,↓Zc,↓vdn,vup,Zk,Zn,Zl,Zh,Zj,List.map_cons,List.map_nil,cond_true,cond_false,aop,Zv,Zq,Zp,ev,sput,Zt,Zy,Ya,unK,Zd,Zw,Nat.reduceBEq,Nat.reduceAdd,Int.reduceBEq,Int.reduceBNe,Int.reduceLT,Zu,Zz,tup,tyf])
 clear hN3
 try clear N3
 refine Yc fun N4 hN4=>?_
 simp (maxSteps:=2000000) only [s110,↓Za,↓Zi,↓Zr,↓Ze,↓Zo,↓Zs,↓Zg,↓Zm,↓Zf,↓Zb,↓Zc,↓vdn,vup,Zk,Zn,Zl,Zh,Zj,List.map_cons,List.map_nil,cond_true,cond_false,aop,Zv,Zq,Zp,ev,sput,Zt,Zy,Ya,unK,Zd,Zw,Nat.reduceBEq,Nat.reduceAdd,Int.reduceBEq,Int.reduceBNe,Int.reduceLT,Zu,Zz,tup,tyf,isPick_map,makeMapK,Xr,Ys,zero_137,List.length_append,List.length_cons,List.length_nil,Nat.zero_add,hl0,Nat.add_assoc,Nat.reduceAdd]
 have c5:(H0++[Blk.map []]++[Blk.cells [.map none] 137 false])[n0+5]? = some (.cells [.map none] 137 false):=by
  have:=Yl (H0++[Blk.map []]) (Blk.cells [.map none] 137 false)
  rw [List.length_append,hl0] at this
  exact this
 rw [store1 c5 shp_137 rfl]
 obtain ⟨H1,hH1⟩ : ∃ H1,H1=(H0++[Blk.map []]++[Blk.cells [.map none] 137 false]).set (n0+5) (.cells [.map (some (n0+4))] 137 false):=⟨_,rfl⟩
 rw [← hH1]
 have pf:PFr bs o m n0 h H1:=by
  have old : ∀ {b B},H0[b]? = some B→H1[b]? = some B:=fun {b B} hb=>by
   have:=Yd hb
   rw [hH1,List.getElem?_set_ne (by omega)]; exact Yh (Yh hb _) _
  refine ⟨old b3,old b4,old b5,old b6,by rw [hH1]; exact Xc (by simp [hl0]) _,⟨[],?_,fun p hp=>by cases hp⟩,⟨?_,fun i hi hf=>?_⟩,hn0⟩
  · rw [hH1,List.getElem?_set_ne (by omega),List.append_assoc,List.getElem?_append_right (by omega),hl0,Nat.sub_self]; rfl
  · rw [hH1]; simp; omega
  · rw [hH1,List.getElem?_set_ne (by omega),List.append_assoc,List.getElem?_append_left (by omega)]; exact hE0.2 i hi hf
 clear hH1 c5 b3 b4 b5 b6 hE0 hl0
 refine hN4 [(0,ptB bs),(1,ordV o),(2,Zx ((m+1:Nat):Int)),(3,ptB n0),(4,ptB (n0+1)),(5,ptB (n0+2)),(6,ptB (n0+3)),(7,.bool false),(8,.slice none 0 0),(9,Zx (cn o:Nat)),(10,ptB (n0+5))] _ _ ?_ (by simp (maxSteps:=2000000) only [↓Za,↓Zi,↓Zr,↓Ze,↓Zo,↓Zs,↓Zg,↓Zm,↓Zf,↓Zb,↓Zc,↓vdn,vup,Zk,Zn,Zl,Zh,Zj,List.map_cons,List.map_nil,cond_true,cond_false,aop,Zv,Zq,Zp,ev,sput,Zt,Zy,Ya,unK,Zd,Zw,Nat.reduceBEq,Nat.reduceAdd,Int.reduceBEq,Int.reduceBNe,Int.reduceLT,Zu,Zz,tup,tyf])
 clear hN4
 try clear N4
 refine Yi fun M hM=>?_
 refine Yc fun N5 hN5=>?_
 simp (maxSteps:=2000000) only [s110,↓Za,↓Zi,↓Zr,↓Ze,↓Zo,↓Zs,↓Zg,↓Zm,↓Zf,↓Zb,↓Zc,↓vdn,vup,Zk,Zn,Zl,Zh,Zj,List.map_cons,List.map_nil,cond_true,cond_false,aop,Zv,Zq,Zp,ev,sput,Zt,Zy,Ya,unK,Zd,Zw,Nat.reduceBEq,Nat.reduceAdd,Int.reduceBEq,Int.reduceBNe,Int.reduceLT,Zu,Zz,tup,tyf,fldA Vy Xt,loadN pf.b4 Xf]
 refine hN5 [(0,ptB bs),(1,ordV o),(2,Zx ((m+1:Nat):Int)),(3,ptB n0),(4,ptB (n0+1)),(5,ptB (n0+2)),(6,ptB (n0+3)),(7,.bool false),(8,.slice none 0 0),(9,Zx (cn o:Nat)),(10,ptB (n0+5)),(20,Zx o.length),(21,.int .i64 0)] _ _ ?_ (by simp (maxSteps:=2000000) only [↓Za,↓Zi,↓Zr,↓Ze,↓Zo,↓Zs,↓Zg,↓Zm,↓Zf,↓Zb,↓Zc,↓vdn,vup,Zk,Zn,Zl,Zh,Zj,List.map_cons,List.map_nil,cond_true,cond_false,aop,Zv,Zq,Zp,ev,sput,Zt,Zy,Ya,unK,Zd,Zw,Nat.reduceBEq,Nat.reduceAdd,Int.reduceBEq,Int.reduceBNe,Int.reduceLT,Zu,Zz,tup,tyf])
 clear hN5
 try clear N5
 refine Yr ?_
 refine Yn fun Q hQ=>?_
 refine We (γ:=Nat×Value×Yb) (fun s=>s.1≤o.length∧PFr bs o m n0 h s.2.2∧OwnP 33 s.2.2 s.2.1 (iPP (allF o s.1))∧∀ b,Ye s.2.1=some b→n0+6≤b)
  (fun s=>([(0,ptB bs),(1,ordV o),(2,Zx ((m+1:Nat):Int)),(3,ptB n0),(4,ptB (n0+1)),(5,ptB (n0+2)),(6,ptB (n0+3)),(7,.bool false),(8,s.2.1),(9,Zx (cn o:Nat)),(10,ptB (n0+5)),(20,Zx o.length),(21,Zx (s.1:Nat))],s.2.2)) (fun s=>o.length-s.1) (0,.slice none 0 0,H1) ⟨Nat.zero_le _,pf,.inl ⟨rfl,rfl⟩,fun b hb=>by cases hb⟩ (by simp (maxSteps:=2000000) only [↓Za,↓Zi,↓Zr,↓Ze,↓Zo,↓Zs,↓Zg,↓Zm,↓Zf,↓Zb,↓Zc,↓vdn,vup,Zk,Zn,Zl,Zh,Zj,List.map_cons,List.map_nil,cond_true,cond_false,aop,Zv,Zq,Zp,ev,sput,Zt,Zy,Ya,unK,Zd,Zw,Nat.reduceBEq,Nat.reduceAdd,Int.reduceBEq,Int.reduceBNe,Int.reduceLT,Zu,Zz,tup,tyf,Int.natCast_zero]) rfl ?_
 clear pf
 rintro ⟨i,v,hp⟩ ⟨hi,pf,how,hvb⟩
 simp only at hi pf how hvb
 refine Yn fun Q2 hQ2=>?_
 simp only [l110_1]
 by_cases hin:(i:Int)<o.length
 · have hi' : i<o.length:=by omega
   refine Yc fun N6 hN6=>?_
   simp (maxSteps:=2000000) only [s110,↓Za,↓Zi,↓Zr,↓Ze,↓Zo,↓Zs,↓Zg,↓Zm,↓Zf,↓Zb,↓Zc,↓vdn,vup,Zk,Zn,Zl,Zh,Zj,List.map_cons,List.map_nil,cond_true,cond_false,aop,Zv,Zq,Zp,ev,sput,Zt,Zy,Ya,unK,Zd,Zw,Nat.reduceBEq,Nat.reduceAdd,Int.reduceBEq,Int.reduceBNe,Int.reduceLT,Zu,Zz,tup,tyf,hin]
   refine hN6 [(0,ptB bs),(1,ordV o),(2,Zx ((m+1:Nat):Int)),(3,ptB n0),(4,ptB (n0+1)),(5,ptB (n0+2)),(6,ptB (n0+3)),(7,.bool false),(8,v),(9,Zx (cn o:Nat)),(10,ptB (n0+5)),(20,Zx o.length),(21,Zx (i:Nat)),(22,.bool true)] _ _ ?_ (by simp (maxSteps:=2000000) only [↓Za,↓Zi,↓Zr,↓Ze,↓Zo,↓Zs,↓Zg,↓Zm,↓Zf,↓Zb,↓Zc,↓vdn,vup,Zk,Zn,Zl,Zh,Zj,List.map_cons,List.map_nil,cond_true,cond_false,aop,Zv,Zq,Zp,ev,sput,Zt,Zy,Ya,unK,Zd,Zw,Nat.reduceBEq,Nat.reduceAdd,Int.reduceBEq,Int.reduceBNe,Int.reduceLT,Zu,Zz,tup,tyf])
   clear hN6
   try clear N6
   refine Yc fun N7 hN7=>?_
   simp (maxSteps:=2000000) only [s110,↓Za,↓Zi,↓Zr,↓Ze,↓Zo,↓Zs,↓Zg,↓Zm,↓Zf,↓Zb,↓Zc,↓vdn,vup,Zk,Zn,Zl,Zh,Zj,List.map_cons,List.map_nil,cond_true,cond_false,aop,Zv,Zq,Zp,ev,sput,Zt,Zy,Ya,unK,Zd,Zw,Nat.reduceBEq,Nat.reduceAdd,Int.reduceBEq,Int.reduceBNe,Int.reduceLT,Zu,Zz,tup,tyf]
   refine hN7 [(0,ptB bs),(1,ordV o),(2,Zx ((m+1:Nat):Int)),(3,ptB n0),(4,ptB (n0+1)),(5,ptB (n0+2)),(6,ptB (n0+3)),(7,.bool false),(8,v),(9,Zx (cn o:Nat)),(10,ptB (n0+5)),(20,Zx o.length),(21,Zx (i:Nat))] _ _ ?_ (by simp (maxSteps:=2000000) only [↓Za,↓Zi,↓Zr,↓Ze,↓Zo,↓Zs,↓Zg,↓Zm,↓Zf,↓Zb,↓Zc,↓vdn,vup,Zk,Zn,Zl,Zh,Zj,List.map_cons,List.map_nil,cond_true,cond_false,aop,Zv,Zq,Zp,ev,sput,Zt,Zy,Ya,unK,Zd,Zw,Nat.reduceBEq,Nat.reduceAdd,Int.reduceBEq,Int.reduceBNe,Int.reduceLT,Zu,Zz,tup,tyf])
   clear hN7
   try clear N7
   refine Yi fun B hB=>?_
   refine Yr ?_
   refine Yc fun N8 hN8=>?_
   simp (maxSteps:=2000000) only [s110,↓Za,↓Zi,↓Zr,↓Ze,↓Zo,↓Zs,↓Zg,↓Zm,↓Zf,↓Zb,↓Zc,↓vdn,vup,Zk,Zn,Zl,Zh,Zj,List.map_cons,List.map_nil,cond_true,cond_false,aop,Zv,Zq,Zp,ev,sput,Zt,Zy,Ya,unK,Zd,Zw,Nat.reduceBEq,Nat.reduceAdd,Int.reduceBEq,Int.reduceBNe,Int.reduceLT,Zu,Zz,tup,tyf]
   refine hN8 [(0,ptB bs),(1,ordV o),(2,Zx ((m+1:Nat):Int)),(3,ptB n0),(4,ptB (n0+1)),(5,ptB (n0+2)),(6,ptB (n0+3)),(7,.bool false),(8,v),(9,Zx (cn o:Nat)),(10,ptB (n0+5)),(11,Zx (i:Nat)),(20,Zx o.length),(21,Zx (i:Nat))] _ _ ?_ (by simp (maxSteps:=2000000) only [↓Za,↓Zi,↓Zr,↓Ze,↓Zo,↓Zs,↓Zg,↓Zm,↓Zf,↓Zb,↓Zc,↓vdn,vup,Zk,Zn,Zl,Zh,Zj,List.map_cons,List.map_nil,cond_true,cond_false,aop,Zv,Zq,Zp,ev,sput,Zt,Zy,Ya,unK,Zd,Zw,Nat.reduceBEq,Nat.reduceAdd,Int.reduceBEq,Int.reduceBNe,Int.reduceLT,Zu,Zz,tup,tyf])
   clear hN8
   try clear N8
   refine Yc fun N9 hN9=>?_
   simp (maxSteps:=2000000) only [s110,↓Za,↓Zi,↓Zr,↓Ze,↓Zo,↓Zs,↓Zg,↓Zm,↓Zf,↓Zb,↓Zc,↓vdn,vup,Zk,Zn,Zl,Zh,Zj,List.map_cons,List.map_nil,cond_true,cond_false,aop,Zv,Zq,Zp,ev,sput,Zt,Zy,Ya,unK,Zd,Zw,Nat.reduceBEq,Nat.reduceAdd,Int.reduceBEq,Int.reduceBNe,Int.reduceLT,Zu,Zz,tup,tyf,add1 (show i<9223372036854775807 by omega)]
   refine hN9 [(0,ptB bs),(1,ordV o),(2,Zx ((m+1:Nat):Int)),(3,ptB n0),(4,ptB (n0+1)),(5,ptB (n0+2)),(6,ptB (n0+3)),(7,.bool false),(8,v),(9,Zx (cn o:Nat)),(10,ptB (n0+5)),(11,Zx (i:Nat)),(12,Zx (i+1:Nat)),(20,Zx o.length),(21,Zx (i:Nat))] _ _ ?_ (by simp (maxSteps:=2000000) only [↓Za,↓Zi,↓Zr,↓Ze,↓Zo,↓Zs,↓Zg,↓Zm,↓Zf,↓Zb,↓Zc,↓vdn,vup,Zk,Zn,Zl,Zh,Zj,List.map_cons,List.map_nil,cond_true,cond_false,aop,Zv,Zq,Zp,ev,sput,Zt,Zy,Ya,unK,Zd,Zw,Nat.reduceBEq,Nat.reduceAdd,Int.reduceBEq,Int.reduceBNe,Int.reduceLT,Zu,Zz,tup,tyf])
   clear hN9
   try clear N9
   refine Yr ?_
   refine Yn fun Qa hQa=>?_
   refine We (γ:=Nat×Value×Yb) (fun s=>i<s.1∧s.1≤o.length∧PFr bs o m n0 h s.2.2∧OwnP 33 s.2.2 s.2.1 (iPP (allF o i++rowF o i s.1))∧∀ b,Ye s.2.1=some b→n0+6≤b)
    (fun s=>([(0,ptB bs),(1,ordV o),(2,Zx ((m+1:Nat):Int)),(3,ptB n0),(4,ptB (n0+1)),(5,ptB (n0+2)),(6,ptB (n0+3)),(7,.bool false),(8,s.2.1),(9,Zx (cn o:Nat)),(10,ptB (n0+5)),(11,Zx (i:Nat)),(12,Zx (s.1:Nat)),(20,Zx o.length),(21,Zx (i:Nat))],s.2.2)) (fun s=>o.length-s.1) (i+1,v,hp) ⟨by simp only; omega,hi',pf,by simp only; rw [rowF_le,List.append_nil]; exact how,hvb⟩ (by simp (maxSteps:=2000000) only [↓Za,↓Zi,↓Zr,↓Ze,↓Zo,↓Zs,↓Zg,↓Zm,↓Zf,↓Zb,↓Zc,↓vdn,vup,Zk,Zn,Zl,Zh,Zj,List.map_cons,List.map_nil,cond_true,cond_false,aop,Zv,Zq,Zp,ev,sput,Zt,Zy,Ya,unK,Zd,Zw,Nat.reduceBEq,Nat.reduceAdd,Int.reduceBEq,Int.reduceBNe,Int.reduceLT,Zu,Zz,tup,tyf]) rfl ?_
   clear pf how hvb
   rintro ⟨j,w,z⟩ ⟨hij,hj,pf,how,hvb⟩
   simp only at hij hj pf how hvb
   refine Yn fun Qb hQb=>?_
   simp only [l110_0]
   by_cases hjn:(j:Int)<o.length
   · have hj' : j<o.length:=by omega
     refine Yi fun C hC=>?_
     refine Yc fun N10 hN10=>?_
     simp (maxSteps:=2000000) only [s110,↓Za,↓Zi,↓Zr,↓Ze,↓Zo,↓Zs,↓Zg,↓Zm,↓Zf,↓Zb,↓Zc,↓vdn,vup,Zk,Zn,Zl,Zh,Zj,List.map_cons,List.map_nil,cond_true,cond_false,aop,Zv,Zq,Zp,ev,sput,Zt,Zy,Ya,unK,Zd,Zw,Nat.reduceBEq,Nat.reduceAdd,Int.reduceBEq,Int.reduceBNe,Int.reduceLT,Zu,Zz,tup,tyf,fldA Vy Xt,loadN pf.b4 Xf,hjn]
     refine hN10 [(0,ptB bs),(1,ordV o),(2,Zx ((m+1:Nat):Int)),(3,ptB n0),(4,ptB (n0+1)),(5,ptB (n0+2)),(6,ptB (n0+3)),(7,.bool false),(8,w),(9,Zx (cn o:Nat)),(10,ptB (n0+5)),(11,Zx (i:Nat)),(12,Zx (j:Nat)),(20,Zx o.length),(21,Zx (i:Nat)),(29,.bool true)] _ _ ?_ (by simp (maxSteps:=2000000) only [↓Za,↓Zi,↓Zr,↓Ze,↓Zo,↓Zs,↓Zg,↓Zm,↓Zf,↓Zb,↓Zc,↓vdn,vup,Zk,Zn,Zl,Zh,Zj,List.map_cons,List.map_nil,cond_true,cond_false,aop,Zv,Zq,Zp,ev,sput,Zt,Zy,Ya,unK,Zd,Zw,Nat.reduceBEq,Nat.reduceAdd,Int.reduceBEq,Int.reduceBNe,Int.reduceLT,Zu,Zz,tup,tyf])
     clear hN10
     try clear N10
     refine Wh rfl ?_
     refine Yk ?_
     try simp (maxSteps:=2000000) only [s110,↓Za,↓Zi,↓Zr,↓Ze,↓Zo,↓Zs,↓Zg,↓Zm,↓Zf,↓Zb,↓Zc,↓vdn,vup,Zk,Zn,Zl,Zh,Zj,List.map_cons,List.map_nil,cond_true,cond_false,aop,Zv,Zq,Zp,ev,sput,Zt,Zy,Ya,unK,Zd,Zw,Nat.reduceBEq,Nat.reduceAdd,Int.reduceBEq,Int.reduceBNe,Int.reduceLT,Zu,Zz,tup,tyf]
     refine hC [(0,ptB bs),(1,ordV o),(2,Zx ((m+1:Nat):Int)),(3,ptB n0),(4,ptB (n0+1)),(5,ptB (n0+2)),(6,ptB (n0+3)),(7,.bool false),(8,w),(9,Zx (cn o:Nat)),(10,ptB (n0+5)),(11,Zx (i:Nat)),(12,Zx (j:Nat)),(20,Zx o.length),(21,Zx (i:Nat))] _ _ ?_ (by simp (maxSteps:=2000000) only [↓Za,↓Zi,↓Zr,↓Ze,↓Zo,↓Zs,↓Zg,↓Zm,↓Zf,↓Zb,↓Zc,↓vdn,vup,Zk,Zn,Zl,Zh,Zj,List.map_cons,List.map_nil,cond_true,cond_false,aop,Zv,Zq,Zp,ev,sput,Zt,Zy,Ya,unK,Zd,Zw,Nat.reduceBEq,Nat.reduceAdd,Int.reduceBEq,Int.reduceBNe,Int.reduceLT,Zu,Zz,tup,tyf])
     clear hC
     try clear C
     refine Yi fun Y hY=>?_
     refine Yr ?_
     refine Yc fun N11 hN11=>?_
     simp (maxSteps:=2000000) only [s110,↓Za,↓Zi,↓Zr,↓Ze,↓Zo,↓Zs,↓Zg,↓Zm,↓Zf,↓Zb,↓Zc,↓vdn,vup,Zk,Zn,Zl,Zh,Zj,List.map_cons,List.map_nil,cond_true,cond_false,aop,Zv,Zq,Zp,ev,sput,Zt,Zy,Ya,unK,Zd,Zw,Nat.reduceBEq,Nat.reduceAdd,Int.reduceBEq,Int.reduceBNe,Int.reduceLT,Zu,Zz,tup,tyf,Yx,List.nil_append,List.append_nil,List.toList_toArray,List.cons_append,Vd pf.b4 Xb hl.2]
     refine (free_call ho hi' hj').mono ?_
     rintro _ z ⟨rfl,rfl⟩
     have hrow:=rowF_succ o hij
     cases hf:fr o i j with
     | false =>
       rw [hf,if_neg (by decide),List.append_nil] at hrow
       refine hN11 [(0,ptB bs),(1,ordV o),(2,Zx ((m+1:Nat):Int)),(3,ptB n0),(4,ptB (n0+1)),(5,ptB (n0+2)),(6,ptB (n0+3)),(7,.bool false),(8,w),(9,Zx (cn o:Nat)),(10,ptB (n0+5)),(11,Zx (i:Nat)),(12,Zx (j:Nat)),(20,Zx o.length),(21,Zx (i:Nat)),(35,.bool false)] _ _ ?_ (by simp (maxSteps:=2000000) only [↓Za,↓Zi,↓Zr,↓Ze,↓Zo,↓Zs,↓Zg,↓Zm,↓Zf,↓Zb,↓Zc,↓vdn,vup,Zk,Zn,Zl,Zh,Zj,List.map_cons,List.map_nil,cond_true,cond_false,aop,Zv,Zq,Zp,ev,sput,Zt,Zy,Ya,unK,Zd,Zw,Nat.reduceBEq,Nat.reduceAdd,Int.reduceBEq,Int.reduceBNe,Int.reduceLT,Zu,Zz,tup,tyf])
       clear hN11
       try clear N11
       refine Xx rfl ?_
       refine Yk ?_
       try simp (maxSteps:=2000000) only [s110,↓Za,↓Zi,↓Zr,↓Ze,↓Zo,↓Zs,↓Zg,↓Zm,↓Zf,↓Zb,↓Zc,↓vdn,vup,Zk,Zn,Zl,Zh,Zj,List.map_cons,List.map_nil,cond_true,cond_false,aop,Zv,Zq,Zp,ev,sput,Zt,Zy,Ya,unK,Zd,Zw,Nat.reduceBEq,Nat.reduceAdd,Int.reduceBEq,Int.reduceBNe,Int.reduceLT,Zu,Zz,tup,tyf]
       refine hY [(0,ptB bs),(1,ordV o),(2,Zx ((m+1:Nat):Int)),(3,ptB n0),(4,ptB (n0+1)),(5,ptB (n0+2)),(6,ptB (n0+3)),(7,.bool false),(8,w),(9,Zx (cn o:Nat)),(10,ptB (n0+5)),(11,Zx (i:Nat)),(12,Zx (j:Nat)),(20,Zx o.length),(21,Zx (i:Nat))] _ _ ?_ (by simp (maxSteps:=2000000) only [↓Za,↓Zi,↓Zr,↓Ze,↓Zo,↓Zs,↓Zg,↓Zm,↓Zf,↓Zb,↓Zc,↓vdn,vup,Zk,Zn,Zl,Zh,Zj,List.map_cons,List.map_nil,cond_true,cond_false,aop,Zv,Zq,Zp,ev,sput,Zt,Zy,Ya,unK,Zd,Zw,Nat.reduceBEq,Nat.reduceAdd,Int.reduceBEq,Int.reduceBNe,Int.reduceLT,Zu,Zz,tup,tyf])
       clear hY
       try clear Y
       refine Yk ?_
       simp (maxSteps:=2000000) only [s110,↓Za,↓Zi,↓Zr,↓Ze,↓Zo,↓Zs,↓Zg,↓Zm,↓Zf,↓Zb,↓Zc,↓vdn,vup,Zk,Zn,Zl,Zh,Zj,List.map_cons,List.map_nil,cond_true,cond_false,aop,Zv,Zq,Zp,ev,sput,Zt,Zy,Ya,unK,Zd,Zw,Nat.reduceBEq,Nat.reduceAdd,Int.reduceBEq,Int.reduceBNe,Int.reduceLT,Zu,Zz,tup,tyf,add1 (show j<9223372036854775807 by omega)]
       exact hQb _ _ _ ⟨(j+1,w,z),⟨by simp only; omega,hj',pf,by simp only; rw [hrow]; exact how,hvb⟩,by simp only; omega,by simp (maxSteps:=2000000) only [↓Za,↓Zi,↓Zr,↓Ze,↓Zo,↓Zs,↓Zg,↓Zm,↓Zf,↓Zb,↓Zc,↓vdn,vup,Zk,Zn,Zl,Zh,Zj,List.map_cons,List.map_nil,cond_true,cond_false,aop,Zv,Zq,Zp,ev,sput,Zt,Zy,Ya,unK,Zd,Zw,Nat.reduceBEq,Nat.reduceAdd,Int.reduceBEq,Int.reduceBNe,Int.reduceLT,Zu,Zz,tup,tyf],rfl⟩
     | true =>
       rw [hf,if_pos rfl] at hrow
       refine hN11 [(0,ptB bs),(1,ordV o),(2,Zx ((m+1:Nat):Int)),(3,ptB n0),(4,ptB (n0+1)),(5,ptB (n0+2)),(6,ptB (n0+3)),(7,.bool false),(8,w),(9,Zx (cn o:Nat)),(10,ptB (n0+5)),(11,Zx (i:Nat)),(12,Zx (j:Nat)),(20,Zx o.length),(21,Zx (i:Nat)),(35,.bool true)] _ _ ?_ (by simp (maxSteps:=2000000) only [↓Za,↓Zi,↓Zr,↓Ze,↓Zo,↓Zs,↓Zg,↓Zm,↓Zf,↓Zb,↓Zc,↓vdn,vup,Zk,Zn,Zl,Zh,Zj,List.map_cons,List.map_nil,cond_true,cond_false,aop,Zv,Zq,Zp,ev,sput,Zt,Zy,Ya,unK,Zd,Zw,Nat.reduceBEq,Nat.reduceAdd,Int.reduceBEq,Int.reduceBNe,Int.reduceLT,Zu,Zz,tup,tyf])
       clear hN11
       try clear N11
       refine Wh rfl ?_
       refine Yc fun N12 hN12=>?_
       simp (maxSteps:=2000000) only [s110,↓Za,↓Zi,↓Zr,↓Ze,↓Zo,↓Zs,↓Zg,↓Zm,↓Zf,↓Zb,↓Zc,↓vdn,vup,Zk,Zn,Zl,Zh,Zj,List.map_cons,List.map_nil,cond_true,cond_false,aop,Zv,Zq,Zp,ev,sput,Zt,Zy,Ya,unK,Zd,Zw,Nat.reduceBEq,Nat.reduceAdd,Int.reduceBEq,Int.reduceBNe,Int.reduceLT,Zu,Zz,tup,tyf,bld2,Xr,Ys,zero_33]
       rw [pst (Yl _ _) rfl]
       obtain ⟨G,hG⟩ : ∃ G,G=(z++[Blk.cells [.int .i64 0,.int .i64 0] 33 false]).set z.length (.cells [Zx ((i:Nat):Int),Zx ((j:Nat):Int)] 33 false):=⟨_,rfl⟩
       rw [← hG]
       have hEG:Ext (fun _=>False) z G:=⟨by rw [hG]; simp,fun q hq _=>by rw [hG,List.getElem?_set_ne (by omega),List.getElem?_append_left hq]⟩
       have gz:G[z.length]? = some (.cells [Zx ((i:Nat):Int),Zx ((j:Nat):Int)] 33 false):=by rw [hG]; exact Xc (by simp) _
       have hzl:n0+6≤z.length:=by have:=Yd pf.bu; omega
       have hGl:n0+6≤G.length:=Nat.le_trans hzl hEG.1
       have pG:=pf.step (S:=fun _=>False) (fun _ h=>h.elim) hEG
       have hoG:=how.ext hEG
       clear hG
       generalize z.length=bz at gz hzl ⊢
       refine hN12 [(0,ptB bs),(1,ordV o),(2,Zx ((m+1:Nat):Int)),(3,ptB n0),(4,ptB (n0+1)),(5,ptB (n0+2)),(6,ptB (n0+3)),(7,.bool false),(8,w),(9,Zx (cn o:Nat)),(10,ptB (n0+5)),(11,Zx (i:Nat)),(12,Zx (j:Nat)),(13,ptB bz),(20,Zx o.length),(21,Zx (i:Nat)),(35,.bool true)] _ _ ?_ (by simp (maxSteps:=2000000) only [↓Za,↓Zi,↓Zr,↓Ze,↓Zo,↓Zs,↓Zg,↓Zm,↓Zf,↓Zb,↓Zc,↓vdn,vup,Zk,Zn,Zl,Zh,Zj,List.map_cons,List.map_nil,cond_true,cond_false,aop,Zv,Zq,Zp,ev,sput,Zt,Zy,Ya,unK,Zd,Zw,Nat.reduceBEq,Nat.reduceAdd,Int.reduceBEq,Int.reduceBNe,Int.reduceLT,Zu,Zz,tup,tyf])
       clear hN12
       try clear N12
       refine Yc fun N13 hN13=>?_
       simp (maxSteps:=2000000) only [s110,↓Za,↓Zi,↓Zr,↓Ze,↓Zo,↓Zs,↓Zg,↓Zm,↓Zf,↓Zb,↓Zc,↓vdn,vup,Zk,Zn,Zl,Zh,Zj,List.map_cons,List.map_nil,cond_true,cond_false,aop,Zv,Zq,Zp,ev,sput,Zt,Zy,Ya,unK,Zd,Zw,Nat.reduceBEq,Nat.reduceAdd,Int.reduceBEq,Int.reduceBNe,Int.reduceLT,Zu,Zz,tup,tyf,Yx,List.nil_append,List.append_nil,List.toList_toArray,List.cons_append,Vd pG.b4 Xb hl.2]
       refine (before_call ho hi' hj').mono ?_
       rintro _ G ⟨rfl,rfl⟩
       try simp (maxSteps:=2000000) only [s110,↓Za,↓Zi,↓Zr,↓Ze,↓Zo,↓Zs,↓Zg,↓Zm,↓Zf,↓Zb,↓Zc,↓vdn,vup,Zk,Zn,Zl,Zh,Zj,List.map_cons,List.map_nil,cond_true,cond_false,aop,Zv,Zq,Zp,ev,sput,Zt,Zy,Ya,unK,Zd,Zw,Nat.reduceBEq,Nat.reduceAdd,Int.reduceBEq,Int.reduceBNe,Int.reduceLT,Zu,Zz,tup,tyf]
       obtain ⟨d,hd⟩ : ∃ d:Int,d=subV .i64 (mulV .i64 2 ((befN o i j:Nat):Int)) ((cn o:Nat):Int):=⟨_,rfl⟩
       rw [← hd]
       refine hN13 [(0,ptB bs),(1,ordV o),(2,Zx ((m+1:Nat):Int)),(3,ptB n0),(4,ptB (n0+1)),(5,ptB (n0+2)),(6,ptB (n0+3)),(7,.bool false),(8,w),(9,Zx (cn o:Nat)),(10,ptB (n0+5)),(11,Zx (i:Nat)),(12,Zx (j:Nat)),(13,ptB bz),(14,Zx d),(20,Zx o.length),(21,Zx (i:Nat)),(35,.bool true)] _ _ ?_ (by simp (maxSteps:=2000000) only [↓Za,↓Zi,↓Zr,↓Ze,↓Zo,↓Zs,↓Zg,↓Zm,↓Zf,↓Zb,↓Zc,↓vdn,vup,Zk,Zn,Zl,Zh,Zj,List.map_cons,List.map_nil,cond_true,cond_false,aop,Zv,Zq,Zp,ev,sput,Zt,Zy,Ya,unK,Zd,Zw,Nat.reduceBEq,Nat.reduceAdd,Int.reduceBEq,Int.reduceBNe,Int.reduceLT,Zu,Zz,tup,tyf])
       clear hN13
       try clear N13
       refine Yk ?_
       simp only [q110_13]
       refine aw_drawR (fun y=>y[n0+5]? = some (.cells [.map (some (n0+4))] 137 false)∧y[bz]? = some (.cells [Zx ((i:Nat):Int),Zx ((j:Nat):Int)] 33 false)) [(0,5),(1,5)] (by kernel_rfl) (by kernel_rfl) (by kernel_rfl) (by kernel_rfl) ⟨pG.bu,gz⟩ ?_
       try simp (maxSteps:=2000000) only [s110,↓Za,↓Zi,↓Zr,↓Ze,↓Zo,↓Zs,↓Zg,↓Zm,↓Zf,↓Zb,↓Zc,↓vdn,vup,Zk,Zn,Zl,Zh,Zj,List.map_cons,List.map_nil,cond_true,cond_false,aop,Zv,Zq,Zp,ev,sput,Zt,Zy,Ya,unK,Zd,Zw,Nat.reduceBEq,Nat.reduceAdd,Int.reduceBEq,Int.reduceBNe,Int.reduceLT,Zu,Zz,tup,tyf,↓dopsR_lookup,↓Vm,↓dopsR_max]
       refine ⟨.map (some (n0+4)),fun y hy=>by simp only [Xh hy.1 shp_137],?_⟩
       try simp (maxSteps:=2000000) only [s110,↓Za,↓Zi,↓Zr,↓Ze,↓Zo,↓Zs,↓Zg,↓Zm,↓Zf,↓Zb,↓Zc,↓vdn,vup,Zk,Zn,Zl,Zh,Zj,List.map_cons,List.map_nil,cond_true,cond_false,aop,Zv,Zq,Zp,ev,sput,Zt,Zy,Ya,unK,Zd,Zw,Nat.reduceBEq,Nat.reduceAdd,Int.reduceBEq,Int.reduceBNe,Int.reduceLT,Zu,Zz,tup,tyf,↓dopsR_lookup,↓Vm,↓dopsR_max]
       refine ⟨pV ((i:Int),(j:Int)),fun y hy=>by simp only [loadPr hy.2],?_⟩
       simp (maxSteps:=2000000) only [s110,↓Za,↓Zi,↓Zr,↓Ze,↓Zo,↓Zs,↓Zg,↓Zm,↓Zf,↓Zb,↓Zc,↓vdn,vup,Zk,Zn,Zl,Zh,Zj,List.map_cons,List.map_nil,cond_true,cond_false,aop,Zv,Zq,Zp,ev,sput,Zt,Zy,Ya,unK,Zd,Zw,Nat.reduceBEq,Nat.reduceAdd,Int.reduceBEq,Int.reduceBNe,Int.reduceLT,Zu,Zz,tup,tyf,↓dopsR_lookup,↓Vm,↓dopsR_max,loadPr gz,lit1P]
       refine ⟨⟨Yh pG.bu _,Yh gz _⟩,?_⟩
       have hps:=allF_len o i
       have hrl:=rowF_len o i j
       have ht36:triN o.length i≤36:=Nat.le_trans (tri_small _ _) (Nat.mul_le_mul (show i≤6 by omega) hl.2)
       have hnn:(iPP (allF o i++rowF o i j)).length<1099511627776:=by rw [iPP_len,List.length_append]; omega
       refine OwnP.append (x:=((i:Nat):Int)) (y:=((j:Nat):Int)) (hoG.ext (Ext.app _ _ _)) app_52_52 hnn (Yl _ _) ?_
       intro w' z' ho' hE' hb'
       have hbk : ∀ b,Ye w=some b→n0+6≤b:=hvb
       have hbw : ∀ b,Ye w' = some b→n0+6≤b:=fun b hb=>by
        rcases hb' with h1 | ⟨b',h1,h2⟩
        · exact hvb b (h1▸hb)
        · rw [h1] at hb; cases hb
          rw [List.length_append] at h2; omega
       have pz:=(pG.step (S:=fun _=>False) (fun _ h=>h.elim) (Ext.app _ G [Blk.ints [((i:Nat):Int),((j:Nat):Int)] 33 false])).step hbk hE'
       have gz' : z'[bz]? = some (.cells [Zx ((i:Nat):Int),Zx ((j:Nat):Int)] 33 false):=(hE'.2 bz (Yd (Yh gz _)) fun hb=>notCellsP hoG gz hb).trans (Yh gz _)
       refine ⟨⟨pz.bu,gz'⟩,?_⟩
       obtain ⟨l,hml,hkl⟩:=pz.bm
       simp (maxSteps:=2000000) only [s110,↓Za,↓Zi,↓Zr,↓Ze,↓Zo,↓Zs,↓Zg,↓Zm,↓Zf,↓Zb,↓Zc,↓vdn,vup,Zk,Zn,Zl,Zh,Zj,List.map_cons,List.map_nil,cond_true,cond_false,aop,Zv,Zq,Zp,ev,sput,Zt,Zy,Ya,unK,Zd,Zw,Nat.reduceBEq,Nat.reduceAdd,Int.reduceBEq,Int.reduceBNe,Int.reduceLT,Zu,Zz,tup,tyf,↓dopsR_lookup,↓Vm,↓dopsR_max,mmK,if_true,gt_iff_lt,Option.map_none,Option.map_some]
       refine updateA (f:=Zx) hml und_137 keyT_33 hkl (pV_ints ((i:Int),(j:Int))) rfl (key2_in (by omega) (by omega)) ?_
       refine ⟨⟨by rw [List.getElem?_set_ne (by omega)]; exact pz.bu,by rw [List.getElem?_set_ne (by omega)]; exact gz'⟩,?_⟩
       try simp (maxSteps:=2000000) only [s110,↓Za,↓Zi,↓Zr,↓Ze,↓Zo,↓Zs,↓Zg,↓Zm,↓Zf,↓Zb,↓Zc,↓vdn,vup,Zk,Zn,Zl,Zh,Zj,List.map_cons,List.map_nil,cond_true,cond_false,aop,Zv,Zq,Zp,ev,sput,Zt,Zy,Ya,unK,Zd,Zw,Nat.reduceBEq,Nat.reduceAdd,Int.reduceBEq,Int.reduceBNe,Int.reduceLT,Zu,Zz,tup,tyf]
       refine hY [(0,ptB bs),(1,ordV o),(2,Zx ((m+1:Nat):Int)),(3,ptB n0),(4,ptB (n0+1)),(5,ptB (n0+2)),(6,ptB (n0+3)),(7,.bool false),(8,w'),(9,Zx (cn o:Nat)),(10,ptB (n0+5)),(11,Zx (i:Nat)),(12,Zx (j:Nat)),(20,Zx o.length),(21,Zx (i:Nat))] _ _ ?_ (by simp (maxSteps:=2000000) only [↓Za,↓Zi,↓Zr,↓Ze,↓Zo,↓Zs,↓Zg,↓Zm,↓Zf,↓Zb,↓Zc,↓vdn,vup,Zk,Zn,Zl,Zh,Zj,List.map_cons,List.map_nil,cond_true,cond_false,aop,Zv,Zq,Zp,ev,sput,Zt,Zy,Ya,unK,Zd,Zw,Nat.reduceBEq,Nat.reduceAdd,Int.reduceBEq,Int.reduceBNe,Int.reduceLT,Zu,Zz,tup,tyf])
       clear hY
       try clear Y
       refine Yk ?_
       simp (maxSteps:=2000000) only [s110,↓Za,↓Zi,↓Zr,↓Ze,↓Zo,↓Zs,↓Zg,↓Zm,↓Zf,↓Zb,↓Zc,↓vdn,vup,Zk,Zn,Zl,Zh,Zj,List.map_cons,List.map_nil,cond_true,cond_false,aop,Zv,Zq,Zp,ev,sput,Zt,Zy,Ya,unK,Zd,Zw,Nat.reduceBEq,Nat.reduceAdd,Int.reduceBEq,Int.reduceBNe,Int.reduceLT,Zu,Zz,tup,tyf,add1 (show j<9223372036854775807 by omega)]
       refine hQb _ _ _ ⟨(j+1,w',_),⟨by simp only; omega,hj',pz.put (hkl.put rfl (key2_in (by omega) (by omega))),?_,hbw⟩,by simp only; omega,by simp (maxSteps:=2000000) only [↓Za,↓Zi,↓Zr,↓Ze,↓Zo,↓Zs,↓Zg,↓Zm,↓Zf,↓Zb,↓Zc,↓vdn,vup,Zk,Zn,Zl,Zh,Zj,List.map_cons,List.map_nil,cond_true,cond_false,aop,Zv,Zq,Zp,ev,sput,Zt,Zy,Ya,unK,Zd,Zw,Nat.reduceBEq,Nat.reduceAdd,Int.reduceBEq,Int.reduceBNe,Int.reduceLT,Zu,Zz,tup,tyf],rfl⟩
       simp only
       rw [hrow,← List.append_assoc,iPP_app]
       exact ho'.same fun b hb=>List.getElem?_set_ne (by have:=hbw b hb; omega)
   · obtain rfl:j=o.length:=by omega
     refine Yc fun N14 hN14=>?_
     simp (maxSteps:=2000000) only [s110,↓Za,↓Zi,↓Zr,↓Ze,↓Zo,↓Zs,↓Zg,↓Zm,↓Zf,↓Zb,↓Zc,↓vdn,vup,Zk,Zn,Zl,Zh,Zj,List.map_cons,List.map_nil,cond_true,cond_false,aop,Zv,Zq,Zp,ev,sput,Zt,Zy,Ya,unK,Zd,Zw,Nat.reduceBEq,Nat.reduceAdd,Int.reduceBEq,Int.reduceBNe,Int.reduceLT,Zu,Zz,tup,tyf,fldA Vy Xt,loadN pf.b4 Xf,hjn]
     refine hQb _ _ _ (hQa _ _ _ ?_)
     simp (maxSteps:=2000000) only [s110,↓Za,↓Zi,↓Zr,↓Ze,↓Zo,↓Zs,↓Zg,↓Zm,↓Zf,↓Zb,↓Zc,↓vdn,vup,Zk,Zn,Zl,Zh,Zj,List.map_cons,List.map_nil,cond_true,cond_false,aop,Zv,Zq,Zp,ev,sput,Zt,Zy,Ya,unK,Zd,Zw,Nat.reduceBEq,Nat.reduceAdd,Int.reduceBEq,Int.reduceBNe,Int.reduceLT,Zu,Zz,tup,tyf,if_true]
     refine hB [(0,ptB bs),(1,ordV o),(2,Zx ((m+1:Nat):Int)),(3,ptB n0),(4,ptB (n0+1)),(5,ptB (n0+2)),(6,ptB (n0+3)),(7,.bool false),(8,w),(9,Zx (cn o:Nat)),(10,ptB (n0+5)),(20,Zx o.length),(21,Zx (i:Nat))] _ _ ?_ (by simp (maxSteps:=2000000) only [↓Za,↓Zi,↓Zr,↓Ze,↓Zo,↓Zs,↓Zg,↓Zm,↓Zf,↓Zb,↓Zc,↓vdn,vup,Zk,Zn,Zl,Zh,Zj,List.map_cons,List.map_nil,cond_true,cond_false,aop,Zv,Zq,Zp,ev,sput,Zt,Zy,Ya,unK,Zd,Zw,Nat.reduceBEq,Nat.reduceAdd,Int.reduceBEq,Int.reduceBNe,Int.reduceLT,Zu,Zz,tup,tyf])
     clear hB
     try clear B
     refine Yk ?_
     simp (maxSteps:=2000000) only [s110,↓Za,↓Zi,↓Zr,↓Ze,↓Zo,↓Zs,↓Zg,↓Zm,↓Zf,↓Zb,↓Zc,↓vdn,vup,Zk,Zn,Zl,Zh,Zj,List.map_cons,List.map_nil,cond_true,cond_false,aop,Zv,Zq,Zp,ev,sput,Zt,Zy,Ya,unK,Zd,Zw,Nat.reduceBEq,Nat.reduceAdd,Int.reduceBEq,Int.reduceBNe,Int.reduceLT,Zu,Zz,tup,tyf,add1 (show i<9223372036854775807 by omega)]
     exact hQ2 _ _ _ ⟨(i+1,w,z),⟨hi',pf,how,hvb⟩,by simp only; omega,by simp (maxSteps:=2000000) only [↓Za,↓Zi,↓Zr,↓Ze,↓Zo,↓Zs,↓Zg,↓Zm,↓Zf,↓Zb,↓Zc,↓vdn,vup,Zk,Zn,Zl,Zh,Zj,List.map_cons,List.map_nil,cond_true,cond_false,aop,Zv,Zq,Zp,ev,sput,Zt,Zy,Ya,unK,Zd,Zw,Nat.reduceBEq,Nat.reduceAdd,Int.reduceBEq,Int.reduceBNe,Int.reduceLT,Zu,Zz,tup,tyf],rfl⟩
 · obtain rfl:i=o.length:=by omega
   refine Yc fun N15 hN15=>?_
   simp (maxSteps:=2000000) only [s110,↓Za,↓Zi,↓Zr,↓Ze,↓Zo,↓Zs,↓Zg,↓Zm,↓Zf,↓Zb,↓Zc,↓vdn,vup,Zk,Zn,Zl,Zh,Zj,List.map_cons,List.map_nil,cond_true,cond_false,aop,Zv,Zq,Zp,ev,sput,Zt,Zy,Ya,unK,Zd,Zw,Nat.reduceBEq,Nat.reduceAdd,Int.reduceBEq,Int.reduceBNe,Int.reduceLT,Zu,Zz,tup,tyf,hin]
   refine hN15 [(0,ptB bs),(1,ordV o),(2,Zx ((m+1:Nat):Int)),(3,ptB n0),(4,ptB (n0+1)),(5,ptB (n0+2)),(6,ptB (n0+3)),(7,.bool false),(8,v),(9,Zx (cn o:Nat)),(10,ptB (n0+5)),(20,Zx o.length),(21,Zx (o.length:Nat)),(22,.bool false)] _ _ ?_ (by simp (maxSteps:=2000000) only [↓Za,↓Zi,↓Zr,↓Ze,↓Zo,↓Zs,↓Zg,↓Zm,↓Zf,↓Zb,↓Zc,↓vdn,vup,Zk,Zn,Zl,Zh,Zj,List.map_cons,List.map_nil,cond_true,cond_false,aop,Zv,Zq,Zp,ev,sput,Zt,Zy,Ya,unK,Zd,Zw,Nat.reduceBEq,Nat.reduceAdd,Int.reduceBEq,Int.reduceBNe,Int.reduceLT,Zu,Zz,tup,tyf])
   clear hN15
   try clear N15
   refine Yc fun N16 hN16=>?_
   try simp (maxSteps:=2000000) only [s110,↓Za,↓Zi,↓Zr,↓Ze,↓Zo,↓Zs,↓Zg,↓Zm,↓Zf,↓Zb,↓Zc,↓vdn,vup,Zk,Zn,Zl,Zh,Zj,List.map_cons,List.map_nil,cond_true,cond_false,aop,Zv,Zq,Zp,ev,sput,Zt,Zy,Ya,unK,Zd,Zw,Nat.reduceBEq,Nat.reduceAdd,Int.reduceBEq,Int.reduceBNe,Int.reduceLT,Zu,Zz,tup,tyf]
   refine hQ2 _ _ _ (hQ _ _ _ ?_)
   simp (maxSteps:=2000000) only [s110,↓Za,↓Zi,↓Zr,↓Ze,↓Zo,↓Zs,↓Zg,↓Zm,↓Zf,↓Zb,↓Zc,↓vdn,vup,Zk,Zn,Zl,Zh,Zj,List.map_cons,List.map_nil,cond_true,cond_false,aop,Zv,Zq,Zp,ev,sput,Zt,Zy,Ya,unK,Zd,Zw,Nat.reduceBEq,Nat.reduceAdd,Int.reduceBEq,Int.reduceBNe,Int.reduceLT,Zu,Zz,tup,tyf,if_true]
   refine hM [(0,ptB bs),(1,ordV o),(2,Zx ((m+1:Nat):Int)),(3,ptB n0),(4,ptB (n0+1)),(5,ptB (n0+2)),(6,ptB (n0+3)),(7,.bool false),(8,v),(9,Zx (cn o:Nat)),(10,ptB (n0+5)),(22,.bool false)] _ _ ?_ (by simp (maxSteps:=2000000) only [↓Za,↓Zi,↓Zr,↓Ze,↓Zo,↓Zs,↓Zg,↓Zm,↓Zf,↓Zb,↓Zc,↓vdn,vup,Zk,Zn,Zl,Zh,Zj,List.map_cons,List.map_nil,cond_true,cond_false,aop,Zv,Zq,Zp,ev,sput,Zt,Zy,Ya,unK,Zd,Zw,Nat.reduceBEq,Nat.reduceAdd,Int.reduceBEq,Int.reduceBNe,Int.reduceLT,Zu,Zz,tup,tyf])
   clear hM
   try clear M
   clear hin hQ hQ2
   obtain ⟨L0,hL0⟩ : ∃ L0,L0=iPP (allF o o.length):=⟨_,rfl⟩
   have hLl:L0.length≤15:=by rw [hL0,iPP_len]; exact allF_15 hl.2
   have hmem : ∀ p∈L0,∃ a b:Nat,p=((a:Int),(b:Int))∧a<b∧b<o.length∧fr o a b=true:=fun p hp=>by
    rw [hL0] at hp
    obtain ⟨a,b,rfl,hab⟩:=mem_iPP hp
    have:=mem_allF.1 hab
    exact ⟨a,b,rfl,this.2.1,this.2.2.1,this.2.2.2⟩
   have hin2 : ∀ p∈L0,inR2 p:=fun p hp=>by
    obtain ⟨a,b,rfl,h1,h2,_⟩:=hmem p hp
    exact key2_in (by omega) (by omega)
   have hall : ∀ a b:Nat,a<b→b<o.length→fr o a b=true→((a:Int),(b:Int))∈L0:=fun a b h1 h2 h3=>by
    rw [hL0]; exact List.mem_map.2 ⟨(a,b),mem_allF.2 ⟨by show a<o.length; omega,h1,h2,h3⟩,rfl⟩
   rw [← hL0] at how
   obtain ⟨bv,ys,rfl,hbv⟩:=how.resolve_left fun hn=>by
    obtain ⟨a,b,h1,h2,h3⟩:=free_pair hcn
    have:=hall a b h1 h2 h3
    rw [hn.2] at this; cases this
   have hbn:n0+6≤bv:=hvb bv rfl
   have hbl:=Yd hbv
   obtain ⟨lm,hlm,hkm⟩:=pf.bm
   have hcmp : ∀ L x y,x∈L0→y∈L0→∃ r:Int,APure prog 121 ([pV x,pV y]++(#[ptB (n0+5)]:Array Value).toList) (hp.set bv (.ints (Xe L++Xe ys) 33 false)) (Zx r):=fun L x y hx hy =>
    uneven_call (by rw [List.getElem?_set_ne (by omega)]; exact pf.bu) (by rw [List.getElem?_set_ne (by omega)]; exact hlm) hkm (hin2 x hx) (hin2 y hy)
   refine Yc fun N17 hN17=>?_
   simp (maxSteps:=2000000) only [s110,↓Za,↓Zi,↓Zr,↓Ze,↓Zo,↓Zs,↓Zg,↓Zm,↓Zf,↓Zb,↓Zc,↓vdn,vup,Zk,Zn,Zl,Zh,Zj,List.map_cons,List.map_nil,cond_true,cond_false,aop,Zv,Zq,Zp,ev,sput,Zt,Zy,Ya,unK,Zd,Zw,Nat.reduceBEq,Nat.reduceAdd,Int.reduceBEq,Int.reduceBNe,Int.reduceLT,Zu,Zz,tup,tyf,Yx,List.nil_append,List.append_nil,List.toList_toArray,List.cons_append,List.map_toArray]
   refine (sortP_call hcmp hbv hLl).mono ?_
   rintro r G ⟨L,hperm,rfl⟩
   try simp (maxSteps:=2000000) only [s110,↓Za,↓Zi,↓Zr,↓Ze,↓Zo,↓Zs,↓Zg,↓Zm,↓Zf,↓Zb,↓Zc,↓vdn,vup,Zk,Zn,Zl,Zh,Zj,List.map_cons,List.map_nil,cond_true,cond_false,aop,Zv,Zq,Zp,ev,sput,Zt,Zy,Ya,unK,Zd,Zw,Nat.reduceBEq,Nat.reduceAdd,Int.reduceBEq,Int.reduceBNe,Int.reduceLT,Zu,Zz,tup,tyf]
   refine hN17 [(0,ptB bs),(1,ordV o),(2,Zx ((m+1:Nat):Int)),(3,ptB n0),(4,ptB (n0+1)),(5,ptB (n0+2)),(6,ptB (n0+3)),(7,.bool false),(8,ovP bv L0.length ys.length),(9,Zx (cn o:Nat)),(10,ptB (n0+5)),(22,.bool false)] _ _ ?_ (by simp (maxSteps:=2000000) only [↓Za,↓Zi,↓Zr,↓Ze,↓Zo,↓Zs,↓Zg,↓Zm,↓Zf,↓Zb,↓Zc,↓vdn,vup,Zk,Zn,Zl,Zh,Zj,List.map_cons,List.map_nil,cond_true,cond_false,aop,Zv,Zq,Zp,ev,sput,Zt,Zy,Ya,unK,Zd,Zw,Nat.reduceBEq,Nat.reduceAdd,Int.reduceBEq,Int.reduceBNe,Int.reduceLT,Zu,Zz,tup,tyf])
   clear hN17
   try clear N17
   obtain ⟨G,hG⟩ : ∃ G,G=hp.set bv (.ints (Xe L++Xe ys) 33 false):=⟨_,rfl⟩
   rw [← hG]
   have pG:PFr bs o m n0 h G:=pf.step (S:=fun b=>b=bv) (fun b hb=>by omega) (by rw [hG]; exact Ext.set _ rfl)
   have hLn:L.length=L0.length:=hperm.length_eq
   have hoG:OwnP 33 G (ovP bv L0.length ys.length) L:=by rw [hG]; exact ovP_own hbl hLn
   have hmL : ∀ k,k<L.length→∃ a b:Nat,L.getD k (0,0)=((a:Int),(b:Int))∧a<b∧b<o.length∧fr o a b=true:=fun k hk=>by
    rw [List.getD,List.getElem?_eq_getElem hk,Option.getD_some]
    exact hmem _ (hperm.mem_iff.1 (List.getElem_mem hk))
   have hsG:=hs.ext pG.ext
   have hbmG:bm<n0:=by
    obtain ⟨_,l,h2,_⟩:=hs
    have:=Yd h2; have:=pf.n0h; omega
   clear hG hcmp how hbv hbl hlm hkm pf
   have hidx:=indexP_call (h:=G) (v:=ovP bv L0.length ys.length) (ps:=L) (fn:=122) (cap:=#[ptB n0,ptB (n0+1),ptB (n0+2)]) (by omega) (fun k z=>SK bs bm z∧Ext (fun b=>b=bm) G z∧∀ q,q<k→∀ a b:Nat,L.getD q (0,0)=((a:Int),(b:Int))→bothB m o a b=false) (fun k z=>SK bs bm z∧Ext (fun b=>b=bm) G z∧∀ a b:Nat,L.getD k (0,0)=((a:Int),(b:Int))→bothB m o a b=true)
    (fun k z ⟨z1,z2,z3⟩=>(hoG.same fun b hb=>z2.2 b (hoG.lt hb) fun e=>by cases hb; omega).pair)
    (fun k hk z ⟨z1,z2,z3⟩=>by
     obtain ⟨a,b,h1,h2,h3,h4⟩:=hmL k hk
     rw [h1]
     refine (try_call ih hm ho z1 (show a<o.length by omega) h3 h4 (b3:=n0) (b4:=n0+1) (b5:=n0+2) ?_ ?_ ?_).mono ?_
     · exact (z2.2 _ (Yd pG.b3) (by omega)).trans pG.b3
     · exact (z2.2 _ (Yd pG.b4) (by omega)).trans pG.b4
     · exact (z2.2 _ (Yd pG.b5) (by omega)).trans pG.b5
     · rintro _ z' ⟨rfl,w1,w2⟩
       refine ⟨_,rfl,fun hb=>⟨w1,z2.trans w2,fun a' b' hab=>?_⟩,fun hb=>⟨w1,z2.trans w2,fun q hq a' b' hab=>?_⟩⟩
       · simp only [Prod.mk.injEq,Int.natCast_inj] at hab
         rw [← hab.1,← hab.2]; exact hb
       · by_cases hqk:q=k
         · subst hqk
           rw [h1] at hab
           simp only [Prod.mk.injEq,Int.natCast_inj] at hab
           rw [← hab.1,← hab.2]; exact hb
         · exact z3 q (by omega) a' b' hab)
    ⟨hsG,Ext.refl _ _,fun q hq=>absurd hq (Nat.not_lt_zero q)⟩
   refine Yc fun N18 hN18=>?_
   simp (maxSteps:=2000000) only [s110,↓Za,↓Zi,↓Zr,↓Ze,↓Zo,↓Zs,↓Zg,↓Zm,↓Zf,↓Zb,↓Zc,↓vdn,vup,Zk,Zn,Zl,Zh,Zj,List.map_cons,List.map_nil,cond_true,cond_false,aop,Zv,Zq,Zp,ev,sput,Zt,Zy,Ya,unK,Zd,Zw,Nat.reduceBEq,Nat.reduceAdd,Int.reduceBEq,Int.reduceBNe,Int.reduceLT,Zu,Zz,tup,tyf,Yx,List.nil_append,List.append_nil,List.toList_toArray,List.cons_append,List.map_toArray]
   refine (hidx).mono ?_
   rintro r z hr
   try simp (maxSteps:=2000000) only [s110,↓Za,↓Zi,↓Zr,↓Ze,↓Zo,↓Zs,↓Zg,↓Zm,↓Zf,↓Zb,↓Zc,↓vdn,vup,Zk,Zn,Zl,Zh,Zj,List.map_cons,List.map_nil,cond_true,cond_false,aop,Zv,Zq,Zp,ev,sput,Zt,Zy,Ya,unK,Zd,Zw,Nat.reduceBEq,Nat.reduceAdd,Int.reduceBEq,Int.reduceBNe,Int.reduceLT,Zu,Zz,tup,tyf]
   have hEh : ∀ z,Ext (fun b=>b=bm) G z→Ext (fun b=>b=bm) h (z):=fun z hz=>(pG.ext.mono fun _ h=>h.elim).trans hz
   have fin : ∀ (z:Yb) (c:List Value),SK bs bm z→Ext (fun b=>b=bm) G z→SK bs bm (z.set (n0+3) (.cells c 33 false))∧Ext (fun b=>b=bm) h (z.set (n0+3) (.cells c 33 false)):=fun z c hz hE=>by
    obtain ⟨k1,l,k2,k3⟩:=hz
    have hn:=pG.n0h
    have hbs:bs<h.length:=Yd hs.1
    refine ⟨⟨by rw [List.getElem?_set_ne (by omega)]; exact k1,l,by rw [List.getElem?_set_ne (by omega)]; exact k2,k3⟩,⟨by rw [List.length_set]; exact (hEh z hE).1,fun q hq hne=>?_⟩⟩
    rw [List.getElem?_set_ne (by omega)]
    exact (hEh z hE).2 q hq hne
   rcases hr with ⟨k,hk,rfl,z1,z2,z3⟩ | ⟨rfl,z1,z2,z3⟩
   · obtain ⟨a,b,h1,h2,h3,h4⟩:=hmL k hk
     have b6:=(z2.2 _ (Yd pG.b6) (by omega)).trans pG.b6
     have hpz:PairSl z (ovP bv L0.length ys.length) L:=(hoG.same fun b hb=>z2.2 b (hoG.lt hb) fun e=>by cases hb; omega).pair
     have hld:=hpz.load shp_33 hk
     rw [h1] at hld
     obtain ⟨g1,g2⟩:=fin z [.int .i64 ((a:Nat):Int),.int .i64 ((b:Nat):Int)] z1 z2
     have g6:(z.set (n0+3) (.cells [.int .i64 ((a:Nat):Int),.int .i64 ((b:Nat):Int)] 33 false))[n0+3]? = some (.cells [Zx ((a:Nat):Int),Zx ((b:Nat):Int)] 33 false):=Xc (Yd b6) _
     have hnk : ¬ ((k:Nat):Int)<0:=by omega
     refine hN18 [(0,ptB bs),(1,ordV o),(2,Zx ((m+1:Nat):Int)),(3,ptB n0),(4,ptB (n0+1)),(5,ptB (n0+2)),(6,ptB (n0+3)),(7,.bool false),(8,ovP bv L0.length ys.length),(9,Zx (cn o:Nat)),(10,ptB (n0+5)),(15,Zx (k:Nat)),(22,.bool false)] _ _ ?_ (by simp (maxSteps:=2000000) only [↓Za,↓Zi,↓Zr,↓Ze,↓Zo,↓Zs,↓Zg,↓Zm,↓Zf,↓Zb,↓Zc,↓vdn,vup,Zk,Zn,Zl,Zh,Zj,List.map_cons,List.map_nil,cond_true,cond_false,aop,Zv,Zq,Zp,ev,sput,Zt,Zy,Ya,unK,Zd,Zw,Nat.reduceBEq,Nat.reduceAdd,Int.reduceBEq,Int.reduceBNe,Int.reduceLT,Zu,Zz,tup,tyf])
     clear hN18
     try clear N18
     refine Yk ?_
     simp (maxSteps:=2000000) only [s110,↓Za,↓Zi,↓Zr,↓Ze,↓Zo,↓Zs,↓Zg,↓Zm,↓Zf,↓Zb,↓Zc,↓vdn,vup,Zk,Zn,Zl,Zh,Zj,List.map_cons,List.map_nil,cond_true,cond_false,aop,Zv,Zq,Zp,ev,sput,Zt,Zy,Ya,unK,Zd,Zw,Nat.reduceBEq,Nat.reduceAdd,Int.reduceBEq,Int.reduceBNe,Int.reduceLT,Zu,Zz,tup,tyf,hnk,hpz.idx el_52 esz_33 hk,hld]
     rw [pst b6 rfl]
     simp (maxSteps:=2000000) only [s110,↓Za,↓Zi,↓Zr,↓Ze,↓Zo,↓Zs,↓Zg,↓Zm,↓Zf,↓Zb,↓Zc,↓vdn,vup,Zk,Zn,Zl,Zh,Zj,List.map_cons,List.map_nil,cond_true,cond_false,aop,Zv,Zq,Zp,ev,sput,Zt,Zy,Ya,unK,Zd,Zw,Nat.reduceBEq,Nat.reduceAdd,Int.reduceBEq,Int.reduceBNe,Int.reduceLT,Zu,Zz,tup,tyf,loadPr g6]
     exact ⟨g1,g2,.inl ⟨a,b,h2,h3,h4,z3 a b h1,rfl⟩⟩
   · have b6:=(z2.2 _ (Yd pG.b6) (by omega)).trans pG.b6
     obtain ⟨g1,g2⟩:=fin z [.int .i64 0,.int .i64 0] z1 z2
     have g6:(z.set (n0+3) (.cells [.int .i64 0,.int .i64 0] 33 false))[n0+3]? = some (.cells [Zx 0,Zx 0] 33 false):=Xc (Yd b6) _
     refine hN18 [(0,ptB bs),(1,ordV o),(2,Zx ((m+1:Nat):Int)),(3,ptB n0),(4,ptB (n0+1)),(5,ptB (n0+2)),(6,ptB (n0+3)),(7,.bool false),(8,ovP bv L0.length ys.length),(9,Zx (cn o:Nat)),(10,ptB (n0+5)),(15,.int .i64 (-1)),(22,.bool false)] _ _ ?_ (by simp (maxSteps:=2000000) only [↓Za,↓Zi,↓Zr,↓Ze,↓Zo,↓Zs,↓Zg,↓Zm,↓Zf,↓Zb,↓Zc,↓vdn,vup,Zk,Zn,Zl,Zh,Zj,List.map_cons,List.map_nil,cond_true,cond_false,aop,Zv,Zq,Zp,ev,sput,Zt,Zy,Ya,unK,Zd,Zw,Nat.reduceBEq,Nat.reduceAdd,Int.reduceBEq,Int.reduceBNe,Int.reduceLT,Zu,Zz,tup,tyf])
     clear hN18
     try clear N18
     refine Yk ?_
     have hneg:(-1:Int)<0:=by decide
     simp (maxSteps:=2000000) only [s110,↓Za,↓Zi,↓Zr,↓Ze,↓Zo,↓Zs,↓Zg,↓Zm,↓Zf,↓Zb,↓Zc,↓vdn,vup,Zk,Zn,Zl,Zh,Zj,List.map_cons,List.map_nil,cond_true,cond_false,aop,Zv,Zq,Zp,ev,sput,Zt,Zy,Ya,unK,Zd,Zw,Nat.reduceBEq,Nat.reduceAdd,Int.reduceBEq,Int.reduceBNe,Int.reduceLT,Zu,Zz,tup,tyf,hneg,bld00]
     rw [pst b6 rfl]
     simp (maxSteps:=2000000) only [s110,↓Za,↓Zi,↓Zr,↓Ze,↓Zo,↓Zs,↓Zg,↓Zm,↓Zf,↓Zb,↓Zc,↓vdn,vup,Zk,Zn,Zl,Zh,Zj,List.map_cons,List.map_nil,cond_true,cond_false,aop,Zv,Zq,Zp,ev,sput,Zt,Zy,Ya,unK,Zd,Zw,Nat.reduceBEq,Nat.reduceAdd,Int.reduceBEq,Int.reduceBNe,Int.reduceLT,Zu,Zz,tup,tyf,loadPr g6]
     refine ⟨g1,g2,.inr ⟨pairB_false fun i j hij hj hf=>?_,_,rfl⟩⟩
     obtain ⟨k,hk,hkk⟩:=List.mem_iff_getElem.1 (hperm.mem_iff.2 (hall i j hij hj hf))
     exact z3 k hk i j (by rw [List.getD,List.getElem?_eq_getElem hk,Option.getD_some]; exact hkk)
end Go.Proofs.Tryd.Am
namespace Go.Proofs.Tryd.Am
open Go.Am
set_option maxRecDepth 100000
set_option maxHeartbeats 1000000
def LenIs (x z:Nat):Prop:=z≤16∧∀ k,x<2 ^ k→z≤k
theorem lenIs_tab (s:ByteArray) (hs:s.size=256) (h:((List.range 256).all fun x=>decide ((s.get! x).toNat≤8)&&(List.range 8).all fun k=>!decide (x<2 ^ k) || decide ((s.get! x).toNat≤k))=true) {x:Nat} (hx:x<256) : ∃ z:Nat,(s[x]'(by omega)).toNat=z∧z≤8∧∀ k,x<2 ^ k→z≤k:=by
 have h1:=List.all_eq_true.1 h x (List.mem_range.2 hx)
 rw [Bool.and_eq_true,decide_eq_true_eq] at h1
 have e:s.get! x=s[x]'(by omega):=by
  simp [ByteArray.get!,ByteArray.getElem_eq_getElem_data]
  rw [getElem!_pos]
 rw [e] at h1
 refine ⟨_,rfl,h1.1,fun k hk=>?_⟩
 by_cases h8:k<8
 · have h2:=List.all_eq_true.1 h1.2 k (List.mem_range.2 h8)
   rw [decide_eq_true hk,Bool.not_true,Bool.false_or,decide_eq_true_eq] at h2
   exact h2
 · omega
theorem LenIs.shift {x z:Nat} (h:z≤8∧∀ k,x / 256<2 ^ k→z≤k) (hx:256≤x):LenIs x (8+z):=by
 refine ⟨by omega,fun k hk=>?_⟩
 by_cases h8:k≤8
 · have:2 ^ k≤2 ^ 8:=Nat.pow_le_pow_right (by decide) h8
   omega
 · obtain ⟨d,rfl⟩ : ∃ d,k=8+d:=⟨k-8,by omega⟩
   rw [Nat.pow_add] at hk
   have:=h.2 d (Nat.div_lt_of_lt_mul hk)
   omega
theorem len64v_call [Tabs prog] {h:Yb} {x:Nat} (hx:x<65536):ACall prog 119 [vu x] h fun r h'=>(∃ z,LenIs x z∧r=Zx (z:Nat))∧h' = h:=by
 obtain ⟨s,hs,htab,hq⟩ : ∃ s:ByteArray,s.size=256∧((List.range 256).all fun x=>decide ((s.get! x).toNat≤8)&&(List.range 8).all fun k=>!decide (x<2 ^ k) || decide ((s.get! x).toNat≤k))=true∧q119_10 = .region [⟨some 19,.move (.tmp 2),none⟩,⟨some 20,.move (.tmp 0),none⟩,⟨some 21,.convert 133 5 (.tmp 20),none⟩,⟨some 22,.index 9 (.const (.string s)) (.tmp 21),none⟩,
   ⟨some 23,.convert 5 3 (.tmp 22),none⟩,⟨some 24,.binOp .add 3 (.tmp 19) (.tmp 23) 3,none⟩,⟨some 2,.assign (.tmp 24),none⟩]:=by
  refine ⟨_,?_,?_,rfl⟩
  · kernel_rfl
  · kernel_rfl
 have hnn : ∀ i:Nat,(0:Int)≤(i:Int):=Int.natCast_nonneg
 have n1 : ¬ (4294967296:Int)≤(x:Int):=by omega
 have n2 : ¬ (65536:Int)≤(x:Int):=by omega
 refine s119_callW (by simp) ?_
 simp only [s119]
 refine Yc fun N1 hN1=>?_
 simp (maxSteps:=2000000) only [s119,↓Za,↓Zi,↓Zr,↓Ze,↓Zo,↓Zs,↓Zg,↓Zm,↓Zf,↓Zb,↓Zc,↓vdn,vup,Zk,Zn,Zl,Zh,Zj,List.map_cons,List.map_nil,cond_true,cond_false,aop,Zv,Zq,Zp,ev,sput,Zt,Zy,Ya,unK,Zd,Zw,Nat.reduceBEq,Nat.reduceAdd,Int.reduceBEq,Int.reduceBNe,Int.reduceLT,Zu,Zz,tup,tyf]
 refine hN1 [(0,vu x),(2,.int .i64 0)] _ _ ?_ (by simp (maxSteps:=2000000) only [↓Za,↓Zi,↓Zr,↓Ze,↓Zo,↓Zs,↓Zg,↓Zm,↓Zf,↓Zb,↓Zc,↓vdn,vup,Zk,Zn,Zl,Zh,Zj,List.map_cons,List.map_nil,cond_true,cond_false,aop,Zv,Zq,Zp,ev,sput,Zt,Zy,Ya,unK,Zd,Zw,Nat.reduceBEq,Nat.reduceAdd,Int.reduceBEq,Int.reduceBNe,Int.reduceLT,Zu,Zz,tup,tyf])
 clear hN1
 try clear N1
 refine Yc fun N2 hN2=>?_
 simp (maxSteps:=2000000) only [s119,↓Za,↓Zi,↓Zr,↓Ze,↓Zo,↓Zs,↓Zg,↓Zm,↓Zf,↓Zb,↓Zc,↓vdn,vup,Zk,Zn,Zl,Zh,Zj,List.map_cons,List.map_nil,cond_true,cond_false,aop,Zv,Zq,Zp,ev,sput,Zt,Zy,Ya,unK,Zd,Zw,Nat.reduceBEq,Nat.reduceAdd,Int.reduceBEq,Int.reduceBNe,Int.reduceLT,Zu,Zz,tup,tyf,ge_iff_le,n1]
 refine hN2 [(0,vu x),(2,.int .i64 0)] _ _ ?_ (by simp (maxSteps:=2000000) only [↓Za,↓Zi,↓Zr,↓Ze,↓Zo,↓Zs,↓Zg,↓Zm,↓Zf,↓Zb,↓Zc,↓vdn,vup,Zk,Zn,Zl,Zh,Zj,List.map_cons,List.map_nil,cond_true,cond_false,aop,Zv,Zq,Zp,ev,sput,Zt,Zy,Ya,unK,Zd,Zw,Nat.reduceBEq,Nat.reduceAdd,Int.reduceBEq,Int.reduceBNe,Int.reduceLT,Zu,Zz,tup,tyf])
 clear hN2
 try clear N2
 refine Yc fun N3 hN3=>?_
 simp (maxSteps:=2000000) only [s119,↓Za,↓Zi,↓Zr,↓Ze,↓Zo,↓Zs,↓Zg,↓Zm,↓Zf,↓Zb,↓Zc,↓vdn,vup,Zk,Zn,Zl,Zh,Zj,List.map_cons,List.map_nil,cond_true,cond_false,aop,Zv,Zq,Zp,ev,sput,Zt,Zy,Ya,unK,Zd,Zw,Nat.reduceBEq,Nat.reduceAdd,Int.reduceBEq,Int.reduceBNe,Int.reduceLT,Zu,Zz,tup,tyf,ge_iff_le,n2]
 refine hN3 [(0,vu x),(2,.int .i64 0)] _ _ ?_ (by simp (maxSteps:=2000000) only [↓Za,↓Zi,↓Zr,↓Ze,↓Zo,↓Zs,↓Zg,↓Zm,↓Zf,↓Zb,↓Zc,↓vdn,vup,Zk,Zn,Zl,Zh,Zj,List.map_cons,List.map_nil,cond_true,cond_false,aop,Zv,Zq,Zp,ev,sput,Zt,Zy,Ya,unK,Zd,Zw,Nat.reduceBEq,Nat.reduceAdd,Int.reduceBEq,Int.reduceBNe,Int.reduceLT,Zu,Zz,tup,tyf])
 clear hN3
 try clear N3
 by_cases h256:x<256
 · have n3 : ¬ (256:Int)≤(x:Int):=by omega
   have hidx:s[x]? = some (s[x]'(by omega)):=getElem?_pos s x (by omega)
   obtain ⟨z,hz,hz8,hzk⟩:=lenIs_tab s hs htab h256
   have hadd:addV .i64 0 ((z:Nat):Int)=((z:Nat):Int):=by rw [addV_id (by omega) (by omega)]; omega
   refine Yc fun N4 hN4=>?_
   simp (maxSteps:=2000000) only [s119,↓Za,↓Zi,↓Zr,↓Ze,↓Zo,↓Zs,↓Zg,↓Zm,↓Zf,↓Zb,↓Zc,↓vdn,vup,Zk,Zn,Zl,Zh,Zj,List.map_cons,List.map_nil,cond_true,cond_false,aop,Zv,Zq,Zp,ev,sput,Zt,Zy,Ya,unK,Zd,Zw,Nat.reduceBEq,Nat.reduceAdd,Int.reduceBEq,Int.reduceBNe,Int.reduceLT,Zu,Zz,tup,tyf,ge_iff_le,n3]
   refine hN4 [(0,vu x),(2,.int .i64 0)] _ _ ?_ (by simp (maxSteps:=2000000) only [↓Za,↓Zi,↓Zr,↓Ze,↓Zo,↓Zs,↓Zg,↓Zm,↓Zf,↓Zb,↓Zc,↓vdn,vup,Zk,Zn,Zl,Zh,Zj,List.map_cons,List.map_nil,cond_true,cond_false,aop,Zv,Zq,Zp,ev,sput,Zt,Zy,Ya,unK,Zd,Zw,Nat.reduceBEq,Nat.reduceAdd,Int.reduceBEq,Int.reduceBNe,Int.reduceLT,Zu,Zz,tup,tyf])
   clear hN4
   try clear N4
   rw [hq]
   refine Yk ?_
   simp (maxSteps:=2000000) only [s119,↓Za,↓Zi,↓Zr,↓Ze,↓Zo,↓Zs,↓Zg,↓Zm,↓Zf,↓Zb,↓Zc,↓vdn,vup,Zk,Zn,Zl,Zh,Zj,List.map_cons,List.map_nil,cond_true,cond_false,aop,Zv,Zq,Zp,ev,sput,Zt,Zy,Ya,unK,Zd,Zw,Nat.reduceBEq,Nat.reduceAdd,Int.reduceBEq,Int.reduceBNe,Int.reduceLT,Zu,Zz,tup,tyf,convK,und_133,und_5,und_3,wrap8 h256,indexK,und_9,hnn,Int.toNat_natCast,hidx,hz]
   have hwz:IntKind.i64.wrap ((z:Nat):Int)=((z:Nat):Int):=wrap_id (by omega) (by omega)
   exact ⟨z,⟨by omega,fun k hk=>hzk k hk⟩,by rw [hwz,hadd]⟩
 · have n3:(256:Int)≤(x:Int):=by omega
   have h8:x / 256<256:=by omega
   have hidx:s[x / 256]? = some (s[x / 256]'(by omega)):=getElem?_pos s (x / 256) (by omega)
   obtain ⟨z,hz,hz8,hzk⟩:=lenIs_tab s hs htab h8
   have hadd:addV .i64 8 ((z:Nat):Int)=((8+z:Nat):Int):=by rw [addV_id (by omega) (by omega)]; omega
   have h08:addV .i64 0 8=8:=rfl
   have hshr:shrV .u64 ((x:Nat):Int) 8=((x / 256:Nat):Int):=by
    have e8:(2:Int) ^ (min ((8:Int).toNat) IntKind.u64.bits)=256:=rfl
    rw [shrV,e8,Int.fdiv_eq_ediv_of_nonneg _ (by decide)]; omega
   refine Yi fun N5 hN5=>?_
   refine Yc fun N6 hN6=>?_
   simp (maxSteps:=2000000) only [s119,↓Za,↓Zi,↓Zr,↓Ze,↓Zo,↓Zs,↓Zg,↓Zm,↓Zf,↓Zb,↓Zc,↓vdn,vup,Zk,Zn,Zl,Zh,Zj,List.map_cons,List.map_nil,cond_true,cond_false,aop,Zv,Zq,Zp,ev,sput,Zt,Zy,Ya,unK,Zd,Zw,Nat.reduceBEq,Nat.reduceAdd,Int.reduceBEq,Int.reduceBNe,Int.reduceLT,Zu,Zz,tup,tyf,ge_iff_le,n3]
   refine hN6 [(0,vu x),(2,.int .i64 0),(14,.bool true)] _ _ ?_ (by simp (maxSteps:=2000000) only [↓Za,↓Zi,↓Zr,↓Ze,↓Zo,↓Zs,↓Zg,↓Zm,↓Zf,↓Zb,↓Zc,↓vdn,vup,Zk,Zn,Zl,Zh,Zj,List.map_cons,List.map_nil,cond_true,cond_false,aop,Zv,Zq,Zp,ev,sput,Zt,Zy,Ya,unK,Zd,Zw,Nat.reduceBEq,Nat.reduceAdd,Int.reduceBEq,Int.reduceBNe,Int.reduceLT,Zu,Zz,tup,tyf])
   clear hN6
   try clear N6
   refine Wh rfl ?_
   refine Yk ?_
   simp (maxSteps:=2000000) only [s119,↓Za,↓Zi,↓Zr,↓Ze,↓Zo,↓Zs,↓Zg,↓Zm,↓Zf,↓Zb,↓Zc,↓vdn,vup,Zk,Zn,Zl,Zh,Zj,List.map_cons,List.map_nil,cond_true,cond_false,aop,Zv,Zq,Zp,ev,sput,Zt,Zy,Ya,unK,Zd,Zw,Nat.reduceBEq,Nat.reduceAdd,Int.reduceBEq,Int.reduceBNe,Int.reduceLT,Zu,Zz,tup,tyf,hshr,h08,show ((0:Int)≤8)=True from eq_true (by decide)]
   refine hN5 [(0,vu (x / 256)),(2,.int .i64 8)] _ _ ?_ (by simp (maxSteps:=2000000) only [↓Za,↓Zi,↓Zr,↓Ze,↓Zo,↓Zs,↓Zg,↓Zm,↓Zf,↓Zb,↓Zc,↓vdn,vup,Zk,Zn,Zl,Zh,Zj,List.map_cons,List.map_nil,cond_true,cond_false,aop,Zv,Zq,Zp,ev,sput,Zt,Zy,Ya,unK,Zd,Zw,Nat.reduceBEq,Nat.reduceAdd,Int.reduceBEq,Int.reduceBNe,Int.reduceLT,Zu,Zz,tup,tyf])
   clear hN5
   try clear N5
   rw [hq]
   refine Yk ?_
   simp (maxSteps:=2000000) only [s119,↓Za,↓Zi,↓Zr,↓Ze,↓Zo,↓Zs,↓Zg,↓Zm,↓Zf,↓Zb,↓Zc,↓vdn,vup,Zk,Zn,Zl,Zh,Zj,List.map_cons,List.map_nil,cond_true,cond_false,aop,Zv,Zq,Zp,ev,sput,Zt,Zy,Ya,unK,Zd,Zw,Nat.reduceBEq,Nat.reduceAdd,Int.reduceBEq,Int.reduceBNe,Int.reduceLT,Zu,Zz,tup,tyf,convK,und_133,und_5,und_3,wrap8 h8,indexK,und_9,hnn,Int.toNat_natCast,hidx,hz]
   have hwz:IntKind.i64.wrap ((z:Nat):Int)=((z:Nat):Int):=wrap_id (by omega) (by omega)
   exact ⟨8+z,LenIs.shift ⟨hz8,hzk⟩ (by omega),by rw [hwz,hadd]⟩
theorem lenv_call [Tabs prog] {h:Yb} {x:Nat} (hx:x<65536):ACall prog 108 [vu x] h fun r h'=>(∃ z,LenIs x z∧r=Zx (z:Nat))∧h' = h:=by
 refine s108_callW (by simp) ?_
 simp only [s108]
 refine Yc fun N7 hN7=>?_
 simp (maxSteps:=2000000) only [s108,↓Za,↓Zi,↓Zr,↓Ze,↓Zo,↓Zs,↓Zg,↓Zm,↓Zf,↓Zb,↓Zc,↓vdn,vup,Zk,Zn,Zl,Zh,Zj,List.map_cons,List.map_nil,cond_true,cond_false,aop,Zv,Zq,Zp,ev,sput,Zt,Zy,Ya,unK,Zd,Zw,Nat.reduceBEq,Nat.reduceAdd,Int.reduceBEq,Int.reduceBNe,Int.reduceLT,Zu,Zz,tup,tyf]
 refine hN7 [(0,vu x),(2,.int .i64 0)] _ _ ?_ (by simp (maxSteps:=2000000) only [↓Za,↓Zi,↓Zr,↓Ze,↓Zo,↓Zs,↓Zg,↓Zm,↓Zf,↓Zb,↓Zc,↓vdn,vup,Zk,Zn,Zl,Zh,Zj,List.map_cons,List.map_nil,cond_true,cond_false,aop,Zv,Zq,Zp,ev,sput,Zt,Zy,Ya,unK,Zd,Zw,Nat.reduceBEq,Nat.reduceAdd,Int.reduceBEq,Int.reduceBNe,Int.reduceLT,Zu,Zz,tup,tyf])
 clear hN7
 try clear N7
 refine Yi fun N8 hN8=>?_
 refine Xx rfl ?_
 refine Yk ?_
 simp (maxSteps:=2000000) only [s108,↓Za,↓Zi,↓Zr,↓Ze,↓Zo,↓Zs,↓Zg,↓Zm,↓Zf,↓Zb,↓Zc,↓vdn,vup,Zk,Zn,Zl,Zh,Zj,List.map_cons,List.map_nil,cond_true,cond_false,aop,Zv,Zq,Zp,ev,sput,Zt,Zy,Ya,unK,Zd,Zw,Nat.reduceBEq,Nat.reduceAdd,Int.reduceBEq,Int.reduceBNe,Int.reduceLT,Zu,Zz,tup,tyf]
 refine hN8 [(0,vu x),(2,.int .i64 0)] _ _ ?_ (by simp (maxSteps:=2000000) only [↓Za,↓Zi,↓Zr,↓Ze,↓Zo,↓Zs,↓Zg,↓Zm,↓Zf,↓Zb,↓Zc,↓vdn,vup,Zk,Zn,Zl,Zh,Zj,List.map_cons,List.map_nil,cond_true,cond_false,aop,Zv,Zq,Zp,ev,sput,Zt,Zy,Ya,unK,Zd,Zw,Nat.reduceBEq,Nat.reduceAdd,Int.reduceBEq,Int.reduceBNe,Int.reduceLT,Zu,Zz,tup,tyf])
 clear hN8
 try clear N8
 refine Yk ?_
 simp (maxSteps:=2000000) only [s108,↓Za,↓Zi,↓Zr,↓Ze,↓Zo,↓Zs,↓Zg,↓Zm,↓Zf,↓Zb,↓Zc,↓vdn,vup,Zk,Zn,Zl,Zh,Zj,List.map_cons,List.map_nil,cond_true,cond_false,aop,Zv,Zq,Zp,ev,sput,Zt,Zy,Ya,unK,Zd,Zw,Nat.reduceBEq,Nat.reduceAdd,Int.reduceBEq,Int.reduceBNe,Int.reduceLT,Zu,Zz,tup,tyf,Yx,List.nil_append,List.append_nil,List.toList_toArray,List.cons_append]
 refine (len64v_call hx).mono ?_
 rintro _ h ⟨⟨z,hz,rfl⟩,rfl⟩
 exact ⟨⟨z,hz,rfl⟩,rfl⟩
end Go.Proofs.Tryd.Am
namespace Go.Proofs.Tryd.Am
open Go.Am Ord
set_option maxRecDepth 100000
set_option maxHeartbeats 2000000
theorem SK.put {bs bm:Nat} {h:Yb} {o:List Int} {n:Nat} (ho:ord o=true) (hn:n≤62) {l:List (List Int×Bool)} (h1:h[bs]? = some (.cells [.map (some bm)] 100 false)) (h2:h[bm]? = some (.map (mA Value.bool l))) (h3:KeysN 8 l) (h4 : ∀ o n v,ord o=true→aget (encN o n) l=some v→v=Vz n o) :
  SK bs bm (h.set bm (.map (mA Value.bool (aput (encN o n) (Vz n o) l)))):=by
 have hl:=Yu ho
 have hne:bs≠bm:=fun e=>by rw [e,h2] at h1; cases h1
 refine ⟨by rw [List.getElem?_set_ne (Ne.symm hne)]; exact h1,_,Xc (Yd h2) _,h3.put (encN_len hl.2 n) (encN_in ho hn),fun o' n' v ho' hv=>?_⟩
 rw [aget_aput] at hv
 split at hv
 · rename_i he
   obtain ⟨rfl,rfl⟩:=encN_inj (Yu ho').2 hl.2 he
   cases hv; rfl
 · exact h4 o' n' v ho' hv
theorem srtb_one {n:Nat} {o:List Int} (h:cn o=1):Vz n o=true:=by
 cases n with
 | zero=>rw [Vz,h]; rfl
 | succ n=>rw [srtb_succ,h]; rfl
theorem s109_callW [Tabs Tryd.prog] {args:List Value} {h:Yb} {Q:Value→Yb→Prop} (hsz:args.length≤55) (hk:AWS Tryd.prog 55 s109 (Zu Tryd.prog [.tmp 6] Q) (Zp 0 args) h):ACall Tryd.prog 109 args h Q :=
 Wx Tryd.func109 rfl (enters_of Tryd.func109 (by kernel_rfl) rfl) rfl rfl (by decide) s109_strip s109_ok hsz hk
theorem sorts_step [BitTab prog 1] {bs bm n:Nat} (hn:n≤60) (ih : ∀ m,n=m+1→SortsOK bs bm m):SortsOK bs bm n:=by
 intro h o ho hs
 have hl:=Yu ho
 refine s109_callW (by simp) ?_
 simp only [s109]
 refine Yc fun N1 hN1=>?_
 simp (maxSteps:=2000000) only [s109,↓Za,↓Zi,↓Zr,↓Ze,↓Zo,↓Zs,↓Zg,↓Zm,↓Zf,↓Zb,↓Zc,↓vdn,vup,Zk,Zn,Zl,Zh,Zj,List.map_cons,List.map_nil,cond_true,cond_false,aop,Zv,Zq,Zp,ev,sput,Zt,Zy,Ya,unK,Zd,Zw,Nat.reduceBEq,Nat.reduceAdd,Int.reduceBEq,Int.reduceBNe,Int.reduceLT,Zu,Zz,tup,tyf,boxO esz_77,Ys]
 have c0:=Yl h (Blk.cells (Wa o) 77 false)
 have hE:Ext (fun _=>False) h (h++[Blk.cells (Wa o) 77 false]):=Ext.app _ _ _
 have hsG:=hs.ext hE
 generalize h++[Blk.cells (Wa o) 77 false]=G at c0 hE hsG ⊢
 generalize h.length=b4 at c0 ⊢
 have hEm:Ext (fun b=>b=bm) h G:=hE.mono fun _ h=>h.elim
 refine hN1 [(0,ptB bs),(1,ordV o),(2,Zx (n:Nat)),(4,ptB b4),(6,.bool false)] _ _ ?_ (by simp (maxSteps:=2000000) only [↓Za,↓Zi,↓Zr,↓Ze,↓Zo,↓Zs,↓Zg,↓Zm,↓Zf,↓Zb,↓Zc,↓vdn,vup,Zk,Zn,Zl,Zh,Zj,List.map_cons,List.map_nil,cond_true,cond_false,aop,Zv,Zq,Zp,ev,sput,Zt,Zy,Ya,unK,Zd,Zw,Nat.reduceBEq,Nat.reduceAdd,Int.reduceBEq,Int.reduceBNe,Int.reduceLT,Zu,Zz,tup,tyf])
 clear hN1
 try clear N1
 refine Yc fun N2 hN2=>?_
 simp (maxSteps:=2000000) only [s109,↓Za,↓Zi,↓Zr,↓Ze,↓Zo,↓Zs,↓Zg,↓Zm,↓Zf,↓Zb,↓Zc,↓vdn,vup,Zk,Zn,Zl,Zh,Zj,List.map_cons,List.map_nil,cond_true,cond_false,aop,Zv,Zq,Zp,ev,sput,Zt,Zy,Ya,unK,Zd,Zw,Nat.reduceBEq,Nat.reduceAdd,Int.reduceBEq,Int.reduceBNe,Int.reduceLT,Zu,Zz,tup,tyf,Yx,List.nil_append,List.append_nil,List.toList_toArray,List.cons_append,Vd c0 Xb hl.2]
 refine (Wy ho).mono ?_
 rintro _ G ⟨rfl,rfl⟩
 try simp (maxSteps:=2000000) only [s109,↓Za,↓Zi,↓Zr,↓Ze,↓Zo,↓Zs,↓Zg,↓Zm,↓Zf,↓Zb,↓Zc,↓vdn,vup,Zk,Zn,Zl,Zh,Zj,List.map_cons,List.map_nil,cond_true,cond_false,aop,Zv,Zq,Zp,ev,sput,Zt,Zy,Ya,unK,Zd,Zw,Nat.reduceBEq,Nat.reduceAdd,Int.reduceBEq,Int.reduceBNe,Int.reduceLT,Zu,Zz,tup,tyf]
 refine hN2 [(0,ptB bs),(1,ordV o),(2,Zx (n:Nat)),(4,ptB b4),(6,.bool false),(7,Zx (cn o:Nat))] _ _ ?_ (by simp (maxSteps:=2000000) only [↓Za,↓Zi,↓Zr,↓Ze,↓Zo,↓Zs,↓Zg,↓Zm,↓Zf,↓Zb,↓Zc,↓vdn,vup,Zk,Zn,Zl,Zh,Zj,List.map_cons,List.map_nil,cond_true,cond_false,aop,Zv,Zq,Zp,ev,sput,Zt,Zy,Ya,unK,Zd,Zw,Nat.reduceBEq,Nat.reduceAdd,Int.reduceBEq,Int.reduceBNe,Int.reduceLT,Zu,Zz,tup,tyf])
 clear hN2
 try clear N2
 refine Yi fun C hC=>?_
 by_cases h1:cn o=1
 · have c1:(((cn o:Nat):Int)==1)=true:=by rw [h1]; rfl
   refine Yc fun N3 hN3=>?_
   simp (maxSteps:=2000000) only [s109,↓Za,↓Zi,↓Zr,↓Ze,↓Zo,↓Zs,↓Zg,↓Zm,↓Zf,↓Zb,↓Zc,↓vdn,vup,Zk,Zn,Zl,Zh,Zj,List.map_cons,List.map_nil,cond_true,cond_false,aop,Zv,Zq,Zp,ev,sput,Zt,Zy,Ya,unK,Zd,Zw,Nat.reduceBEq,Nat.reduceAdd,Int.reduceBEq,Int.reduceBNe,Int.reduceLT,Zu,Zz,tup,tyf,c1]
   refine hN3 [(0,ptB bs),(1,ordV o),(2,Zx (n:Nat)),(4,ptB b4),(6,.bool false),(7,Zx (cn o:Nat)),(23,.bool true)] _ _ ?_ (by simp (maxSteps:=2000000) only [↓Za,↓Zi,↓Zr,↓Ze,↓Zo,↓Zs,↓Zg,↓Zm,↓Zf,↓Zb,↓Zc,↓vdn,vup,Zk,Zn,Zl,Zh,Zj,List.map_cons,List.map_nil,cond_true,cond_false,aop,Zv,Zq,Zp,ev,sput,Zt,Zy,Ya,unK,Zd,Zw,Nat.reduceBEq,Nat.reduceAdd,Int.reduceBEq,Int.reduceBNe,Int.reduceLT,Zu,Zz,tup,tyf])
   clear hN3
   try clear N3
   refine Wh rfl ?_
   refine Yk ?_
   simp (maxSteps:=2000000) only [s109,↓Za,↓Zi,↓Zr,↓Ze,↓Zo,↓Zs,↓Zg,↓Zm,↓Zf,↓Zb,↓Zc,↓vdn,vup,Zk,Zn,Zl,Zh,Zj,List.map_cons,List.map_nil,cond_true,cond_false,aop,Zv,Zq,Zp,ev,sput,Zt,Zy,Ya,unK,Zd,Zw,Nat.reduceBEq,Nat.reduceAdd,Int.reduceBEq,Int.reduceBNe,Int.reduceLT,Zu,Zz,tup,tyf,c1]
   exact ⟨by rw [srtb_one h1],hsG,hEm⟩
 have c1:(((cn o:Nat):Int)==1)=false:=by
  have:((cn o:Nat):Int)≠1:=by omega
  simpa using this
 have h1b:(cn o==1)=false:=by simpa using h1
 rcases n with _ | m
 · have c2:(((0:Nat):Int)==0)=true:=rfl
   refine Yc fun N4 hN4=>?_
   simp (maxSteps:=2000000) only [s109,↓Za,↓Zi,↓Zr,↓Ze,↓Zo,↓Zs,↓Zg,↓Zm,↓Zf,↓Zb,↓Zc,↓vdn,vup,Zk,Zn,Zl,Zh,Zj,List.map_cons,List.map_nil,cond_true,cond_false,aop,Zv,Zq,Zp,ev,sput,Zt,Zy,Ya,unK,Zd,Zw,Nat.reduceBEq,Nat.reduceAdd,Int.reduceBEq,Int.reduceBNe,Int.reduceLT,Zu,Zz,tup,tyf,c1,c2]
   refine hN4 [(0,ptB bs),(1,ordV o),(2,Zx ((0:Nat):Int)),(4,ptB b4),(6,.bool false),(7,Zx (cn o:Nat)),(23,.bool true)] _ _ ?_ (by simp (maxSteps:=2000000) only [↓Za,↓Zi,↓Zr,↓Ze,↓Zo,↓Zs,↓Zg,↓Zm,↓Zf,↓Zb,↓Zc,↓vdn,vup,Zk,Zn,Zl,Zh,Zj,List.map_cons,List.map_nil,cond_true,cond_false,aop,Zv,Zq,Zp,ev,sput,Zt,Zy,Ya,unK,Zd,Zw,Nat.reduceBEq,Nat.reduceAdd,Int.reduceBEq,Int.reduceBNe,Int.reduceLT,Zu,Zz,tup,tyf])
   clear hN4
   try clear N4
   refine Wh rfl ?_
   refine Yk ?_
   simp (maxSteps:=2000000) only [s109,↓Za,↓Zi,↓Zr,↓Ze,↓Zo,↓Zs,↓Zg,↓Zm,↓Zf,↓Zb,↓Zc,↓vdn,vup,Zk,Zn,Zl,Zh,Zj,List.map_cons,List.map_nil,cond_true,cond_false,aop,Zv,Zq,Zp,ev,sput,Zt,Zy,Ya,unK,Zd,Zw,Nat.reduceBEq,Nat.reduceAdd,Int.reduceBEq,Int.reduceBNe,Int.reduceLT,Zu,Zz,tup,tyf,c1]
   exact ⟨by rw [Vz,h1b],hsG,hEm⟩
 have c2:(((m+1:Nat):Int)==0)=false:=by
  have:((m+1:Nat):Int)≠0:=by omega
  simpa using this
 have hsh:shlV .i64 1 ((m+1:Nat):Int)=((2 ^ (m+1):Nat):Int):=by rw [shl1 (by omega),Vn]
 have hnn:(0:Int)≤((m+1:Nat):Int):=Int.natCast_nonneg _
 have hss:=srtb_succ m o
 rw [h1b,Bool.false_or] at hss
 by_cases h2:cn o≤2 ^ (m+1)
 · have c3 : ¬ ((2 ^ (m+1):Nat):Int)<((cn o:Nat):Int):=fun h=>absurd (Int.ofNat_lt.1 h) (Nat.not_lt.2 h2)
   rw [decide_eq_true h2,Bool.true_and] at hss
   generalize ((2 ^ (m+1):Nat):Int)=pw at hsh c3
   refine Yc fun N5 hN5=>?_
   simp (maxSteps:=2000000) only [s109,↓Za,↓Zi,↓Zr,↓Ze,↓Zo,↓Zs,↓Zg,↓Zm,↓Zf,↓Zb,↓Zc,↓vdn,vup,Zk,Zn,Zl,Zh,Zj,List.map_cons,List.map_nil,cond_true,cond_false,aop,Zv,Zq,Zp,ev,sput,Zt,Zy,Ya,unK,Zd,Zw,Nat.reduceBEq,Nat.reduceAdd,Int.reduceBEq,Int.reduceBNe,Int.reduceLT,Zu,Zz,tup,tyf,c1,c2,hnn,hsh,gt_iff_lt,c3,decide_false]
   refine hN5 [(0,ptB bs),(1,ordV o),(2,Zx ((m+1:Nat):Int)),(4,ptB b4),(6,.bool false),(7,Zx (cn o:Nat)),(23,.bool false)] _ _ ?_ (by simp (maxSteps:=2000000) only [↓Za,↓Zi,↓Zr,↓Ze,↓Zo,↓Zs,↓Zg,↓Zm,↓Zf,↓Zb,↓Zc,↓vdn,vup,Zk,Zn,Zl,Zh,Zj,List.map_cons,List.map_nil,cond_true,cond_false,aop,Zv,Zq,Zp,ev,sput,Zt,Zy,Ya,unK,Zd,Zw,Nat.reduceBEq,Nat.reduceAdd,Int.reduceBEq,Int.reduceBNe,Int.reduceLT,Zu,Zz,tup,tyf])
   clear hN5
   try clear N5
   refine Xx rfl ?_
   refine Yk ?_
   try simp (maxSteps:=2000000) only [s109,↓Za,↓Zi,↓Zr,↓Ze,↓Zo,↓Zs,↓Zg,↓Zm,↓Zf,↓Zb,↓Zc,↓vdn,vup,Zk,Zn,Zl,Zh,Zj,List.map_cons,List.map_nil,cond_true,cond_false,aop,Zv,Zq,Zp,ev,sput,Zt,Zy,Ya,unK,Zd,Zw,Nat.reduceBEq,Nat.reduceAdd,Int.reduceBEq,Int.reduceBNe,Int.reduceLT,Zu,Zz,tup,tyf]
   refine hC [(0,ptB bs),(1,ordV o),(2,Zx ((m+1:Nat):Int)),(4,ptB b4),(6,.bool false),(7,Zx (cn o:Nat))] _ _ ?_ (by simp (maxSteps:=2000000) only [↓Za,↓Zi,↓Zr,↓Ze,↓Zo,↓Zs,↓Zg,↓Zm,↓Zf,↓Zb,↓Zc,↓vdn,vup,Zk,Zn,Zl,Zh,Zj,List.map_cons,List.map_nil,cond_true,cond_false,aop,Zv,Zq,Zp,ev,sput,Zt,Zy,Ya,unK,Zd,Zw,Nat.reduceBEq,Nat.reduceAdd,Int.reduceBEq,Int.reduceBNe,Int.reduceLT,Zu,Zz,tup,tyf])
   clear hC
   try clear C
   have hsG':=hsG
   obtain ⟨k1,l,k2,k3,k4⟩:=hsG'
   have hlen:=encN_len hl.2 (m+1)
   have hin:=encN_in ho (n:=m+1) (by omega)
   refine Yc fun N6 hN6=>?_
   simp only [q109_4]
   refine Xp [] (by kernel_rfl) (by kernel_rfl) (by kernel_rfl) (by kernel_rfl) ?_
   simp (maxSteps:=2000000) only [s109,↓Za,↓Zi,↓Zr,↓Ze,↓Zo,↓Zs,↓Zg,↓Zm,↓Zf,↓Zb,↓Zc,↓vdn,vup,Zk,Zn,Zl,Zh,Zj,List.map_cons,List.map_nil,cond_true,cond_false,aop,Zv,Zq,Zp,ev,sput,Zt,Zy,Ya,unK,Zd,Zw,Nat.reduceBEq,Nat.reduceAdd,Int.reduceBEq,Int.reduceBNe,Int.reduceLT,Zu,Zz,tup,tyf,↓dopsX_lookup,↓Vo,nilK,fldA fld_100_0 esz_98,Xh k1 shp_98,Vd c0 Xb hl.2,bldT hl.2]
   refine lookupA k2 und_98 keyT_136 zvB k3 (Ws _) hlen hin ?_
   cases ha:aget (encN o (m+1)) l with
   | some v =>
     have hv:=k4 o (m+1) v ho ha
     simp (maxSteps:=2000000) only [s109,↓Za,↓Zi,↓Zr,↓Ze,↓Zo,↓Zs,↓Zg,↓Zm,↓Zf,↓Zb,↓Zc,↓vdn,vup,Zk,Zn,Zl,Zh,Zj,List.map_cons,List.map_nil,cond_true,cond_false,aop,Zv,Zq,Zp,ev,sput,Zt,Zy,Ya,unK,Zd,Zw,Nat.reduceBEq,Nat.reduceAdd,Int.reduceBEq,Int.reduceBNe,Int.reduceLT,Zu,Zz,tup,tyf,Option.map_some,Option.getD_some,Option.isSome_some]
     refine hN6 [(0,ptB bs),(1,ordV o),(2,Zx ((m+1:Nat):Int)),(4,ptB b4),(6,.bool false),(7,Zx (cn o:Nat)),(8,.bool v),(9,.bool true)] _ _ ?_ (by simp (maxSteps:=2000000) only [↓Za,↓Zi,↓Zr,↓Ze,↓Zo,↓Zs,↓Zg,↓Zm,↓Zf,↓Zb,↓Zc,↓vdn,vup,Zk,Zn,Zl,Zh,Zj,List.map_cons,List.map_nil,cond_true,cond_false,aop,Zv,Zq,Zp,ev,sput,Zt,Zy,Ya,unK,Zd,Zw,Nat.reduceBEq,Nat.reduceAdd,Int.reduceBEq,Int.reduceBNe,Int.reduceLT,Zu,Zz,tup,tyf])
     clear hN6
     try clear N6
     refine Yi fun D hD=>?_
     refine Yc fun N7 hN7=>?_
     simp (maxSteps:=2000000) only [s109,↓Za,↓Zi,↓Zr,↓Ze,↓Zo,↓Zs,↓Zg,↓Zm,↓Zf,↓Zb,↓Zc,↓vdn,vup,Zk,Zn,Zl,Zh,Zj,List.map_cons,List.map_nil,cond_true,cond_false,aop,Zv,Zq,Zp,ev,sput,Zt,Zy,Ya,unK,Zd,Zw,Nat.reduceBEq,Nat.reduceAdd,Int.reduceBEq,Int.reduceBNe,Int.reduceLT,Zu,Zz,tup,tyf]
     refine hN7 [(0,ptB bs),(1,ordV o),(2,Zx ((m+1:Nat):Int)),(4,ptB b4),(6,.bool false),(7,Zx (cn o:Nat)),(8,.bool v),(9,.bool true),(38,.bool false)] _ _ ?_ (by simp (maxSteps:=2000000) only [↓Za,↓Zi,↓Zr,↓Ze,↓Zo,↓Zs,↓Zg,↓Zm,↓Zf,↓Zb,↓Zc,↓vdn,vup,Zk,Zn,Zl,Zh,Zj,List.map_cons,List.map_nil,cond_true,cond_false,aop,Zv,Zq,Zp,ev,sput,Zt,Zy,Ya,unK,Zd,Zw,Nat.reduceBEq,Nat.reduceAdd,Int.reduceBEq,Int.reduceBNe,Int.reduceLT,Zu,Zz,tup,tyf])
     clear hN7
     try clear N7
     refine Xx rfl ?_
     refine Yk ?_
     try simp (maxSteps:=2000000) only [s109,↓Za,↓Zi,↓Zr,↓Ze,↓Zo,↓Zs,↓Zg,↓Zm,↓Zf,↓Zb,↓Zc,↓vdn,vup,Zk,Zn,Zl,Zh,Zj,List.map_cons,List.map_nil,cond_true,cond_false,aop,Zv,Zq,Zp,ev,sput,Zt,Zy,Ya,unK,Zd,Zw,Nat.reduceBEq,Nat.reduceAdd,Int.reduceBEq,Int.reduceBNe,Int.reduceLT,Zu,Zz,tup,tyf]
     refine hD [(0,ptB bs),(1,ordV o),(2,Zx ((m+1:Nat):Int)),(4,ptB b4),(6,.bool false),(7,Zx (cn o:Nat)),(8,.bool v),(9,.bool true),(38,.bool false)] _ _ ?_ (by simp (maxSteps:=2000000) only [↓Za,↓Zi,↓Zr,↓Ze,↓Zo,↓Zs,↓Zg,↓Zm,↓Zf,↓Zb,↓Zc,↓vdn,vup,Zk,Zn,Zl,Zh,Zj,List.map_cons,List.map_nil,cond_true,cond_false,aop,Zv,Zq,Zp,ev,sput,Zt,Zy,Ya,unK,Zd,Zw,Nat.reduceBEq,Nat.reduceAdd,Int.reduceBEq,Int.reduceBNe,Int.reduceLT,Zu,Zz,tup,tyf])
     clear hD
     try clear D
     refine Yk ?_
     try simp (maxSteps:=2000000) only [s109,↓Za,↓Zi,↓Zr,↓Ze,↓Zo,↓Zs,↓Zg,↓Zm,↓Zf,↓Zb,↓Zc,↓vdn,vup,Zk,Zn,Zl,Zh,Zj,List.map_cons,List.map_nil,cond_true,cond_false,aop,Zv,Zq,Zp,ev,sput,Zt,Zy,Ya,unK,Zd,Zw,Nat.reduceBEq,Nat.reduceAdd,Int.reduceBEq,Int.reduceBNe,Int.reduceLT,Zu,Zz,tup,tyf]
     exact ⟨by rw [hv],hsG,hEm⟩
   | none =>
     simp (maxSteps:=2000000) only [s109,↓Za,↓Zi,↓Zr,↓Ze,↓Zo,↓Zs,↓Zg,↓Zm,↓Zf,↓Zb,↓Zc,↓vdn,vup,Zk,Zn,Zl,Zh,Zj,List.map_cons,List.map_nil,cond_true,cond_false,aop,Zv,Zq,Zp,ev,sput,Zt,Zy,Ya,unK,Zd,Zw,Nat.reduceBEq,Nat.reduceAdd,Int.reduceBEq,Int.reduceBNe,Int.reduceLT,Zu,Zz,tup,tyf,Option.map_none,Option.getD_none,Option.isSome_none]
     refine hN6 [(0,ptB bs),(1,ordV o),(2,Zx ((m+1:Nat):Int)),(4,ptB b4),(6,.bool false),(7,Zx (cn o:Nat)),(8,.bool false),(9,.bool false)] _ _ ?_ (by simp (maxSteps:=2000000) only [↓Za,↓Zi,↓Zr,↓Ze,↓Zo,↓Zs,↓Zg,↓Zm,↓Zf,↓Zb,↓Zc,↓vdn,vup,Zk,Zn,Zl,Zh,Zj,List.map_cons,List.map_nil,cond_true,cond_false,aop,Zv,Zq,Zp,ev,sput,Zt,Zy,Ya,unK,Zd,Zw,Nat.reduceBEq,Nat.reduceAdd,Int.reduceBEq,Int.reduceBNe,Int.reduceLT,Zu,Zz,tup,tyf])
     clear hN6
     try clear N6
     refine Yi fun D hD=>?_
     refine Yc fun N8 hN8=>?_
     simp (maxSteps:=2000000) only [s109,↓Za,↓Zi,↓Zr,↓Ze,↓Zo,↓Zs,↓Zg,↓Zm,↓Zf,↓Zb,↓Zc,↓vdn,vup,Zk,Zn,Zl,Zh,Zj,List.map_cons,List.map_nil,cond_true,cond_false,aop,Zv,Zq,Zp,ev,sput,Zt,Zy,Ya,unK,Zd,Zw,Nat.reduceBEq,Nat.reduceAdd,Int.reduceBEq,Int.reduceBNe,Int.reduceLT,Zu,Zz,tup,tyf]
     refine hN8 [(0,ptB bs),(1,ordV o),(2,Zx ((m+1:Nat):Int)),(4,ptB b4),(6,.bool false),(7,Zx (cn o:Nat)),(8,.bool false),(9,.bool false),(38,.bool true)] _ _ ?_ (by simp (maxSteps:=2000000) only [↓Za,↓Zi,↓Zr,↓Ze,↓Zo,↓Zs,↓Zg,↓Zm,↓Zf,↓Zb,↓Zc,↓vdn,vup,Zk,Zn,Zl,Zh,Zj,List.map_cons,List.map_nil,cond_true,cond_false,aop,Zv,Zq,Zp,ev,sput,Zt,Zy,Ya,unK,Zd,Zw,Nat.reduceBEq,Nat.reduceAdd,Int.reduceBEq,Int.reduceBNe,Int.reduceLT,Zu,Zz,tup,tyf])
     clear hN8
     try clear N8
     refine Wh rfl ?_
     refine Yc fun N9 hN9=>?_
     simp (maxSteps:=2000000) only [s109,↓Za,↓Zi,↓Zr,↓Ze,↓Zo,↓Zs,↓Zg,↓Zm,↓Zf,↓Zb,↓Zc,↓vdn,vup,Zk,Zn,Zl,Zh,Zj,List.map_cons,List.map_nil,cond_true,cond_false,aop,Zv,Zq,Zp,ev,sput,Zt,Zy,Ya,unK,Zd,Zw,Nat.reduceBEq,Nat.reduceAdd,Int.reduceBEq,Int.reduceBNe,Int.reduceLT,Zu,Zz,tup,tyf,Yx,List.nil_append,List.append_nil,List.toList_toArray,List.cons_append,Vd c0 Xb hl.2]
     refine (pair_call (ih m rfl) (by omega) ho (by have:=cn_pos ho; omega) hsG).mono ?_
     rintro r G2 ⟨hs2,hE2,hr⟩
     obtain ⟨p,rfl⟩ : ∃ p,r = .tuple #[pV p,.bool (Vz (m+1) o)]:=by
      rw [hss]
      rcases hr with ⟨i,j,r1,r2,r3,r4,rfl⟩ | ⟨r1,p,rfl⟩
      · exact ⟨_,by rw [pairB_true r1 r2 r3 r4]⟩
      · exact ⟨p,by rw [r1]⟩
     try simp (maxSteps:=2000000) only [s109,↓Za,↓Zi,↓Zr,↓Ze,↓Zo,↓Zs,↓Zg,↓Zm,↓Zf,↓Zb,↓Zc,↓vdn,vup,Zk,Zn,Zl,Zh,Zj,List.map_cons,List.map_nil,cond_true,cond_false,aop,Zv,Zq,Zp,ev,sput,Zt,Zy,Ya,unK,Zd,Zw,Nat.reduceBEq,Nat.reduceAdd,Int.reduceBEq,Int.reduceBNe,Int.reduceLT,Zu,Zz,tup,tyf]
     refine hN9 [(0,ptB bs),(1,ordV o),(2,Zx ((m+1:Nat):Int)),(4,ptB b4),(6,.bool false),(7,Zx (cn o:Nat)),(8,.bool (Vz (m+1) o)),(9,.bool false)] _ _ ?_ (by simp (maxSteps:=2000000) only [↓Za,↓Zi,↓Zr,↓Ze,↓Zo,↓Zs,↓Zg,↓Zm,↓Zf,↓Zb,↓Zc,↓vdn,vup,Zk,Zn,Zl,Zh,Zj,List.map_cons,List.map_nil,cond_true,cond_false,aop,Zv,Zq,Zp,ev,sput,Zt,Zy,Ya,unK,Zd,Zw,Nat.reduceBEq,Nat.reduceAdd,Int.reduceBEq,Int.reduceBNe,Int.reduceLT,Zu,Zz,tup,tyf])
     clear hN9
     try clear N9
     have g0:=(hE2.2 _ (Yd c0) (hsG.ne c0)).trans c0
     obtain ⟨j1,l2,j2,j3,j4⟩:=hs2
     refine Yk ?_
     simp only [q109_7]
     refine Xp [] (by kernel_rfl) (by kernel_rfl) (by kernel_rfl) (by kernel_rfl) ?_
     simp (maxSteps:=2000000) only [s109,↓Za,↓Zi,↓Zr,↓Ze,↓Zo,↓Zs,↓Zg,↓Zm,↓Zf,↓Zb,↓Zc,↓vdn,vup,Zk,Zn,Zl,Zh,Zj,List.map_cons,List.map_nil,cond_true,cond_false,aop,Zv,Zq,Zp,ev,sput,Zt,Zy,Ya,unK,Zd,Zw,Nat.reduceBEq,Nat.reduceAdd,Int.reduceBEq,Int.reduceBNe,Int.reduceLT,Zu,Zz,tup,tyf,↓dopsX_lookup,↓Vo,nilK,fldA fld_100_0 esz_98,Xh j1 shp_98,Vd g0 Xb hl.2,bldT hl.2]
     refine updateA (f:=Value.bool) j2 und_98 keyT_136 j3 (Ws _) hlen hin ?_
     have hsk:=SK.put ho (n:=m+1) (by omega) j1 j2 j3 j4
     try simp (maxSteps:=2000000) only [s109,↓Za,↓Zi,↓Zr,↓Ze,↓Zo,↓Zs,↓Zg,↓Zm,↓Zf,↓Zb,↓Zc,↓vdn,vup,Zk,Zn,Zl,Zh,Zj,List.map_cons,List.map_nil,cond_true,cond_false,aop,Zv,Zq,Zp,ev,sput,Zt,Zy,Ya,unK,Zd,Zw,Nat.reduceBEq,Nat.reduceAdd,Int.reduceBEq,Int.reduceBNe,Int.reduceLT,Zu,Zz,tup,tyf]
     refine hD [(0,ptB bs),(1,ordV o),(2,Zx ((m+1:Nat):Int)),(4,ptB b4),(6,.bool false),(7,Zx (cn o:Nat)),(8,.bool (Vz (m+1) o)),(9,.bool false)] _ _ ?_ (by simp (maxSteps:=2000000) only [↓Za,↓Zi,↓Zr,↓Ze,↓Zo,↓Zs,↓Zg,↓Zm,↓Zf,↓Zb,↓Zc,↓vdn,vup,Zk,Zn,Zl,Zh,Zj,List.map_cons,List.map_nil,cond_true,cond_false,aop,Zv,Zq,Zp,ev,sput,Zt,Zy,Ya,unK,Zd,Zw,Nat.reduceBEq,Nat.reduceAdd,Int.reduceBEq,Int.reduceBNe,Int.reduceLT,Zu,Zz,tup,tyf])
     clear hD
     try clear D
     refine Yk ?_
     try simp (maxSteps:=2000000) only [s109,↓Za,↓Zi,↓Zr,↓Ze,↓Zo,↓Zs,↓Zg,↓Zm,↓Zf,↓Zb,↓Zc,↓vdn,vup,Zk,Zn,Zl,Zh,Zj,List.map_cons,List.map_nil,cond_true,cond_false,aop,Zv,Zq,Zp,ev,sput,Zt,Zy,Ya,unK,Zd,Zw,Nat.reduceBEq,Nat.reduceAdd,Int.reduceBEq,Int.reduceBNe,Int.reduceLT,Zu,Zz,tup,tyf]
     exact ⟨hsk,(hEm.trans hE2).trans (Ext.set _ rfl)⟩
 · have c3:((2 ^ (m+1):Nat):Int)<((cn o:Nat):Int):=Int.ofNat_lt.2 (Nat.not_le.1 h2)
   rw [decide_eq_false h2,Bool.false_and] at hss
   generalize ((2 ^ (m+1):Nat):Int)=pw at hsh c3
   refine Yc fun N10 hN10=>?_
   simp (maxSteps:=2000000) only [s109,↓Za,↓Zi,↓Zr,↓Ze,↓Zo,↓Zs,↓Zg,↓Zm,↓Zf,↓Zb,↓Zc,↓vdn,vup,Zk,Zn,Zl,Zh,Zj,List.map_cons,List.map_nil,cond_true,cond_false,aop,Zv,Zq,Zp,ev,sput,Zt,Zy,Ya,unK,Zd,Zw,Nat.reduceBEq,Nat.reduceAdd,Int.reduceBEq,Int.reduceBNe,Int.reduceLT,Zu,Zz,tup,tyf,c1,c2,hnn,hsh,gt_iff_lt,c3,decide_true]
   refine hN10 [(0,ptB bs),(1,ordV o),(2,Zx ((m+1:Nat):Int)),(4,ptB b4),(6,.bool false),(7,Zx (cn o:Nat)),(23,.bool true)] _ _ ?_ (by simp (maxSteps:=2000000) only [↓Za,↓Zi,↓Zr,↓Ze,↓Zo,↓Zs,↓Zg,↓Zm,↓Zf,↓Zb,↓Zc,↓vdn,vup,Zk,Zn,Zl,Zh,Zj,List.map_cons,List.map_nil,cond_true,cond_false,aop,Zv,Zq,Zp,ev,sput,Zt,Zy,Ya,unK,Zd,Zw,Nat.reduceBEq,Nat.reduceAdd,Int.reduceBEq,Int.reduceBNe,Int.reduceLT,Zu,Zz,tup,tyf])
   clear hN10
   try clear N10
   refine Wh rfl ?_
   refine Yk ?_
   simp (maxSteps:=2000000) only [s109,↓Za,↓Zi,↓Zr,↓Ze,↓Zo,↓Zs,↓Zg,↓Zm,↓Zf,↓Zb,↓Zc,↓vdn,vup,Zk,Zn,Zl,Zh,Zj,List.map_cons,List.map_nil,cond_true,cond_false,aop,Zv,Zq,Zp,ev,sput,Zt,Zy,Ya,unK,Zd,Zw,Nat.reduceBEq,Nat.reduceAdd,Int.reduceBEq,Int.reduceBNe,Int.reduceLT,Zu,Zz,tup,tyf,c1]
   exact ⟨by rw [hss],hsG,hEm⟩
theorem sorts_call [BitTab prog 1] {bs bm:Nat} : ∀ n,n≤60→SortsOK bs bm n
 | 0,hn=>sorts_step hn fun m h=>by cases h
 | n+1,hn=>sorts_step hn fun m h=>by cases h; exact sorts_call n (by omega)
def Ui (o:List Int):Nat:=((List.range 16).find? fun n=>Vz n o).getD 0
theorem prs_len : ∀ n,n<7→(prsN n).length≤15:=by decide
theorem srtb_15 {o:List Int} (ho:ord o=true):Vz 15 o=true :=
 srtb_free 15 o ho (Nat.le_trans List.countP_le_length (prs_len _ (by have:=Yu ho; omega)))
theorem needN_of {o:List Int} {n:Nat} (hn:n<16) (h:Vz n o=true) (h0 : ∀ k,k<n→Vz k o=false):Ui o=n:=by
 have:(List.range 16).find? (fun n=>Vz n o)=some n:=by
  rw [List.find?_range_eq_some]
  exact ⟨h,List.mem_range.2 hn,fun k hk=>by rw [h0 k hk]; rfl⟩
 rw [Ui,this]; rfl
theorem needN_spec {o:List Int} (ho:ord o=true):Ui o<16∧Vz (Ui o) o=true∧∀ k,k<Ui o→Vz k o=false:=by
 have key : ∀ d,d≤15→(∀ k,k<15-d→Vz k o=false)→∃ n,n<16∧Vz n o=true∧∀ k,k<n→Vz k o=false:=by
  intro d
  induction d with
  | zero=>exact fun _ h=>⟨15,by decide,srtb_15 ho,h⟩
  | succ d ih =>
    intro hd h
    cases hb:Vz (15-(d+1)) o with
    | true=>exact ⟨_,by omega,hb,h⟩
    | false =>
      refine ih (by omega) fun k hk=>?_
      by_cases he:k=15-(d+1)
      · rw [he]; exact hb
      · exact h k (by omega)
 obtain ⟨n,h1,h2,h3⟩:=key 15 (Nat.le_refl _) fun k hk=>absurd hk (Nat.not_lt_zero k)
 rw [needN_of h1 h2 h3]
 exact ⟨h1,h2,h3⟩
theorem s90_callW [Tabs Tryd.prog] {args:List Value} {h:Yb} {Q:Value→Yb→Prop} (hsz:args.length≤19) (hk:AWS Tryd.prog 19 s90 (Zu Tryd.prog [.tmp 4] Q) (Zp 0 args) h):ACall Tryd.prog 90 args h Q :=
 Wx Tryd.func90 rfl (enters_of Tryd.func90 (by kernel_rfl) rfl) rfl rfl (by decide) s90_strip s90_ok hsz hk
theorem need_call [BitTab prog 1] {bs bm:Nat} {h:Yb} {o:List Int} (ho:ord o=true) (hs:SK bs bm h) :
  ACall prog 90 [ptB bs,ordV o] h fun r h'=>r=Zx (Ui o)∧SK bs bm h'∧Ext (fun b=>b=bm) h h':=by
 have hl:=Yu ho
 have hcn:=cn_le ho
 have hc0:=cn_pos ho
 have hsub:subV .i64 ((cn o:Nat):Int) 1=((cn o-1:Nat):Int):=by rw [subV_id (by omega) (by omega)]; omega
 have hw:IntKind.u64.wrap ((cn o-1:Nat):Int)=((cn o-1:Nat):Int):=wrapU_id (by omega) (by omega)
 refine s90_callW (by simp) ?_
 simp only [s90]
 refine Yc fun N11 hN11=>?_
 simp (maxSteps:=2000000) only [s90,↓Za,↓Zi,↓Zr,↓Ze,↓Zo,↓Zs,↓Zg,↓Zm,↓Zf,↓Zb,↓Zc,↓vdn,vup,Zk,Zn,Zl,Zh,Zj,List.map_cons,List.map_nil,cond_true,cond_false,aop,Zv,Zq,Zp,ev,sput,Zt,Zy,Ya,unK,Zd,Zw,Nat.reduceBEq,Nat.reduceAdd,Int.reduceBEq,Int.reduceBNe,Int.reduceLT,Zu,Zz,tup,tyf,boxO esz_77,Ys]
 have c0:=Yl h (Blk.cells (Wa o) 77 false)
 have hE:Ext (fun _=>False) h (h++[Blk.cells (Wa o) 77 false]):=Ext.app _ _ _
 have hsG:=hs.ext hE
 generalize h++[Blk.cells (Wa o) 77 false]=G at c0 hE hsG ⊢
 generalize h.length=b3 at c0 ⊢
 have hEm:Ext (fun b=>b=bm) h G:=hE.mono fun _ h=>h.elim
 refine hN11 [(0,ptB bs),(1,ordV o),(3,ptB b3),(4,.int .i64 0)] _ _ ?_ (by simp (maxSteps:=2000000) only [↓Za,↓Zi,↓Zr,↓Ze,↓Zo,↓Zs,↓Zg,↓Zm,↓Zf,↓Zb,↓Zc,↓vdn,vup,Zk,Zn,Zl,Zh,Zj,List.map_cons,List.map_nil,cond_true,cond_false,aop,Zv,Zq,Zp,ev,sput,Zt,Zy,Ya,unK,Zd,Zw,Nat.reduceBEq,Nat.reduceAdd,Int.reduceBEq,Int.reduceBNe,Int.reduceLT,Zu,Zz,tup,tyf])
 clear hN11
 try clear N11
 refine Yc fun N12 hN12=>?_
 refine aw_regcut 2 fun N1 hN1=>?_
 simp (maxSteps:=2000000) only [s90,↓Za,↓Zi,↓Zr,↓Ze,↓Zo,↓Zs,↓Zg,↓Zm,↓Zf,↓Zb,↓Zc,↓vdn,vup,Zk,Zn,Zl,Zh,Zj,List.map_cons,List.map_nil,cond_true,cond_false,aop,Zv,Zq,Zp,ev,sput,Zt,Zy,Ya,unK,Zd,Zw,Nat.reduceBEq,Nat.reduceAdd,Int.reduceBEq,Int.reduceBNe,Int.reduceLT,Zu,Zz,tup,tyf,Yx,List.nil_append,List.append_nil,List.toList_toArray,List.cons_append,List.take_succ_cons,List.take_zero,Vd c0 Xb hl.2]
 refine (Wy ho).mono ?_
 rintro _ G ⟨rfl,rfl⟩
 refine hN1 _ _ ?_
 clear hN1 N1
 simp only [List.drop_succ_cons,List.drop_zero]
 simp (maxSteps:=2000000) only [s90,↓Za,↓Zi,↓Zr,↓Ze,↓Zo,↓Zs,↓Zg,↓Zm,↓Zf,↓Zb,↓Zc,↓vdn,vup,Zk,Zn,Zl,Zh,Zj,List.map_cons,List.map_nil,cond_true,cond_false,aop,Zv,Zq,Zp,ev,sput,Zt,Zy,Ya,unK,Zd,Zw,Nat.reduceBEq,Nat.reduceAdd,Int.reduceBEq,Int.reduceBNe,Int.reduceLT,Zu,Zz,tup,tyf,Yx,List.nil_append,List.append_nil,List.toList_toArray,List.cons_append,hsub,convK,und_3,und_29,hw]
 refine (lenv_call (show cn o-1<65536 by omega)).mono ?_
 rintro _ G ⟨⟨z,hz,rfl⟩,rfl⟩
 try simp (maxSteps:=2000000) only [s90,↓Za,↓Zi,↓Zr,↓Ze,↓Zo,↓Zs,↓Zg,↓Zm,↓Zf,↓Zb,↓Zc,↓vdn,vup,Zk,Zn,Zl,Zh,Zj,List.map_cons,List.map_nil,cond_true,cond_false,aop,Zv,Zq,Zp,ev,sput,Zt,Zy,Ya,unK,Zd,Zw,Nat.reduceBEq,Nat.reduceAdd,Int.reduceBEq,Int.reduceBNe,Int.reduceLT,Zu,Zz,tup,tyf]
 refine hN12 [(0,ptB bs),(1,ordV o),(3,ptB b3),(4,.int .i64 0),(5,Zx (z:Nat))] _ _ ?_ (by simp (maxSteps:=2000000) only [↓Za,↓Zi,↓Zr,↓Ze,↓Zo,↓Zs,↓Zg,↓Zm,↓Zf,↓Zb,↓Zc,↓vdn,vup,Zk,Zn,Zl,Zh,Zj,List.map_cons,List.map_nil,cond_true,cond_false,aop,Zv,Zq,Zp,ev,sput,Zt,Zy,Ya,unK,Zd,Zw,Nat.reduceBEq,Nat.reduceAdd,Int.reduceBEq,Int.reduceBNe,Int.reduceLT,Zu,Zz,tup,tyf])
 clear hN12
 try clear N12
 refine Yi fun M hM=>?_
 refine Yr ?_
 refine Yn fun Q hQ=>?_
 refine We (γ:=Nat×Yb) (fun s=>(∀ k,k<s.1→Vz k o=false)∧s.1≤16∧SK bs bm s.2∧Ext (fun b=>b=bm) G s.2)
  (fun s=>([(0,ptB bs),(1,ordV o),(3,ptB b3),(4,.int .i64 0),(5,Zx (s.1:Nat))],s.2)) (fun s=>17-s.1) (z,_) ⟨fun k hk=>?_,hz.1,hsG,Ext.refl _ _⟩ (by simp (maxSteps:=2000000) only [↓Za,↓Zi,↓Zr,↓Ze,↓Zo,↓Zs,↓Zg,↓Zm,↓Zf,↓Zb,↓Zc,↓vdn,vup,Zk,Zn,Zl,Zh,Zj,List.map_cons,List.map_nil,cond_true,cond_false,aop,Zv,Zq,Zp,ev,sput,Zt,Zy,Ya,unK,Zd,Zw,Nat.reduceBEq,Nat.reduceAdd,Int.reduceBEq,Int.reduceBNe,Int.reduceLT,Zu,Zz,tup,tyf]) rfl ?_
 · cases hb:Vz k o with
   | false=>rfl
   | true =>
     have h1:=srtb_cn hb
     have:=hz.2 k (Nat.lt_of_lt_of_le (Nat.sub_lt hc0 Nat.one_pos) h1)
     omega
 rintro ⟨n,H⟩ ⟨h0,hn,hsH,hEH⟩
 simp only at h0 hn hsH hEH
 refine Yn fun Q2 hQ2=>?_
 simp only [l90_0]
 have cH:=(hEH.2 _ (Yd c0) (hsG.ne c0)).trans c0
 refine Yi fun C hC=>?_
 refine Yc fun N13 hN13=>?_
 simp (maxSteps:=2000000) only [s90,↓Za,↓Zi,↓Zr,↓Ze,↓Zo,↓Zs,↓Zg,↓Zm,↓Zf,↓Zb,↓Zc,↓vdn,vup,Zk,Zn,Zl,Zh,Zj,List.map_cons,List.map_nil,cond_true,cond_false,aop,Zv,Zq,Zp,ev,sput,Zt,Zy,Ya,unK,Zd,Zw,Nat.reduceBEq,Nat.reduceAdd,Int.reduceBEq,Int.reduceBNe,Int.reduceLT,Zu,Zz,tup,tyf,Yx,List.nil_append,List.append_nil,List.toList_toArray,List.cons_append,Vd cH Xb hl.2]
 refine (sorts_call n (by omega) H o ho hsH).mono ?_
 rintro _ H2 ⟨rfl,hs2,hE2⟩
 cases hb:Vz n o with
 | true =>
   try simp (maxSteps:=2000000) only [s90,↓Za,↓Zi,↓Zr,↓Ze,↓Zo,↓Zs,↓Zg,↓Zm,↓Zf,↓Zb,↓Zc,↓vdn,vup,Zk,Zn,Zl,Zh,Zj,List.map_cons,List.map_nil,cond_true,cond_false,aop,Zv,Zq,Zp,ev,sput,Zt,Zy,Ya,unK,Zd,Zw,Nat.reduceBEq,Nat.reduceAdd,Int.reduceBEq,Int.reduceBNe,Int.reduceLT,Zu,Zz,tup,tyf]
   refine hN13 [(0,ptB bs),(1,ordV o),(3,ptB b3),(4,.int .i64 0),(5,Zx (n:Nat)),(15,.bool false)] _ _ ?_ (by simp (maxSteps:=2000000) only [↓Za,↓Zi,↓Zr,↓Ze,↓Zo,↓Zs,↓Zg,↓Zm,↓Zf,↓Zb,↓Zc,↓vdn,vup,Zk,Zn,Zl,Zh,Zj,List.map_cons,List.map_nil,cond_true,cond_false,aop,Zv,Zq,Zp,ev,sput,Zt,Zy,Ya,unK,Zd,Zw,Nat.reduceBEq,Nat.reduceAdd,Int.reduceBEq,Int.reduceBNe,Int.reduceLT,Zu,Zz,tup,tyf])
   clear hN13
   try clear N13
   refine Xx rfl ?_
   refine Yk ?_
   try simp (maxSteps:=2000000) only [s90,↓Za,↓Zi,↓Zr,↓Ze,↓Zo,↓Zs,↓Zg,↓Zm,↓Zf,↓Zb,↓Zc,↓vdn,vup,Zk,Zn,Zl,Zh,Zj,List.map_cons,List.map_nil,cond_true,cond_false,aop,Zv,Zq,Zp,ev,sput,Zt,Zy,Ya,unK,Zd,Zw,Nat.reduceBEq,Nat.reduceAdd,Int.reduceBEq,Int.reduceBNe,Int.reduceLT,Zu,Zz,tup,tyf]
   refine hQ2 _ _ _ (hQ _ _ _ ?_)
   simp (maxSteps:=2000000) only [s90,↓Za,↓Zi,↓Zr,↓Ze,↓Zo,↓Zs,↓Zg,↓Zm,↓Zf,↓Zb,↓Zc,↓vdn,vup,Zk,Zn,Zl,Zh,Zj,List.map_cons,List.map_nil,cond_true,cond_false,aop,Zv,Zq,Zp,ev,sput,Zt,Zy,Ya,unK,Zd,Zw,Nat.reduceBEq,Nat.reduceAdd,Int.reduceBEq,Int.reduceBNe,Int.reduceLT,Zu,Zz,tup,tyf,if_true]
   refine hM [(0,ptB bs),(1,ordV o),(3,ptB b3),(4,.int .i64 0),(5,Zx (n:Nat)),(15,.bool false)] _ _ ?_ (by simp (maxSteps:=2000000) only [↓Za,↓Zi,↓Zr,↓Ze,↓Zo,↓Zs,↓Zg,↓Zm,↓Zf,↓Zb,↓Zc,↓vdn,vup,Zk,Zn,Zl,Zh,Zj,List.map_cons,List.map_nil,cond_true,cond_false,aop,Zv,Zq,Zp,ev,sput,Zt,Zy,Ya,unK,Zd,Zw,Nat.reduceBEq,Nat.reduceAdd,Int.reduceBEq,Int.reduceBNe,Int.reduceLT,Zu,Zz,tup,tyf])
   clear hM
   try clear M
   refine Yk ?_
   try simp (maxSteps:=2000000) only [s90,↓Za,↓Zi,↓Zr,↓Ze,↓Zo,↓Zs,↓Zg,↓Zm,↓Zf,↓Zb,↓Zc,↓vdn,vup,Zk,Zn,Zl,Zh,Zj,List.map_cons,List.map_nil,cond_true,cond_false,aop,Zv,Zq,Zp,ev,sput,Zt,Zy,Ya,unK,Zd,Zw,Nat.reduceBEq,Nat.reduceAdd,Int.reduceBEq,Int.reduceBNe,Int.reduceLT,Zu,Zz,tup,tyf]
   have hn16:n<16:=by
    apply Classical.byContradiction
    intro hc
    have:=h0 15 (by omega)
    rw [srtb_15 ho] at this; cases this
   exact ⟨by rw [needN_of hn16 hb h0],hs2,(hEm.trans hEH).trans hE2⟩
 | false =>
   have hn15:n<15:=by
    apply Classical.byContradiction
    intro hc
    by_cases he:n=15
    · rw [he,srtb_15 ho] at hb; cases hb
    · have:=h0 15 (by omega)
      rw [srtb_15 ho] at this; cases this
   try simp (maxSteps:=2000000) only [s90,↓Za,↓Zi,↓Zr,↓Ze,↓Zo,↓Zs,↓Zg,↓Zm,↓Zf,↓Zb,↓Zc,↓vdn,vup,Zk,Zn,Zl,Zh,Zj,List.map_cons,List.map_nil,cond_true,cond_false,aop,Zv,Zq,Zp,ev,sput,Zt,Zy,Ya,unK,Zd,Zw,Nat.reduceBEq,Nat.reduceAdd,Int.reduceBEq,Int.reduceBNe,Int.reduceLT,Zu,Zz,tup,tyf]
   refine hN13 [(0,ptB bs),(1,ordV o),(3,ptB b3),(4,.int .i64 0),(5,Zx (n:Nat)),(15,.bool true)] _ _ ?_ (by simp (maxSteps:=2000000) only [↓Za,↓Zi,↓Zr,↓Ze,↓Zo,↓Zs,↓Zg,↓Zm,↓Zf,↓Zb,↓Zc,↓vdn,vup,Zk,Zn,Zl,Zh,Zj,List.map_cons,List.map_nil,cond_true,cond_false,aop,Zv,Zq,Zp,ev,sput,Zt,Zy,Ya,unK,Zd,Zw,Nat.reduceBEq,Nat.reduceAdd,Int.reduceBEq,Int.reduceBNe,Int.reduceLT,Zu,Zz,tup,tyf])
   clear hN13
   try clear N13
   refine Wh rfl ?_
   refine Yk ?_
   try simp (maxSteps:=2000000) only [s90,↓Za,↓Zi,↓Zr,↓Ze,↓Zo,↓Zs,↓Zg,↓Zm,↓Zf,↓Zb,↓Zc,↓vdn,vup,Zk,Zn,Zl,Zh,Zj,List.map_cons,List.map_nil,cond_true,cond_false,aop,Zv,Zq,Zp,ev,sput,Zt,Zy,Ya,unK,Zd,Zw,Nat.reduceBEq,Nat.reduceAdd,Int.reduceBEq,Int.reduceBNe,Int.reduceLT,Zu,Zz,tup,tyf]
   refine hC [(0,ptB bs),(1,ordV o),(3,ptB b3),(4,.int .i64 0),(5,Zx (n:Nat))] _ _ ?_ (by simp (maxSteps:=2000000) only [↓Za,↓Zi,↓Zr,↓Ze,↓Zo,↓Zs,↓Zg,↓Zm,↓Zf,↓Zb,↓Zc,↓vdn,vup,Zk,Zn,Zl,Zh,Zj,List.map_cons,List.map_nil,cond_true,cond_false,aop,Zv,Zq,Zp,ev,sput,Zt,Zy,Ya,unK,Zd,Zw,Nat.reduceBEq,Nat.reduceAdd,Int.reduceBEq,Int.reduceBNe,Int.reduceLT,Zu,Zz,tup,tyf])
   clear hC
   try clear C
   refine Yr ?_
   refine Yk ?_
   simp (maxSteps:=2000000) only [s90,↓Za,↓Zi,↓Zr,↓Ze,↓Zo,↓Zs,↓Zg,↓Zm,↓Zf,↓Zb,↓Zc,↓vdn,vup,Zk,Zn,Zl,Zh,Zj,List.map_cons,List.map_nil,cond_true,cond_false,aop,Zv,Zq,Zp,ev,sput,Zt,Zy,Ya,unK,Zd,Zw,Nat.reduceBEq,Nat.reduceAdd,Int.reduceBEq,Int.reduceBNe,Int.reduceLT,Zu,Zz,tup,tyf,add1 (show n<9223372036854775807 by omega)]
   refine hQ2 _ _ _ ⟨(n+1,H2),⟨fun k hk=>?_,by simp only; omega,hs2,hEH.trans hE2⟩,by simp only; omega,by simp (maxSteps:=2000000) only [↓Za,↓Zi,↓Zr,↓Ze,↓Zo,↓Zs,↓Zg,↓Zm,↓Zf,↓Zb,↓Zc,↓vdn,vup,Zk,Zn,Zl,Zh,Zj,List.map_cons,List.map_nil,cond_true,cond_false,aop,Zv,Zq,Zp,ev,sput,Zt,Zy,Ya,unK,Zd,Zw,Nat.reduceBEq,Nat.reduceAdd,Int.reduceBEq,Int.reduceBNe,Int.reduceLT,Zu,Zz,tup,tyf],rfl⟩
   by_cases he:k=n
   · rw [he]; exact hb
   · exact h0 k (by simp only at hk; omega)
theorem bld100 {b:Nat} {K:Value→Prop}:Wv prog 100 [(0,.map (some b))] K=K (.agg #[.map (some b)]):=by
 simp [Wv,zero_100,Ub,pl_100_0,Wp,cellsOf,Yp]
def needV (o:List Int):Value:=if ord o=true then .tuple #[Zx (Ui o),.int .i64 0] else .tuple #[.int .i64 0,.int .i64 2]
theorem low_need (o:List Int):Low (needV o):=by unfold needV; split <;> exact .pair (.int _ _) (.int _ _)
theorem s50_callW [Tabs Tryd.prog] {args:List Value} {h:Yb} {Q:Value→Yb→Prop} (hsz:args.length≤18) (hk:AWS Tryd.prog 18 s50 (Zu Tryd.prog [.tmp 2,.tmp 3] Q) (Zp 0 args) h):ACall Tryd.prog 50 args h Q :=
 Wx Tryd.func50 rfl (enters_of Tryd.func50 (by kernel_rfl) rfl) rfl rfl (by decide) s50_strip s50_ok hsz hk
theorem progNeed_call [BitTab prog 1] {h:Yb} {v:Value} {o:List Int} (hv:IntSl h v o) (hl:o.length<9223372036854775808) (hx : ∀ x∈o,-9223372036854775808≤x∧x<9223372036854775808):APure prog 50 [v] h (needV o):=by
 refine ACall.forget (low_need o) ?_
 refine s50_callW (by simp) ?_
 simp only [s50]
 refine Yc fun N14 hN14=>?_
 simp (maxSteps:=2000000) only [s50,↓Za,↓Zi,↓Zr,↓Ze,↓Zo,↓Zs,↓Zg,↓Zm,↓Zf,↓Zb,↓Zc,↓vdn,vup,Zk,Zn,Zl,Zh,Zj,List.map_cons,List.map_nil,cond_true,cond_false,aop,Zv,Zq,Zp,ev,sput,Zt,Zy,Ya,unK,Zd,Zw,Nat.reduceBEq,Nat.reduceAdd,Int.reduceBEq,Int.reduceBNe,Int.reduceLT,Zu,Zz,tup,tyf]
 refine hN14 [(0,v),(2,.int .i64 0),(3,.int .i64 0)] _ _ ?_ (by simp (maxSteps:=2000000) only [↓Za,↓Zi,↓Zr,↓Ze,↓Zo,↓Zs,↓Zg,↓Zm,↓Zf,↓Zb,↓Zc,↓vdn,vup,Zk,Zn,Zl,Zh,Zj,List.map_cons,List.map_nil,cond_true,cond_false,aop,Zv,Zq,Zp,ev,sput,Zt,Zy,Ya,unK,Zd,Zw,Nat.reduceBEq,Nat.reduceAdd,Int.reduceBEq,Int.reduceBNe,Int.reduceLT,Zu,Zz,tup,tyf])
 clear hN14
 try clear N14
 refine Yc fun N15 hN15=>?_
 simp (maxSteps:=2000000) only [s50,↓Za,↓Zi,↓Zr,↓Ze,↓Zo,↓Zs,↓Zg,↓Zm,↓Zf,↓Zb,↓Zc,↓vdn,vup,Zk,Zn,Zl,Zh,Zj,List.map_cons,List.map_nil,cond_true,cond_false,aop,Zv,Zq,Zp,ev,sput,Zt,Zy,Ya,unK,Zd,Zw,Nat.reduceBEq,Nat.reduceAdd,Int.reduceBEq,Int.reduceBNe,Int.reduceLT,Zu,Zz,tup,tyf,Yx,List.nil_append,List.append_nil,List.toList_toArray,List.cons_append]
 refine (read_call hv hl hx).mono ?_
 rintro _ g ⟨rfl,rfl⟩
 simp (maxSteps:=2000000) only [s50,↓Za,↓Zi,↓Zr,↓Ze,↓Zo,↓Zs,↓Zg,↓Zm,↓Zf,↓Zb,↓Zc,↓vdn,vup,Zk,Zn,Zl,Zh,Zj,List.map_cons,List.map_nil,cond_true,cond_false,aop,Zv,Zq,Zp,ev,sput,Zt,Zy,Ya,unK,Zd,Zw,Nat.reduceBEq,Nat.reduceAdd,Int.reduceBEq,Int.reduceBNe,Int.reduceLT,Zu,Zz,tup,tyf,Xr,Ys,zeroN,zero_77]
 rw [storeRd]
 obtain ⟨hE,hb⟩:=rdBox g o
 generalize hgl:g.length=gl at hE hb ⊢
 generalize (g++[Blk.cells (ordN 0) 77 false]).set gl (.cells (rdC o) 77 false)=G at hE hb ⊢
 cases ho:ord o with
 | false =>
   refine hN15 [(0,v),(2,.int .i64 0),(3,.int .i64 0),(4,ptB gl),(5,.bool false)] _ _ ?_ (by simp (maxSteps:=2000000) only [↓Za,↓Zi,↓Zr,↓Ze,↓Zo,↓Zs,↓Zg,↓Zm,↓Zf,↓Zb,↓Zc,↓vdn,vup,Zk,Zn,Zl,Zh,Zj,List.map_cons,List.map_nil,cond_true,cond_false,aop,Zv,Zq,Zp,ev,sput,Zt,Zy,Ya,unK,Zd,Zw,Nat.reduceBEq,Nat.reduceAdd,Int.reduceBEq,Int.reduceBNe,Int.reduceLT,Zu,Zz,tup,tyf])
   clear hN15
   try clear N15
   refine Yi fun C hC=>?_
   refine Yc fun N16 hN16=>?_
   simp (maxSteps:=2000000) only [s50,↓Za,↓Zi,↓Zr,↓Ze,↓Zo,↓Zs,↓Zg,↓Zm,↓Zf,↓Zb,↓Zc,↓vdn,vup,Zk,Zn,Zl,Zh,Zj,List.map_cons,List.map_nil,cond_true,cond_false,aop,Zv,Zq,Zp,ev,sput,Zt,Zy,Ya,unK,Zd,Zw,Nat.reduceBEq,Nat.reduceAdd,Int.reduceBEq,Int.reduceBNe,Int.reduceLT,Zu,Zz,tup,tyf]
   refine hN16 [(0,v),(2,.int .i64 0),(3,.int .i64 0),(4,ptB gl),(5,.bool false),(12,.bool true)] _ _ ?_ (by simp (maxSteps:=2000000) only [↓Za,↓Zi,↓Zr,↓Ze,↓Zo,↓Zs,↓Zg,↓Zm,↓Zf,↓Zb,↓Zc,↓vdn,vup,Zk,Zn,Zl,Zh,Zj,List.map_cons,List.map_nil,cond_true,cond_false,aop,Zv,Zq,Zp,ev,sput,Zt,Zy,Ya,unK,Zd,Zw,Nat.reduceBEq,Nat.reduceAdd,Int.reduceBEq,Int.reduceBNe,Int.reduceLT,Zu,Zz,tup,tyf])
   clear hN16
   try clear N16
   refine Wh rfl ?_
   refine Yk ?_
   try simp (maxSteps:=2000000) only [s50,↓Za,↓Zi,↓Zr,↓Ze,↓Zo,↓Zs,↓Zg,↓Zm,↓Zf,↓Zb,↓Zc,↓vdn,vup,Zk,Zn,Zl,Zh,Zj,List.map_cons,List.map_nil,cond_true,cond_false,aop,Zv,Zq,Zp,ev,sput,Zt,Zy,Ya,unK,Zd,Zw,Nat.reduceBEq,Nat.reduceAdd,Int.reduceBEq,Int.reduceBNe,Int.reduceLT,Zu,Zz,tup,tyf]
   rw [needV,ho]
   exact ⟨rfl,hE⟩
 | true =>
   have hrd:rdC o=Wa o:=if_pos (Yu ho)
   rw [hrd] at hb
   refine hN15 [(0,v),(2,.int .i64 0),(3,.int .i64 0),(4,ptB gl),(5,.bool true)] _ _ ?_ (by simp (maxSteps:=2000000) only [↓Za,↓Zi,↓Zr,↓Ze,↓Zo,↓Zs,↓Zg,↓Zm,↓Zf,↓Zb,↓Zc,↓vdn,vup,Zk,Zn,Zl,Zh,Zj,List.map_cons,List.map_nil,cond_true,cond_false,aop,Zv,Zq,Zp,ev,sput,Zt,Zy,Ya,unK,Zd,Zw,Nat.reduceBEq,Nat.reduceAdd,Int.reduceBEq,Int.reduceBNe,Int.reduceLT,Zu,Zz,tup,tyf])
   clear hN15
   try clear N15
   refine Yi fun C hC=>?_
   refine Yc fun N17 hN17=>?_
   simp (maxSteps:=2000000) only [s50,↓Za,↓Zi,↓Zr,↓Ze,↓Zo,↓Zs,↓Zg,↓Zm,↓Zf,↓Zb,↓Zc,↓vdn,vup,Zk,Zn,Zl,Zh,Zj,List.map_cons,List.map_nil,cond_true,cond_false,aop,Zv,Zq,Zp,ev,sput,Zt,Zy,Ya,unK,Zd,Zw,Nat.reduceBEq,Nat.reduceAdd,Int.reduceBEq,Int.reduceBNe,Int.reduceLT,Zu,Zz,tup,tyf]
   refine hN17 [(0,v),(2,.int .i64 0),(3,.int .i64 0),(4,ptB gl),(5,.bool true),(12,.bool false)] _ _ ?_ (by simp (maxSteps:=2000000) only [↓Za,↓Zi,↓Zr,↓Ze,↓Zo,↓Zs,↓Zg,↓Zm,↓Zf,↓Zb,↓Zc,↓vdn,vup,Zk,Zn,Zl,Zh,Zj,List.map_cons,List.map_nil,cond_true,cond_false,aop,Zv,Zq,Zp,ev,sput,Zt,Zy,Ya,unK,Zd,Zw,Nat.reduceBEq,Nat.reduceAdd,Int.reduceBEq,Int.reduceBNe,Int.reduceLT,Zu,Zz,tup,tyf])
   clear hN17
   try clear N17
   refine Xx rfl ?_
   refine Yk ?_
   try simp (maxSteps:=2000000) only [s50,↓Za,↓Zi,↓Zr,↓Ze,↓Zo,↓Zs,↓Zg,↓Zm,↓Zf,↓Zb,↓Zc,↓vdn,vup,Zk,Zn,Zl,Zh,Zj,List.map_cons,List.map_nil,cond_true,cond_false,aop,Zv,Zq,Zp,ev,sput,Zt,Zy,Ya,unK,Zd,Zw,Nat.reduceBEq,Nat.reduceAdd,Int.reduceBEq,Int.reduceBNe,Int.reduceLT,Zu,Zz,tup,tyf]
   refine hC [(0,v),(2,.int .i64 0),(3,.int .i64 0),(4,ptB gl),(5,.bool true)] _ _ ?_ (by simp (maxSteps:=2000000) only [↓Za,↓Zi,↓Zr,↓Ze,↓Zo,↓Zs,↓Zg,↓Zm,↓Zf,↓Zb,↓Zc,↓vdn,vup,Zk,Zn,Zl,Zh,Zj,List.map_cons,List.map_nil,cond_true,cond_false,aop,Zv,Zq,Zp,ev,sput,Zt,Zy,Ya,unK,Zd,Zw,Nat.reduceBEq,Nat.reduceAdd,Int.reduceBEq,Int.reduceBNe,Int.reduceLT,Zu,Zz,tup,tyf])
   clear hC
   try clear C
   have d0:(G++[Blk.map []]++[Blk.cells [.map (some G.length)] 100 false])[gl]? = some (.cells (Wa o) 77 false):=Yh (Yh hb _) _
   have d1:SK (G.length+1) G.length (G++[Blk.map []]++[Blk.cells [.map (some G.length)] 100 false]):=by
    refine ⟨?_,[],Yh (Yl _ _) _,fun p hp=>(List.not_mem_nil hp).elim,fun o n v _ hv=>by cases hv⟩
    have:=Yl (G++[Blk.map []]) (Blk.cells [.map (some G.length)] 100 false)
    rw [List.length_append,List.length_singleton] at this
    exact this
   have hE2:Ext (fun _=>False) g (G++[Blk.map []]++[Blk.cells [.map (some G.length)] 100 false]):=by rw [List.append_assoc]; exact hE.trans (Ext.app _ _ _)
   refine Yc fun N18 hN18=>?_
   simp (maxSteps:=2000000) only [s50,↓Za,↓Zi,↓Zr,↓Ze,↓Zo,↓Zs,↓Zg,↓Zm,↓Zf,↓Zb,↓Zc,↓vdn,vup,Zk,Zn,Zl,Zh,Zj,List.map_cons,List.map_nil,cond_true,cond_false,aop,Zv,Zq,Zp,ev,sput,Zt,Zy,Ya,unK,Zd,Zw,Nat.reduceBEq,Nat.reduceAdd,Int.reduceBEq,Int.reduceBNe,Int.reduceLT,Zu,Zz,tup,tyf,isPick_map,makeMapK,bld100,boxK,esz_100,cellsOf,Option.isSome_some,Ys,List.length_append,List.length_cons,List.length_nil,Nat.zero_add,Vd d0 Xb (Yu ho).2,Yx,List.nil_append,List.append_nil,List.toList_toArray,List.cons_append]
   refine (need_call ho d1).mono ?_
   rintro _ G3 ⟨rfl,hs3,hE3⟩
   try simp (maxSteps:=2000000) only [s50,↓Za,↓Zi,↓Zr,↓Ze,↓Zo,↓Zs,↓Zg,↓Zm,↓Zf,↓Zb,↓Zc,↓vdn,vup,Zk,Zn,Zl,Zh,Zj,List.map_cons,List.map_nil,cond_true,cond_false,aop,Zv,Zq,Zp,ev,sput,Zt,Zy,Ya,unK,Zd,Zw,Nat.reduceBEq,Nat.reduceAdd,Int.reduceBEq,Int.reduceBNe,Int.reduceLT,Zu,Zz,tup,tyf]
   refine hN18 [(0,v),(2,Zx (Ui o)),(3,.int .i64 0),(4,ptB gl),(5,.bool true)] _ _ ?_ (by simp (maxSteps:=2000000) only [↓Za,↓Zi,↓Zr,↓Ze,↓Zo,↓Zs,↓Zg,↓Zm,↓Zf,↓Zb,↓Zc,↓vdn,vup,Zk,Zn,Zl,Zh,Zj,List.map_cons,List.map_nil,cond_true,cond_false,aop,Zv,Zq,Zp,ev,sput,Zt,Zy,Ya,unK,Zd,Zw,Nat.reduceBEq,Nat.reduceAdd,Int.reduceBEq,Int.reduceBNe,Int.reduceLT,Zu,Zz,tup,tyf])
   clear hN18
   try clear N18
   refine Yk ?_
   try simp (maxSteps:=2000000) only [s50,↓Za,↓Zi,↓Zr,↓Ze,↓Zo,↓Zs,↓Zg,↓Zm,↓Zf,↓Zb,↓Zc,↓vdn,vup,Zk,Zn,Zl,Zh,Zj,List.map_cons,List.map_nil,cond_true,cond_false,aop,Zv,Zq,Zp,ev,sput,Zt,Zy,Ya,unK,Zd,Zw,Nat.reduceBEq,Nat.reduceAdd,Int.reduceBEq,Int.reduceBNe,Int.reduceLT,Zu,Zz,tup,tyf]
   rw [needV,ho]
   refine ⟨rfl,⟨Nat.le_trans hE2.1 hE3.1,fun i hi hf=>?_⟩⟩
   have:=hE.1
   rw [hE3.2 i (Nat.lt_of_lt_of_le hi hE2.1) (by omega)]
   exact hE2.2 i hi hf
end Go.Proofs.Tryd.Am
namespace Go.Am
section
variable {P:Program} {e e2:TypeId} {h:Yb} {v:Value} {ws:List Value} {Ls:List (List Int)}
def CapV (e:TypeId) (h:Yb) (v:Value) (ws:List Value):Prop:=(v = .slice none 0 0∧ws=[])∨(∃ (b:Nat) (ys:List Value),v = .slice (some ⟨b,0,none⟩) ws.length ws.length∧ws≠[]∧h[b]? = some (.cells (ws++ys) e false))
theorem OwnV.cap {t:TypeId} (ho:OwnV e h v ws) (he:elemOf' P t=some e) (hs:esz P e=some 1) {K:Value→Prop} (hk : ∀ v',CapV e h v' ws→K v') :
  Xz P t v none (some (Zx ws.length)) (some (Zx ws.length)) K:=by
 rcases ho with ⟨rfl,rfl⟩ | ⟨b,ys,rfl,hne,hb⟩
 · simp only [Xz,he,hs,bnd,Option.bind_some,Option.isSome_some]
   exact ⟨trivial,rfl,rfl,rfl,hk _ (.inl ⟨rfl,rfl⟩)⟩
 · simp only [Xz,he,hs,bnd]
   refine ⟨Int.le_refl _,by omega,by omega,by omega,rfl,?_⟩
   have h1:(if (ws.length:Int)=((0:Nat):Int) then 0 else 0+(((0:Nat):Int)).toNat*1)=0:=by split <;> rfl
   have h2:((ws.length:Int)-((0:Nat):Int)).toNat=ws.length:=by omega
   have h3:(ws.length:Int).toNat-((0:Nat):Int).toNat=ws.length:=by simp
   rw [h1,h2,h3]
   exact hk _ (.inr ⟨b,ys,rfl,hne,hb⟩)
theorem CapV.ext {h' : Yb} (c:CapV e h v ws) (hE:Ext (fun _=>False) h h'):CapV e h' v ws :=
 c.imp id fun ⟨b,ys,h1,h2,h3⟩=>⟨b,ys,h1,h2,(hE.2 b (Yd h3) id).trans h3⟩
theorem CapV.app {t t2:TypeId} {bytes:Nat} {x:Value} {us:List Value} (ho:CapV e h v ws) (hT:appT P t t2=some (e,1,bytes)) (hx:ValSl h x us) (hu0:us≠[]) (hw : ∀ w∈ws++us,notI w=true∧one w=true) (hn:(ws.length+us.length)*bytes≤140737488355328)
  {K:Value→Yb→Prop} (hk : ∀ v',OwnV e (h++[.cells (ws++us) e false]) v' (ws++us)→K v' (h++[.cells (ws++us) e false])):Xi P h t t2 v x K:=by
 have hul:us.length≠0:=fun h=>hu0 (List.length_eq_zero_iff.1 h)
 simp only [Xi,hT]
 refine hx.elems ?_
 rcases ho with ⟨rfl,rfl⟩ | ⟨b,ys,rfl,hne,hb⟩
 · simp only [putK]
   refine ⟨fun h0=>absurd h0 hul,fun h0=>⟨by simpa using hn,?_⟩⟩
   rw [mkb_no hu0 (fun w h=>(hw w (by simp [h])).1)]
   refine hk _ (.inr ⟨h.length,[],by simp,by simpa using hu0,?_⟩)
   rw [List.getElem?_append_right (Nat.le_refl _)]
   simp
 · simp only [putK,hb]
   refine ⟨fun hroom=>by omega,fun _=>⟨hn,?_⟩⟩
   rw [Vs (c:=ws++ys) (e:=e) (ro:=false) (by simp [view,hb,Blk.view]) (.inl (by rw [Vh hb]; rfl))]
   have e1:List.take (ws.length*1) (List.drop 0 (ws++ys))=ws:=by simp
   refine ⟨by simp,?_⟩
   rw [e1,mkb_no (by simp [hne]) (fun w h=>(hw w h).1)]
   refine hk _ (.inr ⟨h.length,[],by simp,by simp [hne],?_⟩)
   rw [List.getElem?_append_right (Nat.le_refl _)]
   simp
end
end Go.Am
namespace Go.Proofs.Tryd.Am
open Go.Am Ord
set_option maxRecDepth 100000
set_option maxHeartbeats 4000000
end Go.Proofs.Tryd.Am
namespace Go.Proofs.Tryd.Am
open Go.Am Ord
set_option maxRecDepth 100000
set_option maxHeartbeats 4000000
end Go.Proofs.Tryd.Am
namespace Go.Proofs.Tryd.Am
open Go.Am Ord
set_option maxRecDepth 100000
set_option maxHeartbeats 4000000
theorem take_F {o:List Int} (h:ord o=false):ord (o.take 9)=false:=by rw [ord_take]; exact h
theorem ints_take {o:List Int} {h:Yb} {x:Value} {e:Int} (hi:IntsIs (o.take 9) (Xu (o.take 9)) h x e):IntsIs o (Xu o) h x e:=by
 cases ho:ord o with
 | true=>rw [ord_take_eq ho] at hi; exact hi
 | false=>rw [IntsIs,take_F ho,if_neg (by decide)] at hi; rw [IntsIs,ho,if_neg (by decide)]; exact hi
end Go.Proofs.Tryd.Am
namespace Go.Proofs.Tryd.Am
open Go.Am Ord
set_option maxRecDepth 100000
set_option maxHeartbeats 1000000
def frV (x y:Int):Value:=.agg #[Zx x,Zx y]
theorem low_frV (x y:Int):Low (frV x y):=.agg fun w hw=>by
 simp at hw; rcases hw with rfl | rfl <;> exact .int _ _
theorem loadF {h:Yb} {b:Nat} {x y:Int} {e:TypeId} {ro:Bool} {K:Value→Prop} (hb:h[b]? = some (.cells [Zx x,Zx y] e ro)):Xw prog h 37 (.pointer (some ⟨b,0,none⟩)) K=K (.agg #[Zx x,Zx y]) :=
 loadA hb (by rw [shp_37]; rfl)
theorem storeF {h:Yb} {b:Nat} {x y:Int} {e:TypeId} {c:List Value} {K:Yb→Prop} (hb:h[b]? = some (.cells c e false)) (hc:c.length=2):Xv prog h 37 (.pointer (some ⟨b,0,none⟩)) (.agg #[Zx x,Zx y]) K=K (h.set b (.cells [Zx x,Zx y] e false)) :=
 storeA (vs:=[Zx x,Zx y]) hb (by rw [shp_37]; rfl) rfl (by rw [hc]; rfl)
theorem bldF {x y:Int} {K:Value→Prop}:Wv prog 37 [(0,Zx x),(1,Zx y)] K=K (.agg #[Zx x,Zx y]):=by
 simp [Wv,zero_37,Ub,pl_37_0,pl_37_1,Wp,cellsOf,Yp]
theorem bldF0 {K:Value→Prop}:Wv prog 37 [] K=K (.agg #[Zx 0,Zx 0]):=by
 simp [Wv,zero_37,Ub,pl_37_0]
theorem tmodN (x y:Nat):((x:Nat):Int).tmod ((y:Nat):Int)=((x % y:Nat):Int):=by
 rw [Int.tmod_eq_emod_of_nonneg (by omega)]; rfl
theorem quoN {x y:Nat} (hx:x<9223372036854775808):quoV .i64 ((x:Nat):Int) ((y:Nat):Int)=((x / y:Nat):Int):=by
 have e:((x:Nat):Int).tdiv ((y:Nat):Int)=((x / y:Nat):Int):=by
  rw [Int.tdiv_eq_ediv_of_nonneg (by omega)]; rfl
 have h1:=Nat.div_le_self x y
 rw [quoV,e]
 generalize x / y=z at h1
 exact wrap_id (by omega) (by omega)
def fracV (a b:Nat):Value:=frV ((a / Nat.gcd a b:Nat):Int) ((b / Nat.gcd a b:Nat):Int)
theorem frac_call [Tabs prog] {h:Yb} {a b:Nat} (hb:0<b) (ha:a<9223372036854775808) (hb2:b<9223372036854775808):APure prog 73 [Zx a,Zx b] h (fracV a b):=by
 have hg:0<Nat.gcd a b:=Nat.gcd_pos_of_pos_right a hb
 refine ACall.forget (low_frV _ _) ?_
 refine s73_call (by simp) ?_
 simp only [s73]
 have c0:=Yl h (Blk.cells [.int .i64 0,.int .i64 0] 37 false)
 have hE0:Ext (fun _=>False) h (h++[Blk.cells [.int .i64 0,.int .i64 0] 37 false]):=Ext.app _ _ _
 simp (maxSteps:=2000000) only [s73,↓Za,↓Zi,↓Zr,↓Ze,↓Zo,↓Zs,↓Zg,↓Zm,↓Zf,↓Zb,↓Zc,↓vdn,vup,Zk,Zn,Zl,Zh,Zj,List.map_cons,List.map_nil,cond_true,cond_false,aop,Zv,Zq,Zp,ev,sput,Zt,Zy,Ya,unK,Zd,Zw,Nat.reduceBEq,Nat.reduceAdd,Int.reduceBEq,Int.reduceBNe,Int.reduceLT,Zu,Zz,tup,tyf,Xr,Ys,zero_37,↓Vl]
 refine Yn fun Q hQ=>?_
 refine aw_loop (γ:=Nat×Nat) (fun s=>Nat.gcd s.1 s.2=Nat.gcd a b∧s.1<9223372036854775808∧s.2<9223372036854775808)
  (fun s=>([(0,Zx a),(1,Zx b),(4,.pointer (some ⟨h.length,0,none⟩)),(5,Zx s.1),(6,Zx s.2)],h++[Blk.cells [.int .i64 0,.int .i64 0] 37 false])) (fun s=>s.2) (a,b) ⟨rfl,ha,hb2⟩ (by simp (maxSteps:=2000000) only [↓Za,↓Zi,↓Zr,↓Ze,↓Zo,↓Zs,↓Zg,↓Zm,↓Zf,↓Zb,↓Zc,↓vdn,vup,Zk,Zn,Zl,Zh,Zj,List.map_cons,List.map_nil,cond_true,cond_false,aop,Zv,Zq,Zp,ev,sput,Zt,Zy,Ya,unK,Zd,Zw,Nat.reduceBEq,Nat.reduceAdd,Int.reduceBEq,Int.reduceBNe,Int.reduceLT,Zu,Zz,tup,tyf]) rfl ?_
 rintro ⟨x,y⟩ ⟨hxy,hx,hy⟩
 simp only at hxy hx hy
 refine aw_hide fun Q2 hQ2=>?_
 by_cases hy0:y=0
 · subst hy0
   have e0:(((0:Nat):Int) != 0)=false:=rfl
   rw [Nat.gcd_zero_right] at hxy
   subst hxy
   simp (maxSteps:=2000000) only [s73,↓Za,↓Zi,↓Zr,↓Ze,↓Zo,↓Zs,↓Zg,↓Zm,↓Zf,↓Zb,↓Zc,↓vdn,vup,Zk,Zn,Zl,Zh,Zj,List.map_cons,List.map_nil,cond_true,cond_false,aop,Zv,Zq,Zp,ev,sput,Zt,Zy,Ya,unK,Zd,Zw,Nat.reduceBEq,Nat.reduceAdd,Int.reduceBEq,Int.reduceBNe,Int.reduceLT,Zu,Zz,tup,tyf,l73_0,e0]
   refine hQ2 _ _ _ (hQ _ _ _ ?_)
   have hg0 : ¬ ((Nat.gcd a b:Nat):Int)=0:=by omega
   simp only [Zq,if_true,Zv]
   refine Xp [] (by kernel_rfl) (by kernel_rfl) (by kernel_rfl) (by kernel_rfl) ?_
   have c1 : ∀ {x y:Int} {K:Value→Prop},Xw prog ((h++[Blk.cells [.int .i64 0,.int .i64 0] 37 false]).set h.length (.cells [Zx x,Zx y] 37 false)) 37 (.pointer (some ⟨h.length,0,none⟩)) K=K (.agg #[Zx x,Zx y]):=fun {x y K}=>loadF (Xc (by simp) _)
   simp (maxSteps:=2000000) only [s73,↓Za,↓Zi,↓Zr,↓Ze,↓Zo,↓Zs,↓Zg,↓Zm,↓Zf,↓Zb,↓Zc,↓vdn,vup,Zk,Zn,Zl,Zh,Zj,List.map_cons,List.map_nil,cond_true,cond_false,aop,Zv,Zq,Zp,ev,sput,Zt,Zy,Ya,unK,Zd,Zw,Nat.reduceBEq,Nat.reduceAdd,Int.reduceBEq,Int.reduceBNe,Int.reduceLT,Zu,Zz,tup,tyf,ne_eq,hg0,not_false_eq_true,quoN ha,quoN hb2,List.toList_toArray,bldF,storeF c0 rfl,c1]
   exact ⟨rfl,by simp,fun i hi _=>by rw [List.getElem?_set_ne (by omega),List.getElem?_append_left hi]⟩
 · have e0:(((y:Nat):Int) != 0)=true:=by
    have:((y:Nat):Int)≠0:=by omega
    simpa using this
   have e1 : ¬ ((y:Nat):Int)=0:=by omega
   simp (maxSteps:=2000000) only [s73,↓Za,↓Zi,↓Zr,↓Ze,↓Zo,↓Zs,↓Zg,↓Zm,↓Zf,↓Zb,↓Zc,↓vdn,vup,Zk,Zn,Zl,Zh,Zj,List.map_cons,List.map_nil,cond_true,cond_false,aop,Zv,Zq,Zp,ev,sput,Zt,Zy,Ya,unK,Zd,Zw,Nat.reduceBEq,Nat.reduceAdd,Int.reduceBEq,Int.reduceBNe,Int.reduceLT,Zu,Zz,tup,tyf,l73_0,e0]
   refine Xp [] (by kernel_rfl) (by kernel_rfl) (by kernel_rfl) (by kernel_rfl) ?_
   simp (maxSteps:=2000000) only [s73,↓Za,↓Zi,↓Zr,↓Ze,↓Zo,↓Zs,↓Zg,↓Zm,↓Zf,↓Zb,↓Zc,↓vdn,vup,Zk,Zn,Zl,Zh,Zj,List.map_cons,List.map_nil,cond_true,cond_false,aop,Zv,Zq,Zp,ev,sput,Zt,Zy,Ya,unK,Zd,Zw,Nat.reduceBEq,Nat.reduceAdd,Int.reduceBEq,Int.reduceBNe,Int.reduceLT,Zu,Zz,tup,tyf,ne_eq,e1,not_false_eq_true,tmodN]
   have hlt:=Nat.mod_lt x (show y > 0 by omega)
   refine hQ2 _ _ _ ⟨(y,x % y),⟨?_,hy,by simp only; omega⟩,hlt,by simp (maxSteps:=2000000) only [↓Za,↓Zi,↓Zr,↓Ze,↓Zo,↓Zs,↓Zg,↓Zm,↓Zf,↓Zb,↓Zc,↓vdn,vup,Zk,Zn,Zl,Zh,Zj,List.map_cons,List.map_nil,cond_true,cond_false,aop,Zv,Zq,Zp,ev,sput,Zt,Zy,Ya,unK,Zd,Zw,Nat.reduceBEq,Nat.reduceAdd,Int.reduceBEq,Int.reduceBNe,Int.reduceLT,Zu,Zz,tup,tyf],rfl⟩
   simp only
   rw [← hxy,Nat.gcd_comm x y,Nat.gcd_rec y x,Nat.gcd_comm]
end Go.Proofs.Tryd.Am
namespace Go.Proofs.Tryd.Am
open Go.Am Ord
set_option maxRecDepth 100000
set_option maxHeartbeats 1000000
def hTo (o:List Int) (i:Nat):Nat→Nat
 | 0=>0
 | k+1=>hTo o i k+((Yq o).getD k []).idxOf i
theorem frac_form (a b:Nat) : ∃ p q,fracV a b = .agg #[Zx p,Zx q]:=⟨_,_,rfl⟩
end Go.Proofs.Tryd.Am
namespace Go.Proofs.Tryd.Am
open Go.Am Ord
set_option maxRecDepth 100000
set_option maxHeartbeats 1000000
def heightV (o:List Int) (i:Int):Value:=if ord o=true∧elI o i=true then .tuple #[fracV (hsum o i.toNat) (cn o),.int .i64 0] else .tuple #[frV 0 0,.int .i64 2]
theorem low_height (o:List Int) (i:Int):Low (heightV o i):=by
 unfold heightV; split <;> exact .pair (low_frV _ _) (.int _ _)
theorem hsum_to (o:List Int) (i:Nat) : ∀ k,(((List.range (k+1)).filter fun j=>decide (j≠i)).map fun j=>befN o j i).sum=(((List.range k).filter fun j=>decide (j≠i)).map fun j=>befN o j i).sum+if k=i then 0 else befN o k i:=by
 intro k
 rw [List.range_succ,List.filter_append,List.map_append,List.sum_append,List.filter_cons]
 by_cases h:k=i
 · rw [if_neg (by simpa using h),if_pos h]; rfl
 · rw [if_pos (by simpa using h),if_neg h]; simp
def hsTo (o:List Int) (i k:Nat):Nat:=(((List.range k).filter fun j=>decide (j≠i)).map fun j=>befN o j i).sum
theorem hsTo_mono (o:List Int) (i:Nat) : ∀ {a b:Nat},a≤b→hsTo o i a≤hsTo o i b
 | a,0,h=>by obtain rfl:a=0:=by omega
             exact Nat.le_refl _
 | a,b+1,h=>by
   rcases Nat.lt_or_ge a (b+1) with h' | h'
   · exact Nat.le_trans (hsTo_mono o i (show a≤b by omega)) (by rw [hsTo,hsTo,hsum_to]; exact Nat.le_add_right _ _)
   · obtain rfl:a=b+1:=by omega
     exact Nat.le_refl _
theorem height_call [BitTab prog 1] {h:Yb} {v:Value} {o:List Int} {i:Int} (hv:IntSl h v o) (hl:o.length<9223372036854775808) (hx : ∀ x∈o,-9223372036854775808≤x∧x<9223372036854775808):APure prog 26 [v,Zx i] h (heightV o i):=by
 refine ACall.forget (low_height o i) ?_
 refine s26_call (by simp) ?_
 simp only [s26]
 refine Wj fun N hN=>?_
 simp (maxSteps:=2000000) only [s26,↓Za,↓Zi,↓Zr,↓Ze,↓Zo,↓Zs,↓Zg,↓Zm,↓Zf,↓Zb,↓Zc,↓vdn,vup,Zk,Zn,Zl,Zh,Zj,List.map_cons,List.map_nil,cond_true,cond_false,aop,Zv,Zq,Zp,ev,sput,Zt,Zy,Ya,unK,Zd,Zw,Nat.reduceBEq,Nat.reduceAdd,Int.reduceBEq,Int.reduceBNe,Int.reduceLT,Zu,Zz,tup,tyf,Xr,Ys,zero_37]
 refine hN _ _ ?_
 clear hN N
 obtain ⟨n,hn⟩ : ∃ n,n=h.length:=⟨_,rfl⟩
 have c0:=Yl h (Blk.cells [.int .i64 0,.int .i64 0] 37 false)
 have hE0:Ext (fun _=>False) h (h++[Blk.cells [.int .i64 0,.int .i64 0] 37 false]):=Ext.app _ _ _
 have hnl:n<(h++[Blk.cells [.int .i64 0,.int .i64 0] 37 false]).length:=by rw [hn]; simp
 rw [← hn] at c0 ⊢
 generalize h++[Blk.cells [.int .i64 0,.int .i64 0] 37 false]=h1 at c0 hE0 hnl ⊢
 have hv1:=Wb hv hE0
 refine Wj fun N hN=>?_
 simp (maxSteps:=2000000) only [s26,↓Za,↓Zi,↓Zr,↓Ze,↓Zo,↓Zs,↓Zg,↓Zm,↓Zf,↓Zb,↓Zc,↓vdn,vup,Zk,Zn,Zl,Zh,Zj,List.map_cons,List.map_nil,cond_true,cond_false,aop,Zv,Zq,Zp,ev,sput,Zt,Zy,Ya,unK,Zd,Zw,Nat.reduceBEq,Nat.reduceAdd,Int.reduceBEq,Int.reduceBNe,Int.reduceLT,Zu,Zz,tup,tyf,Yx,List.nil_append,List.append_nil,List.toList_toArray,List.cons_append]
 refine (read_call hv1 hl hx).mono ?_
 rintro _ g ⟨rfl,rfl⟩
 simp (maxSteps:=2000000) only [s26,↓Za,↓Zi,↓Zr,↓Ze,↓Zo,↓Zs,↓Zg,↓Zm,↓Zf,↓Zb,↓Zc,↓vdn,vup,Zk,Zn,Zl,Zh,Zj,List.map_cons,List.map_nil,cond_true,cond_false,aop,Zv,Zq,Zp,ev,sput,Zt,Zy,Ya,unK,Zd,Zw,Nat.reduceBEq,Nat.reduceAdd,Int.reduceBEq,Int.reduceBNe,Int.reduceLT,Zu,Zz,tup,tyf,Xr,Ys,zeroN,zero_77]
 rw [storeRd]
 refine hN _ _ ?_
 clear hN N
 obtain ⟨hE,hb⟩:=rdBox g o
 generalize hgl:g.length=gl at hE hb hnl ⊢
 generalize (g++[Blk.cells (ordN 0) 77 false]).set gl (.cells (rdC o) 77 false)=G at hE hb ⊢
 have c1:G[n]? = some (.cells [.int .i64 0,.int .i64 0] 37 false):=(hE.2 n (by omega) id).trans c0
 have hE1:=hE0.trans hE
 have cS : ∀ {x y:Int} {K:Value→Prop},Xw prog (G.set n (.cells [Zx x,Zx y] 37 false)) 37 (.pointer (some ⟨n,0,none⟩)) K=K (.agg #[Zx x,Zx y]):=fun {x y K}=>loadF (Xc (Yd c1) _)
 have hES : ∀ B:Blk,Ext (fun _=>False) h (G.set n B):=fun B=>⟨by have:=hE1.1; simp; exact this,fun q hq _=>by rw [List.getElem?_set_ne (by omega)]; exact hE1.2 q hq id⟩
 refine Wj fun N hN=>?_
 cases ho:ord o with
 | false =>
   rw [heightV,if_neg (fun h=>by rw [h.1] at ho; cases ho)]
   simp (maxSteps:=2000000) only [s26,↓Za,↓Zi,↓Zr,↓Ze,↓Zo,↓Zs,↓Zg,↓Zm,↓Zf,↓Zb,↓Zc,↓vdn,vup,Zk,Zn,Zl,Zh,Zj,List.map_cons,List.map_nil,cond_true,cond_false,aop,Zv,Zq,Zp,ev,sput,Zt,Zy,Ya,unK,Zd,Zw,Nat.reduceBEq,Nat.reduceAdd,Int.reduceBEq,Int.reduceBNe,Int.reduceLT,Zu,Zz,tup,tyf,ho,List.toList_toArray,List.map_nil,bldF0,storeF c1 rfl,cS]
   exact ⟨rfl,hES _⟩
 | true =>
   have hlen:=Yu ho
   have hrd:rdC o=Wa o:=if_pos hlen
   rw [hrd] at hb
   cases hi:elI o i with
   | false =>
     rw [heightV,if_neg (fun h=>by rw [h.2] at hi; cases hi)]
     rw [elI] at hi
     simp (maxSteps:=2000000) only [s26,↓Za,↓Zi,↓Zr,↓Ze,↓Zo,↓Zs,↓Zg,↓Zm,↓Zf,↓Zb,↓Zc,↓vdn,vup,Zk,Zn,Zl,Zh,Zj,List.map_cons,List.map_nil,cond_true,cond_false,aop,Zv,Zq,Zp,ev,sput,Zt,Zy,Ya,unK,Zd,Zw,Nat.reduceBEq,Nat.reduceAdd,Int.reduceBEq,Int.reduceBNe,Int.reduceLT,Zu,Zz,tup,tyf,ho,Vd hb Xb hlen.2,Yx,List.nil_append,List.append_nil,List.toList_toArray,List.cons_append]
     refine element_call.mono ?_
     rintro _ _ ⟨rfl,rfl⟩
     simp (maxSteps:=2000000) only [s26,↓Za,↓Zi,↓Zr,↓Ze,↓Zo,↓Zs,↓Zg,↓Zm,↓Zf,↓Zb,↓Zc,↓vdn,vup,Zk,Zn,Zl,Zh,Zj,List.map_cons,List.map_nil,cond_true,cond_false,aop,Zv,Zq,Zp,ev,sput,Zt,Zy,Ya,unK,Zd,Zw,Nat.reduceBEq,Nat.reduceAdd,Int.reduceBEq,Int.reduceBNe,Int.reduceLT,Zu,Zz,tup,tyf,hi,List.toList_toArray,List.map_nil,bldF0,storeF c1 rfl,cS]
     exact ⟨rfl,hES _⟩
   | true =>
     have hi':=hi
     simp only [elI,Bool.and_eq_true,decide_eq_true_eq] at hi'
     obtain ⟨i,rfl⟩ : ∃ k:Nat,i=k:=⟨i.toNat,by omega⟩
     have hi2:((i:Nat):Int)<o.length:=hi'.2
     have hil:i<o.length:=by omega
     have hcl:=cn_le ho
     have hcp:=cn_pos ho
     have hhl:=hsum_le ho hil
     simp (maxSteps:=2000000) only [s26,↓Za,↓Zi,↓Zr,↓Ze,↓Zo,↓Zs,↓Zg,↓Zm,↓Zf,↓Zb,↓Zc,↓vdn,vup,Zk,Zn,Zl,Zh,Zj,List.map_cons,List.map_nil,cond_true,cond_false,aop,Zv,Zq,Zp,ev,sput,Zt,Zy,Ya,unK,Zd,Zw,Nat.reduceBEq,Nat.reduceAdd,Int.reduceBEq,Int.reduceBNe,Int.reduceLT,Zu,Zz,tup,tyf,ho,Vd hb Xb hlen.2,Yx,List.nil_append,List.append_nil,List.toList_toArray,List.cons_append]
     refine element_call.mono ?_
     rintro _ _ ⟨rfl,rfl⟩
     simp (maxSteps:=2000000) only [s26,↓Za,↓Zi,↓Zr,↓Ze,↓Zo,↓Zs,↓Zg,↓Zm,↓Zf,↓Zb,↓Zc,↓vdn,vup,Zk,Zn,Zl,Zh,Zj,List.map_cons,List.map_nil,cond_true,cond_false,aop,Zv,Zq,Zp,ev,sput,Zt,Zy,Ya,unK,Zd,Zw,Nat.reduceBEq,Nat.reduceAdd,Int.reduceBEq,Int.reduceBNe,Int.reduceLT,Zu,Zz,tup,tyf,hi2,Bool.true_and]
     refine hN _ _ ?_
     clear hN N
     refine Wj fun N hN=>?_
     simp (maxSteps:=2000000) only [s26,↓Za,↓Zi,↓Zr,↓Ze,↓Zo,↓Zs,↓Zg,↓Zm,↓Zf,↓Zb,↓Zc,↓vdn,vup,Zk,Zn,Zl,Zh,Zj,List.map_cons,List.map_nil,cond_true,cond_false,aop,Zv,Zq,Zp,ev,sput,Zt,Zy,Ya,unK,Zd,Zw,Nat.reduceBEq,Nat.reduceAdd,Int.reduceBEq,Int.reduceBNe,Int.reduceLT,Zu,Zz,tup,tyf]
     refine hN _ _ ?_
     clear hN N
     rename_i G
     refine Wj fun N hN=>?_
     simp (maxSteps:=2000000) only [s26,↓Za,↓Zi,↓Zr,↓Ze,↓Zo,↓Zs,↓Zg,↓Zm,↓Zf,↓Zb,↓Zc,↓vdn,vup,Zk,Zn,Zl,Zh,Zj,List.map_cons,List.map_nil,cond_true,cond_false,aop,Zv,Zq,Zp,ev,sput,Zt,Zy,Ya,unK,Zd,Zw,Nat.reduceBEq,Nat.reduceAdd,Int.reduceBEq,Int.reduceBNe,Int.reduceLT,Zu,Zz,tup,tyf,fldA Vy Xt,loadN hb Xf,↓Vl]
     refine Yn fun Q hQ=>?_
     refine aw_loop (γ:=Nat) (fun k=>k≤o.length)
      (fun k=>([(0,v),(1,Zx (i:Nat)),(4,.pointer (some ⟨n,0,none⟩)),(5,.int .i64 0),(6,.pointer (some ⟨gl,0,none⟩)),(8,Zx (hsTo o i k:Nat)),(25,Zx o.length),(26,Zx k)],G)) (fun k=>o.length-k) 0 (Nat.zero_le _) (by simp (maxSteps:=2000000) only [↓Za,↓Zi,↓Zr,↓Ze,↓Zo,↓Zs,↓Zg,↓Zm,↓Zf,↓Zb,↓Zc,↓vdn,vup,Zk,Zn,Zl,Zh,Zj,List.map_cons,List.map_nil,cond_true,cond_false,aop,Zv,Zq,Zp,ev,sput,Zt,Zy,Ya,unK,Zd,Zw,Nat.reduceBEq,Nat.reduceAdd,Int.reduceBEq,Int.reduceBNe,Int.reduceLT,Zu,Zz,tup,tyf,Int.natCast_zero,show hsTo o i 0=0 from rfl]) rfl ?_
     intro k hk
     refine aw_hide fun Q2 hQ2=>?_
     by_cases hkn:(k:Int)<o.length
     · have hkn' : k<o.length:=by omega
       have hnx:hsTo o i (k+1)=hsTo o i k+if k=i then 0 else befN o k i:=hsum_to o i k
       have hle:hsTo o i (k+1)≤hsum o i:=hsTo_mono o i (show k+1≤o.length by omega)
       by_cases hki:k=i
       · have hne:((k:Int) != (i:Int))=false:=by rw [hki]; exact bne_self_eq_false _
         replace hnx:hsTo o i (k+1)=hsTo o i k:=by rw [hnx,if_pos hki]; rfl
         simp (maxSteps:=2000000) only [s26,↓Za,↓Zi,↓Zr,↓Ze,↓Zo,↓Zs,↓Zg,↓Zm,↓Zf,↓Zb,↓Zc,↓vdn,vup,Zk,Zn,Zl,Zh,Zj,List.map_cons,List.map_nil,cond_true,cond_false,aop,Zv,Zq,Zp,ev,sput,Zt,Zy,Ya,unK,Zd,Zw,Nat.reduceBEq,Nat.reduceAdd,Int.reduceBEq,Int.reduceBNe,Int.reduceLT,Zu,Zz,tup,tyf,l26_0,hkn,hne,add1 (show k<9223372036854775807 by omega)]
         exact hQ2 _ _ _ ⟨k+1,by omega,by omega,by simp (maxSteps:=2000000) only [↓Za,↓Zi,↓Zr,↓Ze,↓Zo,↓Zs,↓Zg,↓Zm,↓Zf,↓Zb,↓Zc,↓vdn,vup,Zk,Zn,Zl,Zh,Zj,List.map_cons,List.map_nil,cond_true,cond_false,aop,Zv,Zq,Zp,ev,sput,Zt,Zy,Ya,unK,Zd,Zw,Nat.reduceBEq,Nat.reduceAdd,Int.reduceBEq,Int.reduceBNe,Int.reduceLT,Zu,Zz,tup,tyf,hnx],rfl⟩
       · have hne:((k:Int) != (i:Int))=true:=by
          have:(k:Int)≠(i:Int):=by omega
          simpa using this
         replace hnx:hsTo o i (k+1)=hsTo o i k+befN o k i:=by rw [hnx,if_neg hki]
         have ha:addV .i64 ((hsTo o i k:Nat):Int) ((befN o k i:Nat):Int)=((hsTo o i (k+1):Nat):Int):=by
          rw [addV_id (by omega) (by omega),hnx]; omega
         simp (maxSteps:=2000000) only [s26,↓Za,↓Zi,↓Zr,↓Ze,↓Zo,↓Zs,↓Zg,↓Zm,↓Zf,↓Zb,↓Zc,↓vdn,vup,Zk,Zn,Zl,Zh,Zj,List.map_cons,List.map_nil,cond_true,cond_false,aop,Zv,Zq,Zp,ev,sput,Zt,Zy,Ya,unK,Zd,Zw,Nat.reduceBEq,Nat.reduceAdd,Int.reduceBEq,Int.reduceBNe,Int.reduceLT,Zu,Zz,tup,tyf,l26_0,hkn,hne,Vd hb Xb hlen.2,Yx,List.nil_append,List.append_nil,List.toList_toArray,List.cons_append]
         refine (before_call ho hkn' hil).mono ?_
         rintro _ _ ⟨rfl,rfl⟩
         simp (maxSteps:=2000000) only [s26,↓Za,↓Zi,↓Zr,↓Ze,↓Zo,↓Zs,↓Zg,↓Zm,↓Zf,↓Zb,↓Zc,↓vdn,vup,Zk,Zn,Zl,Zh,Zj,List.map_cons,List.map_nil,cond_true,cond_false,aop,Zv,Zq,Zp,ev,sput,Zt,Zy,Ya,unK,Zd,Zw,Nat.reduceBEq,Nat.reduceAdd,Int.reduceBEq,Int.reduceBNe,Int.reduceLT,Zu,Zz,tup,tyf,ha,add1 (show k<9223372036854775807 by omega)]
         exact hQ2 _ _ _ ⟨k+1,by omega,by omega,by simp (maxSteps:=2000000) only [↓Za,↓Zi,↓Zr,↓Ze,↓Zo,↓Zs,↓Zg,↓Zm,↓Zf,↓Zb,↓Zc,↓vdn,vup,Zk,Zn,Zl,Zh,Zj,List.map_cons,List.map_nil,cond_true,cond_false,aop,Zv,Zq,Zp,ev,sput,Zt,Zy,Ya,unK,Zd,Zw,Nat.reduceBEq,Nat.reduceAdd,Int.reduceBEq,Int.reduceBNe,Int.reduceLT,Zu,Zz,tup,tyf],rfl⟩
     obtain rfl:k=o.length:=by omega
     simp (maxSteps:=2000000) only [s26,↓Za,↓Zi,↓Zr,↓Ze,↓Zo,↓Zs,↓Zg,↓Zm,↓Zf,↓Zb,↓Zc,↓vdn,vup,Zk,Zn,Zl,Zh,Zj,List.map_cons,List.map_nil,cond_true,cond_false,aop,Zv,Zq,Zp,ev,sput,Zt,Zy,Ya,unK,Zd,Zw,Nat.reduceBEq,Nat.reduceAdd,Int.reduceBEq,Int.reduceBNe,Int.reduceLT,Zu,Zz,tup,tyf,l26_0,Int.lt_irrefl]
     refine hQ2 _ _ _ (hQ _ _ _ ?_)
     simp (maxSteps:=2000000) only [s26,↓Za,↓Zi,↓Zr,↓Ze,↓Zo,↓Zs,↓Zg,↓Zm,↓Zf,↓Zb,↓Zc,↓vdn,vup,Zk,Zn,Zl,Zh,Zj,List.map_cons,List.map_nil,cond_true,cond_false,aop,Zv,Zq,Zp,ev,sput,Zt,Zy,Ya,unK,Zd,Zw,Nat.reduceBEq,Nat.reduceAdd,Int.reduceBEq,Int.reduceBNe,Int.reduceLT,Zu,Zz,tup,tyf,if_true]
     refine hN _ _ ?_
     have hsa:hsTo o i o.length=hsum o i:=rfl
     rw [hsa,heightV,if_pos ⟨ho,hi⟩,Int.toNat_natCast]
     simp (maxSteps:=2000000) only [s26,↓Za,↓Zi,↓Zr,↓Ze,↓Zo,↓Zs,↓Zg,↓Zm,↓Zf,↓Zb,↓Zc,↓vdn,vup,Zk,Zn,Zl,Zh,Zj,List.map_cons,List.map_nil,cond_true,cond_false,aop,Zv,Zq,Zp,ev,sput,Zt,Zy,Ya,unK,Zd,Zw,Nat.reduceBEq,Nat.reduceAdd,Int.reduceBEq,Int.reduceBNe,Int.reduceLT,Zu,Zz,tup,tyf,Vd hb Xb hlen.2,Yx,List.nil_append,List.append_nil,List.toList_toArray,List.cons_append]
     refine (Wy ho).mono ?_
     rintro _ _ ⟨rfl,rfl⟩
     refine (frac_call hcp (by omega) (by omega)).mono ?_
     rintro _ _ ⟨rfl,rfl⟩
     obtain ⟨p,q,hpq⟩:=frac_form (hsum o i) (cn o)
     rw [hpq]
     simp (maxSteps:=2000000) only [s26,↓Za,↓Zi,↓Zr,↓Ze,↓Zo,↓Zs,↓Zg,↓Zm,↓Zf,↓Zb,↓Zc,↓vdn,vup,Zk,Zn,Zl,Zh,Zj,List.map_cons,List.map_nil,cond_true,cond_false,aop,Zv,Zq,Zp,ev,sput,Zt,Zy,Ya,unK,Zd,Zw,Nat.reduceBEq,Nat.reduceAdd,Int.reduceBEq,Int.reduceBNe,Int.reduceLT,Zu,Zz,tup,tyf,storeF c1 rfl,cS]
     exact hES _
end Go.Proofs.Tryd.Am
namespace Go.Proofs.Tryd.Am
open Go.Am
set_option maxRecDepth 100000
/-! 42: planchet planchetlaw07.right -/
@[reducible] def q42_0:SCode:=.region [⟨some 2,.box 37 (.tmp 0),none⟩,
  ⟨some 4,.assign (.const (.bool false)),none⟩]
@[reducible] def q42_1:SCode:=.region [⟨some 5,.fieldAddr 37 (.tmp 2) 1,none⟩,
  ⟨some 6,.load 3 (.tmp 5),none⟩,
  ⟨some 7,.binOp .geq 3 (.tmp 6) (.const (.int .i64 1)) 3,none⟩,
  ⟨some 8,.move (.tmp 7),none⟩,
  ⟨some 9,.fieldAddr 37 (.tmp 2) 1,some (8,true)⟩,
  ⟨some 10,.load 3 (.tmp 9),some (8,true)⟩,
  ⟨some 11,.binOp .leq 3 (.tmp 10) (.const (.int .i64 720)) 3,some (8,true)⟩,
  ⟨some 12,.pick (.tmp 8) (.tmp 11) (.const (.bool false)),none⟩,
  ⟨some 13,.move (.tmp 12),none⟩,
  ⟨some 14,.fieldAddr 37 (.tmp 2) 0,some (13,true)⟩,
  ⟨some 15,.load 3 (.tmp 14),some (13,true)⟩,
  ⟨some 16,.binOp .geq 3 (.tmp 15) (.const (.int .i64 0)) 3,some (13,true)⟩,
  ⟨some 17,.pick (.tmp 13) (.tmp 16) (.const (.bool false)),none⟩,
  ⟨some 18,.move (.tmp 17),none⟩,
  ⟨some 19,.fieldAddr 37 (.tmp 2) 0,some (18,true)⟩,
  ⟨some 20,.load 3 (.tmp 19),some (18,true)⟩,
  ⟨some 21,.move (.tmp 1),some (18,true)⟩,
  ⟨some 22,.fieldAddr 37 (.tmp 2) 1,some (18,true)⟩,
  ⟨some 23,.load 3 (.tmp 22),some (18,true)⟩,
  ⟨some 24,.binOp .mul 3 (.tmp 21) (.tmp 23) 3,some (18,true)⟩,
  ⟨some 25,.binOp .leq 3 (.tmp 20) (.tmp 24) 3,some (18,true)⟩,
  ⟨some 26,.pick (.tmp 18) (.tmp 25) (.const (.bool false)),none⟩,
  ⟨some 4,.assign (.tmp 26),none⟩]
def s42:SCode:=(.seq q42_0 (.seq q42_1 .ret))
theorem s42_strip:Yg (Yf Tryd.f42)=s42:=by kernel_rfl
theorem s42_ok:Yz 27 (Yf Tryd.f42)=true:=by kernel_rfl
theorem s42_call [Tabs Tryd.prog] {args:List Value} {h:Yb} {Q:Value→Yb→Prop} (hsz:args.length≤27) (hk:aw Tryd.prog 27 s42 (Zu Tryd.prog [.tmp 4] Q) (Zp 0 args) h):ACall Tryd.prog 42 args h Q :=
 Wg Tryd.func42 rfl (enters_of Tryd.func42 (by kernel_rfl) rfl) rfl rfl (by decide) s42_strip s42_ok hsz hk
end Go.Proofs.Tryd.Am
namespace Go.Proofs.Tryd.Am
open Go.Am Ord
set_option maxRecDepth 100000
set_option maxHeartbeats 1000000
theorem loadC0 {h:Yb} {b:Nat} {u w:Value} {e:TypeId} {ro:Bool} {K:Value→Prop} (hb:h[b]? = some (.cells [u,w] e ro)):Xw prog h 3 (.pointer (some ⟨b,0,none⟩)) K=K u:=by
 simp only [Xw,Xf,cellK,hb,List.getElem?_cons_zero]
theorem loadC1 {h:Yb} {b:Nat} {u w:Value} {e:TypeId} {ro:Bool} {K:Value→Prop} (hb:h[b]? = some (.cells [u,w] e ro)):Xw prog h 3 (.pointer (some ⟨b,1,none⟩)) K=K w:=by
 simp only [Xw,Xf,cellK,hb,List.getElem?_cons_succ,List.getElem?_cons_zero]
theorem right_call [Tabs prog] {h:Yb} {x y n:Nat} (hy:1≤y) (hy2:y≤720) (hn:n≤6) (hx:x≤n*y):APure prog 42 [frV x y,Zx n] h (.bool true):=by
 have hny:n*y≤6*720:=Nat.mul_le_mul hn hy2
 refine ACall.forget (Low.bool _) ?_
 refine s42_call (by simp) ?_
 have hb : ∀ {K:Value→Yb→Prop},boxK prog h 37 (frV x y) K=K (Ys h) (h++[.cells [Zx x,Zx y] 37 false]):=fun {K}=>by
  simp [boxK,esz_37,Ys,cellsOf,frV]
 have c0:=Yl h (Blk.cells [Zx (x:Nat),Zx (y:Nat)] 37 false)
 have hm:mulV .i64 (n:Int) (y:Int)=((n*y:Nat):Int):=by
  rw [mulV_id (by rw [← Int.natCast_mul]; omega) (by rw [← Int.natCast_mul]; omega)]; rfl
 have h1:(1:Int)≤(y:Int):=by omega
 have h2:(y:Int)≤720:=by omega
 have h3:(x:Int)≤((n*y:Nat):Int):=by omega
 simp (maxSteps:=2000000) only [s42,↓Za,↓Zi,↓Zr,↓Ze,↓Zo,↓Zs,↓Zg,↓Zm,↓Zf,↓Zb,↓Zc,↓vdn,vup,Zk,Zn,Zl,Zh,Zj,List.map_cons,List.map_nil,cond_true,cond_false,aop,Zv,Zq,Zp,ev,sput,Zt,Zy,Ya,unK,Zd,Zw,Nat.reduceBEq,Nat.reduceAdd,Int.reduceBEq,Int.reduceBNe,Int.reduceLT,Zu,Zz,tup,tyf,hb,Ys,fldA fld_37_1 Xt,fldA fld_37_0 Xt,loadC0 c0,loadC1 c0,h1,h2,h3,hm,ge_iff_le]
 exact Ext.app _ _ _
theorem mulN {a b k:Nat} (h:a*b≤k) (hk:k<9223372036854775808):mulV .i64 (a:Int) (b:Int)=((a*b:Nat):Int):=by
 rw [mulV_id (by rw [← Int.natCast_mul]; omega) (by rw [← Int.natCast_mul]; omega)]; rfl
theorem heightV_at {o:List Int} (ho:ord o=true) {a:Nat} (ha:a<o.length):heightV o (a:Int) = .tuple #[.agg #[Zx (num (hsum o a) (cn o):Nat),Zx (den (hsum o a) (cn o):Nat)],.int .i64 0]:=by
 have e1:elI o (a:Int)=true:=by simp only [elI,Int.natCast_nonneg,decide_true,Bool.true_and,decide_eq_true_eq]; omega
 rw [heightV,if_pos ⟨ho,e1⟩]; rfl
theorem storeQ {g:Yb} {n:Nat} {p q:Int} (hg:g.length=n) {K:Yb→Prop}:Xv prog (g++[Blk.cells [.int .i64 0,.int .i64 0] 37 false]) 37 (.pointer (some ⟨n,0,none⟩)) (.agg #[Zx p,Zx q]) K=K ((g++[Blk.cells [.int .i64 0,.int .i64 0] 37 false]).set n (.cells [Zx p,Zx q] 37 false)):=by
 subst hg; exact storeF (Yl _ _) rfl
theorem frBox (g:Yb) (p q:Int):((g++[Blk.cells [.int .i64 0,.int .i64 0] 37 false]).set g.length (.cells [Zx p,Zx q] 37 false))[g.length]? = some (.cells [Zx p,Zx q] 37 false)∧Ext (fun _=>False) g ((g++[Blk.cells [.int .i64 0,.int .i64 0] 37 false]).set g.length (.cells [Zx p,Zx q] 37 false)) :=
 ⟨Xc (by simp) _,by simp,fun i hi _=>by rw [List.getElem?_set_ne (by omega),List.getElem?_append_left hi]⟩
end Go.Proofs.Tryd.Am
namespace Go.Proofs.Tryd.Am
open Go.Am Ord
set_option maxRecDepth 100000
set_option maxHeartbeats 1000000
end Go.Proofs.Tryd.Am
namespace Go.Proofs.Tryd.Am
open Go.Am Ord
set_option maxRecDepth 100000
set_option maxHeartbeats 1000000
end Go.Proofs.Tryd.Am
namespace Go.Proofs.Tryd.Am
open Go.Am Ord
set_option maxRecDepth 100000
set_option maxHeartbeats 1000000
theorem remU (i:Int) {n:Nat} (h1:1≤n) (h2:n≤6) : ∃ k:Nat,k<n∧IntKind.i64.wrap ((IntKind.u64.wrap i).tmod (IntKind.u64.wrap (n:Int)))=(k:Int):=by
 have hn:IntKind.u64.wrap (n:Int)=(n:Int):=by simp [IntKind.wrap,IntKind.signed,IntKind.bits]; omega
 have hi:0≤IntKind.u64.wrap i:=by simp [IntKind.wrap,IntKind.signed,IntKind.bits]; omega
 obtain ⟨x,hx⟩ : ∃ x:Nat,IntKind.u64.wrap i=(x:Int):=⟨(IntKind.u64.wrap i).toNat,by omega⟩
 rw [hn,hx,tmodN]
 have:=Nat.mod_lt x (show n > 0 by omega)
 exact ⟨x % n,this,wrap_id (by omega) (by omega)⟩
end Go.Proofs.Tryd.Am
