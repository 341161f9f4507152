/-
  order: the sorter's pair and sorts.
  Printed by gen.py: the code of some functions, without what no step looks at; held against the program's own by the kernel.
  order: the reference's lines.
  Printed by gen.py: the code of some functions, without what no step looks at; held against the program's own by the kernel.
  Printed by gen.py: the code of some functions, without what no step looks at; held against the program's own by the kernel.
  order: how many elements a set has, by the library and by the reference.
  order: the library's sort of a short slice (insertion).
  order: the library's Len: no more than a power of two above its argument tells.
  order: the sorter's sorts and need; Need.
  order: plans: their form, their length; Check.
-/
import Derived.Test.YtnjacpfahhjpiaaDoorPk8
import Derived.Test.YtnjacpfahhjpiaaDoorPk3
import Derived.Test.YtnjacpfahhjpiaaDoorProg
import Derived.KernelRfl
import Derived.Shelf.Abstract
import Derived.Test.YtnjacpfahhjpiaaDoorPk7
import Derived.Test.YtnjacpfahhjpiaaDoorPk4
import Derived.Test.YtnjacpfahhjpiaaDoorPk5
set_option linter.all false
namespace Go.Proofs.Tryd.Am
open Go.Am Ord
set_option maxRecDepth 100000
set_option maxHeartbeats 4000000
theorem lit1P {h:Yb} {p:Int×Int} {K:Value→Yb→Prop}:Xi prog h 52 1 [(0,pV p)] K=K (.slice (some ⟨h.length,0,none⟩) 1 1) (h++[.ints [p.1,p.2] 33 false]):=by
 simp only [Xi,el_52,zero_33,esz_33,reps,fillL,mkb,Ys,Va,cellsOf,List.length_cons,List.length_nil,Nat.mul_one,Nat.zero_mul,Nat.zero_add]
 refine propext ⟨fun h=>h.2.2.2,fun h=>⟨trivial,by decide,by decide,h⟩⟩
theorem boxB {h:Yb} {b:Nat} {K:Value→Yb→Prop}:boxK prog h 97 (ptB b) K=K (Xj h) (h++[.cells [ptB b] 97 false]):=by
 simp only [boxK,esz_97,Option.isSome_some,true_and,cellsOf]
theorem boxI3 {h:Yb} {x:Int} {K:Value→Yb→Prop}:boxK prog h 3 (Zx x) K=K (Xj h) (h++[.cells [Zx x] 3 false]):=by
 simp only [boxK,Xk,Option.isSome_some,true_and,cellsOf]
structure PFr (bs:Nat) (o:List Int) (m n0:Nat) (h z:Yb):Prop where
 b3:z[n0]? = some (.cells [ptB bs] 97 false)
 b4:z[n0+1]? = some (.cells (Xt o) 77 false)
 b5:z[n0+2]? = some (.cells [Zx ((m+1:Nat):Int)] 3 false)
 b6:z[n0+3]? = some (.cells [.int .i64 0,.int .i64 0] 33 false)
 bu:z[n0+5]? = some (.cells [.map (some (n0+4))] 137 false)
 bm : ∃ l:List (List Int×Int),z[n0+4]? = some (.map (mA Zx l))∧KeysN 2 l
 ext:Ext (fun _=>False) h z
 n0h:n0=h.length
theorem PFr.step {bs m n0:Nat} {o:List Int} {h z z' : Yb} (p:PFr bs o m n0 h z) {S:Nat→Prop} (hS : ∀ b,S b→n0+6≤b) (he:Ext S z z'):PFr bs o m n0 h z':=by
 obtain ⟨l,hl,hk⟩:=p.bm
 have old : ∀ {b B},z[b]? = some B→b<n0+6→z'[b]? = some B:=fun {b B} hb hlt=>(he.2 b (Yg hb) fun hs=>by have:=hS b hs; omega).trans hb
 refine ⟨old p.b3 (by omega),old p.b4 (by omega),old p.b5 (by omega),old p.b6 (by omega),old p.bu (by omega),⟨l,old hl (by omega),hk⟩,⟨Nat.le_trans p.ext.1 he.1,fun i hi hf=>?_⟩,p.n0h⟩
 have:=p.n0h
 rw [he.2 i (Nat.lt_of_lt_of_le hi p.ext.1) fun hs=>by have:=hS i hs; omega]
 exact p.ext.2 i hi hf
theorem PFr.put {bs m n0:Nat} {o:List Int} {h z:Yb} (p:PFr bs o m n0 h z) {l:List (List Int×Int)} (hl:KeysN 2 l):PFr bs o m n0 h (z.set (n0+4) (.map (mA Zx l))):=by
 obtain ⟨l',hl',hk⟩:=p.bm
 have hlt:=Yg hl'
 have old : ∀ {b B},z[b]? = some B→b≠n0+4→(z.set (n0+4) (.map (mA Zx l)))[b]? = some B:=fun {b B} hb hne=>by rw [List.getElem?_set_ne (Ne.symm hne)]; exact hb
 refine ⟨old p.b3 (by omega),old p.b4 (by omega),old p.b5 (by omega),old p.b6 (by omega),old p.bu (by omega),⟨l,Xm hlt _,hl⟩,⟨by rw [List.length_set]; exact p.ext.1,fun i hi hf=>?_⟩,p.n0h⟩
 have:=p.n0h
 rw [List.getElem?_set_ne (by omega)]
 exact p.ext.2 i hi hf
theorem notCellsP {e e2:TypeId} {h:Yb} {v:Value} {xs:List (Int×Int)} {c:List Value} {ro:Bool} {j:Nat} (ho:OwnP e h v xs) (hj:h[j]? = some (.cells c e2 ro)):Ye v≠some j:=by
 rcases ho with ⟨rfl,_⟩ | ⟨b,ys,rfl,hb⟩
 · intro h; cases h
 · intro h
   obtain rfl:b=j:=by simpa [Ye] using h
   rw [hb] at hj; cases hj
theorem tri_small (n i:Nat):triN n i≤i*n:=by
 induction i with
 | zero=>exact Nat.zero_le _
 | succ i ih=>rw [triN,Nat.succ_mul]; omega
theorem bld00 {K:Value→Prop}:Ww prog 33 [] K=K (.agg #[.int .i64 0,.int .i64 0]):=by
 simp [Ww,zero_33,fillL,pl_33_0]
theorem key2_in {i j:Nat} (hi:i<6) (hj:j<6):inR64 [(i:Int),(j:Int)]:=fun x hx=>by
 simp only [List.mem_cons,List.not_mem_nil,or_false] at hx
 rcases hx with rfl | rfl <;> omega
theorem s110_callW [Tabs Tryd.prog] {args:List Value} {h:Yb} {Q:Value→Yb→Prop} (hsz:args.length≤70) (hk:AWS Tryd.prog 70 s110 (Zu Tryd.prog [.cell 6 33,.tmp 7] Q) (Zp 0 args) h):ACall Tryd.prog 110 args h Q :=
 Wn Tryd.func110 rfl (enters_of Tryd.func110 (by kernel_rfl) rfl) rfl rfl (by decide) s110_strip s110_ok hsz hk
theorem pair_call [BitTab prog 1] {bs bm m:Nat} (ih:SortsOK bs bm m) (hm:m≤60) {h:Yb} {o:List Int} (ho:ord o=true) (hcn:1<cn o) (hs:SK bs bm h) :
  ACall prog 110 [ptB bs,ordV o,Zx ((m+1:Nat):Int)] h fun r h'=>SK bs bm h'∧Ext (fun b=>b=bm) h h' ∧
   ((∃ i j:Nat,i<j∧j<o.length∧fr o i j=true∧bothB m o i j=true∧r = .tuple #[pV ((i:Int),(j:Int)),.bool true])∨(pairB m o=false∧∃ p,r = .tuple #[pV p,.bool false])):=by
 have hl:=Yz ho
 refine s110_callW (by simp) ?_
 simp only [s110]
 obtain ⟨n0,hn0⟩ : ∃ n0,n0=h.length:=⟨_,rfl⟩
 refine Yc fun N1 hN1=>?_
 simp (maxSteps:=2000000) only [s110,↓Za,↓Zi,↓Zr,↓Ze,↓Zj,↓Zs,↓Zg,↓Zo,↓Zf,↓Zb,↓Zc,↓vdn,vup,Zm,Zk,Zn,Zl,Zh,List.map_cons,List.map_nil,cond_true,cond_false,aop,Zv,Zq,Zp,ev,sput,Zt,Zy,Ya,unK,Zd,Zw,Nat.reduceBEq,Nat.reduceAdd,Int.reduceBEq,Int.reduceBNe,Int.reduceLT,Zu,Zz,tup,tyf,boxO esz_77,boxB,boxI3,Xj,We,zero_33,List.length_append,List.length_cons,List.length_nil,Nat.zero_add,Nat.add_assoc,Nat.reduceAdd]
 obtain ⟨H0,hH0⟩ : ∃ H0,H0=h++[Blk.cells [ptB bs] 97 false]++[Blk.cells (Xt o) 77 false]++[Blk.cells [Zx ((m+1:Nat):Int)] 3 false]++[Blk.cells [.int .i64 0,.int .i64 0] 33 false]:=⟨_,rfl⟩
 have hH0' : H0=h++[Blk.cells [ptB bs] 97 false,Blk.cells (Xt o) 77 false,Blk.cells [Zx ((m+1:Nat):Int)] 3 false,Blk.cells [.int .i64 0,.int .i64 0] 33 false]:=by rw [hH0]; simp
 rw [← hH0,← hn0]
 have hl0:H0.length=n0+4:=by rw [hH0',hn0]; simp
 have at0 : ∀ k B,([Blk.cells [ptB bs] 97 false,Blk.cells (Xt o) 77 false,Blk.cells [Zx ((m+1:Nat):Int)] 3 false,Blk.cells [.int .i64 0,.int .i64 0] 33 false]:Yb)[k]? = some B→H0[n0+k]? = some B:=fun k B hk=>by
  rw [hH0',hn0,List.getElem?_append_right (by omega)]
  rw [show h.length+k-h.length=k by omega]; exact hk
 have hE0:Ext (fun _=>False) h H0:=by rw [hH0']; exact Ext.app _ _ _
 have b3:=at0 0 _ rfl
 have b4:=at0 1 _ rfl
 have b5:=at0 2 _ rfl
 have b6:=at0 3 _ rfl
 clear at0 hH0 hH0'
 refine hN1 [(0,ptB bs),(1,ordV o),(2,Zx ((m+1:Nat):Int)),(3,ptB n0),(4,ptB (n0+1)),(5,ptB (n0+2)),(6,ptB (n0+3)),(7,.bool false)] _ _ ?_ (by simp (maxSteps:=2000000) only [↓Za,↓Zi,↓Zr,↓Ze,↓Zj,↓Zs,↓Zg,↓Zo,↓Zf,↓Zb,↓Zc,↓vdn,vup,Zm,Zk,Zn,Zl,Zh,List.map_cons,List.map_nil,cond_true,cond_false,aop,Zv,Zq,Zp,ev,sput,Zt,Zy,Ya,unK,Zd,Zw,Nat.reduceBEq,Nat.reduceAdd,Int.reduceBEq,Int.reduceBNe,Int.reduceLT,Zu,Zz,tup,tyf])
 clear hN1
 try clear N1
 refine Yc fun N2 hN2=>?_
 simp (maxSteps:=2000000) only [s110,↓Za,↓Zi,↓Zr,↓Ze,↓Zj,↓Zs,↓Zg,↓Zo,↓Zf,↓Zb,↓Zc,↓vdn,vup,Zm,Zk,Zn,Zl,Zh,List.map_cons,List.map_nil,cond_true,cond_false,aop,Zv,Zq,Zp,ev,sput,Zt,Zy,Ya,unK,Zd,Zw,Nat.reduceBEq,Nat.reduceAdd,Int.reduceBEq,Int.reduceBNe,Int.reduceLT,Zu,Zz,tup,tyf]
 refine hN2 [(0,ptB bs),(1,ordV o),(2,Zx ((m+1:Nat):Int)),(3,ptB n0),(4,ptB (n0+1)),(5,ptB (n0+2)),(6,ptB (n0+3)),(7,.bool false),(8,.slice none 0 0)] _ _ ?_ (by simp (maxSteps:=2000000) only [↓Za,↓Zi,↓Zr,↓Ze,↓Zj,↓Zs,↓Zg,↓Zo,↓Zf,↓Zb,↓Zc,↓vdn,vup,Zm,Zk,Zn,Zl,Zh,List.map_cons,List.map_nil,cond_true,cond_false,aop,Zv,Zq,Zp,ev,sput,Zt,Zy,Ya,unK,Zd,Zw,Nat.reduceBEq,Nat.reduceAdd,Int.reduceBEq,Int.reduceBNe,Int.reduceLT,Zu,Zz,tup,tyf])
 clear hN2
 try clear N2
 refine Yc fun N3 hN3=>?_
 simp (maxSteps:=2000000) only [s110,↓Za,↓Zi,↓Zr,↓Ze,↓Zj,↓Zs,↓Zg,↓Zo,↓Zf,↓Zb,↓Zc,↓vdn,vup,Zm,Zk,Zn,Zl,Zh,List.map_cons,List.map_nil,cond_true,cond_false,aop,Zv,Zq,Zp,ev,sput,Zt,Zy,Ya,unK,Zd,Zw,Nat.reduceBEq,Nat.reduceAdd,Int.reduceBEq,Int.reduceBNe,Int.reduceLT,Zu,Zz,tup,tyf,Yr,List.nil_append,List.append_nil,List.toList_toArray,List.cons_append,Xy b4 Yn hl.2]
 refine (Wh ho).mono ?_
 rintro _ H0 ⟨rfl,rfl⟩
 try simp (maxSteps:=2000000) only [s110,↓Za,↓Zi,↓Zr,↓Ze,↓Zj,↓Zs,↓Zg,↓Zo,↓Zf,↓Zb,↓Zc,↓vdn,vup,Zm,Zk,Zn,Zl,Zh,List.map_cons,List.map_nil,cond_true,cond_false,aop,Zv,Zq,Zp,ev,sput,Zt,Zy,Ya,unK,Zd,Zw,Nat.reduceBEq,Nat.reduceAdd,Int.reduceBEq,Int.reduceBNe,Int.reduceLT,Zu,Zz,tup,tyf]
 refine hN3 [(0,ptB bs),(1,ordV o),(2,Zx ((m+1:Nat):Int)),(3,ptB n0),(4,ptB (n0+1)),(5,ptB (n0+2)),(6,ptB (n0+3)),(7,.bool false),(8,.slice none 0 0),(9,Zx (cn o:Nat))] _ _ ?_ (by simp (maxSteps:=2000000) only [↓Za,↓Zi,↓Zr,↓Ze,↓Zj,↓Zs,↓Zg,↓Zo,↓Zf,↓Zb,↓Zc,↓vdn,vup,Zm,Zk,Zn,Zl,Zh,List.map_cons,List.map_nil,cond_true,cond_false,aop,Zv,Zq,Zp,ev,sput,Zt,Zy,Ya,unK,Zd,Zw,Nat.reduceBEq,Nat.reduceAdd,Int.reduceBEq,Int.reduceBNe,Int.reduceLT,Zu,Zz,tup,tyf])
 clear hN3
 try clear N3
 refine Yc fun N4 hN4=>?_
 simp (maxSteps:=2000000) only [s110,↓Za,↓Zi,↓Zr,↓Ze,↓Zj,↓Zs,↓Zg,↓Zo,↓Zf,↓Zb,↓Zc,↓vdn,vup,Zm,Zk,Zn,Zl,Zh,List.map_cons,List.map_nil,cond_true,cond_false,aop,Zv,Zq,Zp,ev,sput,Zt,Zy,Ya,unK,Zd,Zw,Nat.reduceBEq,Nat.reduceAdd,Int.reduceBEq,Int.reduceBNe,Int.reduceLT,Zu,Zz,tup,tyf,isPick_map,makeMapK,We,Xj,zero_137,List.length_append,List.length_cons,List.length_nil,Nat.zero_add,hl0,Nat.add_assoc,Nat.reduceAdd]
 have c5:(H0++[Blk.map []]++[Blk.cells [.map none] 137 false])[n0+5]? = some (.cells [.map none] 137 false):=by
  have:=Yp (H0++[Blk.map []]) (Blk.cells [.map none] 137 false)
  rw [List.length_append,hl0] at this
  exact this
 rw [store1 c5 shp_137 rfl]
 obtain ⟨H1,hH1⟩ : ∃ H1,H1=(H0++[Blk.map []]++[Blk.cells [.map none] 137 false]).set (n0+5) (.cells [.map (some (n0+4))] 137 false):=⟨_,rfl⟩
 rw [← hH1]
 have pf:PFr bs o m n0 h H1:=by
  have old : ∀ {b B},H0[b]? = some B→H1[b]? = some B:=fun {b B} hb=>by
   have:=Yg hb
   rw [hH1,List.getElem?_set_ne (by omega)]; exact Yy (Yy hb _) _
  refine ⟨old b3,old b4,old b5,old b6,by rw [hH1]; exact Xm (by simp [hl0]) _,⟨[],?_,fun p hp=>by cases hp⟩,⟨?_,fun i hi hf=>?_⟩,hn0⟩
  · rw [hH1,List.getElem?_set_ne (by omega),List.append_assoc,List.getElem?_append_right (by omega),hl0,Nat.sub_self]; rfl
  · rw [hH1]; simp; omega
  · rw [hH1,List.getElem?_set_ne (by omega),List.append_assoc,List.getElem?_append_left (by omega)]; exact hE0.2 i hi hf
 clear hH1 c5 b3 b4 b5 b6 hE0 hl0
 refine hN4 [(0,ptB bs),(1,ordV o),(2,Zx ((m+1:Nat):Int)),(3,ptB n0),(4,ptB (n0+1)),(5,ptB (n0+2)),(6,ptB (n0+3)),(7,.bool false),(8,.slice none 0 0),(9,Zx (cn o:Nat)),(10,ptB (n0+5))] _ _ ?_ (by simp (maxSteps:=2000000) only [↓Za,↓Zi,↓Zr,↓Ze,↓Zj,↓Zs,↓Zg,↓Zo,↓Zf,↓Zb,↓Zc,↓vdn,vup,Zm,Zk,Zn,Zl,Zh,List.map_cons,List.map_nil,cond_true,cond_false,aop,Zv,Zq,Zp,ev,sput,Zt,Zy,Ya,unK,Zd,Zw,Nat.reduceBEq,Nat.reduceAdd,Int.reduceBEq,Int.reduceBNe,Int.reduceLT,Zu,Zz,tup,tyf])
 clear hN4
 try clear N4
 refine Ym fun M hM=>?_
 refine Yc fun N5 hN5=>?_
 simp (maxSteps:=2000000) only [s110,↓Za,↓Zi,↓Zr,↓Ze,↓Zj,↓Zs,↓Zg,↓Zo,↓Zf,↓Zb,↓Zc,↓vdn,vup,Zm,Zk,Zn,Zl,Zh,List.map_cons,List.map_nil,cond_true,cond_false,aop,Zv,Zq,Zp,ev,sput,Zt,Zy,Ya,unK,Zd,Zw,Nat.reduceBEq,Nat.reduceAdd,Int.reduceBEq,Int.reduceBNe,Int.reduceLT,Zu,Zz,tup,tyf,fldA fld_77_0 Xk,loadN pf.b4 Xd]
 refine hN5 [(0,ptB bs),(1,ordV o),(2,Zx ((m+1:Nat):Int)),(3,ptB n0),(4,ptB (n0+1)),(5,ptB (n0+2)),(6,ptB (n0+3)),(7,.bool false),(8,.slice none 0 0),(9,Zx (cn o:Nat)),(10,ptB (n0+5)),(20,Zx o.length),(21,.int .i64 0)] _ _ ?_ (by simp (maxSteps:=2000000) only [↓Za,↓Zi,↓Zr,↓Ze,↓Zj,↓Zs,↓Zg,↓Zo,↓Zf,↓Zb,↓Zc,↓vdn,vup,Zm,Zk,Zn,Zl,Zh,List.map_cons,List.map_nil,cond_true,cond_false,aop,Zv,Zq,Zp,ev,sput,Zt,Zy,Ya,unK,Zd,Zw,Nat.reduceBEq,Nat.reduceAdd,Int.reduceBEq,Int.reduceBNe,Int.reduceLT,Zu,Zz,tup,tyf])
 clear hN5
 try clear N5
 refine Xp ?_
 refine Xf fun Q hQ=>?_
 refine Vi (γ:=Nat×Value×Yb) (fun s=>s.1≤o.length∧PFr bs o m n0 h s.2.2∧OwnP 33 s.2.2 s.2.1 (iPP (allF o s.1))∧∀ b,Ye s.2.1=some b→n0+6≤b)
  (fun s=>([(0,ptB bs),(1,ordV o),(2,Zx ((m+1:Nat):Int)),(3,ptB n0),(4,ptB (n0+1)),(5,ptB (n0+2)),(6,ptB (n0+3)),(7,.bool false),(8,s.2.1),(9,Zx (cn o:Nat)),(10,ptB (n0+5)),(20,Zx o.length),(21,Zx (s.1:Nat))],s.2.2)) (fun s=>o.length-s.1) (0,.slice none 0 0,H1) ⟨Nat.zero_le _,pf,.inl ⟨rfl,rfl⟩,fun b hb=>by cases hb⟩ (by simp (maxSteps:=2000000) only [↓Za,↓Zi,↓Zr,↓Ze,↓Zj,↓Zs,↓Zg,↓Zo,↓Zf,↓Zb,↓Zc,↓vdn,vup,Zm,Zk,Zn,Zl,Zh,List.map_cons,List.map_nil,cond_true,cond_false,aop,Zv,Zq,Zp,ev,sput,Zt,Zy,Ya,unK,Zd,Zw,Nat.reduceBEq,Nat.reduceAdd,Int.reduceBEq,Int.reduceBNe,Int.reduceLT,Zu,Zz,tup,tyf,Int.natCast_zero]) rfl ?_
 clear pf
 rintro ⟨i,v,hp⟩ ⟨hi,pf,how,hvb⟩
 simp only at hi pf how hvb
 refine Xf fun Q2 hQ2=>?_
 simp only [l110_1]
 by_cases hin:(i:Int)<o.length
 · have hi' : i<o.length:=by omega
   refine Yc fun N6 hN6=>?_
   simp (maxSteps:=2000000) only [s110,↓Za,↓Zi,↓Zr,↓Ze,↓Zj,↓Zs,↓Zg,↓Zo,↓Zf,↓Zb,↓Zc,↓vdn,vup,Zm,Zk,Zn,Zl,Zh,List.map_cons,List.map_nil,cond_true,cond_false,aop,Zv,Zq,Zp,ev,sput,Zt,Zy,Ya,unK,Zd,Zw,Nat.reduceBEq,Nat.reduceAdd,Int.reduceBEq,Int.reduceBNe,Int.reduceLT,Zu,Zz,tup,tyf,hin]
   refine hN6 [(0,ptB bs),(1,ordV o),(2,Zx ((m+1:Nat):Int)),(3,ptB n0),(4,ptB (n0+1)),(5,ptB (n0+2)),(6,ptB (n0+3)),(7,.bool false),(8,v),(9,Zx (cn o:Nat)),(10,ptB (n0+5)),(20,Zx o.length),(21,Zx (i:Nat)),(22,.bool true)] _ _ ?_ (by simp (maxSteps:=2000000) only [↓Za,↓Zi,↓Zr,↓Ze,↓Zj,↓Zs,↓Zg,↓Zo,↓Zf,↓Zb,↓Zc,↓vdn,vup,Zm,Zk,Zn,Zl,Zh,List.map_cons,List.map_nil,cond_true,cond_false,aop,Zv,Zq,Zp,ev,sput,Zt,Zy,Ya,unK,Zd,Zw,Nat.reduceBEq,Nat.reduceAdd,Int.reduceBEq,Int.reduceBNe,Int.reduceLT,Zu,Zz,tup,tyf])
   clear hN6
   try clear N6
   refine Yc fun N7 hN7=>?_
   simp (maxSteps:=2000000) only [s110,↓Za,↓Zi,↓Zr,↓Ze,↓Zj,↓Zs,↓Zg,↓Zo,↓Zf,↓Zb,↓Zc,↓vdn,vup,Zm,Zk,Zn,Zl,Zh,List.map_cons,List.map_nil,cond_true,cond_false,aop,Zv,Zq,Zp,ev,sput,Zt,Zy,Ya,unK,Zd,Zw,Nat.reduceBEq,Nat.reduceAdd,Int.reduceBEq,Int.reduceBNe,Int.reduceLT,Zu,Zz,tup,tyf]
   refine hN7 [(0,ptB bs),(1,ordV o),(2,Zx ((m+1:Nat):Int)),(3,ptB n0),(4,ptB (n0+1)),(5,ptB (n0+2)),(6,ptB (n0+3)),(7,.bool false),(8,v),(9,Zx (cn o:Nat)),(10,ptB (n0+5)),(20,Zx o.length),(21,Zx (i:Nat))] _ _ ?_ (by simp (maxSteps:=2000000) only [↓Za,↓Zi,↓Zr,↓Ze,↓Zj,↓Zs,↓Zg,↓Zo,↓Zf,↓Zb,↓Zc,↓vdn,vup,Zm,Zk,Zn,Zl,Zh,List.map_cons,List.map_nil,cond_true,cond_false,aop,Zv,Zq,Zp,ev,sput,Zt,Zy,Ya,unK,Zd,Zw,Nat.reduceBEq,Nat.reduceAdd,Int.reduceBEq,Int.reduceBNe,Int.reduceLT,Zu,Zz,tup,tyf])
   clear hN7
   try clear N7
   refine Ym fun B hB=>?_
   refine Xp ?_
   refine Yc fun N8 hN8=>?_
   simp (maxSteps:=2000000) only [s110,↓Za,↓Zi,↓Zr,↓Ze,↓Zj,↓Zs,↓Zg,↓Zo,↓Zf,↓Zb,↓Zc,↓vdn,vup,Zm,Zk,Zn,Zl,Zh,List.map_cons,List.map_nil,cond_true,cond_false,aop,Zv,Zq,Zp,ev,sput,Zt,Zy,Ya,unK,Zd,Zw,Nat.reduceBEq,Nat.reduceAdd,Int.reduceBEq,Int.reduceBNe,Int.reduceLT,Zu,Zz,tup,tyf]
   refine hN8 [(0,ptB bs),(1,ordV o),(2,Zx ((m+1:Nat):Int)),(3,ptB n0),(4,ptB (n0+1)),(5,ptB (n0+2)),(6,ptB (n0+3)),(7,.bool false),(8,v),(9,Zx (cn o:Nat)),(10,ptB (n0+5)),(11,Zx (i:Nat)),(20,Zx o.length),(21,Zx (i:Nat))] _ _ ?_ (by simp (maxSteps:=2000000) only [↓Za,↓Zi,↓Zr,↓Ze,↓Zj,↓Zs,↓Zg,↓Zo,↓Zf,↓Zb,↓Zc,↓vdn,vup,Zm,Zk,Zn,Zl,Zh,List.map_cons,List.map_nil,cond_true,cond_false,aop,Zv,Zq,Zp,ev,sput,Zt,Zy,Ya,unK,Zd,Zw,Nat.reduceBEq,Nat.reduceAdd,Int.reduceBEq,Int.reduceBNe,Int.reduceLT,Zu,Zz,tup,tyf])
   clear hN8
   try clear N8
   refine Yc fun N9 hN9=>?_
   simp (maxSteps:=2000000) only [s110,↓Za,↓Zi,↓Zr,↓Ze,↓Zj,↓Zs,↓Zg,↓Zo,↓Zf,↓Zb,↓Zc,↓vdn,vup,Zm,Zk,Zn,Zl,Zh,List.map_cons,List.map_nil,cond_true,cond_false,aop,Zv,Zq,Zp,ev,sput,Zt,Zy,Ya,unK,Zd,Zw,Nat.reduceBEq,Nat.reduceAdd,Int.reduceBEq,Int.reduceBNe,Int.reduceLT,Zu,Zz,tup,tyf,add1 (show i<9223372036854775807 by omega)]
   refine hN9 [(0,ptB bs),(1,ordV o),(2,Zx ((m+1:Nat):Int)),(3,ptB n0),(4,ptB (n0+1)),(5,ptB (n0+2)),(6,ptB (n0+3)),(7,.bool false),(8,v),(9,Zx (cn o:Nat)),(10,ptB (n0+5)),(11,Zx (i:Nat)),(12,Zx (i+1:Nat)),(20,Zx o.length),(21,Zx (i:Nat))] _ _ ?_ (by simp (maxSteps:=2000000) only [↓Za,↓Zi,↓Zr,↓Ze,↓Zj,↓Zs,↓Zg,↓Zo,↓Zf,↓Zb,↓Zc,↓vdn,vup,Zm,Zk,Zn,Zl,Zh,List.map_cons,List.map_nil,cond_true,cond_false,aop,Zv,Zq,Zp,ev,sput,Zt,Zy,Ya,unK,Zd,Zw,Nat.reduceBEq,Nat.reduceAdd,Int.reduceBEq,Int.reduceBNe,Int.reduceLT,Zu,Zz,tup,tyf])
   clear hN9
   try clear N9
   refine Xp ?_
   refine Xf fun Qa hQa=>?_
   refine Vi (γ:=Nat×Value×Yb) (fun s=>i<s.1∧s.1≤o.length∧PFr bs o m n0 h s.2.2∧OwnP 33 s.2.2 s.2.1 (iPP (allF o i++rowF o i s.1))∧∀ b,Ye s.2.1=some b→n0+6≤b)
    (fun s=>([(0,ptB bs),(1,ordV o),(2,Zx ((m+1:Nat):Int)),(3,ptB n0),(4,ptB (n0+1)),(5,ptB (n0+2)),(6,ptB (n0+3)),(7,.bool false),(8,s.2.1),(9,Zx (cn o:Nat)),(10,ptB (n0+5)),(11,Zx (i:Nat)),(12,Zx (s.1:Nat)),(20,Zx o.length),(21,Zx (i:Nat))],s.2.2)) (fun s=>o.length-s.1) (i+1,v,hp) ⟨by simp only; omega,hi',pf,by simp only; rw [rowF_le,List.append_nil]; exact how,hvb⟩ (by simp (maxSteps:=2000000) only [↓Za,↓Zi,↓Zr,↓Ze,↓Zj,↓Zs,↓Zg,↓Zo,↓Zf,↓Zb,↓Zc,↓vdn,vup,Zm,Zk,Zn,Zl,Zh,List.map_cons,List.map_nil,cond_true,cond_false,aop,Zv,Zq,Zp,ev,sput,Zt,Zy,Ya,unK,Zd,Zw,Nat.reduceBEq,Nat.reduceAdd,Int.reduceBEq,Int.reduceBNe,Int.reduceLT,Zu,Zz,tup,tyf]) rfl ?_
   clear pf how hvb
   rintro ⟨j,w,z⟩ ⟨hij,hj,pf,how,hvb⟩
   simp only at hij hj pf how hvb
   refine Xf fun Qb hQb=>?_
   simp only [l110_0]
   by_cases hjn:(j:Int)<o.length
   · have hj' : j<o.length:=by omega
     refine Ym fun C hC=>?_
     refine Yc fun N10 hN10=>?_
     simp (maxSteps:=2000000) only [s110,↓Za,↓Zi,↓Zr,↓Ze,↓Zj,↓Zs,↓Zg,↓Zo,↓Zf,↓Zb,↓Zc,↓vdn,vup,Zm,Zk,Zn,Zl,Zh,List.map_cons,List.map_nil,cond_true,cond_false,aop,Zv,Zq,Zp,ev,sput,Zt,Zy,Ya,unK,Zd,Zw,Nat.reduceBEq,Nat.reduceAdd,Int.reduceBEq,Int.reduceBNe,Int.reduceLT,Zu,Zz,tup,tyf,fldA fld_77_0 Xk,loadN pf.b4 Xd,hjn]
     refine hN10 [(0,ptB bs),(1,ordV o),(2,Zx ((m+1:Nat):Int)),(3,ptB n0),(4,ptB (n0+1)),(5,ptB (n0+2)),(6,ptB (n0+3)),(7,.bool false),(8,w),(9,Zx (cn o:Nat)),(10,ptB (n0+5)),(11,Zx (i:Nat)),(12,Zx (j:Nat)),(20,Zx o.length),(21,Zx (i:Nat)),(29,.bool true)] _ _ ?_ (by simp (maxSteps:=2000000) only [↓Za,↓Zi,↓Zr,↓Ze,↓Zj,↓Zs,↓Zg,↓Zo,↓Zf,↓Zb,↓Zc,↓vdn,vup,Zm,Zk,Zn,Zl,Zh,List.map_cons,List.map_nil,cond_true,cond_false,aop,Zv,Zq,Zp,ev,sput,Zt,Zy,Ya,unK,Zd,Zw,Nat.reduceBEq,Nat.reduceAdd,Int.reduceBEq,Int.reduceBNe,Int.reduceLT,Zu,Zz,tup,tyf])
     clear hN10
     try clear N10
     refine Xb rfl ?_
     refine Yf ?_
     try simp (maxSteps:=2000000) only [s110,↓Za,↓Zi,↓Zr,↓Ze,↓Zj,↓Zs,↓Zg,↓Zo,↓Zf,↓Zb,↓Zc,↓vdn,vup,Zm,Zk,Zn,Zl,Zh,List.map_cons,List.map_nil,cond_true,cond_false,aop,Zv,Zq,Zp,ev,sput,Zt,Zy,Ya,unK,Zd,Zw,Nat.reduceBEq,Nat.reduceAdd,Int.reduceBEq,Int.reduceBNe,Int.reduceLT,Zu,Zz,tup,tyf]
     refine hC [(0,ptB bs),(1,ordV o),(2,Zx ((m+1:Nat):Int)),(3,ptB n0),(4,ptB (n0+1)),(5,ptB (n0+2)),(6,ptB (n0+3)),(7,.bool false),(8,w),(9,Zx (cn o:Nat)),(10,ptB (n0+5)),(11,Zx (i:Nat)),(12,Zx (j:Nat)),(20,Zx o.length),(21,Zx (i:Nat))] _ _ ?_ (by simp (maxSteps:=2000000) only [↓Za,↓Zi,↓Zr,↓Ze,↓Zj,↓Zs,↓Zg,↓Zo,↓Zf,↓Zb,↓Zc,↓vdn,vup,Zm,Zk,Zn,Zl,Zh,List.map_cons,List.map_nil,cond_true,cond_false,aop,Zv,Zq,Zp,ev,sput,Zt,Zy,Ya,unK,Zd,Zw,Nat.reduceBEq,Nat.reduceAdd,Int.reduceBEq,Int.reduceBNe,Int.reduceLT,Zu,Zz,tup,tyf])
     clear hC
     try clear C
     refine Ym fun Y hY=>?_
     refine Xp ?_
     refine Yc fun N11 hN11=>?_
     simp (maxSteps:=2000000) only [s110,↓Za,↓Zi,↓Zr,↓Ze,↓Zj,↓Zs,↓Zg,↓Zo,↓Zf,↓Zb,↓Zc,↓vdn,vup,Zm,Zk,Zn,Zl,Zh,List.map_cons,List.map_nil,cond_true,cond_false,aop,Zv,Zq,Zp,ev,sput,Zt,Zy,Ya,unK,Zd,Zw,Nat.reduceBEq,Nat.reduceAdd,Int.reduceBEq,Int.reduceBNe,Int.reduceLT,Zu,Zz,tup,tyf,Yr,List.nil_append,List.append_nil,List.toList_toArray,List.cons_append,Xy pf.b4 Yn hl.2]
     refine (free_call ho hi' hj').mono ?_
     rintro _ z ⟨rfl,rfl⟩
     have hrow:=rowF_succ o hij
     cases hf:fr o i j with
     | false =>
       rw [hf,if_neg (by decide),List.append_nil] at hrow
       refine hN11 [(0,ptB bs),(1,ordV o),(2,Zx ((m+1:Nat):Int)),(3,ptB n0),(4,ptB (n0+1)),(5,ptB (n0+2)),(6,ptB (n0+3)),(7,.bool false),(8,w),(9,Zx (cn o:Nat)),(10,ptB (n0+5)),(11,Zx (i:Nat)),(12,Zx (j:Nat)),(20,Zx o.length),(21,Zx (i:Nat)),(35,.bool false)] _ _ ?_ (by simp (maxSteps:=2000000) only [↓Za,↓Zi,↓Zr,↓Ze,↓Zj,↓Zs,↓Zg,↓Zo,↓Zf,↓Zb,↓Zc,↓vdn,vup,Zm,Zk,Zn,Zl,Zh,List.map_cons,List.map_nil,cond_true,cond_false,aop,Zv,Zq,Zp,ev,sput,Zt,Zy,Ya,unK,Zd,Zw,Nat.reduceBEq,Nat.reduceAdd,Int.reduceBEq,Int.reduceBNe,Int.reduceLT,Zu,Zz,tup,tyf])
       clear hN11
       try clear N11
       refine Xa rfl ?_
       refine Yf ?_
       try simp (maxSteps:=2000000) only [s110,↓Za,↓Zi,↓Zr,↓Ze,↓Zj,↓Zs,↓Zg,↓Zo,↓Zf,↓Zb,↓Zc,↓vdn,vup,Zm,Zk,Zn,Zl,Zh,List.map_cons,List.map_nil,cond_true,cond_false,aop,Zv,Zq,Zp,ev,sput,Zt,Zy,Ya,unK,Zd,Zw,Nat.reduceBEq,Nat.reduceAdd,Int.reduceBEq,Int.reduceBNe,Int.reduceLT,Zu,Zz,tup,tyf]
       refine hY [(0,ptB bs),(1,ordV o),(2,Zx ((m+1:Nat):Int)),(3,ptB n0),(4,ptB (n0+1)),(5,ptB (n0+2)),(6,ptB (n0+3)),(7,.bool false),(8,w),(9,Zx (cn o:Nat)),(10,ptB (n0+5)),(11,Zx (i:Nat)),(12,Zx (j:Nat)),(20,Zx o.length),(21,Zx (i:Nat))] _ _ ?_ (by simp (maxSteps:=2000000) only [↓Za,↓Zi,↓Zr,↓Ze,↓Zj,↓Zs,↓Zg,↓Zo,↓Zf,↓Zb,↓Zc,↓vdn,vup,Zm,Zk,Zn,Zl,Zh,List.map_cons,List.map_nil,cond_true,cond_false,aop,Zv,Zq,Zp,ev,sput,Zt,Zy,Ya,unK,Zd,Zw,Nat.reduceBEq,Nat.reduceAdd,Int.reduceBEq,Int.reduceBNe,Int.reduceLT,Zu,Zz,tup,tyf])
       clear hY
       try clear Y
       refine Yf ?_
       simp (maxSteps:=2000000) only [s110,↓Za,↓Zi,↓Zr,↓Ze,↓Zj,↓Zs,↓Zg,↓Zo,↓Zf,↓Zb,↓Zc,↓vdn,vup,Zm,Zk,Zn,Zl,Zh,List.map_cons,List.map_nil,cond_true,cond_false,aop,Zv,Zq,Zp,ev,sput,Zt,Zy,Ya,unK,Zd,Zw,Nat.reduceBEq,Nat.reduceAdd,Int.reduceBEq,Int.reduceBNe,Int.reduceLT,Zu,Zz,tup,tyf,add1 (show j<9223372036854775807 by omega)]
       exact hQb _ _ _ ⟨(j+1,w,z),⟨by simp only; omega,hj',pf,by simp only; rw [hrow]; exact how,hvb⟩,by simp only; omega,by simp (maxSteps:=2000000) only [↓Za,↓Zi,↓Zr,↓Ze,↓Zj,↓Zs,↓Zg,↓Zo,↓Zf,↓Zb,↓Zc,↓vdn,vup,Zm,Zk,Zn,Zl,Zh,List.map_cons,List.map_nil,cond_true,cond_false,aop,Zv,Zq,Zp,ev,sput,Zt,Zy,Ya,unK,Zd,Zw,Nat.reduceBEq,Nat.reduceAdd,Int.reduceBEq,Int.reduceBNe,Int.reduceLT,Zu,Zz,tup,tyf],rfl⟩
     | true =>
       rw [hf,if_pos rfl] at hrow
       refine hN11 [(0,ptB bs),(1,ordV o),(2,Zx ((m+1:Nat):Int)),(3,ptB n0),(4,ptB (n0+1)),(5,ptB (n0+2)),(6,ptB (n0+3)),(7,.bool false),(8,w),(9,Zx (cn o:Nat)),(10,ptB (n0+5)),(11,Zx (i:Nat)),(12,Zx (j:Nat)),(20,Zx o.length),(21,Zx (i:Nat)),(35,.bool true)] _ _ ?_ (by simp (maxSteps:=2000000) only [↓Za,↓Zi,↓Zr,↓Ze,↓Zj,↓Zs,↓Zg,↓Zo,↓Zf,↓Zb,↓Zc,↓vdn,vup,Zm,Zk,Zn,Zl,Zh,List.map_cons,List.map_nil,cond_true,cond_false,aop,Zv,Zq,Zp,ev,sput,Zt,Zy,Ya,unK,Zd,Zw,Nat.reduceBEq,Nat.reduceAdd,Int.reduceBEq,Int.reduceBNe,Int.reduceLT,Zu,Zz,tup,tyf])
       clear hN11
       try clear N11
       refine Xb rfl ?_
       refine Yc fun N12 hN12=>?_
       simp (maxSteps:=2000000) only [s110,↓Za,↓Zi,↓Zr,↓Ze,↓Zj,↓Zs,↓Zg,↓Zo,↓Zf,↓Zb,↓Zc,↓vdn,vup,Zm,Zk,Zn,Zl,Zh,List.map_cons,List.map_nil,cond_true,cond_false,aop,Zv,Zq,Zp,ev,sput,Zt,Zy,Ya,unK,Zd,Zw,Nat.reduceBEq,Nat.reduceAdd,Int.reduceBEq,Int.reduceBNe,Int.reduceLT,Zu,Zz,tup,tyf,bld2,We,Xj,zero_33]
       rw [pst (Yp _ _) rfl]
       obtain ⟨G,hG⟩ : ∃ G,G=(z++[Blk.cells [.int .i64 0,.int .i64 0] 33 false]).set z.length (.cells [Zx ((i:Nat):Int),Zx ((j:Nat):Int)] 33 false):=⟨_,rfl⟩
       rw [← hG]
       have hEG:Ext (fun _=>False) z G:=⟨by rw [hG]; simp,fun q hq _=>by rw [hG,List.getElem?_set_ne (by omega),List.getElem?_append_left hq]⟩
       have gz:G[z.length]? = some (.cells [Zx ((i:Nat):Int),Zx ((j:Nat):Int)] 33 false):=by rw [hG]; exact Xm (by simp) _
       have hzl:n0+6≤z.length:=by have:=Yg pf.bu; omega
       have hGl:n0+6≤G.length:=Nat.le_trans hzl hEG.1
       have pG:=pf.step (S:=fun _=>False) (fun _ h=>h.elim) hEG
       have hoG:=how.ext hEG
       clear hG
       generalize z.length=bz at gz hzl ⊢
       refine hN12 [(0,ptB bs),(1,ordV o),(2,Zx ((m+1:Nat):Int)),(3,ptB n0),(4,ptB (n0+1)),(5,ptB (n0+2)),(6,ptB (n0+3)),(7,.bool false),(8,w),(9,Zx (cn o:Nat)),(10,ptB (n0+5)),(11,Zx (i:Nat)),(12,Zx (j:Nat)),(13,ptB bz),(20,Zx o.length),(21,Zx (i:Nat)),(35,.bool true)] _ _ ?_ (by simp (maxSteps:=2000000) only [↓Za,↓Zi,↓Zr,↓Ze,↓Zj,↓Zs,↓Zg,↓Zo,↓Zf,↓Zb,↓Zc,↓vdn,vup,Zm,Zk,Zn,Zl,Zh,List.map_cons,List.map_nil,cond_true,cond_false,aop,Zv,Zq,Zp,ev,sput,Zt,Zy,Ya,unK,Zd,Zw,Nat.reduceBEq,Nat.reduceAdd,Int.reduceBEq,Int.reduceBNe,Int.reduceLT,Zu,Zz,tup,tyf])
       clear hN12
       try clear N12
       refine Yc fun N13 hN13=>?_
       simp (maxSteps:=2000000) only [s110,↓Za,↓Zi,↓Zr,↓Ze,↓Zj,↓Zs,↓Zg,↓Zo,↓Zf,↓Zb,↓Zc,↓vdn,vup,Zm,Zk,Zn,Zl,Zh,List.map_cons,List.map_nil,cond_true,cond_false,aop,Zv,Zq,Zp,ev,sput,Zt,Zy,Ya,unK,Zd,Zw,Nat.reduceBEq,Nat.reduceAdd,Int.reduceBEq,Int.reduceBNe,Int.reduceLT,Zu,Zz,tup,tyf,Yr,List.nil_append,List.append_nil,List.toList_toArray,List.cons_append,Xy pG.b4 Yn hl.2]
       refine (before_call ho hi' hj').mono ?_
       rintro _ G ⟨rfl,rfl⟩
       try simp (maxSteps:=2000000) only [s110,↓Za,↓Zi,↓Zr,↓Ze,↓Zj,↓Zs,↓Zg,↓Zo,↓Zf,↓Zb,↓Zc,↓vdn,vup,Zm,Zk,Zn,Zl,Zh,List.map_cons,List.map_nil,cond_true,cond_false,aop,Zv,Zq,Zp,ev,sput,Zt,Zy,Ya,unK,Zd,Zw,Nat.reduceBEq,Nat.reduceAdd,Int.reduceBEq,Int.reduceBNe,Int.reduceLT,Zu,Zz,tup,tyf]
       obtain ⟨d,hd⟩ : ∃ d:Int,d=subV .i64 (mulV .i64 2 ((befN o i j:Nat):Int)) ((cn o:Nat):Int):=⟨_,rfl⟩
       rw [← hd]
       refine hN13 [(0,ptB bs),(1,ordV o),(2,Zx ((m+1:Nat):Int)),(3,ptB n0),(4,ptB (n0+1)),(5,ptB (n0+2)),(6,ptB (n0+3)),(7,.bool false),(8,w),(9,Zx (cn o:Nat)),(10,ptB (n0+5)),(11,Zx (i:Nat)),(12,Zx (j:Nat)),(13,ptB bz),(14,Zx d),(20,Zx o.length),(21,Zx (i:Nat)),(35,.bool true)] _ _ ?_ (by simp (maxSteps:=2000000) only [↓Za,↓Zi,↓Zr,↓Ze,↓Zj,↓Zs,↓Zg,↓Zo,↓Zf,↓Zb,↓Zc,↓vdn,vup,Zm,Zk,Zn,Zl,Zh,List.map_cons,List.map_nil,cond_true,cond_false,aop,Zv,Zq,Zp,ev,sput,Zt,Zy,Ya,unK,Zd,Zw,Nat.reduceBEq,Nat.reduceAdd,Int.reduceBEq,Int.reduceBNe,Int.reduceLT,Zu,Zz,tup,tyf])
       clear hN13
       try clear N13
       refine Yf ?_
       simp only [q110_13]
       refine aw_drawR (fun y=>y[n0+5]? = some (.cells [.map (some (n0+4))] 137 false)∧y[bz]? = some (.cells [Zx ((i:Nat):Int),Zx ((j:Nat):Int)] 33 false)) [(0,5),(1,5)] (by kernel_rfl) (by kernel_rfl) (by kernel_rfl) (by kernel_rfl) ⟨pG.bu,gz⟩ ?_
       try simp (maxSteps:=2000000) only [s110,↓Za,↓Zi,↓Zr,↓Ze,↓Zj,↓Zs,↓Zg,↓Zo,↓Zf,↓Zb,↓Zc,↓vdn,vup,Zm,Zk,Zn,Zl,Zh,List.map_cons,List.map_nil,cond_true,cond_false,aop,Zv,Zq,Zp,ev,sput,Zt,Zy,Ya,unK,Zd,Zw,Nat.reduceBEq,Nat.reduceAdd,Int.reduceBEq,Int.reduceBNe,Int.reduceLT,Zu,Zz,tup,tyf,↓dopsR_lookup,↓Vk,↓dopsR_max]
       refine ⟨.map (some (n0+4)),fun y hy=>by simp only [Wa hy.1 shp_137],?_⟩
       try simp (maxSteps:=2000000) only [s110,↓Za,↓Zi,↓Zr,↓Ze,↓Zj,↓Zs,↓Zg,↓Zo,↓Zf,↓Zb,↓Zc,↓vdn,vup,Zm,Zk,Zn,Zl,Zh,List.map_cons,List.map_nil,cond_true,cond_false,aop,Zv,Zq,Zp,ev,sput,Zt,Zy,Ya,unK,Zd,Zw,Nat.reduceBEq,Nat.reduceAdd,Int.reduceBEq,Int.reduceBNe,Int.reduceLT,Zu,Zz,tup,tyf,↓dopsR_lookup,↓Vk,↓dopsR_max]
       refine ⟨pV ((i:Int),(j:Int)),fun y hy=>by simp only [loadPr hy.2],?_⟩
       simp (maxSteps:=2000000) only [s110,↓Za,↓Zi,↓Zr,↓Ze,↓Zj,↓Zs,↓Zg,↓Zo,↓Zf,↓Zb,↓Zc,↓vdn,vup,Zm,Zk,Zn,Zl,Zh,List.map_cons,List.map_nil,cond_true,cond_false,aop,Zv,Zq,Zp,ev,sput,Zt,Zy,Ya,unK,Zd,Zw,Nat.reduceBEq,Nat.reduceAdd,Int.reduceBEq,Int.reduceBNe,Int.reduceLT,Zu,Zz,tup,tyf,↓dopsR_lookup,↓Vk,↓dopsR_max,loadPr gz,lit1P]
       refine ⟨⟨Yy pG.bu _,Yy gz _⟩,?_⟩
       have hps:=allF_len o i
       have hrl:=rowF_len o i j
       have ht36:triN o.length i≤36:=Nat.le_trans (tri_small _ _) (Nat.mul_le_mul (show i≤6 by omega) hl.2)
       have hnn:(iPP (allF o i++rowF o i j)).length<1099511627776:=by rw [iPP_len,List.length_append]; omega
       refine OwnP.append (x:=((i:Nat):Int)) (y:=((j:Nat):Int)) (hoG.ext (Ext.app _ _ _)) app_52_52 hnn (Yp _ _) ?_
       intro w' z' ho' hE' hb'
       have hbk : ∀ b,Ye w=some b→n0+6≤b:=hvb
       have hbw : ∀ b,Ye w' = some b→n0+6≤b:=fun b hb=>by
        rcases hb' with h1 | ⟨b',h1,h2⟩
        · exact hvb b (h1▸hb)
        · rw [h1] at hb; cases hb
          rw [List.length_append] at h2; omega
       have pz:=(pG.step (S:=fun _=>False) (fun _ h=>h.elim) (Ext.app _ G [Blk.ints [((i:Nat):Int),((j:Nat):Int)] 33 false])).step hbk hE'
       have gz' : z'[bz]? = some (.cells [Zx ((i:Nat):Int),Zx ((j:Nat):Int)] 33 false):=(hE'.2 bz (Yg (Yy gz _)) fun hb=>notCellsP hoG gz hb).trans (Yy gz _)
       refine ⟨⟨pz.bu,gz'⟩,?_⟩
       obtain ⟨l,hml,hkl⟩:=pz.bm
       simp (maxSteps:=2000000) only [s110,↓Za,↓Zi,↓Zr,↓Ze,↓Zj,↓Zs,↓Zg,↓Zo,↓Zf,↓Zb,↓Zc,↓vdn,vup,Zm,Zk,Zn,Zl,Zh,List.map_cons,List.map_nil,cond_true,cond_false,aop,Zv,Zq,Zp,ev,sput,Zt,Zy,Ya,unK,Zd,Zw,Nat.reduceBEq,Nat.reduceAdd,Int.reduceBEq,Int.reduceBNe,Int.reduceLT,Zu,Zz,tup,tyf,↓dopsR_lookup,↓Vk,↓dopsR_max,mmK,if_true,gt_iff_lt,Option.map_none,Option.map_some]
       refine updateA (f:=Zx) hml und_137 keyT_33 hkl (pV_ints ((i:Int),(j:Int))) rfl (key2_in (by omega) (by omega)) ?_
       refine ⟨⟨by rw [List.getElem?_set_ne (by omega)]; exact pz.bu,by rw [List.getElem?_set_ne (by omega)]; exact gz'⟩,?_⟩
       try simp (maxSteps:=2000000) only [s110,↓Za,↓Zi,↓Zr,↓Ze,↓Zj,↓Zs,↓Zg,↓Zo,↓Zf,↓Zb,↓Zc,↓vdn,vup,Zm,Zk,Zn,Zl,Zh,List.map_cons,List.map_nil,cond_true,cond_false,aop,Zv,Zq,Zp,ev,sput,Zt,Zy,Ya,unK,Zd,Zw,Nat.reduceBEq,Nat.reduceAdd,Int.reduceBEq,Int.reduceBNe,Int.reduceLT,Zu,Zz,tup,tyf]
       refine hY [(0,ptB bs),(1,ordV o),(2,Zx ((m+1:Nat):Int)),(3,ptB n0),(4,ptB (n0+1)),(5,ptB (n0+2)),(6,ptB (n0+3)),(7,.bool false),(8,w'),(9,Zx (cn o:Nat)),(10,ptB (n0+5)),(11,Zx (i:Nat)),(12,Zx (j:Nat)),(20,Zx o.length),(21,Zx (i:Nat))] _ _ ?_ (by simp (maxSteps:=2000000) only [↓Za,↓Zi,↓Zr,↓Ze,↓Zj,↓Zs,↓Zg,↓Zo,↓Zf,↓Zb,↓Zc,↓vdn,vup,Zm,Zk,Zn,Zl,Zh,List.map_cons,List.map_nil,cond_true,cond_false,aop,Zv,Zq,Zp,ev,sput,Zt,Zy,Ya,unK,Zd,Zw,Nat.reduceBEq,Nat.reduceAdd,Int.reduceBEq,Int.reduceBNe,Int.reduceLT,Zu,Zz,tup,tyf])
       clear hY
       try clear Y
       refine Yf ?_
       simp (maxSteps:=2000000) only [s110,↓Za,↓Zi,↓Zr,↓Ze,↓Zj,↓Zs,↓Zg,↓Zo,↓Zf,↓Zb,↓Zc,↓vdn,vup,Zm,Zk,Zn,Zl,Zh,List.map_cons,List.map_nil,cond_true,cond_false,aop,Zv,Zq,Zp,ev,sput,Zt,Zy,Ya,unK,Zd,Zw,Nat.reduceBEq,Nat.reduceAdd,Int.reduceBEq,Int.reduceBNe,Int.reduceLT,Zu,Zz,tup,tyf,add1 (show j<9223372036854775807 by omega)]
       refine hQb _ _ _ ⟨(j+1,w',_),⟨by simp only; omega,hj',pz.put (hkl.put rfl (key2_in (by omega) (by omega))),?_,hbw⟩,by simp only; omega,by simp (maxSteps:=2000000) only [↓Za,↓Zi,↓Zr,↓Ze,↓Zj,↓Zs,↓Zg,↓Zo,↓Zf,↓Zb,↓Zc,↓vdn,vup,Zm,Zk,Zn,Zl,Zh,List.map_cons,List.map_nil,cond_true,cond_false,aop,Zv,Zq,Zp,ev,sput,Zt,Zy,Ya,unK,Zd,Zw,Nat.reduceBEq,Nat.reduceAdd,Int.reduceBEq,Int.reduceBNe,Int.reduceLT,Zu,Zz,tup,tyf],rfl⟩
       simp only
       rw [hrow,← List.append_assoc,iPP_app]
       exact ho'.same fun b hb=>List.getElem?_set_ne (by have:=hbw b hb; omega)
   · obtain rfl:j=o.length:=by omega
     refine Yc fun N14 hN14=>?_
     simp (maxSteps:=2000000) only [s110,↓Za,↓Zi,↓Zr,↓Ze,↓Zj,↓Zs,↓Zg,↓Zo,↓Zf,↓Zb,↓Zc,↓vdn,vup,Zm,Zk,Zn,Zl,Zh,List.map_cons,List.map_nil,cond_true,cond_false,aop,Zv,Zq,Zp,ev,sput,Zt,Zy,Ya,unK,Zd,Zw,Nat.reduceBEq,Nat.reduceAdd,Int.reduceBEq,Int.reduceBNe,Int.reduceLT,Zu,Zz,tup,tyf,fldA fld_77_0 Xk,loadN pf.b4 Xd,hjn]
     refine hQb _ _ _ (hQa _ _ _ ?_)
     simp (maxSteps:=2000000) only [s110,↓Za,↓Zi,↓Zr,↓Ze,↓Zj,↓Zs,↓Zg,↓Zo,↓Zf,↓Zb,↓Zc,↓vdn,vup,Zm,Zk,Zn,Zl,Zh,List.map_cons,List.map_nil,cond_true,cond_false,aop,Zv,Zq,Zp,ev,sput,Zt,Zy,Ya,unK,Zd,Zw,Nat.reduceBEq,Nat.reduceAdd,Int.reduceBEq,Int.reduceBNe,Int.reduceLT,Zu,Zz,tup,tyf,if_true]
     refine hB [(0,ptB bs),(1,ordV o),(2,Zx ((m+1:Nat):Int)),(3,ptB n0),(4,ptB (n0+1)),(5,ptB (n0+2)),(6,ptB (n0+3)),(7,.bool false),(8,w),(9,Zx (cn o:Nat)),(10,ptB (n0+5)),(20,Zx o.length),(21,Zx (i:Nat))] _ _ ?_ (by simp (maxSteps:=2000000) only [↓Za,↓Zi,↓Zr,↓Ze,↓Zj,↓Zs,↓Zg,↓Zo,↓Zf,↓Zb,↓Zc,↓vdn,vup,Zm,Zk,Zn,Zl,Zh,List.map_cons,List.map_nil,cond_true,cond_false,aop,Zv,Zq,Zp,ev,sput,Zt,Zy,Ya,unK,Zd,Zw,Nat.reduceBEq,Nat.reduceAdd,Int.reduceBEq,Int.reduceBNe,Int.reduceLT,Zu,Zz,tup,tyf])
     clear hB
     try clear B
     refine Yf ?_
     simp (maxSteps:=2000000) only [s110,↓Za,↓Zi,↓Zr,↓Ze,↓Zj,↓Zs,↓Zg,↓Zo,↓Zf,↓Zb,↓Zc,↓vdn,vup,Zm,Zk,Zn,Zl,Zh,List.map_cons,List.map_nil,cond_true,cond_false,aop,Zv,Zq,Zp,ev,sput,Zt,Zy,Ya,unK,Zd,Zw,Nat.reduceBEq,Nat.reduceAdd,Int.reduceBEq,Int.reduceBNe,Int.reduceLT,Zu,Zz,tup,tyf,add1 (show i<9223372036854775807 by omega)]
     exact hQ2 _ _ _ ⟨(i+1,w,z),⟨hi',pf,how,hvb⟩,by simp only; omega,by simp (maxSteps:=2000000) only [↓Za,↓Zi,↓Zr,↓Ze,↓Zj,↓Zs,↓Zg,↓Zo,↓Zf,↓Zb,↓Zc,↓vdn,vup,Zm,Zk,Zn,Zl,Zh,List.map_cons,List.map_nil,cond_true,cond_false,aop,Zv,Zq,Zp,ev,sput,Zt,Zy,Ya,unK,Zd,Zw,Nat.reduceBEq,Nat.reduceAdd,Int.reduceBEq,Int.reduceBNe,Int.reduceLT,Zu,Zz,tup,tyf],rfl⟩
 · obtain rfl:i=o.length:=by omega
   refine Yc fun N15 hN15=>?_
   simp (maxSteps:=2000000) only [s110,↓Za,↓Zi,↓Zr,↓Ze,↓Zj,↓Zs,↓Zg,↓Zo,↓Zf,↓Zb,↓Zc,↓vdn,vup,Zm,Zk,Zn,Zl,Zh,List.map_cons,List.map_nil,cond_true,cond_false,aop,Zv,Zq,Zp,ev,sput,Zt,Zy,Ya,unK,Zd,Zw,Nat.reduceBEq,Nat.reduceAdd,Int.reduceBEq,Int.reduceBNe,Int.reduceLT,Zu,Zz,tup,tyf,hin]
   refine hN15 [(0,ptB bs),(1,ordV o),(2,Zx ((m+1:Nat):Int)),(3,ptB n0),(4,ptB (n0+1)),(5,ptB (n0+2)),(6,ptB (n0+3)),(7,.bool false),(8,v),(9,Zx (cn o:Nat)),(10,ptB (n0+5)),(20,Zx o.length),(21,Zx (o.length:Nat)),(22,.bool false)] _ _ ?_ (by simp (maxSteps:=2000000) only [↓Za,↓Zi,↓Zr,↓Ze,↓Zj,↓Zs,↓Zg,↓Zo,↓Zf,↓Zb,↓Zc,↓vdn,vup,Zm,Zk,Zn,Zl,Zh,List.map_cons,List.map_nil,cond_true,cond_false,aop,Zv,Zq,Zp,ev,sput,Zt,Zy,Ya,unK,Zd,Zw,Nat.reduceBEq,Nat.reduceAdd,Int.reduceBEq,Int.reduceBNe,Int.reduceLT,Zu,Zz,tup,tyf])
   clear hN15
   try clear N15
   refine Yc fun N16 hN16=>?_
   try simp (maxSteps:=2000000) only [s110,↓Za,↓Zi,↓Zr,↓Ze,↓Zj,↓Zs,↓Zg,↓Zo,↓Zf,↓Zb,↓Zc,↓vdn,vup,Zm,Zk,Zn,Zl,Zh,List.map_cons,List.map_nil,cond_true,cond_false,aop,Zv,Zq,Zp,ev,sput,Zt,Zy,Ya,unK,Zd,Zw,Nat.reduceBEq,Nat.reduceAdd,Int.reduceBEq,Int.reduceBNe,Int.reduceLT,Zu,Zz,tup,tyf]
   refine hQ2 _ _ _ (hQ _ _ _ ?_)
   simp (maxSteps:=2000000) only [s110,↓Za,↓Zi,↓Zr,↓Ze,↓Zj,↓Zs,↓Zg,↓Zo,↓Zf,↓Zb,↓Zc,↓vdn,vup,Zm,Zk,Zn,Zl,Zh,List.map_cons,List.map_nil,cond_true,cond_false,aop,Zv,Zq,Zp,ev,sput,Zt,Zy,Ya,unK,Zd,Zw,Nat.reduceBEq,Nat.reduceAdd,Int.reduceBEq,Int.reduceBNe,Int.reduceLT,Zu,Zz,tup,tyf,if_true]
   refine hM [(0,ptB bs),(1,ordV o),(2,Zx ((m+1:Nat):Int)),(3,ptB n0),(4,ptB (n0+1)),(5,ptB (n0+2)),(6,ptB (n0+3)),(7,.bool false),(8,v),(9,Zx (cn o:Nat)),(10,ptB (n0+5)),(22,.bool false)] _ _ ?_ (by simp (maxSteps:=2000000) only [↓Za,↓Zi,↓Zr,↓Ze,↓Zj,↓Zs,↓Zg,↓Zo,↓Zf,↓Zb,↓Zc,↓vdn,vup,Zm,Zk,Zn,Zl,Zh,List.map_cons,List.map_nil,cond_true,cond_false,aop,Zv,Zq,Zp,ev,sput,Zt,Zy,Ya,unK,Zd,Zw,Nat.reduceBEq,Nat.reduceAdd,Int.reduceBEq,Int.reduceBNe,Int.reduceLT,Zu,Zz,tup,tyf])
   clear hM
   try clear M
   clear hin hQ hQ2
   obtain ⟨L0,hL0⟩ : ∃ L0,L0=iPP (allF o o.length):=⟨_,rfl⟩
   have hLl:L0.length≤15:=by rw [hL0,iPP_len]; exact allF_15 hl.2
   have hmem : ∀ p∈L0,∃ a b:Nat,p=((a:Int),(b:Int))∧a<b∧b<o.length∧fr o a b=true:=fun p hp=>by
    rw [hL0] at hp
    obtain ⟨a,b,rfl,hab⟩:=mem_iPP hp
    have:=mem_allF.1 hab
    exact ⟨a,b,rfl,this.2.1,this.2.2.1,this.2.2.2⟩
   have hin2 : ∀ p∈L0,inR2 p:=fun p hp=>by
    obtain ⟨a,b,rfl,h1,h2,_⟩:=hmem p hp
    exact key2_in (by omega) (by omega)
   have hall : ∀ a b:Nat,a<b→b<o.length→fr o a b=true→((a:Int),(b:Int))∈L0:=fun a b h1 h2 h3=>by
    rw [hL0]; exact List.mem_map.2 ⟨(a,b),mem_allF.2 ⟨by show a<o.length; omega,h1,h2,h3⟩,rfl⟩
   rw [← hL0] at how
   obtain ⟨bv,ys,rfl,hbv⟩:=how.resolve_left fun hn=>by
    obtain ⟨a,b,h1,h2,h3⟩:=free_pair hcn
    have:=hall a b h1 h2 h3
    rw [hn.2] at this; cases this
   have hbn:n0+6≤bv:=hvb bv rfl
   have hbl:=Yg hbv
   obtain ⟨lm,hlm,hkm⟩:=pf.bm
   have hcmp : ∀ L x y,x∈L0→y∈L0→∃ r:Int,APure prog 121 ([pV x,pV y]++(#[ptB (n0+5)]:Array Value).toList) (hp.set bv (.ints (Yw L++Yw ys) 33 false)) (Zx r):=fun L x y hx hy =>
    uneven_call (by rw [List.getElem?_set_ne (by omega)]; exact pf.bu) (by rw [List.getElem?_set_ne (by omega)]; exact hlm) hkm (hin2 x hx) (hin2 y hy)
   refine Yc fun N17 hN17=>?_
   simp (maxSteps:=2000000) only [s110,↓Za,↓Zi,↓Zr,↓Ze,↓Zj,↓Zs,↓Zg,↓Zo,↓Zf,↓Zb,↓Zc,↓vdn,vup,Zm,Zk,Zn,Zl,Zh,List.map_cons,List.map_nil,cond_true,cond_false,aop,Zv,Zq,Zp,ev,sput,Zt,Zy,Ya,unK,Zd,Zw,Nat.reduceBEq,Nat.reduceAdd,Int.reduceBEq,Int.reduceBNe,Int.reduceLT,Zu,Zz,tup,tyf,Yr,List.nil_append,List.append_nil,List.toList_toArray,List.cons_append,List.map_toArray]
   refine (sortP_call hcmp hbv hLl).mono ?_
   rintro r G ⟨L,hperm,rfl⟩
   try simp (maxSteps:=2000000) only [s110,↓Za,↓Zi,↓Zr,↓Ze,↓Zj,↓Zs,↓Zg,↓Zo,↓Zf,↓Zb,↓Zc,↓vdn,vup,Zm,Zk,Zn,Zl,Zh,List.map_cons,List.map_nil,cond_true,cond_false,aop,Zv,Zq,Zp,ev,sput,Zt,Zy,Ya,unK,Zd,Zw,Nat.reduceBEq,Nat.reduceAdd,Int.reduceBEq,Int.reduceBNe,Int.reduceLT,Zu,Zz,tup,tyf]
   refine hN17 [(0,ptB bs),(1,ordV o),(2,Zx ((m+1:Nat):Int)),(3,ptB n0),(4,ptB (n0+1)),(5,ptB (n0+2)),(6,ptB (n0+3)),(7,.bool false),(8,ovP bv L0.length ys.length),(9,Zx (cn o:Nat)),(10,ptB (n0+5)),(22,.bool false)] _ _ ?_ (by simp (maxSteps:=2000000) only [↓Za,↓Zi,↓Zr,↓Ze,↓Zj,↓Zs,↓Zg,↓Zo,↓Zf,↓Zb,↓Zc,↓vdn,vup,Zm,Zk,Zn,Zl,Zh,List.map_cons,List.map_nil,cond_true,cond_false,aop,Zv,Zq,Zp,ev,sput,Zt,Zy,Ya,unK,Zd,Zw,Nat.reduceBEq,Nat.reduceAdd,Int.reduceBEq,Int.reduceBNe,Int.reduceLT,Zu,Zz,tup,tyf])
   clear hN17
   try clear N17
   obtain ⟨G,hG⟩ : ∃ G,G=hp.set bv (.ints (Yw L++Yw ys) 33 false):=⟨_,rfl⟩
   rw [← hG]
   have pG:PFr bs o m n0 h G:=pf.step (S:=fun b=>b=bv) (fun b hb=>by omega) (by rw [hG]; exact Ext.set _ rfl)
   have hLn:L.length=L0.length:=hperm.length_eq
   have hoG:OwnP 33 G (ovP bv L0.length ys.length) L:=by rw [hG]; exact ovP_own hbl hLn
   have hmL : ∀ k,k<L.length→∃ a b:Nat,L.getD k (0,0)=((a:Int),(b:Int))∧a<b∧b<o.length∧fr o a b=true:=fun k hk=>by
    rw [List.getD,List.getElem?_eq_getElem hk,Option.getD_some]
    exact hmem _ (hperm.mem_iff.1 (List.getElem_mem hk))
   have hsG:=hs.ext pG.ext
   have hbmG:bm<n0:=by
    obtain ⟨_,l,h2,_⟩:=hs
    have:=Yg h2; have:=pf.n0h; omega
   clear hG hcmp how hbv hbl hlm hkm pf
   have hidx:=indexP_call (h:=G) (v:=ovP bv L0.length ys.length) (ps:=L) (fn:=122) (cap:=#[ptB n0,ptB (n0+1),ptB (n0+2)]) (by omega) (fun k z=>SK bs bm z∧Ext (fun b=>b=bm) G z∧∀ q,q<k→∀ a b:Nat,L.getD q (0,0)=((a:Int),(b:Int))→bothB m o a b=false) (fun k z=>SK bs bm z∧Ext (fun b=>b=bm) G z∧∀ a b:Nat,L.getD k (0,0)=((a:Int),(b:Int))→bothB m o a b=true)
    (fun k z ⟨z1,z2,z3⟩=>(hoG.same fun b hb=>z2.2 b (hoG.lt hb) fun e=>by cases hb; omega).pair)
    (fun k hk z ⟨z1,z2,z3⟩=>by
     obtain ⟨a,b,h1,h2,h3,h4⟩:=hmL k hk
     rw [h1]
     refine (try_call ih hm ho z1 (show a<o.length by omega) h3 h4 (b3:=n0) (b4:=n0+1) (b5:=n0+2) ?_ ?_ ?_).mono ?_
     · exact (z2.2 _ (Yg pG.b3) (by omega)).trans pG.b3
     · exact (z2.2 _ (Yg pG.b4) (by omega)).trans pG.b4
     · exact (z2.2 _ (Yg pG.b5) (by omega)).trans pG.b5
     · rintro _ z' ⟨rfl,w1,w2⟩
       refine ⟨_,rfl,fun hb=>⟨w1,z2.trans w2,fun a' b' hab=>?_⟩,fun hb=>⟨w1,z2.trans w2,fun q hq a' b' hab=>?_⟩⟩
       · simp only [Prod.mk.injEq,Int.natCast_inj] at hab
         rw [← hab.1,← hab.2]; exact hb
       · by_cases hqk:q=k
         · subst hqk
           rw [h1] at hab
           simp only [Prod.mk.injEq,Int.natCast_inj] at hab
           rw [← hab.1,← hab.2]; exact hb
         · exact z3 q (by omega) a' b' hab)
    ⟨hsG,Ext.refl _ _,fun q hq=>absurd hq (Nat.not_lt_zero q)⟩
   refine Yc fun N18 hN18=>?_
   simp (maxSteps:=2000000) only [s110,↓Za,↓Zi,↓Zr,↓Ze,↓Zj,↓Zs,↓Zg,↓Zo,↓Zf,↓Zb,↓Zc,↓vdn,vup,Zm,Zk,Zn,Zl,Zh,List.map_cons,List.map_nil,cond_true,cond_false,aop,Zv,Zq,Zp,ev,sput,Zt,Zy,Ya,unK,Zd,Zw,Nat.reduceBEq,Nat.reduceAdd,Int.reduceBEq,Int.reduceBNe,Int.reduceLT,Zu,Zz,tup,tyf,Yr,List.nil_append,List.append_nil,List.toList_toArray,List.cons_append,List.map_toArray]
   refine (hidx).mono ?_
   rintro r z hr
   try simp (maxSteps:=2000000) only [s110,↓Za,↓Zi,↓Zr,↓Ze,↓Zj,↓Zs,↓Zg,↓Zo,↓Zf,↓Zb,↓Zc,↓vdn,vup,Zm,Zk,Zn,Zl,Zh,List.map_cons,List.map_nil,cond_true,cond_false,aop,Zv,Zq,Zp,ev,sput,Zt,Zy,Ya,unK,Zd,Zw,Nat.reduceBEq,Nat.reduceAdd,Int.reduceBEq,Int.reduceBNe,Int.reduceLT,Zu,Zz,tup,tyf]
   have hEh : ∀ z,Ext (fun b=>b=bm) G z→Ext (fun b=>b=bm) h (z):=fun z hz=>(pG.ext.mono fun _ h=>h.elim).trans hz
   have fin : ∀ (z:Yb) (c:List Value),SK bs bm z→Ext (fun b=>b=bm) G z→SK bs bm (z.set (n0+3) (.cells c 33 false))∧Ext (fun b=>b=bm) h (z.set (n0+3) (.cells c 33 false)):=fun z c hz hE=>by
    obtain ⟨k1,l,k2,k3⟩:=hz
    have hn:=pG.n0h
    have hbs:bs<h.length:=Yg hs.1
    refine ⟨⟨by rw [List.getElem?_set_ne (by omega)]; exact k1,l,by rw [List.getElem?_set_ne (by omega)]; exact k2,k3⟩,⟨by rw [List.length_set]; exact (hEh z hE).1,fun q hq hne=>?_⟩⟩
    rw [List.getElem?_set_ne (by omega)]
    exact (hEh z hE).2 q hq hne
   rcases hr with ⟨k,hk,rfl,z1,z2,z3⟩ | ⟨rfl,z1,z2,z3⟩
   · obtain ⟨a,b,h1,h2,h3,h4⟩:=hmL k hk
     have b6:=(z2.2 _ (Yg pG.b6) (by omega)).trans pG.b6
     have hpz:PairSl z (ovP bv L0.length ys.length) L:=(hoG.same fun b hb=>z2.2 b (hoG.lt hb) fun e=>by cases hb; omega).pair
     have hld:=hpz.load shp_33 hk
     rw [h1] at hld
     obtain ⟨g1,g2⟩:=fin z [.int .i64 ((a:Nat):Int),.int .i64 ((b:Nat):Int)] z1 z2
     have g6:(z.set (n0+3) (.cells [.int .i64 ((a:Nat):Int),.int .i64 ((b:Nat):Int)] 33 false))[n0+3]? = some (.cells [Zx ((a:Nat):Int),Zx ((b:Nat):Int)] 33 false):=Xm (Yg b6) _
     have hnk : ¬ ((k:Nat):Int)<0:=by omega
     refine hN18 [(0,ptB bs),(1,ordV o),(2,Zx ((m+1:Nat):Int)),(3,ptB n0),(4,ptB (n0+1)),(5,ptB (n0+2)),(6,ptB (n0+3)),(7,.bool false),(8,ovP bv L0.length ys.length),(9,Zx (cn o:Nat)),(10,ptB (n0+5)),(15,Zx (k:Nat)),(22,.bool false)] _ _ ?_ (by simp (maxSteps:=2000000) only [↓Za,↓Zi,↓Zr,↓Ze,↓Zj,↓Zs,↓Zg,↓Zo,↓Zf,↓Zb,↓Zc,↓vdn,vup,Zm,Zk,Zn,Zl,Zh,List.map_cons,List.map_nil,cond_true,cond_false,aop,Zv,Zq,Zp,ev,sput,Zt,Zy,Ya,unK,Zd,Zw,Nat.reduceBEq,Nat.reduceAdd,Int.reduceBEq,Int.reduceBNe,Int.reduceLT,Zu,Zz,tup,tyf])
     clear hN18
     try clear N18
     refine Yf ?_
     simp (maxSteps:=2000000) only [s110,↓Za,↓Zi,↓Zr,↓Ze,↓Zj,↓Zs,↓Zg,↓Zo,↓Zf,↓Zb,↓Zc,↓vdn,vup,Zm,Zk,Zn,Zl,Zh,List.map_cons,List.map_nil,cond_true,cond_false,aop,Zv,Zq,Zp,ev,sput,Zt,Zy,Ya,unK,Zd,Zw,Nat.reduceBEq,Nat.reduceAdd,Int.reduceBEq,Int.reduceBNe,Int.reduceLT,Zu,Zz,tup,tyf,hnk,hpz.idx el_52 esz_33 hk,hld]
     rw [pst b6 rfl]
     simp (maxSteps:=2000000) only [s110,↓Za,↓Zi,↓Zr,↓Ze,↓Zj,↓Zs,↓Zg,↓Zo,↓Zf,↓Zb,↓Zc,↓vdn,vup,Zm,Zk,Zn,Zl,Zh,List.map_cons,List.map_nil,cond_true,cond_false,aop,Zv,Zq,Zp,ev,sput,Zt,Zy,Ya,unK,Zd,Zw,Nat.reduceBEq,Nat.reduceAdd,Int.reduceBEq,Int.reduceBNe,Int.reduceLT,Zu,Zz,tup,tyf,loadPr g6]
     exact ⟨g1,g2,.inl ⟨a,b,h2,h3,h4,z3 a b h1,rfl⟩⟩
   · have b6:=(z2.2 _ (Yg pG.b6) (by omega)).trans pG.b6
     obtain ⟨g1,g2⟩:=fin z [.int .i64 0,.int .i64 0] z1 z2
     have g6:(z.set (n0+3) (.cells [.int .i64 0,.int .i64 0] 33 false))[n0+3]? = some (.cells [Zx 0,Zx 0] 33 false):=Xm (Yg b6) _
     refine hN18 [(0,ptB bs),(1,ordV o),(2,Zx ((m+1:Nat):Int)),(3,ptB n0),(4,ptB (n0+1)),(5,ptB (n0+2)),(6,ptB (n0+3)),(7,.bool false),(8,ovP bv L0.length ys.length),(9,Zx (cn o:Nat)),(10,ptB (n0+5)),(15,.int .i64 (-1)),(22,.bool false)] _ _ ?_ (by simp (maxSteps:=2000000) only [↓Za,↓Zi,↓Zr,↓Ze,↓Zj,↓Zs,↓Zg,↓Zo,↓Zf,↓Zb,↓Zc,↓vdn,vup,Zm,Zk,Zn,Zl,Zh,List.map_cons,List.map_nil,cond_true,cond_false,aop,Zv,Zq,Zp,ev,sput,Zt,Zy,Ya,unK,Zd,Zw,Nat.reduceBEq,Nat.reduceAdd,Int.reduceBEq,Int.reduceBNe,Int.reduceLT,Zu,Zz,tup,tyf])
     clear hN18
     try clear N18
     refine Yf ?_
     have hneg:(-1:Int)<0:=by decide
     simp (maxSteps:=2000000) only [s110,↓Za,↓Zi,↓Zr,↓Ze,↓Zj,↓Zs,↓Zg,↓Zo,↓Zf,↓Zb,↓Zc,↓vdn,vup,Zm,Zk,Zn,Zl,Zh,List.map_cons,List.map_nil,cond_true,cond_false,aop,Zv,Zq,Zp,ev,sput,Zt,Zy,Ya,unK,Zd,Zw,Nat.reduceBEq,Nat.reduceAdd,Int.reduceBEq,Int.reduceBNe,Int.reduceLT,Zu,Zz,tup,tyf,hneg,bld00]
     rw [pst b6 rfl]
     simp (maxSteps:=2000000) only [s110,↓Za,↓Zi,↓Zr,↓Ze,↓Zj,↓Zs,↓Zg,↓Zo,↓Zf,↓Zb,↓Zc,↓vdn,vup,Zm,Zk,Zn,Zl,Zh,List.map_cons,List.map_nil,cond_true,cond_false,aop,Zv,Zq,Zp,ev,sput,Zt,Zy,Ya,unK,Zd,Zw,Nat.reduceBEq,Nat.reduceAdd,Int.reduceBEq,Int.reduceBNe,Int.reduceLT,Zu,Zz,tup,tyf,loadPr g6]
     refine ⟨g1,g2,.inr ⟨pairB_false fun i j hij hj hf=>?_,_,rfl⟩⟩
     obtain ⟨k,hk,hkk⟩:=List.mem_iff_getElem.1 (hperm.mem_iff.2 (hall i j hij hj hf))
     exact z3 k hk i j (by rw [List.getD,List.getElem?_eq_getElem hk,Option.getD_some]; exact hkk)
end Go.Proofs.Tryd.Am
namespace Go.Proofs.Tryd.Am
open Go.Am
set_option maxRecDepth 100000
end Go.Proofs.Tryd.Am
namespace Go.Proofs.Tryd.Am
open Go.Am Ord
set_option maxRecDepth 100000
set_option maxHeartbeats 1000000
def castN (l:List Nat):List Int:=l.map fun (i:Nat)=>(i:Int)
def behind (xs:List Int) (Ls:List (List Nat)):List (List Int):=Ls.map fun l=>xs++castN l
end Go.Proofs.Tryd.Am
namespace Go.Proofs.Tryd.Am
open Go.Am
set_option maxRecDepth 100000
end Go.Proofs.Tryd.Am
namespace Go.Proofs.Tryd.Am
open Go.Am
set_option maxRecDepth 100000
/-! 108: math bits.Len -/
@[reducible] def q108_0:SCode:=.region [⟨some 2,.assign (.const (.int .i64 0)),none⟩]
@[reducible] def q108_1:SCode:=.region [⟨some 3,.move (.tmp 0),none⟩,
  ⟨some 4,.convert 29 131 (.tmp 3),none⟩,
  ⟨some 5,.call { callee:=.value (.func 118),args:=#[.tmp 4],argTypes:=#[131] },none⟩,
  ⟨some 2,.assign (.tmp 5),none⟩]
@[reducible] def q108_2:SCode:=.region [⟨some 6,.move (.tmp 0),none⟩,
  ⟨some 7,.call { callee:=.value (.func 119),args:=#[.tmp 6],argTypes:=#[133] },none⟩,
  ⟨some 2,.assign (.tmp 7),none⟩]
def s108:SCode:=(.seq q108_0 (.seq (.cond (.const (.bool false)) (.seq q108_1 .ret) .skip) (.seq q108_2 .ret)))
theorem s108_strip:Yh (Yi Tryd.f108)=s108:=by kernel_rfl
theorem s108_ok:Yx 8 (Yi Tryd.f108)=true:=by kernel_rfl
/-! 119: math bits.Len64 -/
@[reducible] def q119_0:SCode:=.region [⟨some 2,.assign (.const (.int .i64 0)),none⟩]
@[reducible] def q119_1:SCode:=.region [⟨some 3,.move (.tmp 0),none⟩,
  ⟨some 4,.binOp .geq 133 (.tmp 3) (.const (.int .u64 4294967296)) 133,none⟩]
@[reducible] def q119_2:SCode:=.region [⟨some 5,.move (.tmp 0),none⟩,
  ⟨some 6,.binOp .shr 133 (.tmp 5) (.const (.int .u64 32)) 29,none⟩,
  ⟨some 0,.assign (.tmp 6),none⟩]
@[reducible] def q119_3:SCode:=.region [⟨some 2,.assign (.const (.int .i64 32)),none⟩]
@[reducible] def q119_4:SCode:=.region [⟨some 7,.move (.tmp 0),none⟩,
  ⟨some 8,.binOp .geq 133 (.tmp 7) (.const (.int .u64 65536)) 133,none⟩]
@[reducible] def q119_5:SCode:=.region [⟨some 9,.move (.tmp 0),none⟩,
  ⟨some 10,.binOp .shr 133 (.tmp 9) (.const (.int .u64 16)) 29,none⟩,
  ⟨some 0,.assign (.tmp 10),none⟩]
@[reducible] def q119_6:SCode:=.region [⟨some 11,.move (.tmp 2),none⟩,
  ⟨some 12,.binOp .add 3 (.tmp 11) (.const (.int .i64 16)) 3,none⟩,
  ⟨some 2,.assign (.tmp 12),none⟩]
@[reducible] def q119_7:SCode:=.region [⟨some 13,.move (.tmp 0),none⟩,
  ⟨some 14,.binOp .geq 133 (.tmp 13) (.const (.int .u64 256)) 133,none⟩]
@[reducible] def q119_8:SCode:=.region [⟨some 15,.move (.tmp 0),none⟩,
  ⟨some 16,.binOp .shr 133 (.tmp 15) (.const (.int .u64 8)) 29,none⟩,
  ⟨some 0,.assign (.tmp 16),none⟩]
@[reducible] def q119_9:SCode:=.region [⟨some 17,.move (.tmp 2),none⟩,
  ⟨some 18,.binOp .add 3 (.tmp 17) (.const (.int .i64 8)) 3,none⟩,
  ⟨some 2,.assign (.tmp 18),none⟩]
@[reducible] def q119_10:SCode:=.region [⟨some 19,.move (.tmp 2),none⟩,
  ⟨some 20,.move (.tmp 0),none⟩,
  ⟨some 21,.convert 133 5 (.tmp 20),none⟩,
  ⟨some 22,.index 9 (.const (.string { data:=#[0,1,2,2,3,3,3,3,4,4,4,4,4,4,4,4,5,5,5,5,5,5,5,5,5,5,5,5,5,5,5,5,6,6,6,6,6,6,6,6,6,6,6,6,6,6,6,6,6,6,6,6,6,6,6,6,6,6,6,6,6,6,6,6,7,7,7,7,7,7,7,7,7,7,7,7,7,7,7,7,7,7,7,7,7,7,7,7,7,7,7,7,7,7,7,7,7,7,7,7,7,7,7,7,7,7,7,7,7,7,7,7,7,7,7,7,7,7,7,7,7,7,7,7,7,7,7,7,8,8,8,8,8,8,8,8,8,8,8,8,8,8,8,8,8,8,8,8,8,8,8,8,8,8,8,8,8,8,8,8,8,8,8,8,8,8,8,8,8,8,8,8,8,8,8,8,8,8,8,8,8,8,8,8,8,8,8,8,8,8,8,8,8,8,8,8,8,8,8,8,8,8,8,8,8,8,8,8,8,8,8,8,8,8,8,8,8,8,8,8,8,8,8,8,8,8,8,8,8,8,8,8,8,8,8,8,8,8,8,8,8,8,8,8,8,8,8,8,8,8,8,8,8,8,8,8] })) (.tmp 21),none⟩,
  ⟨some 23,.convert 5 3 (.tmp 22),none⟩,
  ⟨some 24,.binOp .add 3 (.tmp 19) (.tmp 23) 3,none⟩,
  ⟨some 2,.assign (.tmp 24),none⟩]
def s119:SCode:=(.seq q119_0 (.seq (.seq q119_1 (.cond (.tmp 4) (.seq q119_2 q119_3) .skip)) (.seq (.seq q119_4 (.cond (.tmp 8) (.seq q119_5 q119_6) .skip)) (.seq (.seq q119_7 (.cond (.tmp 14) (.seq q119_8 q119_9) .skip)) (.seq q119_10 .ret)))))
theorem s119_strip:Yh (Yi Tryd.f119)=s119:=by kernel_rfl
theorem s119_ok:Yx 25 (Yi Tryd.f119)=true:=by kernel_rfl
end Go.Proofs.Tryd.Am
namespace Go.Proofs.Tryd.Am
open Go.Am Ord
set_option maxRecDepth 100000
set_option maxHeartbeats 1000000
end Go.Proofs.Tryd.Am
namespace Go.Proofs.Tryd.Am
open Go.Am Ord
set_option maxRecDepth 100000
set_option maxHeartbeats 1000000
abbrev iL (L:List Nat):List Int:=L.map Int.ofNat
theorem getD_setN {L:List Nat} {s x i:Nat} (hs:s<L.length):(L.set s x).getD i 0=if i=s then x else L.getD i 0:=by
 rw [List.getD,List.getElem?_set]
 by_cases h:s=i
 · subst h; simp [hs]
 · rw [if_neg h,if_neg (Ne.symm h)]; rfl
def swL (L:List Nat) (j:Nat):List Nat:=(L.set j (L.getD (j-1) 0)).set (j-1) (L.getD j 0)
theorem swL_get {L:List Nat} {j:Nat} (h1:1≤j) (h2:j<L.length) (t:Nat):(swL L j).getD t 0=if t=j-1 then L.getD j 0 else if t=j then L.getD (j-1) 0 else L.getD t 0:=by
 rw [swL,getD_setN (by rw [List.length_set]; omega),getD_setN h2]
section
variable {key:Nat→Int}
def SrtTo (key:Nat→Int) (L:List Nat) (i:Nat):Prop:=∀ p q,p<q→q<i→key (L.getD p 0)≤key (L.getD q 0)
def SrtBut (key:Nat→Int) (L:List Nat) (i j:Nat):Prop:=∀ p q,p<q→q≤i→q≠j→key (L.getD p 0)≤key (L.getD q 0)
theorem SrtBut.step {L:List Nat} {i j:Nat} (h:SrtBut key L i j) (h1:1≤j) (h2:j<L.length) (hj:j≤i) (hlt:key (L.getD j 0)<key (L.getD (j-1) 0)):SrtBut key (swL L j) i (j-1):=by
 intro p q hpq hq hne
 rw [swL_get h1 h2,swL_get h1 h2,if_neg hne]
 by_cases hqj:q=j
 · rw [if_pos hqj]
   by_cases hp:p=j-1
   · rw [if_pos hp]; omega
   · rw [if_neg hp,if_neg (by omega)]
     exact h p (j-1) (by omega) (by omega) (by omega)
 · rw [if_neg hqj]
   by_cases hp:p=j-1
   · rw [if_pos hp]; exact h j q (by omega) hq hqj
   · rw [if_neg hp]
     by_cases hpj:p=j
     · rw [if_pos hpj]; exact h (j-1) q (by omega) hq hqj
     · rw [if_neg hpj]; exact h p q hpq hq hqj
theorem SrtBut.done {L:List Nat} {i j:Nat} (h:SrtBut key L i j) (hj:j=0∨key (L.getD (j-1) 0)≤key (L.getD j 0)):SrtTo key L (i+1):=by
 intro p q hpq hq
 by_cases hqj:q=j
 · subst hqj
   rcases hj with hj | hj
   · omega
   · by_cases hp:p=q-1
     · subst hp; exact hj
     · exact Int.le_trans (h p (q-1) (by omega) (by omega) (by omega)) hj
 · exact h p q hpq (by omega) hqj
theorem SrtTo.pw {L:List Nat} (h:SrtTo key L L.length):L.Pairwise fun a b=>key a≤key b:=by
 rw [List.pairwise_iff_getElem]
 intro i j hi hj hij
 have:=h i j hij hj
 rw [List.getD,List.getD,List.getElem?_eq_getElem hi,List.getElem?_eq_getElem hj] at this
 exact this
end
abbrev ov (b n m:Nat):Value:=.slice (some ⟨b,0,some 0⟩) n (n+m)
theorem wrap8 {x:Nat} (h:x<256):IntKind.u8.wrap (x:Int)=(x:Int):=by
 simp [IntKind.wrap,IntKind.signed,IntKind.bits]; omega
theorem s119_callW [Tabs Tryd.prog] {args:List Value} {h:Yb} {Q:Value→Yb→Prop} (hsz:args.length≤25) (hk:AWS Tryd.prog 25 s119 (Zu Tryd.prog [.tmp 2] Q) (Zp 0 args) h):ACall Tryd.prog 119 args h Q :=
 Wn Tryd.func119 rfl (enters_of Tryd.func119 (by kernel_rfl) rfl) rfl rfl (by decide) s119_strip s119_ok hsz hk
theorem s108_callW [Tabs Tryd.prog] {args:List Value} {h:Yb} {Q:Value→Yb→Prop} (hsz:args.length≤8) (hk:AWS Tryd.prog 8 s108 (Zu Tryd.prog [.tmp 2] Q) (Zp 0 args) h):ACall Tryd.prog 108 args h Q :=
 Wn Tryd.func108 rfl (enters_of Tryd.func108 (by kernel_rfl) rfl) rfl rfl (by decide) s108_strip s108_ok hsz hk
end Go.Proofs.Tryd.Am
namespace Go.Proofs.Tryd.Am
open Go.Am
set_option maxRecDepth 100000
set_option maxHeartbeats 1000000
def LenIs (x z:Nat):Prop:=z≤16∧∀ k,x<2 ^ k→z≤k
theorem lenIs_tab (s:ByteArray) (hs:s.size=256) (h:((List.range 256).all fun x=>decide ((s.get! x).toNat≤8)&&(List.range 8).all fun k=>!decide (x<2 ^ k) || decide ((s.get! x).toNat≤k))=true) {x:Nat} (hx:x<256) : ∃ z:Nat,(s[x]'(by omega)).toNat=z∧z≤8∧∀ k,x<2 ^ k→z≤k:=by
 have h1:=List.all_eq_true.1 h x (List.mem_range.2 hx)
 rw [Bool.and_eq_true,decide_eq_true_eq] at h1
 have e:s.get! x=s[x]'(by omega):=by
  simp [ByteArray.get!,ByteArray.getElem_eq_getElem_data]
  rw [getElem!_pos]
 rw [e] at h1
 refine ⟨_,rfl,h1.1,fun k hk=>?_⟩
 by_cases h8:k<8
 · have h2:=List.all_eq_true.1 h1.2 k (List.mem_range.2 h8)
   rw [decide_eq_true hk,Bool.not_true,Bool.false_or,decide_eq_true_eq] at h2
   exact h2
 · omega
theorem LenIs.shift {x z:Nat} (h:z≤8∧∀ k,x / 256<2 ^ k→z≤k) (hx:256≤x):LenIs x (8+z):=by
 refine ⟨by omega,fun k hk=>?_⟩
 by_cases h8:k≤8
 · have:2 ^ k≤2 ^ 8:=Nat.pow_le_pow_right (by decide) h8
   omega
 · obtain ⟨d,rfl⟩ : ∃ d,k=8+d:=⟨k-8,by omega⟩
   rw [Nat.pow_add] at hk
   have:=h.2 d (Nat.div_lt_of_lt_mul hk)
   omega
theorem len64v_call [Tabs prog] {h:Yb} {x:Nat} (hx:x<65536):ACall prog 119 [vu x] h fun r h'=>(∃ z,LenIs x z∧r=Zx (z:Nat))∧h' = h:=by
 obtain ⟨s,hs,htab,hq⟩ : ∃ s:ByteArray,s.size=256∧((List.range 256).all fun x=>decide ((s.get! x).toNat≤8)&&(List.range 8).all fun k=>!decide (x<2 ^ k) || decide ((s.get! x).toNat≤k))=true∧q119_10 = .region [⟨some 19,.move (.tmp 2),none⟩,⟨some 20,.move (.tmp 0),none⟩,⟨some 21,.convert 133 5 (.tmp 20),none⟩,⟨some 22,.index 9 (.const (.string s)) (.tmp 21),none⟩,
   ⟨some 23,.convert 5 3 (.tmp 22),none⟩,⟨some 24,.binOp .add 3 (.tmp 19) (.tmp 23) 3,none⟩,⟨some 2,.assign (.tmp 24),none⟩]:=by
  refine ⟨_,?_,?_,rfl⟩
  · kernel_rfl
  · kernel_rfl
 have hnn : ∀ i:Nat,(0:Int)≤(i:Int):=Int.natCast_nonneg
 have n1 : ¬ (4294967296:Int)≤(x:Int):=by omega
 have n2 : ¬ (65536:Int)≤(x:Int):=by omega
 refine s119_callW (by simp) ?_
 simp only [s119]
 refine Yc fun N1 hN1=>?_
 simp (maxSteps:=2000000) only [s119,↓Za,↓Zi,↓Zr,↓Ze,↓Zj,↓Zs,↓Zg,↓Zo,↓Zf,↓Zb,↓Zc,↓vdn,vup,Zm,Zk,Zn,Zl,Zh,List.map_cons,List.map_nil,cond_true,cond_false,aop,Zv,Zq,Zp,ev,sput,Zt,Zy,Ya,unK,Zd,Zw,Nat.reduceBEq,Nat.reduceAdd,Int.reduceBEq,Int.reduceBNe,Int.reduceLT,Zu,Zz,tup,tyf]
 refine hN1 [(0,vu x),(2,.int .i64 0)] _ _ ?_ (by simp (maxSteps:=2000000) only [↓Za,↓Zi,↓Zr,↓Ze,↓Zj,↓Zs,↓Zg,↓Zo,↓Zf,↓Zb,↓Zc,↓vdn,vup,Zm,Zk,Zn,Zl,Zh,List.map_cons,List.map_nil,cond_true,cond_false,aop,Zv,Zq,Zp,ev,sput,Zt,Zy,Ya,unK,Zd,Zw,Nat.reduceBEq,Nat.reduceAdd,Int.reduceBEq,Int.reduceBNe,Int.reduceLT,Zu,Zz,tup,tyf])
 clear hN1
 try clear N1
 refine Yc fun N2 hN2=>?_
 simp (maxSteps:=2000000) only [s119,↓Za,↓Zi,↓Zr,↓Ze,↓Zj,↓Zs,↓Zg,↓Zo,↓Zf,↓Zb,↓Zc,↓vdn,vup,Zm,Zk,Zn,Zl,Zh,List.map_cons,List.map_nil,cond_true,cond_false,aop,Zv,Zq,Zp,ev,sput,Zt,Zy,Ya,unK,Zd,Zw,Nat.reduceBEq,Nat.reduceAdd,Int.reduceBEq,Int.reduceBNe,Int.reduceLT,Zu,Zz,tup,tyf,ge_iff_le,n1]
 refine hN2 [(0,vu x),(2,.int .i64 0)] _ _ ?_ (by simp (maxSteps:=2000000) only [↓Za,↓Zi,↓Zr,↓Ze,↓Zj,↓Zs,↓Zg,↓Zo,↓Zf,↓Zb,↓Zc,↓vdn,vup,Zm,Zk,Zn,Zl,Zh,List.map_cons,List.map_nil,cond_true,cond_false,aop,Zv,Zq,Zp,ev,sput,Zt,Zy,Ya,unK,Zd,Zw,Nat.reduceBEq,Nat.reduceAdd,Int.reduceBEq,Int.reduceBNe,Int.reduceLT,Zu,Zz,tup,tyf])
 clear hN2
 try clear N2
 refine Yc fun N3 hN3=>?_
 simp (maxSteps:=2000000) only [s119,↓Za,↓Zi,↓Zr,↓Ze,↓Zj,↓Zs,↓Zg,↓Zo,↓Zf,↓Zb,↓Zc,↓vdn,vup,Zm,Zk,Zn,Zl,Zh,List.map_cons,List.map_nil,cond_true,cond_false,aop,Zv,Zq,Zp,ev,sput,Zt,Zy,Ya,unK,Zd,Zw,Nat.reduceBEq,Nat.reduceAdd,Int.reduceBEq,Int.reduceBNe,Int.reduceLT,Zu,Zz,tup,tyf,ge_iff_le,n2]
 refine hN3 [(0,vu x),(2,.int .i64 0)] _ _ ?_ (by simp (maxSteps:=2000000) only [↓Za,↓Zi,↓Zr,↓Ze,↓Zj,↓Zs,↓Zg,↓Zo,↓Zf,↓Zb,↓Zc,↓vdn,vup,Zm,Zk,Zn,Zl,Zh,List.map_cons,List.map_nil,cond_true,cond_false,aop,Zv,Zq,Zp,ev,sput,Zt,Zy,Ya,unK,Zd,Zw,Nat.reduceBEq,Nat.reduceAdd,Int.reduceBEq,Int.reduceBNe,Int.reduceLT,Zu,Zz,tup,tyf])
 clear hN3
 try clear N3
 by_cases h256:x<256
 · have n3 : ¬ (256:Int)≤(x:Int):=by omega
   have hidx:s[x]? = some (s[x]'(by omega)):=getElem?_pos s x (by omega)
   obtain ⟨z,hz,hz8,hzk⟩:=lenIs_tab s hs htab h256
   have hadd:addV .i64 0 ((z:Nat):Int)=((z:Nat):Int):=by rw [addV_id (by omega) (by omega)]; omega
   refine Yc fun N4 hN4=>?_
   simp (maxSteps:=2000000) only [s119,↓Za,↓Zi,↓Zr,↓Ze,↓Zj,↓Zs,↓Zg,↓Zo,↓Zf,↓Zb,↓Zc,↓vdn,vup,Zm,Zk,Zn,Zl,Zh,List.map_cons,List.map_nil,cond_true,cond_false,aop,Zv,Zq,Zp,ev,sput,Zt,Zy,Ya,unK,Zd,Zw,Nat.reduceBEq,Nat.reduceAdd,Int.reduceBEq,Int.reduceBNe,Int.reduceLT,Zu,Zz,tup,tyf,ge_iff_le,n3]
   refine hN4 [(0,vu x),(2,.int .i64 0)] _ _ ?_ (by simp (maxSteps:=2000000) only [↓Za,↓Zi,↓Zr,↓Ze,↓Zj,↓Zs,↓Zg,↓Zo,↓Zf,↓Zb,↓Zc,↓vdn,vup,Zm,Zk,Zn,Zl,Zh,List.map_cons,List.map_nil,cond_true,cond_false,aop,Zv,Zq,Zp,ev,sput,Zt,Zy,Ya,unK,Zd,Zw,Nat.reduceBEq,Nat.reduceAdd,Int.reduceBEq,Int.reduceBNe,Int.reduceLT,Zu,Zz,tup,tyf])
   clear hN4
   try clear N4
   rw [hq]
   refine Yf ?_
   simp (maxSteps:=2000000) only [s119,↓Za,↓Zi,↓Zr,↓Ze,↓Zj,↓Zs,↓Zg,↓Zo,↓Zf,↓Zb,↓Zc,↓vdn,vup,Zm,Zk,Zn,Zl,Zh,List.map_cons,List.map_nil,cond_true,cond_false,aop,Zv,Zq,Zp,ev,sput,Zt,Zy,Ya,unK,Zd,Zw,Nat.reduceBEq,Nat.reduceAdd,Int.reduceBEq,Int.reduceBNe,Int.reduceLT,Zu,Zz,tup,tyf,convK,und_133,und_5,und_3,wrap8 h256,Vh,und_9,hnn,Int.toNat_natCast,hidx,hz]
   have hwz:IntKind.i64.wrap ((z:Nat):Int)=((z:Nat):Int):=wrap_id (by omega) (by omega)
   exact ⟨z,⟨by omega,fun k hk=>hzk k hk⟩,by rw [hwz,hadd]⟩
 · have n3:(256:Int)≤(x:Int):=by omega
   have h8:x / 256<256:=by omega
   have hidx:s[x / 256]? = some (s[x / 256]'(by omega)):=getElem?_pos s (x / 256) (by omega)
   obtain ⟨z,hz,hz8,hzk⟩:=lenIs_tab s hs htab h8
   have hadd:addV .i64 8 ((z:Nat):Int)=((8+z:Nat):Int):=by rw [addV_id (by omega) (by omega)]; omega
   have h08:addV .i64 0 8=8:=rfl
   have hshr:shrV .u64 ((x:Nat):Int) 8=((x / 256:Nat):Int):=by
    have e8:(2:Int) ^ (min ((8:Int).toNat) IntKind.u64.bits)=256:=rfl
    rw [shrV,e8,Int.fdiv_eq_ediv_of_nonneg _ (by decide)]; omega
   refine Ym fun N5 hN5=>?_
   refine Yc fun N6 hN6=>?_
   simp (maxSteps:=2000000) only [s119,↓Za,↓Zi,↓Zr,↓Ze,↓Zj,↓Zs,↓Zg,↓Zo,↓Zf,↓Zb,↓Zc,↓vdn,vup,Zm,Zk,Zn,Zl,Zh,List.map_cons,List.map_nil,cond_true,cond_false,aop,Zv,Zq,Zp,ev,sput,Zt,Zy,Ya,unK,Zd,Zw,Nat.reduceBEq,Nat.reduceAdd,Int.reduceBEq,Int.reduceBNe,Int.reduceLT,Zu,Zz,tup,tyf,ge_iff_le,n3]
   refine hN6 [(0,vu x),(2,.int .i64 0),(14,.bool true)] _ _ ?_ (by simp (maxSteps:=2000000) only [↓Za,↓Zi,↓Zr,↓Ze,↓Zj,↓Zs,↓Zg,↓Zo,↓Zf,↓Zb,↓Zc,↓vdn,vup,Zm,Zk,Zn,Zl,Zh,List.map_cons,List.map_nil,cond_true,cond_false,aop,Zv,Zq,Zp,ev,sput,Zt,Zy,Ya,unK,Zd,Zw,Nat.reduceBEq,Nat.reduceAdd,Int.reduceBEq,Int.reduceBNe,Int.reduceLT,Zu,Zz,tup,tyf])
   clear hN6
   try clear N6
   refine Xb rfl ?_
   refine Yf ?_
   simp (maxSteps:=2000000) only [s119,↓Za,↓Zi,↓Zr,↓Ze,↓Zj,↓Zs,↓Zg,↓Zo,↓Zf,↓Zb,↓Zc,↓vdn,vup,Zm,Zk,Zn,Zl,Zh,List.map_cons,List.map_nil,cond_true,cond_false,aop,Zv,Zq,Zp,ev,sput,Zt,Zy,Ya,unK,Zd,Zw,Nat.reduceBEq,Nat.reduceAdd,Int.reduceBEq,Int.reduceBNe,Int.reduceLT,Zu,Zz,tup,tyf,hshr,h08,show ((0:Int)≤8)=True from eq_true (by decide)]
   refine hN5 [(0,vu (x / 256)),(2,.int .i64 8)] _ _ ?_ (by simp (maxSteps:=2000000) only [↓Za,↓Zi,↓Zr,↓Ze,↓Zj,↓Zs,↓Zg,↓Zo,↓Zf,↓Zb,↓Zc,↓vdn,vup,Zm,Zk,Zn,Zl,Zh,List.map_cons,List.map_nil,cond_true,cond_false,aop,Zv,Zq,Zp,ev,sput,Zt,Zy,Ya,unK,Zd,Zw,Nat.reduceBEq,Nat.reduceAdd,Int.reduceBEq,Int.reduceBNe,Int.reduceLT,Zu,Zz,tup,tyf])
   clear hN5
   try clear N5
   rw [hq]
   refine Yf ?_
   simp (maxSteps:=2000000) only [s119,↓Za,↓Zi,↓Zr,↓Ze,↓Zj,↓Zs,↓Zg,↓Zo,↓Zf,↓Zb,↓Zc,↓vdn,vup,Zm,Zk,Zn,Zl,Zh,List.map_cons,List.map_nil,cond_true,cond_false,aop,Zv,Zq,Zp,ev,sput,Zt,Zy,Ya,unK,Zd,Zw,Nat.reduceBEq,Nat.reduceAdd,Int.reduceBEq,Int.reduceBNe,Int.reduceLT,Zu,Zz,tup,tyf,convK,und_133,und_5,und_3,wrap8 h8,Vh,und_9,hnn,Int.toNat_natCast,hidx,hz]
   have hwz:IntKind.i64.wrap ((z:Nat):Int)=((z:Nat):Int):=wrap_id (by omega) (by omega)
   exact ⟨8+z,LenIs.shift ⟨hz8,hzk⟩ (by omega),by rw [hwz,hadd]⟩
theorem lenv_call [Tabs prog] {h:Yb} {x:Nat} (hx:x<65536):ACall prog 108 [vu x] h fun r h'=>(∃ z,LenIs x z∧r=Zx (z:Nat))∧h' = h:=by
 refine s108_callW (by simp) ?_
 simp only [s108]
 refine Yc fun N7 hN7=>?_
 simp (maxSteps:=2000000) only [s108,↓Za,↓Zi,↓Zr,↓Ze,↓Zj,↓Zs,↓Zg,↓Zo,↓Zf,↓Zb,↓Zc,↓vdn,vup,Zm,Zk,Zn,Zl,Zh,List.map_cons,List.map_nil,cond_true,cond_false,aop,Zv,Zq,Zp,ev,sput,Zt,Zy,Ya,unK,Zd,Zw,Nat.reduceBEq,Nat.reduceAdd,Int.reduceBEq,Int.reduceBNe,Int.reduceLT,Zu,Zz,tup,tyf]
 refine hN7 [(0,vu x),(2,.int .i64 0)] _ _ ?_ (by simp (maxSteps:=2000000) only [↓Za,↓Zi,↓Zr,↓Ze,↓Zj,↓Zs,↓Zg,↓Zo,↓Zf,↓Zb,↓Zc,↓vdn,vup,Zm,Zk,Zn,Zl,Zh,List.map_cons,List.map_nil,cond_true,cond_false,aop,Zv,Zq,Zp,ev,sput,Zt,Zy,Ya,unK,Zd,Zw,Nat.reduceBEq,Nat.reduceAdd,Int.reduceBEq,Int.reduceBNe,Int.reduceLT,Zu,Zz,tup,tyf])
 clear hN7
 try clear N7
 refine Ym fun N8 hN8=>?_
 refine Xa rfl ?_
 refine Yf ?_
 simp (maxSteps:=2000000) only [s108,↓Za,↓Zi,↓Zr,↓Ze,↓Zj,↓Zs,↓Zg,↓Zo,↓Zf,↓Zb,↓Zc,↓vdn,vup,Zm,Zk,Zn,Zl,Zh,List.map_cons,List.map_nil,cond_true,cond_false,aop,Zv,Zq,Zp,ev,sput,Zt,Zy,Ya,unK,Zd,Zw,Nat.reduceBEq,Nat.reduceAdd,Int.reduceBEq,Int.reduceBNe,Int.reduceLT,Zu,Zz,tup,tyf]
 refine hN8 [(0,vu x),(2,.int .i64 0)] _ _ ?_ (by simp (maxSteps:=2000000) only [↓Za,↓Zi,↓Zr,↓Ze,↓Zj,↓Zs,↓Zg,↓Zo,↓Zf,↓Zb,↓Zc,↓vdn,vup,Zm,Zk,Zn,Zl,Zh,List.map_cons,List.map_nil,cond_true,cond_false,aop,Zv,Zq,Zp,ev,sput,Zt,Zy,Ya,unK,Zd,Zw,Nat.reduceBEq,Nat.reduceAdd,Int.reduceBEq,Int.reduceBNe,Int.reduceLT,Zu,Zz,tup,tyf])
 clear hN8
 try clear N8
 refine Yf ?_
 simp (maxSteps:=2000000) only [s108,↓Za,↓Zi,↓Zr,↓Ze,↓Zj,↓Zs,↓Zg,↓Zo,↓Zf,↓Zb,↓Zc,↓vdn,vup,Zm,Zk,Zn,Zl,Zh,List.map_cons,List.map_nil,cond_true,cond_false,aop,Zv,Zq,Zp,ev,sput,Zt,Zy,Ya,unK,Zd,Zw,Nat.reduceBEq,Nat.reduceAdd,Int.reduceBEq,Int.reduceBNe,Int.reduceLT,Zu,Zz,tup,tyf,Yr,List.nil_append,List.append_nil,List.toList_toArray,List.cons_append]
 refine (len64v_call hx).mono ?_
 rintro _ h ⟨⟨z,hz,rfl⟩,rfl⟩
 exact ⟨⟨z,hz,rfl⟩,rfl⟩
end Go.Proofs.Tryd.Am
namespace Go.Proofs.Tryd.Am
open Go.Am Ord
set_option maxRecDepth 100000
set_option maxHeartbeats 2000000
theorem SK.put {bs bm:Nat} {h:Yb} {o:List Int} {n:Nat} (ho:ord o=true) (hn:n≤62) {l:List (List Int×Bool)} (h1:h[bs]? = some (.cells [.map (some bm)] 100 false)) (h2:h[bm]? = some (.map (mA Value.bool l))) (h3:KeysN 8 l) (h4 : ∀ o n v,ord o=true→aget (encN o n) l=some v→v=Wv n o) :
  SK bs bm (h.set bm (.map (mA Value.bool (aput (encN o n) (Wv n o) l)))):=by
 have hl:=Yz ho
 have hne:bs≠bm:=fun e=>by rw [e,h2] at h1; cases h1
 refine ⟨by rw [List.getElem?_set_ne (Ne.symm hne)]; exact h1,_,Xm (Yg h2) _,h3.put (encN_len hl.2 n) (encN_in ho hn),fun o' n' v ho' hv=>?_⟩
 rw [aget_aput] at hv
 split at hv
 · rename_i he
   obtain ⟨rfl,rfl⟩:=encN_inj (Yz ho').2 hl.2 he
   cases hv; rfl
 · exact h4 o' n' v ho' hv
theorem srtb_one {n:Nat} {o:List Int} (h:cn o=1):Wv n o=true:=by
 cases n with
 | zero=>rw [Wv,h]; rfl
 | succ n=>rw [srtb_succ,h]; rfl
theorem s109_callW [Tabs Tryd.prog] {args:List Value} {h:Yb} {Q:Value→Yb→Prop} (hsz:args.length≤55) (hk:AWS Tryd.prog 55 s109 (Zu Tryd.prog [.tmp 6] Q) (Zp 0 args) h):ACall Tryd.prog 109 args h Q :=
 Wn Tryd.func109 rfl (enters_of Tryd.func109 (by kernel_rfl) rfl) rfl rfl (by decide) s109_strip s109_ok hsz hk
theorem sorts_step [BitTab prog 1] {bs bm n:Nat} (hn:n≤60) (ih : ∀ m,n=m+1→SortsOK bs bm m):SortsOK bs bm n:=by
 intro h o ho hs
 have hl:=Yz ho
 refine s109_callW (by simp) ?_
 simp only [s109]
 refine Yc fun N1 hN1=>?_
 simp (maxSteps:=2000000) only [s109,↓Za,↓Zi,↓Zr,↓Ze,↓Zj,↓Zs,↓Zg,↓Zo,↓Zf,↓Zb,↓Zc,↓vdn,vup,Zm,Zk,Zn,Zl,Zh,List.map_cons,List.map_nil,cond_true,cond_false,aop,Zv,Zq,Zp,ev,sput,Zt,Zy,Ya,unK,Zd,Zw,Nat.reduceBEq,Nat.reduceAdd,Int.reduceBEq,Int.reduceBNe,Int.reduceLT,Zu,Zz,tup,tyf,boxO esz_77,Xj]
 have c0:=Yp h (Blk.cells (Xt o) 77 false)
 have hE:Ext (fun _=>False) h (h++[Blk.cells (Xt o) 77 false]):=Ext.app _ _ _
 have hsG:=hs.ext hE
 generalize h++[Blk.cells (Xt o) 77 false]=G at c0 hE hsG ⊢
 generalize h.length=b4 at c0 ⊢
 have hEm:Ext (fun b=>b=bm) h G:=hE.mono fun _ h=>h.elim
 refine hN1 [(0,ptB bs),(1,ordV o),(2,Zx (n:Nat)),(4,ptB b4),(6,.bool false)] _ _ ?_ (by simp (maxSteps:=2000000) only [↓Za,↓Zi,↓Zr,↓Ze,↓Zj,↓Zs,↓Zg,↓Zo,↓Zf,↓Zb,↓Zc,↓vdn,vup,Zm,Zk,Zn,Zl,Zh,List.map_cons,List.map_nil,cond_true,cond_false,aop,Zv,Zq,Zp,ev,sput,Zt,Zy,Ya,unK,Zd,Zw,Nat.reduceBEq,Nat.reduceAdd,Int.reduceBEq,Int.reduceBNe,Int.reduceLT,Zu,Zz,tup,tyf])
 clear hN1
 try clear N1
 refine Yc fun N2 hN2=>?_
 simp (maxSteps:=2000000) only [s109,↓Za,↓Zi,↓Zr,↓Ze,↓Zj,↓Zs,↓Zg,↓Zo,↓Zf,↓Zb,↓Zc,↓vdn,vup,Zm,Zk,Zn,Zl,Zh,List.map_cons,List.map_nil,cond_true,cond_false,aop,Zv,Zq,Zp,ev,sput,Zt,Zy,Ya,unK,Zd,Zw,Nat.reduceBEq,Nat.reduceAdd,Int.reduceBEq,Int.reduceBNe,Int.reduceLT,Zu,Zz,tup,tyf,Yr,List.nil_append,List.append_nil,List.toList_toArray,List.cons_append,Xy c0 Yn hl.2]
 refine (Wh ho).mono ?_
 rintro _ G ⟨rfl,rfl⟩
 try simp (maxSteps:=2000000) only [s109,↓Za,↓Zi,↓Zr,↓Ze,↓Zj,↓Zs,↓Zg,↓Zo,↓Zf,↓Zb,↓Zc,↓vdn,vup,Zm,Zk,Zn,Zl,Zh,List.map_cons,List.map_nil,cond_true,cond_false,aop,Zv,Zq,Zp,ev,sput,Zt,Zy,Ya,unK,Zd,Zw,Nat.reduceBEq,Nat.reduceAdd,Int.reduceBEq,Int.reduceBNe,Int.reduceLT,Zu,Zz,tup,tyf]
 refine hN2 [(0,ptB bs),(1,ordV o),(2,Zx (n:Nat)),(4,ptB b4),(6,.bool false),(7,Zx (cn o:Nat))] _ _ ?_ (by simp (maxSteps:=2000000) only [↓Za,↓Zi,↓Zr,↓Ze,↓Zj,↓Zs,↓Zg,↓Zo,↓Zf,↓Zb,↓Zc,↓vdn,vup,Zm,Zk,Zn,Zl,Zh,List.map_cons,List.map_nil,cond_true,cond_false,aop,Zv,Zq,Zp,ev,sput,Zt,Zy,Ya,unK,Zd,Zw,Nat.reduceBEq,Nat.reduceAdd,Int.reduceBEq,Int.reduceBNe,Int.reduceLT,Zu,Zz,tup,tyf])
 clear hN2
 try clear N2
 refine Ym fun C hC=>?_
 by_cases h1:cn o=1
 · have c1:(((cn o:Nat):Int)==1)=true:=by rw [h1]; rfl
   refine Yc fun N3 hN3=>?_
   simp (maxSteps:=2000000) only [s109,↓Za,↓Zi,↓Zr,↓Ze,↓Zj,↓Zs,↓Zg,↓Zo,↓Zf,↓Zb,↓Zc,↓vdn,vup,Zm,Zk,Zn,Zl,Zh,List.map_cons,List.map_nil,cond_true,cond_false,aop,Zv,Zq,Zp,ev,sput,Zt,Zy,Ya,unK,Zd,Zw,Nat.reduceBEq,Nat.reduceAdd,Int.reduceBEq,Int.reduceBNe,Int.reduceLT,Zu,Zz,tup,tyf,c1]
   refine hN3 [(0,ptB bs),(1,ordV o),(2,Zx (n:Nat)),(4,ptB b4),(6,.bool false),(7,Zx (cn o:Nat)),(23,.bool true)] _ _ ?_ (by simp (maxSteps:=2000000) only [↓Za,↓Zi,↓Zr,↓Ze,↓Zj,↓Zs,↓Zg,↓Zo,↓Zf,↓Zb,↓Zc,↓vdn,vup,Zm,Zk,Zn,Zl,Zh,List.map_cons,List.map_nil,cond_true,cond_false,aop,Zv,Zq,Zp,ev,sput,Zt,Zy,Ya,unK,Zd,Zw,Nat.reduceBEq,Nat.reduceAdd,Int.reduceBEq,Int.reduceBNe,Int.reduceLT,Zu,Zz,tup,tyf])
   clear hN3
   try clear N3
   refine Xb rfl ?_
   refine Yf ?_
   simp (maxSteps:=2000000) only [s109,↓Za,↓Zi,↓Zr,↓Ze,↓Zj,↓Zs,↓Zg,↓Zo,↓Zf,↓Zb,↓Zc,↓vdn,vup,Zm,Zk,Zn,Zl,Zh,List.map_cons,List.map_nil,cond_true,cond_false,aop,Zv,Zq,Zp,ev,sput,Zt,Zy,Ya,unK,Zd,Zw,Nat.reduceBEq,Nat.reduceAdd,Int.reduceBEq,Int.reduceBNe,Int.reduceLT,Zu,Zz,tup,tyf,c1]
   exact ⟨by rw [srtb_one h1],hsG,hEm⟩
 have c1:(((cn o:Nat):Int)==1)=false:=by
  have:((cn o:Nat):Int)≠1:=by omega
  simpa using this
 have h1b:(cn o==1)=false:=by simpa using h1
 rcases n with _ | m
 · have c2:(((0:Nat):Int)==0)=true:=rfl
   refine Yc fun N4 hN4=>?_
   simp (maxSteps:=2000000) only [s109,↓Za,↓Zi,↓Zr,↓Ze,↓Zj,↓Zs,↓Zg,↓Zo,↓Zf,↓Zb,↓Zc,↓vdn,vup,Zm,Zk,Zn,Zl,Zh,List.map_cons,List.map_nil,cond_true,cond_false,aop,Zv,Zq,Zp,ev,sput,Zt,Zy,Ya,unK,Zd,Zw,Nat.reduceBEq,Nat.reduceAdd,Int.reduceBEq,Int.reduceBNe,Int.reduceLT,Zu,Zz,tup,tyf,c1,c2]
   refine hN4 [(0,ptB bs),(1,ordV o),(2,Zx ((0:Nat):Int)),(4,ptB b4),(6,.bool false),(7,Zx (cn o:Nat)),(23,.bool true)] _ _ ?_ (by simp (maxSteps:=2000000) only [↓Za,↓Zi,↓Zr,↓Ze,↓Zj,↓Zs,↓Zg,↓Zo,↓Zf,↓Zb,↓Zc,↓vdn,vup,Zm,Zk,Zn,Zl,Zh,List.map_cons,List.map_nil,cond_true,cond_false,aop,Zv,Zq,Zp,ev,sput,Zt,Zy,Ya,unK,Zd,Zw,Nat.reduceBEq,Nat.reduceAdd,Int.reduceBEq,Int.reduceBNe,Int.reduceLT,Zu,Zz,tup,tyf])
   clear hN4
   try clear N4
   refine Xb rfl ?_
   refine Yf ?_
   simp (maxSteps:=2000000) only [s109,↓Za,↓Zi,↓Zr,↓Ze,↓Zj,↓Zs,↓Zg,↓Zo,↓Zf,↓Zb,↓Zc,↓vdn,vup,Zm,Zk,Zn,Zl,Zh,List.map_cons,List.map_nil,cond_true,cond_false,aop,Zv,Zq,Zp,ev,sput,Zt,Zy,Ya,unK,Zd,Zw,Nat.reduceBEq,Nat.reduceAdd,Int.reduceBEq,Int.reduceBNe,Int.reduceLT,Zu,Zz,tup,tyf,c1]
   exact ⟨by rw [Wv,h1b],hsG,hEm⟩
 have c2:(((m+1:Nat):Int)==0)=false:=by
  have:((m+1:Nat):Int)≠0:=by omega
  simpa using this
 have hsh:shlV .i64 1 ((m+1:Nat):Int)=((2 ^ (m+1):Nat):Int):=by rw [shl1 (by omega),Vv]
 have hnn:(0:Int)≤((m+1:Nat):Int):=Int.natCast_nonneg _
 have hss:=srtb_succ m o
 rw [h1b,Bool.false_or] at hss
 by_cases h2:cn o≤2 ^ (m+1)
 · have c3 : ¬ ((2 ^ (m+1):Nat):Int)<((cn o:Nat):Int):=fun h=>absurd (Int.ofNat_lt.1 h) (Nat.not_lt.2 h2)
   rw [decide_eq_true h2,Bool.true_and] at hss
   generalize ((2 ^ (m+1):Nat):Int)=pw at hsh c3
   refine Yc fun N5 hN5=>?_
   simp (maxSteps:=2000000) only [s109,↓Za,↓Zi,↓Zr,↓Ze,↓Zj,↓Zs,↓Zg,↓Zo,↓Zf,↓Zb,↓Zc,↓vdn,vup,Zm,Zk,Zn,Zl,Zh,List.map_cons,List.map_nil,cond_true,cond_false,aop,Zv,Zq,Zp,ev,sput,Zt,Zy,Ya,unK,Zd,Zw,Nat.reduceBEq,Nat.reduceAdd,Int.reduceBEq,Int.reduceBNe,Int.reduceLT,Zu,Zz,tup,tyf,c1,c2,hnn,hsh,gt_iff_lt,c3,decide_false]
   refine hN5 [(0,ptB bs),(1,ordV o),(2,Zx ((m+1:Nat):Int)),(4,ptB b4),(6,.bool false),(7,Zx (cn o:Nat)),(23,.bool false)] _ _ ?_ (by simp (maxSteps:=2000000) only [↓Za,↓Zi,↓Zr,↓Ze,↓Zj,↓Zs,↓Zg,↓Zo,↓Zf,↓Zb,↓Zc,↓vdn,vup,Zm,Zk,Zn,Zl,Zh,List.map_cons,List.map_nil,cond_true,cond_false,aop,Zv,Zq,Zp,ev,sput,Zt,Zy,Ya,unK,Zd,Zw,Nat.reduceBEq,Nat.reduceAdd,Int.reduceBEq,Int.reduceBNe,Int.reduceLT,Zu,Zz,tup,tyf])
   clear hN5
   try clear N5
   refine Xa rfl ?_
   refine Yf ?_
   try simp (maxSteps:=2000000) only [s109,↓Za,↓Zi,↓Zr,↓Ze,↓Zj,↓Zs,↓Zg,↓Zo,↓Zf,↓Zb,↓Zc,↓vdn,vup,Zm,Zk,Zn,Zl,Zh,List.map_cons,List.map_nil,cond_true,cond_false,aop,Zv,Zq,Zp,ev,sput,Zt,Zy,Ya,unK,Zd,Zw,Nat.reduceBEq,Nat.reduceAdd,Int.reduceBEq,Int.reduceBNe,Int.reduceLT,Zu,Zz,tup,tyf]
   refine hC [(0,ptB bs),(1,ordV o),(2,Zx ((m+1:Nat):Int)),(4,ptB b4),(6,.bool false),(7,Zx (cn o:Nat))] _ _ ?_ (by simp (maxSteps:=2000000) only [↓Za,↓Zi,↓Zr,↓Ze,↓Zj,↓Zs,↓Zg,↓Zo,↓Zf,↓Zb,↓Zc,↓vdn,vup,Zm,Zk,Zn,Zl,Zh,List.map_cons,List.map_nil,cond_true,cond_false,aop,Zv,Zq,Zp,ev,sput,Zt,Zy,Ya,unK,Zd,Zw,Nat.reduceBEq,Nat.reduceAdd,Int.reduceBEq,Int.reduceBNe,Int.reduceLT,Zu,Zz,tup,tyf])
   clear hC
   try clear C
   have hsG':=hsG
   obtain ⟨k1,l,k2,k3,k4⟩:=hsG'
   have hlen:=encN_len hl.2 (m+1)
   have hin:=encN_in ho (n:=m+1) (by omega)
   refine Yc fun N6 hN6=>?_
   simp only [q109_4]
   refine Xs [] (by kernel_rfl) (by kernel_rfl) (by kernel_rfl) (by kernel_rfl) ?_
   simp (maxSteps:=2000000) only [s109,↓Za,↓Zi,↓Zr,↓Ze,↓Zj,↓Zs,↓Zg,↓Zo,↓Zf,↓Zb,↓Zc,↓vdn,vup,Zm,Zk,Zn,Zl,Zh,List.map_cons,List.map_nil,cond_true,cond_false,aop,Zv,Zq,Zp,ev,sput,Zt,Zy,Ya,unK,Zd,Zw,Nat.reduceBEq,Nat.reduceAdd,Int.reduceBEq,Int.reduceBNe,Int.reduceLT,Zu,Zz,tup,tyf,↓dopsX_lookup,↓Vo,nilK,fldA fld_100_0 esz_98,Wa k1 shp_98,Xy c0 Yn hl.2,bldT hl.2]
   refine lookupA k2 und_98 keyT_136 zvB k3 (Wj _) hlen hin ?_
   cases ha:aget (encN o (m+1)) l with
   | some v =>
     have hv:=k4 o (m+1) v ho ha
     simp (maxSteps:=2000000) only [s109,↓Za,↓Zi,↓Zr,↓Ze,↓Zj,↓Zs,↓Zg,↓Zo,↓Zf,↓Zb,↓Zc,↓vdn,vup,Zm,Zk,Zn,Zl,Zh,List.map_cons,List.map_nil,cond_true,cond_false,aop,Zv,Zq,Zp,ev,sput,Zt,Zy,Ya,unK,Zd,Zw,Nat.reduceBEq,Nat.reduceAdd,Int.reduceBEq,Int.reduceBNe,Int.reduceLT,Zu,Zz,tup,tyf,Option.map_some,Option.getD_some,Option.isSome_some]
     refine hN6 [(0,ptB bs),(1,ordV o),(2,Zx ((m+1:Nat):Int)),(4,ptB b4),(6,.bool false),(7,Zx (cn o:Nat)),(8,.bool v),(9,.bool true)] _ _ ?_ (by simp (maxSteps:=2000000) only [↓Za,↓Zi,↓Zr,↓Ze,↓Zj,↓Zs,↓Zg,↓Zo,↓Zf,↓Zb,↓Zc,↓vdn,vup,Zm,Zk,Zn,Zl,Zh,List.map_cons,List.map_nil,cond_true,cond_false,aop,Zv,Zq,Zp,ev,sput,Zt,Zy,Ya,unK,Zd,Zw,Nat.reduceBEq,Nat.reduceAdd,Int.reduceBEq,Int.reduceBNe,Int.reduceLT,Zu,Zz,tup,tyf])
     clear hN6
     try clear N6
     refine Ym fun D hD=>?_
     refine Yc fun N7 hN7=>?_
     simp (maxSteps:=2000000) only [s109,↓Za,↓Zi,↓Zr,↓Ze,↓Zj,↓Zs,↓Zg,↓Zo,↓Zf,↓Zb,↓Zc,↓vdn,vup,Zm,Zk,Zn,Zl,Zh,List.map_cons,List.map_nil,cond_true,cond_false,aop,Zv,Zq,Zp,ev,sput,Zt,Zy,Ya,unK,Zd,Zw,Nat.reduceBEq,Nat.reduceAdd,Int.reduceBEq,Int.reduceBNe,Int.reduceLT,Zu,Zz,tup,tyf]
     refine hN7 [(0,ptB bs),(1,ordV o),(2,Zx ((m+1:Nat):Int)),(4,ptB b4),(6,.bool false),(7,Zx (cn o:Nat)),(8,.bool v),(9,.bool true),(38,.bool false)] _ _ ?_ (by simp (maxSteps:=2000000) only [↓Za,↓Zi,↓Zr,↓Ze,↓Zj,↓Zs,↓Zg,↓Zo,↓Zf,↓Zb,↓Zc,↓vdn,vup,Zm,Zk,Zn,Zl,Zh,List.map_cons,List.map_nil,cond_true,cond_false,aop,Zv,Zq,Zp,ev,sput,Zt,Zy,Ya,unK,Zd,Zw,Nat.reduceBEq,Nat.reduceAdd,Int.reduceBEq,Int.reduceBNe,Int.reduceLT,Zu,Zz,tup,tyf])
     clear hN7
     try clear N7
     refine Xa rfl ?_
     refine Yf ?_
     try simp (maxSteps:=2000000) only [s109,↓Za,↓Zi,↓Zr,↓Ze,↓Zj,↓Zs,↓Zg,↓Zo,↓Zf,↓Zb,↓Zc,↓vdn,vup,Zm,Zk,Zn,Zl,Zh,List.map_cons,List.map_nil,cond_true,cond_false,aop,Zv,Zq,Zp,ev,sput,Zt,Zy,Ya,unK,Zd,Zw,Nat.reduceBEq,Nat.reduceAdd,Int.reduceBEq,Int.reduceBNe,Int.reduceLT,Zu,Zz,tup,tyf]
     refine hD [(0,ptB bs),(1,ordV o),(2,Zx ((m+1:Nat):Int)),(4,ptB b4),(6,.bool false),(7,Zx (cn o:Nat)),(8,.bool v),(9,.bool true),(38,.bool false)] _ _ ?_ (by simp (maxSteps:=2000000) only [↓Za,↓Zi,↓Zr,↓Ze,↓Zj,↓Zs,↓Zg,↓Zo,↓Zf,↓Zb,↓Zc,↓vdn,vup,Zm,Zk,Zn,Zl,Zh,List.map_cons,List.map_nil,cond_true,cond_false,aop,Zv,Zq,Zp,ev,sput,Zt,Zy,Ya,unK,Zd,Zw,Nat.reduceBEq,Nat.reduceAdd,Int.reduceBEq,Int.reduceBNe,Int.reduceLT,Zu,Zz,tup,tyf])
     clear hD
     try clear D
     refine Yf ?_
     try simp (maxSteps:=2000000) only [s109,↓Za,↓Zi,↓Zr,↓Ze,↓Zj,↓Zs,↓Zg,↓Zo,↓Zf,↓Zb,↓Zc,↓vdn,vup,Zm,Zk,Zn,Zl,Zh,List.map_cons,List.map_nil,cond_true,cond_false,aop,Zv,Zq,Zp,ev,sput,Zt,Zy,Ya,unK,Zd,Zw,Nat.reduceBEq,Nat.reduceAdd,Int.reduceBEq,Int.reduceBNe,Int.reduceLT,Zu,Zz,tup,tyf]
     exact ⟨by rw [hv],hsG,hEm⟩
   | none =>
     simp (maxSteps:=2000000) only [s109,↓Za,↓Zi,↓Zr,↓Ze,↓Zj,↓Zs,↓Zg,↓Zo,↓Zf,↓Zb,↓Zc,↓vdn,vup,Zm,Zk,Zn,Zl,Zh,List.map_cons,List.map_nil,cond_true,cond_false,aop,Zv,Zq,Zp,ev,sput,Zt,Zy,Ya,unK,Zd,Zw,Nat.reduceBEq,Nat.reduceAdd,Int.reduceBEq,Int.reduceBNe,Int.reduceLT,Zu,Zz,tup,tyf,Option.map_none,Option.getD_none,Option.isSome_none]
     refine hN6 [(0,ptB bs),(1,ordV o),(2,Zx ((m+1:Nat):Int)),(4,ptB b4),(6,.bool false),(7,Zx (cn o:Nat)),(8,.bool false),(9,.bool false)] _ _ ?_ (by simp (maxSteps:=2000000) only [↓Za,↓Zi,↓Zr,↓Ze,↓Zj,↓Zs,↓Zg,↓Zo,↓Zf,↓Zb,↓Zc,↓vdn,vup,Zm,Zk,Zn,Zl,Zh,List.map_cons,List.map_nil,cond_true,cond_false,aop,Zv,Zq,Zp,ev,sput,Zt,Zy,Ya,unK,Zd,Zw,Nat.reduceBEq,Nat.reduceAdd,Int.reduceBEq,Int.reduceBNe,Int.reduceLT,Zu,Zz,tup,tyf])
     clear hN6
     try clear N6
     refine Ym fun D hD=>?_
     refine Yc fun N8 hN8=>?_
     simp (maxSteps:=2000000) only [s109,↓Za,↓Zi,↓Zr,↓Ze,↓Zj,↓Zs,↓Zg,↓Zo,↓Zf,↓Zb,↓Zc,↓vdn,vup,Zm,Zk,Zn,Zl,Zh,List.map_cons,List.map_nil,cond_true,cond_false,aop,Zv,Zq,Zp,ev,sput,Zt,Zy,Ya,unK,Zd,Zw,Nat.reduceBEq,Nat.reduceAdd,Int.reduceBEq,Int.reduceBNe,Int.reduceLT,Zu,Zz,tup,tyf]
     refine hN8 [(0,ptB bs),(1,ordV o),(2,Zx ((m+1:Nat):Int)),(4,ptB b4),(6,.bool false),(7,Zx (cn o:Nat)),(8,.bool false),(9,.bool false),(38,.bool true)] _ _ ?_ (by simp (maxSteps:=2000000) only [↓Za,↓Zi,↓Zr,↓Ze,↓Zj,↓Zs,↓Zg,↓Zo,↓Zf,↓Zb,↓Zc,↓vdn,vup,Zm,Zk,Zn,Zl,Zh,List.map_cons,List.map_nil,cond_true,cond_false,aop,Zv,Zq,Zp,ev,sput,Zt,Zy,Ya,unK,Zd,Zw,Nat.reduceBEq,Nat.reduceAdd,Int.reduceBEq,Int.reduceBNe,Int.reduceLT,Zu,Zz,tup,tyf])
     clear hN8
     try clear N8
     refine Xb rfl ?_
     refine Yc fun N9 hN9=>?_
     simp (maxSteps:=2000000) only [s109,↓Za,↓Zi,↓Zr,↓Ze,↓Zj,↓Zs,↓Zg,↓Zo,↓Zf,↓Zb,↓Zc,↓vdn,vup,Zm,Zk,Zn,Zl,Zh,List.map_cons,List.map_nil,cond_true,cond_false,aop,Zv,Zq,Zp,ev,sput,Zt,Zy,Ya,unK,Zd,Zw,Nat.reduceBEq,Nat.reduceAdd,Int.reduceBEq,Int.reduceBNe,Int.reduceLT,Zu,Zz,tup,tyf,Yr,List.nil_append,List.append_nil,List.toList_toArray,List.cons_append,Xy c0 Yn hl.2]
     refine (pair_call (ih m rfl) (by omega) ho (by have:=cn_pos ho; omega) hsG).mono ?_
     rintro r G2 ⟨hs2,hE2,hr⟩
     obtain ⟨p,rfl⟩ : ∃ p,r = .tuple #[pV p,.bool (Wv (m+1) o)]:=by
      rw [hss]
      rcases hr with ⟨i,j,r1,r2,r3,r4,rfl⟩ | ⟨r1,p,rfl⟩
      · exact ⟨_,by rw [pairB_true r1 r2 r3 r4]⟩
      · exact ⟨p,by rw [r1]⟩
     try simp (maxSteps:=2000000) only [s109,↓Za,↓Zi,↓Zr,↓Ze,↓Zj,↓Zs,↓Zg,↓Zo,↓Zf,↓Zb,↓Zc,↓vdn,vup,Zm,Zk,Zn,Zl,Zh,List.map_cons,List.map_nil,cond_true,cond_false,aop,Zv,Zq,Zp,ev,sput,Zt,Zy,Ya,unK,Zd,Zw,Nat.reduceBEq,Nat.reduceAdd,Int.reduceBEq,Int.reduceBNe,Int.reduceLT,Zu,Zz,tup,tyf]
     refine hN9 [(0,ptB bs),(1,ordV o),(2,Zx ((m+1:Nat):Int)),(4,ptB b4),(6,.bool false),(7,Zx (cn o:Nat)),(8,.bool (Wv (m+1) o)),(9,.bool false)] _ _ ?_ (by simp (maxSteps:=2000000) only [↓Za,↓Zi,↓Zr,↓Ze,↓Zj,↓Zs,↓Zg,↓Zo,↓Zf,↓Zb,↓Zc,↓vdn,vup,Zm,Zk,Zn,Zl,Zh,List.map_cons,List.map_nil,cond_true,cond_false,aop,Zv,Zq,Zp,ev,sput,Zt,Zy,Ya,unK,Zd,Zw,Nat.reduceBEq,Nat.reduceAdd,Int.reduceBEq,Int.reduceBNe,Int.reduceLT,Zu,Zz,tup,tyf])
     clear hN9
     try clear N9
     have g0:=(hE2.2 _ (Yg c0) (hsG.ne c0)).trans c0
     obtain ⟨j1,l2,j2,j3,j4⟩:=hs2
     refine Yf ?_
     simp only [q109_7]
     refine Xs [] (by kernel_rfl) (by kernel_rfl) (by kernel_rfl) (by kernel_rfl) ?_
     simp (maxSteps:=2000000) only [s109,↓Za,↓Zi,↓Zr,↓Ze,↓Zj,↓Zs,↓Zg,↓Zo,↓Zf,↓Zb,↓Zc,↓vdn,vup,Zm,Zk,Zn,Zl,Zh,List.map_cons,List.map_nil,cond_true,cond_false,aop,Zv,Zq,Zp,ev,sput,Zt,Zy,Ya,unK,Zd,Zw,Nat.reduceBEq,Nat.reduceAdd,Int.reduceBEq,Int.reduceBNe,Int.reduceLT,Zu,Zz,tup,tyf,↓dopsX_lookup,↓Vo,nilK,fldA fld_100_0 esz_98,Wa j1 shp_98,Xy g0 Yn hl.2,bldT hl.2]
     refine updateA (f:=Value.bool) j2 und_98 keyT_136 j3 (Wj _) hlen hin ?_
     have hsk:=SK.put ho (n:=m+1) (by omega) j1 j2 j3 j4
     try simp (maxSteps:=2000000) only [s109,↓Za,↓Zi,↓Zr,↓Ze,↓Zj,↓Zs,↓Zg,↓Zo,↓Zf,↓Zb,↓Zc,↓vdn,vup,Zm,Zk,Zn,Zl,Zh,List.map_cons,List.map_nil,cond_true,cond_false,aop,Zv,Zq,Zp,ev,sput,Zt,Zy,Ya,unK,Zd,Zw,Nat.reduceBEq,Nat.reduceAdd,Int.reduceBEq,Int.reduceBNe,Int.reduceLT,Zu,Zz,tup,tyf]
     refine hD [(0,ptB bs),(1,ordV o),(2,Zx ((m+1:Nat):Int)),(4,ptB b4),(6,.bool false),(7,Zx (cn o:Nat)),(8,.bool (Wv (m+1) o)),(9,.bool false)] _ _ ?_ (by simp (maxSteps:=2000000) only [↓Za,↓Zi,↓Zr,↓Ze,↓Zj,↓Zs,↓Zg,↓Zo,↓Zf,↓Zb,↓Zc,↓vdn,vup,Zm,Zk,Zn,Zl,Zh,List.map_cons,List.map_nil,cond_true,cond_false,aop,Zv,Zq,Zp,ev,sput,Zt,Zy,Ya,unK,Zd,Zw,Nat.reduceBEq,Nat.reduceAdd,Int.reduceBEq,Int.reduceBNe,Int.reduceLT,Zu,Zz,tup,tyf])
     clear hD
     try clear D
     refine Yf ?_
     try simp (maxSteps:=2000000) only [s109,↓Za,↓Zi,↓Zr,↓Ze,↓Zj,↓Zs,↓Zg,↓Zo,↓Zf,↓Zb,↓Zc,↓vdn,vup,Zm,Zk,Zn,Zl,Zh,List.map_cons,List.map_nil,cond_true,cond_false,aop,Zv,Zq,Zp,ev,sput,Zt,Zy,Ya,unK,Zd,Zw,Nat.reduceBEq,Nat.reduceAdd,Int.reduceBEq,Int.reduceBNe,Int.reduceLT,Zu,Zz,tup,tyf]
     exact ⟨hsk,(hEm.trans hE2).trans (Ext.set _ rfl)⟩
 · have c3:((2 ^ (m+1):Nat):Int)<((cn o:Nat):Int):=Int.ofNat_lt.2 (Nat.not_le.1 h2)
   rw [decide_eq_false h2,Bool.false_and] at hss
   generalize ((2 ^ (m+1):Nat):Int)=pw at hsh c3
   refine Yc fun N10 hN10=>?_
   simp (maxSteps:=2000000) only [s109,↓Za,↓Zi,↓Zr,↓Ze,↓Zj,↓Zs,↓Zg,↓Zo,↓Zf,↓Zb,↓Zc,↓vdn,vup,Zm,Zk,Zn,Zl,Zh,List.map_cons,List.map_nil,cond_true,cond_false,aop,Zv,Zq,Zp,ev,sput,Zt,Zy,Ya,unK,Zd,Zw,Nat.reduceBEq,Nat.reduceAdd,Int.reduceBEq,Int.reduceBNe,Int.reduceLT,Zu,Zz,tup,tyf,c1,c2,hnn,hsh,gt_iff_lt,c3,decide_true]
   refine hN10 [(0,ptB bs),(1,ordV o),(2,Zx ((m+1:Nat):Int)),(4,ptB b4),(6,.bool false),(7,Zx (cn o:Nat)),(23,.bool true)] _ _ ?_ (by simp (maxSteps:=2000000) only [↓Za,↓Zi,↓Zr,↓Ze,↓Zj,↓Zs,↓Zg,↓Zo,↓Zf,↓Zb,↓Zc,↓vdn,vup,Zm,Zk,Zn,Zl,Zh,List.map_cons,List.map_nil,cond_true,cond_false,aop,Zv,Zq,Zp,ev,sput,Zt,Zy,Ya,unK,Zd,Zw,Nat.reduceBEq,Nat.reduceAdd,Int.reduceBEq,Int.reduceBNe,Int.reduceLT,Zu,Zz,tup,tyf])
   clear hN10
   try clear N10
   refine Xb rfl ?_
   refine Yf ?_
   simp (maxSteps:=2000000) only [s109,↓Za,↓Zi,↓Zr,↓Ze,↓Zj,↓Zs,↓Zg,↓Zo,↓Zf,↓Zb,↓Zc,↓vdn,vup,Zm,Zk,Zn,Zl,Zh,List.map_cons,List.map_nil,cond_true,cond_false,aop,Zv,Zq,Zp,ev,sput,Zt,Zy,Ya,unK,Zd,Zw,Nat.reduceBEq,Nat.reduceAdd,Int.reduceBEq,Int.reduceBNe,Int.reduceLT,Zu,Zz,tup,tyf,c1]
   exact ⟨by rw [hss],hsG,hEm⟩
theorem sorts_call [BitTab prog 1] {bs bm:Nat} : ∀ n,n≤60→SortsOK bs bm n
 | 0,hn=>sorts_step hn fun m h=>by cases h
 | n+1,hn=>sorts_step hn fun m h=>by cases h; exact sorts_call n (by omega)
def Vg (o:List Int):Nat:=((List.range 16).find? fun n=>Wv n o).getD 0
theorem prs_len : ∀ n,n<7→(prsN n).length≤15:=by decide
theorem srtb_15 {o:List Int} (ho:ord o=true):Wv 15 o=true :=
 srtb_free 15 o ho (Nat.le_trans List.countP_le_length (prs_len _ (by have:=Yz ho; omega)))
theorem needN_of {o:List Int} {n:Nat} (hn:n<16) (h:Wv n o=true) (h0 : ∀ k,k<n→Wv k o=false):Vg o=n:=by
 have:(List.range 16).find? (fun n=>Wv n o)=some n:=by
  rw [List.find?_range_eq_some]
  exact ⟨h,List.mem_range.2 hn,fun k hk=>by rw [h0 k hk]; rfl⟩
 rw [Vg,this]; rfl
theorem needN_spec {o:List Int} (ho:ord o=true):Vg o<16∧Wv (Vg o) o=true∧∀ k,k<Vg o→Wv k o=false:=by
 have key : ∀ d,d≤15→(∀ k,k<15-d→Wv k o=false)→∃ n,n<16∧Wv n o=true∧∀ k,k<n→Wv k o=false:=by
  intro d
  induction d with
  | zero=>exact fun _ h=>⟨15,by decide,srtb_15 ho,h⟩
  | succ d ih =>
    intro hd h
    cases hb:Wv (15-(d+1)) o with
    | true=>exact ⟨_,by omega,hb,h⟩
    | false =>
      refine ih (by omega) fun k hk=>?_
      by_cases he:k=15-(d+1)
      · rw [he]; exact hb
      · exact h k (by omega)
 obtain ⟨n,h1,h2,h3⟩:=key 15 (Nat.le_refl _) fun k hk=>absurd hk (Nat.not_lt_zero k)
 rw [needN_of h1 h2 h3]
 exact ⟨h1,h2,h3⟩
theorem s90_callW [Tabs Tryd.prog] {args:List Value} {h:Yb} {Q:Value→Yb→Prop} (hsz:args.length≤19) (hk:AWS Tryd.prog 19 s90 (Zu Tryd.prog [.tmp 4] Q) (Zp 0 args) h):ACall Tryd.prog 90 args h Q :=
 Wn Tryd.func90 rfl (enters_of Tryd.func90 (by kernel_rfl) rfl) rfl rfl (by decide) s90_strip s90_ok hsz hk
theorem need_call [BitTab prog 1] {bs bm:Nat} {h:Yb} {o:List Int} (ho:ord o=true) (hs:SK bs bm h) :
  ACall prog 90 [ptB bs,ordV o] h fun r h'=>r=Zx (Vg o)∧SK bs bm h'∧Ext (fun b=>b=bm) h h':=by
 have hl:=Yz ho
 have hcn:=cn_le ho
 have hc0:=cn_pos ho
 have hsub:subV .i64 ((cn o:Nat):Int) 1=((cn o-1:Nat):Int):=by rw [subV_id (by omega) (by omega)]; omega
 have hw:IntKind.u64.wrap ((cn o-1:Nat):Int)=((cn o-1:Nat):Int):=wrapU_id (by omega) (by omega)
 refine s90_callW (by simp) ?_
 simp only [s90]
 refine Yc fun N11 hN11=>?_
 simp (maxSteps:=2000000) only [s90,↓Za,↓Zi,↓Zr,↓Ze,↓Zj,↓Zs,↓Zg,↓Zo,↓Zf,↓Zb,↓Zc,↓vdn,vup,Zm,Zk,Zn,Zl,Zh,List.map_cons,List.map_nil,cond_true,cond_false,aop,Zv,Zq,Zp,ev,sput,Zt,Zy,Ya,unK,Zd,Zw,Nat.reduceBEq,Nat.reduceAdd,Int.reduceBEq,Int.reduceBNe,Int.reduceLT,Zu,Zz,tup,tyf,boxO esz_77,Xj]
 have c0:=Yp h (Blk.cells (Xt o) 77 false)
 have hE:Ext (fun _=>False) h (h++[Blk.cells (Xt o) 77 false]):=Ext.app _ _ _
 have hsG:=hs.ext hE
 generalize h++[Blk.cells (Xt o) 77 false]=G at c0 hE hsG ⊢
 generalize h.length=b3 at c0 ⊢
 have hEm:Ext (fun b=>b=bm) h G:=hE.mono fun _ h=>h.elim
 refine hN11 [(0,ptB bs),(1,ordV o),(3,ptB b3),(4,.int .i64 0)] _ _ ?_ (by simp (maxSteps:=2000000) only [↓Za,↓Zi,↓Zr,↓Ze,↓Zj,↓Zs,↓Zg,↓Zo,↓Zf,↓Zb,↓Zc,↓vdn,vup,Zm,Zk,Zn,Zl,Zh,List.map_cons,List.map_nil,cond_true,cond_false,aop,Zv,Zq,Zp,ev,sput,Zt,Zy,Ya,unK,Zd,Zw,Nat.reduceBEq,Nat.reduceAdd,Int.reduceBEq,Int.reduceBNe,Int.reduceLT,Zu,Zz,tup,tyf])
 clear hN11
 try clear N11
 refine Yc fun N12 hN12=>?_
 refine Yd 2 fun N1 hN1=>?_
 simp (maxSteps:=2000000) only [s90,↓Za,↓Zi,↓Zr,↓Ze,↓Zj,↓Zs,↓Zg,↓Zo,↓Zf,↓Zb,↓Zc,↓vdn,vup,Zm,Zk,Zn,Zl,Zh,List.map_cons,List.map_nil,cond_true,cond_false,aop,Zv,Zq,Zp,ev,sput,Zt,Zy,Ya,unK,Zd,Zw,Nat.reduceBEq,Nat.reduceAdd,Int.reduceBEq,Int.reduceBNe,Int.reduceLT,Zu,Zz,tup,tyf,Yr,List.nil_append,List.append_nil,List.toList_toArray,List.cons_append,List.take_succ_cons,List.take_zero,Xy c0 Yn hl.2]
 refine (Wh ho).mono ?_
 rintro _ G ⟨rfl,rfl⟩
 refine hN1 _ _ ?_
 clear hN1 N1
 simp only [List.drop_succ_cons,List.drop_zero]
 simp (maxSteps:=2000000) only [s90,↓Za,↓Zi,↓Zr,↓Ze,↓Zj,↓Zs,↓Zg,↓Zo,↓Zf,↓Zb,↓Zc,↓vdn,vup,Zm,Zk,Zn,Zl,Zh,List.map_cons,List.map_nil,cond_true,cond_false,aop,Zv,Zq,Zp,ev,sput,Zt,Zy,Ya,unK,Zd,Zw,Nat.reduceBEq,Nat.reduceAdd,Int.reduceBEq,Int.reduceBNe,Int.reduceLT,Zu,Zz,tup,tyf,Yr,List.nil_append,List.append_nil,List.toList_toArray,List.cons_append,hsub,convK,und_3,und_29,hw]
 refine (lenv_call (show cn o-1<65536 by omega)).mono ?_
 rintro _ G ⟨⟨z,hz,rfl⟩,rfl⟩
 try simp (maxSteps:=2000000) only [s90,↓Za,↓Zi,↓Zr,↓Ze,↓Zj,↓Zs,↓Zg,↓Zo,↓Zf,↓Zb,↓Zc,↓vdn,vup,Zm,Zk,Zn,Zl,Zh,List.map_cons,List.map_nil,cond_true,cond_false,aop,Zv,Zq,Zp,ev,sput,Zt,Zy,Ya,unK,Zd,Zw,Nat.reduceBEq,Nat.reduceAdd,Int.reduceBEq,Int.reduceBNe,Int.reduceLT,Zu,Zz,tup,tyf]
 refine hN12 [(0,ptB bs),(1,ordV o),(3,ptB b3),(4,.int .i64 0),(5,Zx (z:Nat))] _ _ ?_ (by simp (maxSteps:=2000000) only [↓Za,↓Zi,↓Zr,↓Ze,↓Zj,↓Zs,↓Zg,↓Zo,↓Zf,↓Zb,↓Zc,↓vdn,vup,Zm,Zk,Zn,Zl,Zh,List.map_cons,List.map_nil,cond_true,cond_false,aop,Zv,Zq,Zp,ev,sput,Zt,Zy,Ya,unK,Zd,Zw,Nat.reduceBEq,Nat.reduceAdd,Int.reduceBEq,Int.reduceBNe,Int.reduceLT,Zu,Zz,tup,tyf])
 clear hN12
 try clear N12
 refine Ym fun M hM=>?_
 refine Xp ?_
 refine Xf fun Q hQ=>?_
 refine Vi (γ:=Nat×Yb) (fun s=>(∀ k,k<s.1→Wv k o=false)∧s.1≤16∧SK bs bm s.2∧Ext (fun b=>b=bm) G s.2)
  (fun s=>([(0,ptB bs),(1,ordV o),(3,ptB b3),(4,.int .i64 0),(5,Zx (s.1:Nat))],s.2)) (fun s=>17-s.1) (z,_) ⟨fun k hk=>?_,hz.1,hsG,Ext.refl _ _⟩ (by simp (maxSteps:=2000000) only [↓Za,↓Zi,↓Zr,↓Ze,↓Zj,↓Zs,↓Zg,↓Zo,↓Zf,↓Zb,↓Zc,↓vdn,vup,Zm,Zk,Zn,Zl,Zh,List.map_cons,List.map_nil,cond_true,cond_false,aop,Zv,Zq,Zp,ev,sput,Zt,Zy,Ya,unK,Zd,Zw,Nat.reduceBEq,Nat.reduceAdd,Int.reduceBEq,Int.reduceBNe,Int.reduceLT,Zu,Zz,tup,tyf]) rfl ?_
 · cases hb:Wv k o with
   | false=>rfl
   | true =>
     have h1:=srtb_cn hb
     have:=hz.2 k (Nat.lt_of_lt_of_le (Nat.sub_lt hc0 Nat.one_pos) h1)
     omega
 rintro ⟨n,H⟩ ⟨h0,hn,hsH,hEH⟩
 simp only at h0 hn hsH hEH
 refine Xf fun Q2 hQ2=>?_
 simp only [l90_0]
 have cH:=(hEH.2 _ (Yg c0) (hsG.ne c0)).trans c0
 refine Ym fun C hC=>?_
 refine Yc fun N13 hN13=>?_
 simp (maxSteps:=2000000) only [s90,↓Za,↓Zi,↓Zr,↓Ze,↓Zj,↓Zs,↓Zg,↓Zo,↓Zf,↓Zb,↓Zc,↓vdn,vup,Zm,Zk,Zn,Zl,Zh,List.map_cons,List.map_nil,cond_true,cond_false,aop,Zv,Zq,Zp,ev,sput,Zt,Zy,Ya,unK,Zd,Zw,Nat.reduceBEq,Nat.reduceAdd,Int.reduceBEq,Int.reduceBNe,Int.reduceLT,Zu,Zz,tup,tyf,Yr,List.nil_append,List.append_nil,List.toList_toArray,List.cons_append,Xy cH Yn hl.2]
 refine (sorts_call n (by omega) H o ho hsH).mono ?_
 rintro _ H2 ⟨rfl,hs2,hE2⟩
 cases hb:Wv n o with
 | true =>
   try simp (maxSteps:=2000000) only [s90,↓Za,↓Zi,↓Zr,↓Ze,↓Zj,↓Zs,↓Zg,↓Zo,↓Zf,↓Zb,↓Zc,↓vdn,vup,Zm,Zk,Zn,Zl,Zh,List.map_cons,List.map_nil,cond_true,cond_false,aop,Zv,Zq,Zp,ev,sput,Zt,Zy,Ya,unK,Zd,Zw,Nat.reduceBEq,Nat.reduceAdd,Int.reduceBEq,Int.reduceBNe,Int.reduceLT,Zu,Zz,tup,tyf]
   refine hN13 [(0,ptB bs),(1,ordV o),(3,ptB b3),(4,.int .i64 0),(5,Zx (n:Nat)),(15,.bool false)] _ _ ?_ (by simp (maxSteps:=2000000) only [↓Za,↓Zi,↓Zr,↓Ze,↓Zj,↓Zs,↓Zg,↓Zo,↓Zf,↓Zb,↓Zc,↓vdn,vup,Zm,Zk,Zn,Zl,Zh,List.map_cons,List.map_nil,cond_true,cond_false,aop,Zv,Zq,Zp,ev,sput,Zt,Zy,Ya,unK,Zd,Zw,Nat.reduceBEq,Nat.reduceAdd,Int.reduceBEq,Int.reduceBNe,Int.reduceLT,Zu,Zz,tup,tyf])
   clear hN13
   try clear N13
   refine Xa rfl ?_
   refine Yf ?_
   try simp (maxSteps:=2000000) only [s90,↓Za,↓Zi,↓Zr,↓Ze,↓Zj,↓Zs,↓Zg,↓Zo,↓Zf,↓Zb,↓Zc,↓vdn,vup,Zm,Zk,Zn,Zl,Zh,List.map_cons,List.map_nil,cond_true,cond_false,aop,Zv,Zq,Zp,ev,sput,Zt,Zy,Ya,unK,Zd,Zw,Nat.reduceBEq,Nat.reduceAdd,Int.reduceBEq,Int.reduceBNe,Int.reduceLT,Zu,Zz,tup,tyf]
   refine hQ2 _ _ _ (hQ _ _ _ ?_)
   simp (maxSteps:=2000000) only [s90,↓Za,↓Zi,↓Zr,↓Ze,↓Zj,↓Zs,↓Zg,↓Zo,↓Zf,↓Zb,↓Zc,↓vdn,vup,Zm,Zk,Zn,Zl,Zh,List.map_cons,List.map_nil,cond_true,cond_false,aop,Zv,Zq,Zp,ev,sput,Zt,Zy,Ya,unK,Zd,Zw,Nat.reduceBEq,Nat.reduceAdd,Int.reduceBEq,Int.reduceBNe,Int.reduceLT,Zu,Zz,tup,tyf,if_true]
   refine hM [(0,ptB bs),(1,ordV o),(3,ptB b3),(4,.int .i64 0),(5,Zx (n:Nat)),(15,.bool false)] _ _ ?_ (by simp (maxSteps:=2000000) only [↓Za,↓Zi,↓Zr,↓Ze,↓Zj,↓Zs,↓Zg,↓Zo,↓Zf,↓Zb,↓Zc,↓vdn,vup,Zm,Zk,Zn,Zl,Zh,List.map_cons,List.map_nil,cond_true,cond_false,aop,Zv,Zq,Zp,ev,sput,Zt,Zy,Ya,unK,Zd,Zw,Nat.reduceBEq,Nat.reduceAdd,Int.reduceBEq,Int.reduceBNe,Int.reduceLT,Zu,Zz,tup,tyf])
   clear hM
   try clear M
   refine Yf ?_
   try simp (maxSteps:=2000000) only [s90,↓Za,↓Zi,↓Zr,↓Ze,↓Zj,↓Zs,↓Zg,↓Zo,↓Zf,↓Zb,↓Zc,↓vdn,vup,Zm,Zk,Zn,Zl,Zh,List.map_cons,List.map_nil,cond_true,cond_false,aop,Zv,Zq,Zp,ev,sput,Zt,Zy,Ya,unK,Zd,Zw,Nat.reduceBEq,Nat.reduceAdd,Int.reduceBEq,Int.reduceBNe,Int.reduceLT,Zu,Zz,tup,tyf]
   have hn16:n<16:=by
    apply Classical.byContradiction
    intro hc
    have:=h0 15 (by omega)
    rw [srtb_15 ho] at this; cases this
   exact ⟨by rw [needN_of hn16 hb h0],hs2,(hEm.trans hEH).trans hE2⟩
 | false =>
   have hn15:n<15:=by
    apply Classical.byContradiction
    intro hc
    by_cases he:n=15
    · rw [he,srtb_15 ho] at hb; cases hb
    · have:=h0 15 (by omega)
      rw [srtb_15 ho] at this; cases this
   try simp (maxSteps:=2000000) only [s90,↓Za,↓Zi,↓Zr,↓Ze,↓Zj,↓Zs,↓Zg,↓Zo,↓Zf,↓Zb,↓Zc,↓vdn,vup,Zm,Zk,Zn,Zl,Zh,List.map_cons,List.map_nil,cond_true,cond_false,aop,Zv,Zq,Zp,ev,sput,Zt,Zy,Ya,unK,Zd,Zw,Nat.reduceBEq,Nat.reduceAdd,Int.reduceBEq,Int.reduceBNe,Int.reduceLT,Zu,Zz,tup,tyf]
   refine hN13 [(0,ptB bs),(1,ordV o),(3,ptB b3),(4,.int .i64 0),(5,Zx (n:Nat)),(15,.bool true)] _ _ ?_ (by simp (maxSteps:=2000000) only [↓Za,↓Zi,↓Zr,↓Ze,↓Zj,↓Zs,↓Zg,↓Zo,↓Zf,↓Zb,↓Zc,↓vdn,vup,Zm,Zk,Zn,Zl,Zh,List.map_cons,List.map_nil,cond_true,cond_false,aop,Zv,Zq,Zp,ev,sput,Zt,Zy,Ya,unK,Zd,Zw,Nat.reduceBEq,Nat.reduceAdd,Int.reduceBEq,Int.reduceBNe,Int.reduceLT,Zu,Zz,tup,tyf])
   clear hN13
   try clear N13
   refine Xb rfl ?_
   refine Yf ?_
   try simp (maxSteps:=2000000) only [s90,↓Za,↓Zi,↓Zr,↓Ze,↓Zj,↓Zs,↓Zg,↓Zo,↓Zf,↓Zb,↓Zc,↓vdn,vup,Zm,Zk,Zn,Zl,Zh,List.map_cons,List.map_nil,cond_true,cond_false,aop,Zv,Zq,Zp,ev,sput,Zt,Zy,Ya,unK,Zd,Zw,Nat.reduceBEq,Nat.reduceAdd,Int.reduceBEq,Int.reduceBNe,Int.reduceLT,Zu,Zz,tup,tyf]
   refine hC [(0,ptB bs),(1,ordV o),(3,ptB b3),(4,.int .i64 0),(5,Zx (n:Nat))] _ _ ?_ (by simp (maxSteps:=2000000) only [↓Za,↓Zi,↓Zr,↓Ze,↓Zj,↓Zs,↓Zg,↓Zo,↓Zf,↓Zb,↓Zc,↓vdn,vup,Zm,Zk,Zn,Zl,Zh,List.map_cons,List.map_nil,cond_true,cond_false,aop,Zv,Zq,Zp,ev,sput,Zt,Zy,Ya,unK,Zd,Zw,Nat.reduceBEq,Nat.reduceAdd,Int.reduceBEq,Int.reduceBNe,Int.reduceLT,Zu,Zz,tup,tyf])
   clear hC
   try clear C
   refine Xp ?_
   refine Yf ?_
   simp (maxSteps:=2000000) only [s90,↓Za,↓Zi,↓Zr,↓Ze,↓Zj,↓Zs,↓Zg,↓Zo,↓Zf,↓Zb,↓Zc,↓vdn,vup,Zm,Zk,Zn,Zl,Zh,List.map_cons,List.map_nil,cond_true,cond_false,aop,Zv,Zq,Zp,ev,sput,Zt,Zy,Ya,unK,Zd,Zw,Nat.reduceBEq,Nat.reduceAdd,Int.reduceBEq,Int.reduceBNe,Int.reduceLT,Zu,Zz,tup,tyf,add1 (show n<9223372036854775807 by omega)]
   refine hQ2 _ _ _ ⟨(n+1,H2),⟨fun k hk=>?_,by simp only; omega,hs2,hEH.trans hE2⟩,by simp only; omega,by simp (maxSteps:=2000000) only [↓Za,↓Zi,↓Zr,↓Ze,↓Zj,↓Zs,↓Zg,↓Zo,↓Zf,↓Zb,↓Zc,↓vdn,vup,Zm,Zk,Zn,Zl,Zh,List.map_cons,List.map_nil,cond_true,cond_false,aop,Zv,Zq,Zp,ev,sput,Zt,Zy,Ya,unK,Zd,Zw,Nat.reduceBEq,Nat.reduceAdd,Int.reduceBEq,Int.reduceBNe,Int.reduceLT,Zu,Zz,tup,tyf],rfl⟩
   by_cases he:k=n
   · rw [he]; exact hb
   · exact h0 k (by simp only at hk; omega)
theorem bld100 {b:Nat} {K:Value→Prop}:Ww prog 100 [(0,.map (some b))] K=K (.agg #[.map (some b)]):=by
 simp [Ww,zero_100,fillL,pl_100_0,Va,cellsOf,Yj]
def needV (o:List Int):Value:=if ord o=true then .tuple #[Zx (Vg o),.int .i64 0] else .tuple #[.int .i64 0,.int .i64 2]
theorem low_need (o:List Int):Low (needV o):=by unfold needV; split <;> exact .pair (.int _ _) (.int _ _)
theorem s50_callW [Tabs Tryd.prog] {args:List Value} {h:Yb} {Q:Value→Yb→Prop} (hsz:args.length≤18) (hk:AWS Tryd.prog 18 s50 (Zu Tryd.prog [.tmp 2,.tmp 3] Q) (Zp 0 args) h):ACall Tryd.prog 50 args h Q :=
 Wn Tryd.func50 rfl (enters_of Tryd.func50 (by kernel_rfl) rfl) rfl rfl (by decide) s50_strip s50_ok hsz hk
theorem progNeed_call [BitTab prog 1] {h:Yb} {v:Value} {o:List Int} (hv:IntSl h v o) (hl:o.length<9223372036854775808) (hx : ∀ x∈o,-9223372036854775808≤x∧x<9223372036854775808):APure prog 50 [v] h (needV o):=by
 refine ACall.forget (low_need o) ?_
 refine s50_callW (by simp) ?_
 simp only [s50]
 refine Yc fun N14 hN14=>?_
 simp (maxSteps:=2000000) only [s50,↓Za,↓Zi,↓Zr,↓Ze,↓Zj,↓Zs,↓Zg,↓Zo,↓Zf,↓Zb,↓Zc,↓vdn,vup,Zm,Zk,Zn,Zl,Zh,List.map_cons,List.map_nil,cond_true,cond_false,aop,Zv,Zq,Zp,ev,sput,Zt,Zy,Ya,unK,Zd,Zw,Nat.reduceBEq,Nat.reduceAdd,Int.reduceBEq,Int.reduceBNe,Int.reduceLT,Zu,Zz,tup,tyf]
 refine hN14 [(0,v),(2,.int .i64 0),(3,.int .i64 0)] _ _ ?_ (by simp (maxSteps:=2000000) only [↓Za,↓Zi,↓Zr,↓Ze,↓Zj,↓Zs,↓Zg,↓Zo,↓Zf,↓Zb,↓Zc,↓vdn,vup,Zm,Zk,Zn,Zl,Zh,List.map_cons,List.map_nil,cond_true,cond_false,aop,Zv,Zq,Zp,ev,sput,Zt,Zy,Ya,unK,Zd,Zw,Nat.reduceBEq,Nat.reduceAdd,Int.reduceBEq,Int.reduceBNe,Int.reduceLT,Zu,Zz,tup,tyf])
 clear hN14
 try clear N14
 refine Yc fun N15 hN15=>?_
 simp (maxSteps:=2000000) only [s50,↓Za,↓Zi,↓Zr,↓Ze,↓Zj,↓Zs,↓Zg,↓Zo,↓Zf,↓Zb,↓Zc,↓vdn,vup,Zm,Zk,Zn,Zl,Zh,List.map_cons,List.map_nil,cond_true,cond_false,aop,Zv,Zq,Zp,ev,sput,Zt,Zy,Ya,unK,Zd,Zw,Nat.reduceBEq,Nat.reduceAdd,Int.reduceBEq,Int.reduceBNe,Int.reduceLT,Zu,Zz,tup,tyf,Yr,List.nil_append,List.append_nil,List.toList_toArray,List.cons_append]
 refine (read_call hv hl hx).mono ?_
 rintro _ g ⟨rfl,rfl⟩
 simp (maxSteps:=2000000) only [s50,↓Za,↓Zi,↓Zr,↓Ze,↓Zj,↓Zs,↓Zg,↓Zo,↓Zf,↓Zb,↓Zc,↓vdn,vup,Zm,Zk,Zn,Zl,Zh,List.map_cons,List.map_nil,cond_true,cond_false,aop,Zv,Zq,Zp,ev,sput,Zt,Zy,Ya,unK,Zd,Zw,Nat.reduceBEq,Nat.reduceAdd,Int.reduceBEq,Int.reduceBNe,Int.reduceLT,Zu,Zz,tup,tyf,We,Xj,zeroN,zero_77]
 rw [storeRd]
 obtain ⟨hE,hb⟩:=rdBox g o
 generalize hgl:g.length=gl at hE hb ⊢
 generalize (g++[Blk.cells (ordN 0) 77 false]).set gl (.cells (rdC o) 77 false)=G at hE hb ⊢
 cases ho:ord o with
 | false =>
   refine hN15 [(0,v),(2,.int .i64 0),(3,.int .i64 0),(4,ptB gl),(5,.bool false)] _ _ ?_ (by simp (maxSteps:=2000000) only [↓Za,↓Zi,↓Zr,↓Ze,↓Zj,↓Zs,↓Zg,↓Zo,↓Zf,↓Zb,↓Zc,↓vdn,vup,Zm,Zk,Zn,Zl,Zh,List.map_cons,List.map_nil,cond_true,cond_false,aop,Zv,Zq,Zp,ev,sput,Zt,Zy,Ya,unK,Zd,Zw,Nat.reduceBEq,Nat.reduceAdd,Int.reduceBEq,Int.reduceBNe,Int.reduceLT,Zu,Zz,tup,tyf])
   clear hN15
   try clear N15
   refine Ym fun C hC=>?_
   refine Yc fun N16 hN16=>?_
   simp (maxSteps:=2000000) only [s50,↓Za,↓Zi,↓Zr,↓Ze,↓Zj,↓Zs,↓Zg,↓Zo,↓Zf,↓Zb,↓Zc,↓vdn,vup,Zm,Zk,Zn,Zl,Zh,List.map_cons,List.map_nil,cond_true,cond_false,aop,Zv,Zq,Zp,ev,sput,Zt,Zy,Ya,unK,Zd,Zw,Nat.reduceBEq,Nat.reduceAdd,Int.reduceBEq,Int.reduceBNe,Int.reduceLT,Zu,Zz,tup,tyf]
   refine hN16 [(0,v),(2,.int .i64 0),(3,.int .i64 0),(4,ptB gl),(5,.bool false),(12,.bool true)] _ _ ?_ (by simp (maxSteps:=2000000) only [↓Za,↓Zi,↓Zr,↓Ze,↓Zj,↓Zs,↓Zg,↓Zo,↓Zf,↓Zb,↓Zc,↓vdn,vup,Zm,Zk,Zn,Zl,Zh,List.map_cons,List.map_nil,cond_true,cond_false,aop,Zv,Zq,Zp,ev,sput,Zt,Zy,Ya,unK,Zd,Zw,Nat.reduceBEq,Nat.reduceAdd,Int.reduceBEq,Int.reduceBNe,Int.reduceLT,Zu,Zz,tup,tyf])
   clear hN16
   try clear N16
   refine Xb rfl ?_
   refine Yf ?_
   try simp (maxSteps:=2000000) only [s50,↓Za,↓Zi,↓Zr,↓Ze,↓Zj,↓Zs,↓Zg,↓Zo,↓Zf,↓Zb,↓Zc,↓vdn,vup,Zm,Zk,Zn,Zl,Zh,List.map_cons,List.map_nil,cond_true,cond_false,aop,Zv,Zq,Zp,ev,sput,Zt,Zy,Ya,unK,Zd,Zw,Nat.reduceBEq,Nat.reduceAdd,Int.reduceBEq,Int.reduceBNe,Int.reduceLT,Zu,Zz,tup,tyf]
   rw [needV,ho]
   exact ⟨rfl,hE⟩
 | true =>
   have hrd:rdC o=Xt o:=if_pos (Yz ho)
   rw [hrd] at hb
   refine hN15 [(0,v),(2,.int .i64 0),(3,.int .i64 0),(4,ptB gl),(5,.bool true)] _ _ ?_ (by simp (maxSteps:=2000000) only [↓Za,↓Zi,↓Zr,↓Ze,↓Zj,↓Zs,↓Zg,↓Zo,↓Zf,↓Zb,↓Zc,↓vdn,vup,Zm,Zk,Zn,Zl,Zh,List.map_cons,List.map_nil,cond_true,cond_false,aop,Zv,Zq,Zp,ev,sput,Zt,Zy,Ya,unK,Zd,Zw,Nat.reduceBEq,Nat.reduceAdd,Int.reduceBEq,Int.reduceBNe,Int.reduceLT,Zu,Zz,tup,tyf])
   clear hN15
   try clear N15
   refine Ym fun C hC=>?_
   refine Yc fun N17 hN17=>?_
   simp (maxSteps:=2000000) only [s50,↓Za,↓Zi,↓Zr,↓Ze,↓Zj,↓Zs,↓Zg,↓Zo,↓Zf,↓Zb,↓Zc,↓vdn,vup,Zm,Zk,Zn,Zl,Zh,List.map_cons,List.map_nil,cond_true,cond_false,aop,Zv,Zq,Zp,ev,sput,Zt,Zy,Ya,unK,Zd,Zw,Nat.reduceBEq,Nat.reduceAdd,Int.reduceBEq,Int.reduceBNe,Int.reduceLT,Zu,Zz,tup,tyf]
   refine hN17 [(0,v),(2,.int .i64 0),(3,.int .i64 0),(4,ptB gl),(5,.bool true),(12,.bool false)] _ _ ?_ (by simp (maxSteps:=2000000) only [↓Za,↓Zi,↓Zr,↓Ze,↓Zj,↓Zs,↓Zg,↓Zo,↓Zf,↓Zb,↓Zc,↓vdn,vup,Zm,Zk,Zn,Zl,Zh,List.map_cons,List.map_nil,cond_true,cond_false,aop,Zv,Zq,Zp,ev,sput,Zt,Zy,Ya,unK,Zd,Zw,Nat.reduceBEq,Nat.reduceAdd,Int.reduceBEq,Int.reduceBNe,Int.reduceLT,Zu,Zz,tup,tyf])
   clear hN17
   try clear N17
   refine Xa rfl ?_
   refine Yf ?_
   try simp (maxSteps:=2000000) only [s50,↓Za,↓Zi,↓Zr,↓Ze,↓Zj,↓Zs,↓Zg,↓Zo,↓Zf,↓Zb,↓Zc,↓vdn,vup,Zm,Zk,Zn,Zl,Zh,List.map_cons,List.map_nil,cond_true,cond_false,aop,Zv,Zq,Zp,ev,sput,Zt,Zy,Ya,unK,Zd,Zw,Nat.reduceBEq,Nat.reduceAdd,Int.reduceBEq,Int.reduceBNe,Int.reduceLT,Zu,Zz,tup,tyf]
   refine hC [(0,v),(2,.int .i64 0),(3,.int .i64 0),(4,ptB gl),(5,.bool true)] _ _ ?_ (by simp (maxSteps:=2000000) only [↓Za,↓Zi,↓Zr,↓Ze,↓Zj,↓Zs,↓Zg,↓Zo,↓Zf,↓Zb,↓Zc,↓vdn,vup,Zm,Zk,Zn,Zl,Zh,List.map_cons,List.map_nil,cond_true,cond_false,aop,Zv,Zq,Zp,ev,sput,Zt,Zy,Ya,unK,Zd,Zw,Nat.reduceBEq,Nat.reduceAdd,Int.reduceBEq,Int.reduceBNe,Int.reduceLT,Zu,Zz,tup,tyf])
   clear hC
   try clear C
   have d0:(G++[Blk.map []]++[Blk.cells [.map (some G.length)] 100 false])[gl]? = some (.cells (Xt o) 77 false):=Yy (Yy hb _) _
   have d1:SK (G.length+1) G.length (G++[Blk.map []]++[Blk.cells [.map (some G.length)] 100 false]):=by
    refine ⟨?_,[],Yy (Yp _ _) _,fun p hp=>(List.not_mem_nil hp).elim,fun o n v _ hv=>by cases hv⟩
    have:=Yp (G++[Blk.map []]) (Blk.cells [.map (some G.length)] 100 false)
    rw [List.length_append,List.length_singleton] at this
    exact this
   have hE2:Ext (fun _=>False) g (G++[Blk.map []]++[Blk.cells [.map (some G.length)] 100 false]):=by rw [List.append_assoc]; exact hE.trans (Ext.app _ _ _)
   refine Yc fun N18 hN18=>?_
   simp (maxSteps:=2000000) only [s50,↓Za,↓Zi,↓Zr,↓Ze,↓Zj,↓Zs,↓Zg,↓Zo,↓Zf,↓Zb,↓Zc,↓vdn,vup,Zm,Zk,Zn,Zl,Zh,List.map_cons,List.map_nil,cond_true,cond_false,aop,Zv,Zq,Zp,ev,sput,Zt,Zy,Ya,unK,Zd,Zw,Nat.reduceBEq,Nat.reduceAdd,Int.reduceBEq,Int.reduceBNe,Int.reduceLT,Zu,Zz,tup,tyf,isPick_map,makeMapK,bld100,boxK,esz_100,cellsOf,Option.isSome_some,Xj,List.length_append,List.length_cons,List.length_nil,Nat.zero_add,Xy d0 Yn (Yz ho).2,Yr,List.nil_append,List.append_nil,List.toList_toArray,List.cons_append]
   refine (need_call ho d1).mono ?_
   rintro _ G3 ⟨rfl,hs3,hE3⟩
   try simp (maxSteps:=2000000) only [s50,↓Za,↓Zi,↓Zr,↓Ze,↓Zj,↓Zs,↓Zg,↓Zo,↓Zf,↓Zb,↓Zc,↓vdn,vup,Zm,Zk,Zn,Zl,Zh,List.map_cons,List.map_nil,cond_true,cond_false,aop,Zv,Zq,Zp,ev,sput,Zt,Zy,Ya,unK,Zd,Zw,Nat.reduceBEq,Nat.reduceAdd,Int.reduceBEq,Int.reduceBNe,Int.reduceLT,Zu,Zz,tup,tyf]
   refine hN18 [(0,v),(2,Zx (Vg o)),(3,.int .i64 0),(4,ptB gl),(5,.bool true)] _ _ ?_ (by simp (maxSteps:=2000000) only [↓Za,↓Zi,↓Zr,↓Ze,↓Zj,↓Zs,↓Zg,↓Zo,↓Zf,↓Zb,↓Zc,↓vdn,vup,Zm,Zk,Zn,Zl,Zh,List.map_cons,List.map_nil,cond_true,cond_false,aop,Zv,Zq,Zp,ev,sput,Zt,Zy,Ya,unK,Zd,Zw,Nat.reduceBEq,Nat.reduceAdd,Int.reduceBEq,Int.reduceBNe,Int.reduceLT,Zu,Zz,tup,tyf])
   clear hN18
   try clear N18
   refine Yf ?_
   try simp (maxSteps:=2000000) only [s50,↓Za,↓Zi,↓Zr,↓Ze,↓Zj,↓Zs,↓Zg,↓Zo,↓Zf,↓Zb,↓Zc,↓vdn,vup,Zm,Zk,Zn,Zl,Zh,List.map_cons,List.map_nil,cond_true,cond_false,aop,Zv,Zq,Zp,ev,sput,Zt,Zy,Ya,unK,Zd,Zw,Nat.reduceBEq,Nat.reduceAdd,Int.reduceBEq,Int.reduceBNe,Int.reduceLT,Zu,Zz,tup,tyf]
   rw [needV,ho]
   refine ⟨rfl,⟨Nat.le_trans hE2.1 hE3.1,fun i hi hf=>?_⟩⟩
   have:=hE.1
   rw [hE3.2 i (Nat.lt_of_lt_of_le hi hE2.1) (by omega)]
   exact hE2.2 i hi hf
end Go.Proofs.Tryd.Am
namespace Go.Proofs.Tryd.Am
open Go.Am Ord
set_option maxRecDepth 100000
set_option maxHeartbeats 4000000
def nxB (len i:Nat) (x:Int):Bool:=!((x != -1&&decide (x≤(i:Int))) || decide ((len:Int)≤x))
def elB (n:Nat) (x:Int):Bool:=decide (0≤x)&&decide (x<(n:Int))
def nodeB (n len i:Nat) (p:Qd):Bool:=elB n p.1&&(elB n p.2.1&&(!(p.1==p.2.1)&&(nxB len i p.2.2.1&&nxB len i p.2.2.2)))
def isPlB (n:Nat) (P:List Qd):Bool:=((List.range P.length).all fun i=>nodeB n P.length i (P.getD i qd0))&&decide (P.length≤800)
theorem isPl_bad {n i:Nat} {P:List Qd} (hi:i<P.length) (h:nodeB n P.length i (P.getD i qd0)=false):isPlB n P=false:=by
 have:((List.range P.length).all fun i=>nodeB n P.length i (P.getD i qd0))=false:=by
  rw [List.all_eq_false]
  exact ⟨i,List.mem_range.2 hi,by rw [h]; decide⟩
 rw [isPlB,this]; rfl
theorem isPl_ok {n:Nat} {P:List Qd} (h:isPlB n P=true):P.length≤800∧∀ i,i<P.length→nodeB n P.length i (P.getD i qd0)=true:=by
 rw [isPlB,Bool.and_eq_true,decide_eq_true_eq,List.all_eq_true] at h
 exact ⟨h.2,fun i hi=>h.1 i (List.mem_range.2 hi)⟩
abbrev c4 (p:Qd):List Value:=[Zx p.1,Zx p.2.1,Zx p.2.2.1,Zx p.2.2.2]
section
variable {h:Yb} {b:Nat} {e:TypeId} {ro:Bool} {p:Qd} {K:Value→Prop}
theorem ld40 (hb:h[b]? = some (.cells (c4 p) e ro)):Xw prog h 3 (.pointer (some ⟨b,0,none⟩)) K=K (Zx p.1):=loadC hb Xd rfl
theorem ld41 (hb:h[b]? = some (.cells (c4 p) e ro)):Xw prog h 3 (.pointer (some ⟨b,1,none⟩)) K=K (Zx p.2.1):=loadC hb Xd rfl
theorem ld42 (hb:h[b]? = some (.cells (c4 p) e ro)):Xw prog h 3 (.pointer (some ⟨b,2,none⟩)) K=K (Zx p.2.2.1):=loadC hb Xd rfl
theorem ld43 (hb:h[b]? = some (.cells (c4 p) e ro)):Xw prog h 3 (.pointer (some ⟨b,3,none⟩)) K=K (Zx p.2.2.2):=loadC hb Xd rfl
theorem ld4 (hb:h[b]? = some (.cells (c4 p) e ro)):Xw prog h 108 (ptB b) K=K (qV p):=loadA hb (by rw [shp_108]; rfl)
theorem st4 {c:List Value} {K:Yb→Prop} (hb:h[b]? = some (.cells c e false)) (hc:c.length=4):Xv prog h 108 (ptB b) (qV p) K=K (h.set b (.cells (c4 p) e false)) :=
 storeA (vs:=c4 p) hb (by rw [shp_108]; rfl) rfl (by rw [hc]; rfl)
end
theorem box4 (h:Yb) (p:Qd):((h++[Blk.cells [.int .i64 0,.int .i64 0,.int .i64 0,.int .i64 0] 108 false]).set h.length (.cells (c4 p) 108 false))[h.length]? = some (.cells (c4 p) 108 false)∧Ext (fun _=>False) h ((h++[Blk.cells [.int .i64 0,.int .i64 0,.int .i64 0,.int .i64 0] 108 false]).set h.length (.cells (c4 p) 108 false)) :=
 ⟨Xm (by simp) _,⟨by simp,fun i hi _=>by rw [List.getElem?_set_ne (by omega),List.getElem?_append_left hi]⟩⟩
def lenV (P:List Qd):Nat→Int→List Int→Nat×Bool
 | 0,_,_=>(0,false)
 | f+1,a,o =>
   if a = -1 then (0,cn o==1)
   else if cn o=1 then (0,false)
   else if fr o (P.getD a.toNat qd0).1.toNat (P.getD a.toNat qd0).2.1.toNat=true then
    (if (lenV P f (P.getD a.toNat qd0).2.2.1 (Wp o (P.getD a.toNat qd0).1.toNat (P.getD a.toNat qd0).2.1.toNat)).2=true then
     (1+max (lenV P f (P.getD a.toNat qd0).2.2.1 (Wp o (P.getD a.toNat qd0).1.toNat (P.getD a.toNat qd0).2.1.toNat)).1 (lenV P f (P.getD a.toNat qd0).2.2.2 (Wp o (P.getD a.toNat qd0).2.1.toNat (P.getD a.toNat qd0).1.toNat)).1,(lenV P f (P.getD a.toNat qd0).2.2.2 (Wp o (P.getD a.toNat qd0).2.1.toNat (P.getD a.toNat qd0).1.toNat)).2)
    else (0,false))
   else (0,false)
theorem lenV_at {P:List Qd} {f k i j:Nat} {o:List Int} {l m:Int} (hp:P.getD k qd0=((i:Int),(j:Int),l,m)) (h1:cn o≠1):lenV P (f+1) ((k:Nat):Int) o =
  if fr o i j=true then (if (lenV P f l (Wp o i j)).2=true then (1+max (lenV P f l (Wp o i j)).1 (lenV P f m (Wp o j i)).1,(lenV P f m (Wp o j i)).2) else (0,false)) else (0,false):=by
 rw [lenV,if_neg (by omega),if_neg h1]
 simp only [Int.toNat_natCast,hp]
theorem lenV_le (P:List Qd) : ∀ (f:Nat) (a:Int) (o:List Int),(lenV P f a o).1≤f
 | 0,_,_=>Nat.le_refl _
 | f+1,a,o=>by
   rw [lenV]
   split
   · exact Nat.zero_le _
   · split
     · exact Nat.zero_le _
     · split
       · split
         · have h1:=lenV_le P f (P.getD a.toNat qd0).2.2.1 (Wp o (P.getD a.toNat qd0).1.toNat (P.getD a.toNat qd0).2.1.toNat)
           have h2:=lenV_le P f (P.getD a.toNat qd0).2.2.2 (Wp o (P.getD a.toNat qd0).2.1.toNat (P.getD a.toNat qd0).1.toNat)
           simp only; omega
         · exact Nat.zero_le _
       · exact Nat.zero_le _
theorem node_nat {n len k:Nat} {p:Qd} (h:nodeB n len k p=true) : ∃ (i j:Nat) (l m:Int),p=((i:Int),(j:Int),l,m)∧i<n∧j<n∧i≠j∧(l = -1∨((k:Int)<l∧l<len))∧(m = -1∨((k:Int)<m∧m<len)):=by
 obtain ⟨a,b,l,m⟩:=p
 simp only [nodeB,elB,nxB,Bool.and_eq_true,decide_eq_true_eq,Bool.not_eq_true',beq_eq_false_iff_ne,Bool.or_eq_false_iff,Bool.and_eq_false_iff,bne_eq_false_iff_eq,decide_eq_false_iff_not] at h
 obtain ⟨⟨a1,a2⟩,⟨b1,b2⟩,h3,⟨h4,h5⟩,h6,h7⟩:=h
 refine ⟨a.toNat,b.toNat,l,m,by rw [Int.toNat_of_nonneg a1,Int.toNat_of_nonneg b1],by omega,by omega,by omega,?_,?_⟩
 · rcases h4 with h4 | h4
   · exact .inl h4
   · by_cases hl:l = -1
     · exact .inl hl
     · exact .inr ⟨by omega,by omega⟩
 · rcases h6 with h6 | h6
   · exact .inl h6
   · by_cases hl:m = -1
     · exact .inl hl
     · exact .inr ⟨by omega,by omega⟩
theorem s93_callW [Tabs Tryd.prog] {args:List Value} {h:Yb} {Q:Value→Yb→Prop} (hsz:args.length≤70) (hk:AWS Tryd.prog 70 s93 (Zu Tryd.prog [.tmp 6,.tmp 7] Q) (Zp 0 args) h):ACall Tryd.prog 93 args h Q :=
 Wn Tryd.func93 rfl (enters_of Tryd.func93 (by kernel_rfl) rfl) rfl rfl (by decide) s93_strip s93_ok hsz hk
theorem length_call [BitTab prog 1] {n:Nat} {P:List Qd} (hP:isPlB n P=true) : ∀ (f:Nat) (h:Yb) (v:Value) (a:Int) (o:List Int),QuadSl h v P→ord o=true→o.length=n→(a = -1∨(0≤a∧a<P.length∧P.length<f+a))→0<f→f≤1000 →
  APure prog 93 [ordV o,v,Zx a] h (.tuple #[Zx ((lenV P f a o).1:Nat),.bool (lenV P f a o).2]):=by
 intro f
 obtain ⟨hP8,hPn⟩:=isPl_ok hP
 induction f with
 | zero=>intro h v a o _ _ _ _ hf _; exact absurd hf (Nat.lt_irrefl 0)
 | succ f ih =>
   intro h v a o hv ho hon ha _ hfb
   have hl:=Yz ho
   have hq:(((cn o:Nat):Int)==1)=(cn o==1):=by rw [Bool.eq_iff_iff,beq_iff_eq,beq_iff_eq]; omega
   refine ACall.forget (.pair (.int _ _) (.bool _)) ?_
   refine s93_callW (by simp) ?_
   simp only [s93]
   refine Yc fun N1 hN1=>?_
   simp (maxSteps:=2000000) only [s93,↓Za,↓Zi,↓Zr,↓Ze,↓Zj,↓Zs,↓Zg,↓Zo,↓Zf,↓Zb,↓Zc,↓vdn,vup,Zm,Zk,Zn,Zl,Zh,List.map_cons,List.map_nil,cond_true,cond_false,aop,Zv,Zq,Zp,ev,sput,Zt,Zy,Ya,unK,Zd,Zw,Nat.reduceBEq,Nat.reduceAdd,Int.reduceBEq,Int.reduceBNe,Int.reduceLT,Zu,Zz,tup,tyf,boxO esz_77,Xj]
   have c0:=Yp h (Blk.cells (Xt o) 77 false)
   have hE:Ext (fun _=>False) h (h++[Blk.cells (Xt o) 77 false]):=Ext.app _ _ _
   have hvG:=hv.ext hE
   generalize h++[Blk.cells (Xt o) 77 false]=G at c0 hE hvG ⊢
   generalize h.length=b3 at c0 ⊢
   refine hN1 [(0,ordV o),(1,v),(2,Zx a),(3,ptB b3),(6,.int .i64 0),(7,.bool false)] _ _ ?_ (by simp (maxSteps:=2000000) only [↓Za,↓Zi,↓Zr,↓Ze,↓Zj,↓Zs,↓Zg,↓Zo,↓Zf,↓Zb,↓Zc,↓vdn,vup,Zm,Zk,Zn,Zl,Zh,List.map_cons,List.map_nil,cond_true,cond_false,aop,Zv,Zq,Zp,ev,sput,Zt,Zy,Ya,unK,Zd,Zw,Nat.reduceBEq,Nat.reduceAdd,Int.reduceBEq,Int.reduceBNe,Int.reduceLT,Zu,Zz,tup,tyf])
   clear hN1
   try clear N1
   refine Yc fun N2 hN2=>?_
   simp (maxSteps:=2000000) only [s93,↓Za,↓Zi,↓Zr,↓Ze,↓Zj,↓Zs,↓Zg,↓Zo,↓Zf,↓Zb,↓Zc,↓vdn,vup,Zm,Zk,Zn,Zl,Zh,List.map_cons,List.map_nil,cond_true,cond_false,aop,Zv,Zq,Zp,ev,sput,Zt,Zy,Ya,unK,Zd,Zw,Nat.reduceBEq,Nat.reduceAdd,Int.reduceBEq,Int.reduceBNe,Int.reduceLT,Zu,Zz,tup,tyf,Yr,List.nil_append,List.append_nil,List.toList_toArray,List.cons_append,Xy c0 Yn hl.2]
   refine (Wh ho).mono ?_
   rintro _ G ⟨rfl,rfl⟩
   simp (maxSteps:=2000000) only [s93,↓Za,↓Zi,↓Zr,↓Ze,↓Zj,↓Zs,↓Zg,↓Zo,↓Zf,↓Zb,↓Zc,↓vdn,vup,Zm,Zk,Zn,Zl,Zh,List.map_cons,List.map_nil,cond_true,cond_false,aop,Zv,Zq,Zp,ev,sput,Zt,Zy,Ya,unK,Zd,Zw,Nat.reduceBEq,Nat.reduceAdd,Int.reduceBEq,Int.reduceBNe,Int.reduceLT,Zu,Zz,tup,tyf,hq]
   refine hN2 [(0,ordV o),(1,v),(2,Zx a),(3,ptB b3),(6,.int .i64 0),(7,.bool false),(8,.bool (cn o==1))] _ _ ?_ (by simp (maxSteps:=2000000) only [↓Za,↓Zi,↓Zr,↓Ze,↓Zj,↓Zs,↓Zg,↓Zo,↓Zf,↓Zb,↓Zc,↓vdn,vup,Zm,Zk,Zn,Zl,Zh,List.map_cons,List.map_nil,cond_true,cond_false,aop,Zv,Zq,Zp,ev,sput,Zt,Zy,Ya,unK,Zd,Zw,Nat.reduceBEq,Nat.reduceAdd,Int.reduceBEq,Int.reduceBNe,Int.reduceLT,Zu,Zz,tup,tyf])
   clear hN2
   try clear N2
   refine Ym fun C hC=>?_
   by_cases hm1:a = -1
   · subst hm1
     have hA:((-1:Int) == -1)=true:=rfl
     refine Yc fun N3 hN3=>?_
     simp (maxSteps:=2000000) only [s93,↓Za,↓Zi,↓Zr,↓Ze,↓Zj,↓Zs,↓Zg,↓Zo,↓Zf,↓Zb,↓Zc,↓vdn,vup,Zm,Zk,Zn,Zl,Zh,List.map_cons,List.map_nil,cond_true,cond_false,aop,Zv,Zq,Zp,ev,sput,Zt,Zy,Ya,unK,Zd,Zw,Nat.reduceBEq,Nat.reduceAdd,Int.reduceBEq,Int.reduceBNe,Int.reduceLT,Zu,Zz,tup,tyf,hA]
     refine hN3 [(0,ordV o),(1,v),(2,Zx (-1)),(3,ptB b3),(6,.int .i64 0),(7,.bool false),(8,.bool (cn o==1)),(20,.bool true)] _ _ ?_ (by simp (maxSteps:=2000000) only [↓Za,↓Zi,↓Zr,↓Ze,↓Zj,↓Zs,↓Zg,↓Zo,↓Zf,↓Zb,↓Zc,↓vdn,vup,Zm,Zk,Zn,Zl,Zh,List.map_cons,List.map_nil,cond_true,cond_false,aop,Zv,Zq,Zp,ev,sput,Zt,Zy,Ya,unK,Zd,Zw,Nat.reduceBEq,Nat.reduceAdd,Int.reduceBEq,Int.reduceBNe,Int.reduceLT,Zu,Zz,tup,tyf])
     clear hN3
     try clear N3
     refine Xb rfl ?_
     refine Yf ?_
     simp (maxSteps:=2000000) only [s93,↓Za,↓Zi,↓Zr,↓Ze,↓Zj,↓Zs,↓Zg,↓Zo,↓Zf,↓Zb,↓Zc,↓vdn,vup,Zm,Zk,Zn,Zl,Zh,List.map_cons,List.map_nil,cond_true,cond_false,aop,Zv,Zq,Zp,ev,sput,Zt,Zy,Ya,unK,Zd,Zw,Nat.reduceBEq,Nat.reduceAdd,Int.reduceBEq,Int.reduceBNe,Int.reduceLT,Zu,Zz,tup,tyf,hA]
     exact ⟨(by simp only [lenV,if_true]; try rfl),hE⟩
   have hA:(a == -1)=false:=by simpa using hm1
   by_cases h1:cn o=1
   · have h1b:(cn o==1)=true:=by simpa using h1
     rw [h1b]
     refine Yc fun N4 hN4=>?_
     simp (maxSteps:=2000000) only [s93,↓Za,↓Zi,↓Zr,↓Ze,↓Zj,↓Zs,↓Zg,↓Zo,↓Zf,↓Zb,↓Zc,↓vdn,vup,Zm,Zk,Zn,Zl,Zh,List.map_cons,List.map_nil,cond_true,cond_false,aop,Zv,Zq,Zp,ev,sput,Zt,Zy,Ya,unK,Zd,Zw,Nat.reduceBEq,Nat.reduceAdd,Int.reduceBEq,Int.reduceBNe,Int.reduceLT,Zu,Zz,tup,tyf,hA]
     refine hN4 [(0,ordV o),(1,v),(2,Zx a),(3,ptB b3),(6,.int .i64 0),(7,.bool false),(8,.bool true),(20,.bool true)] _ _ ?_ (by simp (maxSteps:=2000000) only [↓Za,↓Zi,↓Zr,↓Ze,↓Zj,↓Zs,↓Zg,↓Zo,↓Zf,↓Zb,↓Zc,↓vdn,vup,Zm,Zk,Zn,Zl,Zh,List.map_cons,List.map_nil,cond_true,cond_false,aop,Zv,Zq,Zp,ev,sput,Zt,Zy,Ya,unK,Zd,Zw,Nat.reduceBEq,Nat.reduceAdd,Int.reduceBEq,Int.reduceBNe,Int.reduceLT,Zu,Zz,tup,tyf])
     clear hN4
     try clear N4
     refine Xb rfl ?_
     refine Yf ?_
     simp (maxSteps:=2000000) only [s93,↓Za,↓Zi,↓Zr,↓Ze,↓Zj,↓Zs,↓Zg,↓Zo,↓Zf,↓Zb,↓Zc,↓vdn,vup,Zm,Zk,Zn,Zl,Zh,List.map_cons,List.map_nil,cond_true,cond_false,aop,Zv,Zq,Zp,ev,sput,Zt,Zy,Ya,unK,Zd,Zw,Nat.reduceBEq,Nat.reduceAdd,Int.reduceBEq,Int.reduceBNe,Int.reduceLT,Zu,Zz,tup,tyf,hA]
     exact ⟨(by simp only [lenV,if_neg hm1,if_pos h1]; try rfl),hE⟩
   have h1b:(cn o==1)=false:=by simpa using h1
   rw [h1b]
   refine Yc fun N5 hN5=>?_
   simp (maxSteps:=2000000) only [s93,↓Za,↓Zi,↓Zr,↓Ze,↓Zj,↓Zs,↓Zg,↓Zo,↓Zf,↓Zb,↓Zc,↓vdn,vup,Zm,Zk,Zn,Zl,Zh,List.map_cons,List.map_nil,cond_true,cond_false,aop,Zv,Zq,Zp,ev,sput,Zt,Zy,Ya,unK,Zd,Zw,Nat.reduceBEq,Nat.reduceAdd,Int.reduceBEq,Int.reduceBNe,Int.reduceLT,Zu,Zz,tup,tyf,hA]
   refine hN5 [(0,ordV o),(1,v),(2,Zx a),(3,ptB b3),(6,.int .i64 0),(7,.bool false),(8,.bool false),(20,.bool false)] _ _ ?_ (by simp (maxSteps:=2000000) only [↓Za,↓Zi,↓Zr,↓Ze,↓Zj,↓Zs,↓Zg,↓Zo,↓Zf,↓Zb,↓Zc,↓vdn,vup,Zm,Zk,Zn,Zl,Zh,List.map_cons,List.map_nil,cond_true,cond_false,aop,Zv,Zq,Zp,ev,sput,Zt,Zy,Ya,unK,Zd,Zw,Nat.reduceBEq,Nat.reduceAdd,Int.reduceBEq,Int.reduceBNe,Int.reduceLT,Zu,Zz,tup,tyf])
   clear hN5
   try clear N5
   refine Xa rfl ?_
   refine Yf ?_
   try simp (maxSteps:=2000000) only [s93,↓Za,↓Zi,↓Zr,↓Ze,↓Zj,↓Zs,↓Zg,↓Zo,↓Zf,↓Zb,↓Zc,↓vdn,vup,Zm,Zk,Zn,Zl,Zh,List.map_cons,List.map_nil,cond_true,cond_false,aop,Zv,Zq,Zp,ev,sput,Zt,Zy,Ya,unK,Zd,Zw,Nat.reduceBEq,Nat.reduceAdd,Int.reduceBEq,Int.reduceBNe,Int.reduceLT,Zu,Zz,tup,tyf]
   refine hC [(0,ordV o),(1,v),(2,Zx a),(3,ptB b3),(6,.int .i64 0),(7,.bool false),(8,.bool false)] _ _ ?_ (by simp (maxSteps:=2000000) only [↓Za,↓Zi,↓Zr,↓Ze,↓Zj,↓Zs,↓Zg,↓Zo,↓Zf,↓Zb,↓Zc,↓vdn,vup,Zm,Zk,Zn,Zl,Zh,List.map_cons,List.map_nil,cond_true,cond_false,aop,Zv,Zq,Zp,ev,sput,Zt,Zy,Ya,unK,Zd,Zw,Nat.reduceBEq,Nat.reduceAdd,Int.reduceBEq,Int.reduceBNe,Int.reduceLT,Zu,Zz,tup,tyf])
   clear hC
   try clear C
   obtain ⟨ha0,hal,haf⟩:=ha.resolve_left hm1
   obtain ⟨k,rfl⟩ : ∃ k:Nat,a=k:=⟨a.toNat,by omega⟩
   have hk:k<P.length:=by omega
   obtain ⟨i,j,l,m,hp,hi,hj,hij,hlx,hmx⟩:=node_nat (hPn k hk)
   rw [lenV_at hp h1]
   rw [← hon] at hi hj
   have hld:=hvG.load shp_108 hk
   rw [hp] at hld
   refine Yc fun N6 hN6=>?_
   simp (maxSteps:=2000000) only [s93,↓Za,↓Zi,↓Zr,↓Ze,↓Zj,↓Zs,↓Zg,↓Zo,↓Zf,↓Zb,↓Zc,↓vdn,vup,Zm,Zk,Zn,Zl,Zh,List.map_cons,List.map_nil,cond_true,cond_false,aop,Zv,Zq,Zp,ev,sput,Zt,Zy,Ya,unK,Zd,Zw,Nat.reduceBEq,Nat.reduceAdd,Int.reduceBEq,Int.reduceBNe,Int.reduceLT,Zu,Zz,tup,tyf,hvG.idx el_63 esz_108 hk,hld,We,Xj,zero_108]
   obtain ⟨d9,hE9⟩:=box4 G ((i:Int),(j:Int),l,m)
   rw [st4 (Yp _ _) rfl]
   generalize (G++[Blk.cells [.int .i64 0,.int .i64 0,.int .i64 0,.int .i64 0] 108 false]).set G.length (.cells (c4 ((i:Int),(j:Int),l,m)) 108 false)=H at d9 hE9 ⊢
   have d0:=(hE9.2 _ (Yg c0) id).trans c0
   have hvH:=hvG.ext hE9
   have hEH:=hE.trans hE9
   generalize G.length=b9 at d9 ⊢
   refine hN6 [(0,ordV o),(1,v),(2,Zx (k:Nat)),(3,ptB b3),(6,.int .i64 0),(7,.bool false),(8,.bool false),(9,ptB b9)] _ _ ?_ (by simp (maxSteps:=2000000) only [↓Za,↓Zi,↓Zr,↓Ze,↓Zj,↓Zs,↓Zg,↓Zo,↓Zf,↓Zb,↓Zc,↓vdn,vup,Zm,Zk,Zn,Zl,Zh,List.map_cons,List.map_nil,cond_true,cond_false,aop,Zv,Zq,Zp,ev,sput,Zt,Zy,Ya,unK,Zd,Zw,Nat.reduceBEq,Nat.reduceAdd,Int.reduceBEq,Int.reduceBNe,Int.reduceLT,Zu,Zz,tup,tyf])
   clear hN6
   try clear N6
   refine Ym fun D hD=>?_
   refine Yc fun N7 hN7=>?_
   simp (maxSteps:=2000000) only [s93,↓Za,↓Zi,↓Zr,↓Ze,↓Zj,↓Zs,↓Zg,↓Zo,↓Zf,↓Zb,↓Zc,↓vdn,vup,Zm,Zk,Zn,Zl,Zh,List.map_cons,List.map_nil,cond_true,cond_false,aop,Zv,Zq,Zp,ev,sput,Zt,Zy,Ya,unK,Zd,Zw,Nat.reduceBEq,Nat.reduceAdd,Int.reduceBEq,Int.reduceBNe,Int.reduceLT,Zu,Zz,tup,tyf,Yr,List.nil_append,List.append_nil,List.toList_toArray,List.cons_append,Xy d0 Yn hl.2,fldA Vw Xk,fldA fld_108_1 Xk,ld40 d9,ld41 d9]
   refine (free_call ho hi hj).mono ?_
   rintro _ H ⟨rfl,rfl⟩
   cases hf:fr o i j with
   | false =>
     try simp (maxSteps:=2000000) only [s93,↓Za,↓Zi,↓Zr,↓Ze,↓Zj,↓Zs,↓Zg,↓Zo,↓Zf,↓Zb,↓Zc,↓vdn,vup,Zm,Zk,Zn,Zl,Zh,List.map_cons,List.map_nil,cond_true,cond_false,aop,Zv,Zq,Zp,ev,sput,Zt,Zy,Ya,unK,Zd,Zw,Nat.reduceBEq,Nat.reduceAdd,Int.reduceBEq,Int.reduceBNe,Int.reduceLT,Zu,Zz,tup,tyf]
     refine hN7 [(0,ordV o),(1,v),(2,Zx (k:Nat)),(3,ptB b3),(6,.int .i64 0),(7,.bool false),(8,.bool false),(9,ptB b9),(36,.bool true)] _ _ ?_ (by simp (maxSteps:=2000000) only [↓Za,↓Zi,↓Zr,↓Ze,↓Zj,↓Zs,↓Zg,↓Zo,↓Zf,↓Zb,↓Zc,↓vdn,vup,Zm,Zk,Zn,Zl,Zh,List.map_cons,List.map_nil,cond_true,cond_false,aop,Zv,Zq,Zp,ev,sput,Zt,Zy,Ya,unK,Zd,Zw,Nat.reduceBEq,Nat.reduceAdd,Int.reduceBEq,Int.reduceBNe,Int.reduceLT,Zu,Zz,tup,tyf])
     clear hN7
     try clear N7
     refine Xb rfl ?_
     refine Yf ?_
     try simp (maxSteps:=2000000) only [s93,↓Za,↓Zi,↓Zr,↓Ze,↓Zj,↓Zs,↓Zg,↓Zo,↓Zf,↓Zb,↓Zc,↓vdn,vup,Zm,Zk,Zn,Zl,Zh,List.map_cons,List.map_nil,cond_true,cond_false,aop,Zv,Zq,Zp,ev,sput,Zt,Zy,Ya,unK,Zd,Zw,Nat.reduceBEq,Nat.reduceAdd,Int.reduceBEq,Int.reduceBNe,Int.reduceLT,Zu,Zz,tup,tyf]
     exact ⟨(by simp only [hf,if_false,Bool.false_eq_true]; try rfl),hEH⟩
   | true =>
     try simp (maxSteps:=2000000) only [s93,↓Za,↓Zi,↓Zr,↓Ze,↓Zj,↓Zs,↓Zg,↓Zo,↓Zf,↓Zb,↓Zc,↓vdn,vup,Zm,Zk,Zn,Zl,Zh,List.map_cons,List.map_nil,cond_true,cond_false,aop,Zv,Zq,Zp,ev,sput,Zt,Zy,Ya,unK,Zd,Zw,Nat.reduceBEq,Nat.reduceAdd,Int.reduceBEq,Int.reduceBNe,Int.reduceLT,Zu,Zz,tup,tyf]
     refine hN7 [(0,ordV o),(1,v),(2,Zx (k:Nat)),(3,ptB b3),(6,.int .i64 0),(7,.bool false),(8,.bool false),(9,ptB b9),(36,.bool false)] _ _ ?_ (by simp (maxSteps:=2000000) only [↓Za,↓Zi,↓Zr,↓Ze,↓Zj,↓Zs,↓Zg,↓Zo,↓Zf,↓Zb,↓Zc,↓vdn,vup,Zm,Zk,Zn,Zl,Zh,List.map_cons,List.map_nil,cond_true,cond_false,aop,Zv,Zq,Zp,ev,sput,Zt,Zy,Ya,unK,Zd,Zw,Nat.reduceBEq,Nat.reduceAdd,Int.reduceBEq,Int.reduceBNe,Int.reduceLT,Zu,Zz,tup,tyf])
     clear hN7
     try clear N7
     refine Xa rfl ?_
     refine Yf ?_
     try simp (maxSteps:=2000000) only [s93,↓Za,↓Zi,↓Zr,↓Ze,↓Zj,↓Zs,↓Zg,↓Zo,↓Zf,↓Zb,↓Zc,↓vdn,vup,Zm,Zk,Zn,Zl,Zh,List.map_cons,List.map_nil,cond_true,cond_false,aop,Zv,Zq,Zp,ev,sput,Zt,Zy,Ya,unK,Zd,Zw,Nat.reduceBEq,Nat.reduceAdd,Int.reduceBEq,Int.reduceBNe,Int.reduceLT,Zu,Zz,tup,tyf]
     refine hD [(0,ordV o),(1,v),(2,Zx (k:Nat)),(3,ptB b3),(6,.int .i64 0),(7,.bool false),(8,.bool false),(9,ptB b9)] _ _ ?_ (by simp (maxSteps:=2000000) only [↓Za,↓Zi,↓Zr,↓Ze,↓Zj,↓Zs,↓Zg,↓Zo,↓Zf,↓Zb,↓Zc,↓vdn,vup,Zm,Zk,Zn,Zl,Zh,List.map_cons,List.map_nil,cond_true,cond_false,aop,Zv,Zq,Zp,ev,sput,Zt,Zy,Ya,unK,Zd,Zw,Nat.reduceBEq,Nat.reduceAdd,Int.reduceBEq,Int.reduceBNe,Int.reduceLT,Zu,Zz,tup,tyf])
     clear hD
     try clear D
     obtain ⟨f1,f2,f3⟩:=fr_out hf
     have o1:=Xu ho hi hj f1 f3
     have o2:=Xu ho hj hi (Ne.symm f1) f2
     have hf0:0<f:=by omega
     have r1:=ih H v l (Wp o i j) hvH o1 (by rw [Xh]; exact hon) (hlx.imp id fun h=>⟨by omega,h.2,by omega⟩) hf0 (by omega)
     have r2:=ih H v m (Wp o j i) hvH o2 (by rw [Xh]; exact hon) (hmx.imp id fun h=>⟨by omega,h.2,by omega⟩) hf0 (by omega)
     have g1:=lenV_le P f l (Wp o i j)
     have g2:=lenV_le P f m (Wp o j i)
     generalize lenV P f l (Wp o i j)=R1 at r1 g1 ⊢
     generalize lenV P f m (Wp o j i)=R2 at r2 g2 ⊢
     obtain ⟨x,ok1⟩:=R1
     obtain ⟨y,ok2⟩:=R2
     simp only at r1 r2 g1 g2
     refine Yc fun N8 hN8=>?_
     simp only [q93_7]
     refine Xs [(5,1),(9,1)] (by kernel_rfl) (by kernel_rfl) (by kernel_rfl) (by kernel_rfl) ?_
     simp (maxSteps:=2000000) only [s93,↓Za,↓Zi,↓Zr,↓Ze,↓Zj,↓Zs,↓Zg,↓Zo,↓Zf,↓Zb,↓Zc,↓vdn,vup,Zm,Zk,Zn,Zl,Zh,List.map_cons,List.map_nil,cond_true,cond_false,aop,Zv,Zq,Zp,ev,sput,Zt,Zy,Ya,unK,Zd,Zw,Nat.reduceBEq,Nat.reduceAdd,Int.reduceBEq,Int.reduceBNe,Int.reduceLT,Zu,Zz,tup,tyf,Xy d0 Yn hl.2,fldA Vw Xk,fldA fld_108_1 Xk,ld40 d9,ld41 d9,Yr,List.nil_append,List.append_nil,List.toList_toArray,List.cons_append]
     refine ⟨_,_,add_call ho hi hj,rfl,?_⟩
     simp (maxSteps:=2000000) only [s93,↓Za,↓Zi,↓Zr,↓Ze,↓Zj,↓Zs,↓Zg,↓Zo,↓Zf,↓Zb,↓Zc,↓vdn,vup,Zm,Zk,Zn,Zl,Zh,List.map_cons,List.map_nil,cond_true,cond_false,aop,Zv,Zq,Zp,ev,sput,Zt,Zy,Ya,unK,Zd,Zw,Nat.reduceBEq,Nat.reduceAdd,Int.reduceBEq,Int.reduceBNe,Int.reduceLT,Zu,Zz,tup,tyf,fldA fld_108_2 Xk,ld42 d9,Yr,List.nil_append,List.append_nil,List.toList_toArray,List.cons_append]
     refine ⟨_,_,r1,rfl,?_⟩
     try simp (maxSteps:=2000000) only [s93,↓Za,↓Zi,↓Zr,↓Ze,↓Zj,↓Zs,↓Zg,↓Zo,↓Zf,↓Zb,↓Zc,↓vdn,vup,Zm,Zk,Zn,Zl,Zh,List.map_cons,List.map_nil,cond_true,cond_false,aop,Zv,Zq,Zp,ev,sput,Zt,Zy,Ya,unK,Zd,Zw,Nat.reduceBEq,Nat.reduceAdd,Int.reduceBEq,Int.reduceBNe,Int.reduceLT,Zu,Zz,tup,tyf]
     refine hN8 [(0,ordV o),(1,v),(2,Zx (k:Nat)),(3,ptB b3),(6,.int .i64 0),(7,.bool false),(8,.bool false),(9,ptB b9),(10,Zx (x:Nat)),(11,.bool ok1)] _ _ ?_ (by simp (maxSteps:=2000000) only [↓Za,↓Zi,↓Zr,↓Ze,↓Zj,↓Zs,↓Zg,↓Zo,↓Zf,↓Zb,↓Zc,↓vdn,vup,Zm,Zk,Zn,Zl,Zh,List.map_cons,List.map_nil,cond_true,cond_false,aop,Zv,Zq,Zp,ev,sput,Zt,Zy,Ya,unK,Zd,Zw,Nat.reduceBEq,Nat.reduceAdd,Int.reduceBEq,Int.reduceBNe,Int.reduceLT,Zu,Zz,tup,tyf])
     clear hN8
     try clear N8
     refine Ym fun E hE=>?_
     cases ok1 with
     | false =>
       refine Yc fun N9 hN9=>?_
       simp (maxSteps:=2000000) only [s93,↓Za,↓Zi,↓Zr,↓Ze,↓Zj,↓Zs,↓Zg,↓Zo,↓Zf,↓Zb,↓Zc,↓vdn,vup,Zm,Zk,Zn,Zl,Zh,List.map_cons,List.map_nil,cond_true,cond_false,aop,Zv,Zq,Zp,ev,sput,Zt,Zy,Ya,unK,Zd,Zw,Nat.reduceBEq,Nat.reduceAdd,Int.reduceBEq,Int.reduceBNe,Int.reduceLT,Zu,Zz,tup,tyf]
       refine hN9 [(0,ordV o),(1,v),(2,Zx (k:Nat)),(3,ptB b3),(6,.int .i64 0),(7,.bool false),(8,.bool false),(9,ptB b9),(10,Zx (x:Nat)),(11,.bool false),(51,.bool true)] _ _ ?_ (by simp (maxSteps:=2000000) only [↓Za,↓Zi,↓Zr,↓Ze,↓Zj,↓Zs,↓Zg,↓Zo,↓Zf,↓Zb,↓Zc,↓vdn,vup,Zm,Zk,Zn,Zl,Zh,List.map_cons,List.map_nil,cond_true,cond_false,aop,Zv,Zq,Zp,ev,sput,Zt,Zy,Ya,unK,Zd,Zw,Nat.reduceBEq,Nat.reduceAdd,Int.reduceBEq,Int.reduceBNe,Int.reduceLT,Zu,Zz,tup,tyf])
       clear hN9
       try clear N9
       refine Xb rfl ?_
       refine Yf ?_
       try simp (maxSteps:=2000000) only [s93,↓Za,↓Zi,↓Zr,↓Ze,↓Zj,↓Zs,↓Zg,↓Zo,↓Zf,↓Zb,↓Zc,↓vdn,vup,Zm,Zk,Zn,Zl,Zh,List.map_cons,List.map_nil,cond_true,cond_false,aop,Zv,Zq,Zp,ev,sput,Zt,Zy,Ya,unK,Zd,Zw,Nat.reduceBEq,Nat.reduceAdd,Int.reduceBEq,Int.reduceBNe,Int.reduceLT,Zu,Zz,tup,tyf]
       exact ⟨(by simp only [hf,if_true,if_false,Bool.false_eq_true]; try rfl),hEH⟩
     | true =>
       refine Yc fun N10 hN10=>?_
       simp (maxSteps:=2000000) only [s93,↓Za,↓Zi,↓Zr,↓Ze,↓Zj,↓Zs,↓Zg,↓Zo,↓Zf,↓Zb,↓Zc,↓vdn,vup,Zm,Zk,Zn,Zl,Zh,List.map_cons,List.map_nil,cond_true,cond_false,aop,Zv,Zq,Zp,ev,sput,Zt,Zy,Ya,unK,Zd,Zw,Nat.reduceBEq,Nat.reduceAdd,Int.reduceBEq,Int.reduceBNe,Int.reduceLT,Zu,Zz,tup,tyf]
       refine hN10 [(0,ordV o),(1,v),(2,Zx (k:Nat)),(3,ptB b3),(6,.int .i64 0),(7,.bool false),(8,.bool false),(9,ptB b9),(10,Zx (x:Nat)),(11,.bool true),(51,.bool false)] _ _ ?_ (by simp (maxSteps:=2000000) only [↓Za,↓Zi,↓Zr,↓Ze,↓Zj,↓Zs,↓Zg,↓Zo,↓Zf,↓Zb,↓Zc,↓vdn,vup,Zm,Zk,Zn,Zl,Zh,List.map_cons,List.map_nil,cond_true,cond_false,aop,Zv,Zq,Zp,ev,sput,Zt,Zy,Ya,unK,Zd,Zw,Nat.reduceBEq,Nat.reduceAdd,Int.reduceBEq,Int.reduceBNe,Int.reduceLT,Zu,Zz,tup,tyf])
       clear hN10
       try clear N10
       refine Xa rfl ?_
       refine Yf ?_
       try simp (maxSteps:=2000000) only [s93,↓Za,↓Zi,↓Zr,↓Ze,↓Zj,↓Zs,↓Zg,↓Zo,↓Zf,↓Zb,↓Zc,↓vdn,vup,Zm,Zk,Zn,Zl,Zh,List.map_cons,List.map_nil,cond_true,cond_false,aop,Zv,Zq,Zp,ev,sput,Zt,Zy,Ya,unK,Zd,Zw,Nat.reduceBEq,Nat.reduceAdd,Int.reduceBEq,Int.reduceBNe,Int.reduceLT,Zu,Zz,tup,tyf]
       refine hE [(0,ordV o),(1,v),(2,Zx (k:Nat)),(3,ptB b3),(6,.int .i64 0),(7,.bool false),(8,.bool false),(9,ptB b9),(10,Zx (x:Nat)),(11,.bool true),(51,.bool false)] _ _ ?_ (by simp (maxSteps:=2000000) only [↓Za,↓Zi,↓Zr,↓Ze,↓Zj,↓Zs,↓Zg,↓Zo,↓Zf,↓Zb,↓Zc,↓vdn,vup,Zm,Zk,Zn,Zl,Zh,List.map_cons,List.map_nil,cond_true,cond_false,aop,Zv,Zq,Zp,ev,sput,Zt,Zy,Ya,unK,Zd,Zw,Nat.reduceBEq,Nat.reduceAdd,Int.reduceBEq,Int.reduceBNe,Int.reduceLT,Zu,Zz,tup,tyf])
       clear hE
       try clear E
       refine Yc fun N11 hN11=>?_
       simp only [q93_10]
       refine Xs [(5,1),(9,1)] (by kernel_rfl) (by kernel_rfl) (by kernel_rfl) (by kernel_rfl) ?_
       simp (maxSteps:=2000000) only [s93,↓Za,↓Zi,↓Zr,↓Ze,↓Zj,↓Zs,↓Zg,↓Zo,↓Zf,↓Zb,↓Zc,↓vdn,vup,Zm,Zk,Zn,Zl,Zh,List.map_cons,List.map_nil,cond_true,cond_false,aop,Zv,Zq,Zp,ev,sput,Zt,Zy,Ya,unK,Zd,Zw,Nat.reduceBEq,Nat.reduceAdd,Int.reduceBEq,Int.reduceBNe,Int.reduceLT,Zu,Zz,tup,tyf,Xy d0 Yn hl.2,fldA Vw Xk,fldA fld_108_1 Xk,ld40 d9,ld41 d9,Yr,List.nil_append,List.append_nil,List.toList_toArray,List.cons_append]
       refine ⟨_,_,add_call ho hj hi,rfl,?_⟩
       simp (maxSteps:=2000000) only [s93,↓Za,↓Zi,↓Zr,↓Ze,↓Zj,↓Zs,↓Zg,↓Zo,↓Zf,↓Zb,↓Zc,↓vdn,vup,Zm,Zk,Zn,Zl,Zh,List.map_cons,List.map_nil,cond_true,cond_false,aop,Zv,Zq,Zp,ev,sput,Zt,Zy,Ya,unK,Zd,Zw,Nat.reduceBEq,Nat.reduceAdd,Int.reduceBEq,Int.reduceBNe,Int.reduceLT,Zu,Zz,tup,tyf,fldA fld_108_3 Xk,ld43 d9,Yr,List.nil_append,List.append_nil,List.toList_toArray,List.cons_append]
       refine ⟨_,_,r2,rfl,?_⟩
       try simp (maxSteps:=2000000) only [s93,↓Za,↓Zi,↓Zr,↓Ze,↓Zj,↓Zs,↓Zg,↓Zo,↓Zf,↓Zb,↓Zc,↓vdn,vup,Zm,Zk,Zn,Zl,Zh,List.map_cons,List.map_nil,cond_true,cond_false,aop,Zv,Zq,Zp,ev,sput,Zt,Zy,Ya,unK,Zd,Zw,Nat.reduceBEq,Nat.reduceAdd,Int.reduceBEq,Int.reduceBNe,Int.reduceLT,Zu,Zz,tup,tyf]
       refine hN11 [(0,ordV o),(1,v),(2,Zx (k:Nat)),(3,ptB b3),(6,.int .i64 0),(7,.bool false),(8,.bool false),(9,ptB b9),(10,Zx (x:Nat)),(11,.bool ok2),(12,Zx (y:Nat)),(51,.bool false)] _ _ ?_ (by simp (maxSteps:=2000000) only [↓Za,↓Zi,↓Zr,↓Ze,↓Zj,↓Zs,↓Zg,↓Zo,↓Zf,↓Zb,↓Zc,↓vdn,vup,Zm,Zk,Zn,Zl,Zh,List.map_cons,List.map_nil,cond_true,cond_false,aop,Zv,Zq,Zp,ev,sput,Zt,Zy,Ya,unK,Zd,Zw,Nat.reduceBEq,Nat.reduceAdd,Int.reduceBEq,Int.reduceBNe,Int.reduceLT,Zu,Zz,tup,tyf])
       clear hN11
       try clear N11
       have hmax:addV .i64 1 (if ((y:Nat):Int) > ((x:Nat):Int) then ((y:Nat):Int) else ((x:Nat):Int))=((1+max x y:Nat):Int):=by
        have e:(if ((y:Nat):Int) > ((x:Nat):Int) then ((y:Nat):Int) else ((x:Nat):Int))=((max x y:Nat):Int):=by split <;> omega
        rw [e,addV_id (by omega) (by omega)]; omega
       refine Yf ?_
       simp (maxSteps:=2000000) only [s93,↓Za,↓Zi,↓Zr,↓Ze,↓Zj,↓Zs,↓Zg,↓Zo,↓Zf,↓Zb,↓Zc,↓vdn,vup,Zm,Zk,Zn,Zl,Zh,List.map_cons,List.map_nil,cond_true,cond_false,aop,Zv,Zq,Zp,ev,sput,Zt,Zy,Ya,unK,Zd,Zw,Nat.reduceBEq,Nat.reduceAdd,Int.reduceBEq,Int.reduceBNe,Int.reduceLT,Zu,Zz,tup,tyf,mmK,if_true,Option.map_none,Option.map_some,hmax]
       exact ⟨(by simp only [hf,if_true]; try rfl),hEH⟩
end Go.Proofs.Tryd.Am
