/-
  order: the sorter's pair and sorts.
  order: the reference's lines.
  order: the library's sort of a short slice (insertion).
  order: the library's Len: no more than a power of two above its argument tells.
  order: the sorter's sorts and need; Need.
-/
import Derived.Test.YtmjpngmoankpkaaDoorPk9
import Derived.Test.YtmjpngmoankpkaaDoorPk7
import Derived.Test.YtmjpngmoankpkaaDoorPk6
import Derived.Test.YtmjpngmoankpkaaDoorPk4
set_option linter.all false
namespace Go.Proofs.Tryd.Am.Or
open Go.Proofs.Tryd.Am
open Go.Am Ord
set_option maxRecDepth 100000
set_option maxHeartbeats 4000000
theorem lit1P {h:Yb} {p:Int×Int} {K:Value→Yb→Prop}:Xm prog h 26 1 [(0,pV p)] K=K (.slice (some ⟨h.length,0,none⟩) 1 1) (h++[.ints [p.1,p.2] 28 false]):=by
 simp only [Xm,el_26,zero_28,esz_28,reps,fillL,mkb,Yx,Ww,cellsOf,List.length_cons,List.length_nil,Nat.mul_one,Nat.zero_mul,Nat.zero_add]
 refine propext ⟨fun h=>h.2.2.2,fun h=>⟨trivial,by decide,by decide,h⟩⟩
theorem boxB {h:Yb} {b:Nat} {K:Value→Yb→Prop}:boxK prog h 100 (ptB b) K=K (Xh h) (h++[.cells [ptB b] 100 false]):=by
 simp only [boxK,esz_100,Option.isSome_some,true_and,cellsOf]
theorem boxI3 {h:Yb} {x:Int} {K:Value→Yb→Prop}:boxK prog h 3 (Zx x) K=K (Xh h) (h++[.cells [Zx x] 3 false]):=by
 simp only [boxK,Wc,Option.isSome_some,true_and,cellsOf]
structure PFr (bs:Nat) (o:List Int) (m n0:Nat) (h z:Yb):Prop where
 b3:z[n0]? = some (.cells [ptB bs] 100 false)
 b4:z[n0+1]? = some (.cells (We o) 97 false)
 b5:z[n0+2]? = some (.cells [Zx ((m+1:Nat):Int)] 3 false)
 b6:z[n0+3]? = some (.cells [.int .i64 0,.int .i64 0] 28 false)
 bu:z[n0+5]? = some (.cells [.map (some (n0+4))] 187 false)
 bm : ∃ l:List (List Int×Int),z[n0+4]? = some (.map (mA Zx l))∧KeysN 2 l
 ext:Ext (fun _=>False) h z
 n0h:n0=h.length
theorem PFr.step {bs m n0:Nat} {o:List Int} {h z z' : Yb} (p:PFr bs o m n0 h z) {S:Nat→Prop} (hS : ∀ b,S b→n0+6≤b) (he:Ext S z z'):PFr bs o m n0 h z':=by
 obtain ⟨l,hl,hk⟩:=p.bm
 have old : ∀ {b B},z[b]? = some B→b<n0+6→z'[b]? = some B:=fun {b B} hb hlt=>(he.2 b (Yu hb) fun hs=>by have:=hS b hs; omega).trans hb
 refine ⟨old p.b3 (by omega),old p.b4 (by omega),old p.b5 (by omega),old p.b6 (by omega),old p.bu (by omega),⟨l,old hl (by omega),hk⟩,⟨Nat.le_trans p.ext.1 he.1,fun i hi hf=>?_⟩,p.n0h⟩
 have:=p.n0h
 rw [he.2 i (Nat.lt_of_lt_of_le hi p.ext.1) fun hs=>by have:=hS i hs; omega]
 exact p.ext.2 i hi hf
theorem PFr.put {bs m n0:Nat} {o:List Int} {h z:Yb} (p:PFr bs o m n0 h z) {l:List (List Int×Int)} (hl:KeysN 2 l):PFr bs o m n0 h (z.set (n0+4) (.map (mA Zx l))):=by
 obtain ⟨l',hl',hk⟩:=p.bm
 have hlt:=Yu hl'
 have old : ∀ {b B},z[b]? = some B→b≠n0+4→(z.set (n0+4) (.map (mA Zx l)))[b]? = some B:=fun {b B} hb hne=>by rw [List.getElem?_set_ne (Ne.symm hne)]; exact hb
 refine ⟨old p.b3 (by omega),old p.b4 (by omega),old p.b5 (by omega),old p.b6 (by omega),old p.bu (by omega),⟨l,Xf hlt _,hl⟩,⟨by rw [List.length_set]; exact p.ext.1,fun i hi hf=>?_⟩,p.n0h⟩
 have:=p.n0h
 rw [List.getElem?_set_ne (by omega)]
 exact p.ext.2 i hi hf
theorem notCellsP {e e2:TypeId} {h:Yb} {v:Value} {xs:List (Int×Int)} {c:List Value} {ro:Bool} {j:Nat} (ho:OwnP e h v xs) (hj:h[j]? = some (.cells c e2 ro)):Yw v≠some j:=by
 rcases ho with ⟨rfl,_⟩ | ⟨b,ys,rfl,hb⟩
 · intro h; cases h
 · intro h
   obtain rfl:b=j:=by simpa [Yw] using h
   rw [hb] at hj; cases hj
theorem tri_small (n i:Nat):triN n i≤i*n:=by
 induction i with
 | zero=>exact Nat.zero_le _
 | succ i ih=>rw [triN,Nat.succ_mul]; omega
theorem bld00 {K:Value→Prop}:Wt prog 28 [] K=K (.agg #[.int .i64 0,.int .i64 0]):=by
 simp [Wt,zero_28,fillL,pl_28_0]
theorem key2_in {i j:Nat} (hi:i<6) (hj:j<6):inR64 [(i:Int),(j:Int)]:=fun x hx=>by
 simp only [List.mem_cons,List.not_mem_nil,or_false] at hx
 rcases hx with rfl | rfl <;> omega
theorem s140_callW [Tabs Tryd.prog] {args:List Value} {h:Yb} {Q:Value→Yb→Prop} (hsz:args.length≤70) (hk:AWS Tryd.prog 70 s140 (Zu Tryd.prog [.cell 6 28,.tmp 7] Q) (Zp 0 args) h):ACall Tryd.prog 140 args h Q :=
 Xy Tryd.func140 rfl (enters_of Tryd.func140 (by kernel_rfl) rfl) rfl rfl (by decide) s140_strip s140_ok hsz hk
theorem pair_call [BitTab prog 0] {bs bm m:Nat} (ih:SortsOK bs bm m) (hm:m≤60) {h:Yb} {o:List Int} (ho:ord o=true) (hcn:1<cn o) (hs:SK bs bm h) :
  ACall prog 140 [ptB bs,ordV o,Zx ((m+1:Nat):Int)] h fun r h'=>SK bs bm h'∧Ext (fun b=>b=bm) h h' ∧
   ((∃ i j:Nat,i<j∧j<o.length∧fr o i j=true∧bothB m o i j=true∧r = .tuple #[pV ((i:Int),(j:Int)),.bool true])∨(pairB m o=false∧∃ p,r = .tuple #[pV p,.bool false])):=by
 have hl:=Xq ho
 refine s140_callW (by simp) ?_
 simp only [s140]
 obtain ⟨n0,hn0⟩ : ∃ n0,n0=h.length:=⟨_,rfl⟩
 refine Yc fun N1 hN1=>?_
 simp (maxSteps:=2000000) only [s140,↓Za,↓Zj,↓Zr,↓Ze,↓Zi,↓Zs,↓Zf,↓Zo,↓Zg,↓Zb,↓Zc,↓vdn,vup,Zh,Zn,Zl,Zm,Zk,List.map_cons,List.map_nil,cond_true,cond_false,aop,Zv,Zq,Zp,ev,sput,Zt,Zy,Ya,unK,Zd,Zw,Nat.reduceBEq,Nat.reduceAdd,Int.reduceBEq,Int.reduceBNe,Int.reduceLT,Zu,Zz,tup,tyf,boxO esz_97,boxB,boxI3,Xh,Wi,zero_28,List.length_append,List.length_cons,List.length_nil,Nat.zero_add,Nat.add_assoc,Nat.reduceAdd]
 obtain ⟨H0,hH0⟩ : ∃ H0,H0=h++[Blk.cells [ptB bs] 100 false]++[Blk.cells (We o) 97 false]++[Blk.cells [Zx ((m+1:Nat):Int)] 3 false]++[Blk.cells [.int .i64 0,.int .i64 0] 28 false]:=⟨_,rfl⟩
 have hH0' : H0=h++[Blk.cells [ptB bs] 100 false,Blk.cells (We o) 97 false,Blk.cells [Zx ((m+1:Nat):Int)] 3 false,Blk.cells [.int .i64 0,.int .i64 0] 28 false]:=by rw [hH0]; simp
 rw [← hH0,← hn0]
 have hl0:H0.length=n0+4:=by rw [hH0',hn0]; simp
 have at0 : ∀ k B,([Blk.cells [ptB bs] 100 false,Blk.cells (We o) 97 false,Blk.cells [Zx ((m+1:Nat):Int)] 3 false,Blk.cells [.int .i64 0,.int .i64 0] 28 false]:Yb)[k]? = some B→H0[n0+k]? = some B:=fun k B hk=>by
  rw [hH0',hn0,List.getElem?_append_right (by omega)]
  rw [show h.length+k-h.length=k by omega]; exact hk
 have hE0:Ext (fun _=>False) h H0:=by rw [hH0']; exact Ext.app _ _ _
 have b3:=at0 0 _ rfl
 have b4:=at0 1 _ rfl
 have b5:=at0 2 _ rfl
 have b6:=at0 3 _ rfl
 clear at0 hH0 hH0'
 refine hN1 [(0,ptB bs),(1,ordV o),(2,Zx ((m+1:Nat):Int)),(3,ptB n0),(4,ptB (n0+1)),(5,ptB (n0+2)),(6,ptB (n0+3)),(7,.bool false)] _ _ ?_ (by simp (maxSteps:=2000000) only [↓Za,↓Zj,↓Zr,↓Ze,↓Zi,↓Zs,↓Zf,↓Zo,↓Zg,↓Zb,↓Zc,↓vdn,vup,Zh,Zn,Zl,Zm,Zk,List.map_cons,List.map_nil,cond_true,cond_false,aop,Zv,Zq,Zp,ev,sput,Zt,Zy,Ya,unK,Zd,Zw,Nat.reduceBEq,Nat.reduceAdd,Int.reduceBEq,Int.reduceBNe,Int.reduceLT,Zu,Zz,tup,tyf])
 clear hN1
 try clear N1
 refine Yc fun N2 hN2=>?_
 simp (maxSteps:=2000000) only [s140,↓Za,↓Zj,↓Zr,↓Ze,↓Zi,↓Zs,↓Zf,↓Zo,↓Zg,↓Zb,↓Zc,↓vdn,vup,Zh,Zn,Zl,Zm,Zk,List.map_cons,List.map_nil,cond_true,cond_false,aop,Zv,Zq,Zp,ev,sput,Zt,Zy,Ya,unK,Zd,Zw,Nat.reduceBEq,Nat.reduceAdd,Int.reduceBEq,Int.reduceBNe,Int.reduceLT,Zu,Zz,tup,tyf]
 refine hN2 [(0,ptB bs),(1,ordV o),(2,Zx ((m+1:Nat):Int)),(3,ptB n0),(4,ptB (n0+1)),(5,ptB (n0+2)),(6,ptB (n0+3)),(7,.bool false),(8,.slice none 0 0)] _ _ ?_ (by simp (maxSteps:=2000000) only [↓Za,↓Zj,↓Zr,↓Ze,↓Zi,↓Zs,↓Zf,↓Zo,↓Zg,↓Zb,↓Zc,↓vdn,vup,Zh,Zn,Zl,Zm,Zk,List.map_cons,List.map_nil,cond_true,cond_false,aop,Zv,Zq,Zp,ev,sput,Zt,Zy,Ya,unK,Zd,Zw,Nat.reduceBEq,Nat.reduceAdd,Int.reduceBEq,Int.reduceBNe,Int.reduceLT,Zu,Zz,tup,tyf])
 clear hN2
 try clear N2
 refine Yc fun N3 hN3=>?_
 simp (maxSteps:=2000000) only [s140,↓Za,↓Zj,↓Zr,↓Ze,↓Zi,↓Zs,↓Zf,↓Zo,↓Zg,↓Zb,↓Zc,↓vdn,vup,Zh,Zn,Zl,Zm,Zk,List.map_cons,List.map_nil,cond_true,cond_false,aop,Zv,Zq,Zp,ev,sput,Zt,Zy,Ya,unK,Zd,Zw,Nat.reduceBEq,Nat.reduceAdd,Int.reduceBEq,Int.reduceBNe,Int.reduceLT,Zu,Zz,tup,tyf,Yz,List.nil_append,List.append_nil,List.toList_toArray,List.cons_append,loadO b4 Xd hl.2]
 refine (Va ho).mono ?_
 rintro _ H0 ⟨rfl,rfl⟩
 try simp (maxSteps:=2000000) only [s140,↓Za,↓Zj,↓Zr,↓Ze,↓Zi,↓Zs,↓Zf,↓Zo,↓Zg,↓Zb,↓Zc,↓vdn,vup,Zh,Zn,Zl,Zm,Zk,List.map_cons,List.map_nil,cond_true,cond_false,aop,Zv,Zq,Zp,ev,sput,Zt,Zy,Ya,unK,Zd,Zw,Nat.reduceBEq,Nat.reduceAdd,Int.reduceBEq,Int.reduceBNe,Int.reduceLT,Zu,Zz,tup,tyf]
 refine hN3 [(0,ptB bs),(1,ordV o),(2,Zx ((m+1:Nat):Int)),(3,ptB n0),(4,ptB (n0+1)),(5,ptB (n0+2)),(6,ptB (n0+3)),(7,.bool false),(8,.slice none 0 0),(9,Zx (cn o:Nat))] _ _ ?_ (by simp (maxSteps:=2000000) only [↓Za,↓Zj,↓Zr,↓Ze,↓Zi,↓Zs,↓Zf,↓Zo,↓Zg,↓Zb,↓Zc,↓vdn,vup,Zh,Zn,Zl,Zm,Zk,List.map_cons,List.map_nil,cond_true,cond_false,aop,Zv,Zq,Zp,ev,sput,Zt,Zy,Ya,unK,Zd,Zw,Nat.reduceBEq,Nat.reduceAdd,Int.reduceBEq,Int.reduceBNe,Int.reduceLT,Zu,Zz,tup,tyf])
 clear hN3
 try clear N3
 refine Yc fun N4 hN4=>?_
 simp (maxSteps:=2000000) only [s140,↓Za,↓Zj,↓Zr,↓Ze,↓Zi,↓Zs,↓Zf,↓Zo,↓Zg,↓Zb,↓Zc,↓vdn,vup,Zh,Zn,Zl,Zm,Zk,List.map_cons,List.map_nil,cond_true,cond_false,aop,Zv,Zq,Zp,ev,sput,Zt,Zy,Ya,unK,Zd,Zw,Nat.reduceBEq,Nat.reduceAdd,Int.reduceBEq,Int.reduceBNe,Int.reduceLT,Zu,Zz,tup,tyf,isPick_map,makeMapK,Wi,Xh,zero_187,List.length_append,List.length_cons,List.length_nil,Nat.zero_add,hl0,Nat.add_assoc,Nat.reduceAdd]
 have c5:(H0++[Blk.map []]++[Blk.cells [.map none] 187 false])[n0+5]? = some (.cells [.map none] 187 false):=by
  have:=Yt (H0++[Blk.map []]) (Blk.cells [.map none] 187 false)
  rw [List.length_append,hl0] at this
  exact this
 rw [store1 c5 shp_187 rfl]
 obtain ⟨H1,hH1⟩ : ∃ H1,H1=(H0++[Blk.map []]++[Blk.cells [.map none] 187 false]).set (n0+5) (.cells [.map (some (n0+4))] 187 false):=⟨_,rfl⟩
 rw [← hH1]
 have pf:PFr bs o m n0 h H1:=by
  have old : ∀ {b B},H0[b]? = some B→H1[b]? = some B:=fun {b B} hb=>by
   have:=Yu hb
   rw [hH1,List.getElem?_set_ne (by omega)]; exact Yp (Yp hb _) _
  refine ⟨old b3,old b4,old b5,old b6,by rw [hH1]; exact Xf (by simp [hl0]) _,⟨[],?_,fun p hp=>by cases hp⟩,⟨?_,fun i hi hf=>?_⟩,hn0⟩
  · rw [hH1,List.getElem?_set_ne (by omega),List.append_assoc,List.getElem?_append_right (by omega),hl0,Nat.sub_self]; rfl
  · rw [hH1]; simp; omega
  · rw [hH1,List.getElem?_set_ne (by omega),List.append_assoc,List.getElem?_append_left (by omega)]; exact hE0.2 i hi hf
 clear hH1 c5 b3 b4 b5 b6 hE0 hl0
 refine hN4 [(0,ptB bs),(1,ordV o),(2,Zx ((m+1:Nat):Int)),(3,ptB n0),(4,ptB (n0+1)),(5,ptB (n0+2)),(6,ptB (n0+3)),(7,.bool false),(8,.slice none 0 0),(9,Zx (cn o:Nat)),(10,ptB (n0+5))] _ _ ?_ (by simp (maxSteps:=2000000) only [↓Za,↓Zj,↓Zr,↓Ze,↓Zi,↓Zs,↓Zf,↓Zo,↓Zg,↓Zb,↓Zc,↓vdn,vup,Zh,Zn,Zl,Zm,Zk,List.map_cons,List.map_nil,cond_true,cond_false,aop,Zv,Zq,Zp,ev,sput,Zt,Zy,Ya,unK,Zd,Zw,Nat.reduceBEq,Nat.reduceAdd,Int.reduceBEq,Int.reduceBNe,Int.reduceLT,Zu,Zz,tup,tyf])
 clear hN4
 try clear N4
 refine Yg fun M hM=>?_
 refine Yc fun N5 hN5=>?_
 simp (maxSteps:=2000000) only [s140,↓Za,↓Zj,↓Zr,↓Ze,↓Zi,↓Zs,↓Zf,↓Zo,↓Zg,↓Zb,↓Zc,↓vdn,vup,Zh,Zn,Zl,Zm,Zk,List.map_cons,List.map_nil,cond_true,cond_false,aop,Zv,Zq,Zp,ev,sput,Zt,Zy,Ya,unK,Zd,Zw,Nat.reduceBEq,Nat.reduceAdd,Int.reduceBEq,Int.reduceBNe,Int.reduceLT,Zu,Zz,tup,tyf,fldA fld_97_0 Wc,loadN pf.b4 Xc]
 refine hN5 [(0,ptB bs),(1,ordV o),(2,Zx ((m+1:Nat):Int)),(3,ptB n0),(4,ptB (n0+1)),(5,ptB (n0+2)),(6,ptB (n0+3)),(7,.bool false),(8,.slice none 0 0),(9,Zx (cn o:Nat)),(10,ptB (n0+5)),(20,Zx o.length),(21,.int .i64 0)] _ _ ?_ (by simp (maxSteps:=2000000) only [↓Za,↓Zj,↓Zr,↓Ze,↓Zi,↓Zs,↓Zf,↓Zo,↓Zg,↓Zb,↓Zc,↓vdn,vup,Zh,Zn,Zl,Zm,Zk,List.map_cons,List.map_nil,cond_true,cond_false,aop,Zv,Zq,Zp,ev,sput,Zt,Zy,Ya,unK,Zd,Zw,Nat.reduceBEq,Nat.reduceAdd,Int.reduceBEq,Int.reduceBNe,Int.reduceLT,Zu,Zz,tup,tyf])
 clear hN5
 try clear N5
 refine Yo ?_
 refine Yn fun Q hQ=>?_
 refine Xx (γ:=Nat×Value×Yb) (fun s=>s.1≤o.length∧PFr bs o m n0 h s.2.2∧OwnP 28 s.2.2 s.2.1 (iPP (allF o s.1))∧∀ b,Yw s.2.1=some b→n0+6≤b)
  (fun s=>([(0,ptB bs),(1,ordV o),(2,Zx ((m+1:Nat):Int)),(3,ptB n0),(4,ptB (n0+1)),(5,ptB (n0+2)),(6,ptB (n0+3)),(7,.bool false),(8,s.2.1),(9,Zx (cn o:Nat)),(10,ptB (n0+5)),(20,Zx o.length),(21,Zx (s.1:Nat))],s.2.2)) (fun s=>o.length-s.1) (0,.slice none 0 0,H1) ⟨Nat.zero_le _,pf,.inl ⟨rfl,rfl⟩,fun b hb=>by cases hb⟩ (by simp (maxSteps:=2000000) only [↓Za,↓Zj,↓Zr,↓Ze,↓Zi,↓Zs,↓Zf,↓Zo,↓Zg,↓Zb,↓Zc,↓vdn,vup,Zh,Zn,Zl,Zm,Zk,List.map_cons,List.map_nil,cond_true,cond_false,aop,Zv,Zq,Zp,ev,sput,Zt,Zy,Ya,unK,Zd,Zw,Nat.reduceBEq,Nat.reduceAdd,Int.reduceBEq,Int.reduceBNe,Int.reduceLT,Zu,Zz,tup,tyf,Int.natCast_zero]) rfl ?_
 clear pf
 rintro ⟨i,v,hp⟩ ⟨hi,pf,how,hvb⟩
 simp only at hi pf how hvb
 refine Yn fun Q2 hQ2=>?_
 simp only [l140_1]
 by_cases hin:(i:Int)<o.length
 · have hi' : i<o.length:=by omega
   refine Yc fun N6 hN6=>?_
   simp (maxSteps:=2000000) only [s140,↓Za,↓Zj,↓Zr,↓Ze,↓Zi,↓Zs,↓Zf,↓Zo,↓Zg,↓Zb,↓Zc,↓vdn,vup,Zh,Zn,Zl,Zm,Zk,List.map_cons,List.map_nil,cond_true,cond_false,aop,Zv,Zq,Zp,ev,sput,Zt,Zy,Ya,unK,Zd,Zw,Nat.reduceBEq,Nat.reduceAdd,Int.reduceBEq,Int.reduceBNe,Int.reduceLT,Zu,Zz,tup,tyf,hin]
   refine hN6 [(0,ptB bs),(1,ordV o),(2,Zx ((m+1:Nat):Int)),(3,ptB n0),(4,ptB (n0+1)),(5,ptB (n0+2)),(6,ptB (n0+3)),(7,.bool false),(8,v),(9,Zx (cn o:Nat)),(10,ptB (n0+5)),(20,Zx o.length),(21,Zx (i:Nat)),(22,.bool true)] _ _ ?_ (by simp (maxSteps:=2000000) only [↓Za,↓Zj,↓Zr,↓Ze,↓Zi,↓Zs,↓Zf,↓Zo,↓Zg,↓Zb,↓Zc,↓vdn,vup,Zh,Zn,Zl,Zm,Zk,List.map_cons,List.map_nil,cond_true,cond_false,aop,Zv,Zq,Zp,ev,sput,Zt,Zy,Ya,unK,Zd,Zw,Nat.reduceBEq,Nat.reduceAdd,Int.reduceBEq,Int.reduceBNe,Int.reduceLT,Zu,Zz,tup,tyf])
   clear hN6
   try clear N6
   refine Yc fun N7 hN7=>?_
   simp (maxSteps:=2000000) only [s140,↓Za,↓Zj,↓Zr,↓Ze,↓Zi,↓Zs,↓Zf,↓Zo,↓Zg,↓Zb,↓Zc,↓vdn,vup,Zh,Zn,Zl,Zm,Zk,List.map_cons,List.map_nil,cond_true,cond_false,aop,Zv,Zq,Zp,ev,sput,Zt,Zy,Ya,unK,Zd,Zw,Nat.reduceBEq,Nat.reduceAdd,Int.reduceBEq,Int.reduceBNe,Int.reduceLT,Zu,Zz,tup,tyf]
   refine hN7 [(0,ptB bs),(1,ordV o),(2,Zx ((m+1:Nat):Int)),(3,ptB n0),(4,ptB (n0+1)),(5,ptB (n0+2)),(6,ptB (n0+3)),(7,.bool false),(8,v),(9,Zx (cn o:Nat)),(10,ptB (n0+5)),(20,Zx o.length),(21,Zx (i:Nat))] _ _ ?_ (by simp (maxSteps:=2000000) only [↓Za,↓Zj,↓Zr,↓Ze,↓Zi,↓Zs,↓Zf,↓Zo,↓Zg,↓Zb,↓Zc,↓vdn,vup,Zh,Zn,Zl,Zm,Zk,List.map_cons,List.map_nil,cond_true,cond_false,aop,Zv,Zq,Zp,ev,sput,Zt,Zy,Ya,unK,Zd,Zw,Nat.reduceBEq,Nat.reduceAdd,Int.reduceBEq,Int.reduceBNe,Int.reduceLT,Zu,Zz,tup,tyf])
   clear hN7
   try clear N7
   refine Yg fun B hB=>?_
   refine Yo ?_
   refine Yc fun N8 hN8=>?_
   simp (maxSteps:=2000000) only [s140,↓Za,↓Zj,↓Zr,↓Ze,↓Zi,↓Zs,↓Zf,↓Zo,↓Zg,↓Zb,↓Zc,↓vdn,vup,Zh,Zn,Zl,Zm,Zk,List.map_cons,List.map_nil,cond_true,cond_false,aop,Zv,Zq,Zp,ev,sput,Zt,Zy,Ya,unK,Zd,Zw,Nat.reduceBEq,Nat.reduceAdd,Int.reduceBEq,Int.reduceBNe,Int.reduceLT,Zu,Zz,tup,tyf]
   refine hN8 [(0,ptB bs),(1,ordV o),(2,Zx ((m+1:Nat):Int)),(3,ptB n0),(4,ptB (n0+1)),(5,ptB (n0+2)),(6,ptB (n0+3)),(7,.bool false),(8,v),(9,Zx (cn o:Nat)),(10,ptB (n0+5)),(11,Zx (i:Nat)),(20,Zx o.length),(21,Zx (i:Nat))] _ _ ?_ (by simp (maxSteps:=2000000) only [↓Za,↓Zj,↓Zr,↓Ze,↓Zi,↓Zs,↓Zf,↓Zo,↓Zg,↓Zb,↓Zc,↓vdn,vup,Zh,Zn,Zl,Zm,Zk,List.map_cons,List.map_nil,cond_true,cond_false,aop,Zv,Zq,Zp,ev,sput,Zt,Zy,Ya,unK,Zd,Zw,Nat.reduceBEq,Nat.reduceAdd,Int.reduceBEq,Int.reduceBNe,Int.reduceLT,Zu,Zz,tup,tyf])
   clear hN8
   try clear N8
   refine Yc fun N9 hN9=>?_
   simp (maxSteps:=2000000) only [s140,↓Za,↓Zj,↓Zr,↓Ze,↓Zi,↓Zs,↓Zf,↓Zo,↓Zg,↓Zb,↓Zc,↓vdn,vup,Zh,Zn,Zl,Zm,Zk,List.map_cons,List.map_nil,cond_true,cond_false,aop,Zv,Zq,Zp,ev,sput,Zt,Zy,Ya,unK,Zd,Zw,Nat.reduceBEq,Nat.reduceAdd,Int.reduceBEq,Int.reduceBNe,Int.reduceLT,Zu,Zz,tup,tyf,add1 (show i<9223372036854775807 by omega)]
   refine hN9 [(0,ptB bs),(1,ordV o),(2,Zx ((m+1:Nat):Int)),(3,ptB n0),(4,ptB (n0+1)),(5,ptB (n0+2)),(6,ptB (n0+3)),(7,.bool false),(8,v),(9,Zx (cn o:Nat)),(10,ptB (n0+5)),(11,Zx (i:Nat)),(12,Zx (i+1:Nat)),(20,Zx o.length),(21,Zx (i:Nat))] _ _ ?_ (by simp (maxSteps:=2000000) only [↓Za,↓Zj,↓Zr,↓Ze,↓Zi,↓Zs,↓Zf,↓Zo,↓Zg,↓Zb,↓Zc,↓vdn,vup,Zh,Zn,Zl,Zm,Zk,List.map_cons,List.map_nil,cond_true,cond_false,aop,Zv,Zq,Zp,ev,sput,Zt,Zy,Ya,unK,Zd,Zw,Nat.reduceBEq,Nat.reduceAdd,Int.reduceBEq,Int.reduceBNe,Int.reduceLT,Zu,Zz,tup,tyf])
   clear hN9
   try clear N9
   refine Yo ?_
   refine Yn fun Qa hQa=>?_
   refine Xx (γ:=Nat×Value×Yb) (fun s=>i<s.1∧s.1≤o.length∧PFr bs o m n0 h s.2.2∧OwnP 28 s.2.2 s.2.1 (iPP (allF o i++rowF o i s.1))∧∀ b,Yw s.2.1=some b→n0+6≤b)
    (fun s=>([(0,ptB bs),(1,ordV o),(2,Zx ((m+1:Nat):Int)),(3,ptB n0),(4,ptB (n0+1)),(5,ptB (n0+2)),(6,ptB (n0+3)),(7,.bool false),(8,s.2.1),(9,Zx (cn o:Nat)),(10,ptB (n0+5)),(11,Zx (i:Nat)),(12,Zx (s.1:Nat)),(20,Zx o.length),(21,Zx (i:Nat))],s.2.2)) (fun s=>o.length-s.1) (i+1,v,hp) ⟨by simp only; omega,hi',pf,by simp only; rw [rowF_le,List.append_nil]; exact how,hvb⟩ (by simp (maxSteps:=2000000) only [↓Za,↓Zj,↓Zr,↓Ze,↓Zi,↓Zs,↓Zf,↓Zo,↓Zg,↓Zb,↓Zc,↓vdn,vup,Zh,Zn,Zl,Zm,Zk,List.map_cons,List.map_nil,cond_true,cond_false,aop,Zv,Zq,Zp,ev,sput,Zt,Zy,Ya,unK,Zd,Zw,Nat.reduceBEq,Nat.reduceAdd,Int.reduceBEq,Int.reduceBNe,Int.reduceLT,Zu,Zz,tup,tyf]) rfl ?_
   clear pf how hvb
   rintro ⟨j,w,z⟩ ⟨hij,hj,pf,how,hvb⟩
   simp only at hij hj pf how hvb
   refine Yn fun Qb hQb=>?_
   simp only [l140_0]
   by_cases hjn:(j:Int)<o.length
   · have hj' : j<o.length:=by omega
     refine Yg fun C hC=>?_
     refine Yc fun N10 hN10=>?_
     simp (maxSteps:=2000000) only [s140,↓Za,↓Zj,↓Zr,↓Ze,↓Zi,↓Zs,↓Zf,↓Zo,↓Zg,↓Zb,↓Zc,↓vdn,vup,Zh,Zn,Zl,Zm,Zk,List.map_cons,List.map_nil,cond_true,cond_false,aop,Zv,Zq,Zp,ev,sput,Zt,Zy,Ya,unK,Zd,Zw,Nat.reduceBEq,Nat.reduceAdd,Int.reduceBEq,Int.reduceBNe,Int.reduceLT,Zu,Zz,tup,tyf,fldA fld_97_0 Wc,loadN pf.b4 Xc,hjn]
     refine hN10 [(0,ptB bs),(1,ordV o),(2,Zx ((m+1:Nat):Int)),(3,ptB n0),(4,ptB (n0+1)),(5,ptB (n0+2)),(6,ptB (n0+3)),(7,.bool false),(8,w),(9,Zx (cn o:Nat)),(10,ptB (n0+5)),(11,Zx (i:Nat)),(12,Zx (j:Nat)),(20,Zx o.length),(21,Zx (i:Nat)),(29,.bool true)] _ _ ?_ (by simp (maxSteps:=2000000) only [↓Za,↓Zj,↓Zr,↓Ze,↓Zi,↓Zs,↓Zf,↓Zo,↓Zg,↓Zb,↓Zc,↓vdn,vup,Zh,Zn,Zl,Zm,Zk,List.map_cons,List.map_nil,cond_true,cond_false,aop,Zv,Zq,Zp,ev,sput,Zt,Zy,Ya,unK,Zd,Zw,Nat.reduceBEq,Nat.reduceAdd,Int.reduceBEq,Int.reduceBNe,Int.reduceLT,Zu,Zz,tup,tyf])
     clear hN10
     try clear N10
     refine Xl rfl ?_
     refine Yf ?_
     try simp (maxSteps:=2000000) only [s140,↓Za,↓Zj,↓Zr,↓Ze,↓Zi,↓Zs,↓Zf,↓Zo,↓Zg,↓Zb,↓Zc,↓vdn,vup,Zh,Zn,Zl,Zm,Zk,List.map_cons,List.map_nil,cond_true,cond_false,aop,Zv,Zq,Zp,ev,sput,Zt,Zy,Ya,unK,Zd,Zw,Nat.reduceBEq,Nat.reduceAdd,Int.reduceBEq,Int.reduceBNe,Int.reduceLT,Zu,Zz,tup,tyf]
     refine hC [(0,ptB bs),(1,ordV o),(2,Zx ((m+1:Nat):Int)),(3,ptB n0),(4,ptB (n0+1)),(5,ptB (n0+2)),(6,ptB (n0+3)),(7,.bool false),(8,w),(9,Zx (cn o:Nat)),(10,ptB (n0+5)),(11,Zx (i:Nat)),(12,Zx (j:Nat)),(20,Zx o.length),(21,Zx (i:Nat))] _ _ ?_ (by simp (maxSteps:=2000000) only [↓Za,↓Zj,↓Zr,↓Ze,↓Zi,↓Zs,↓Zf,↓Zo,↓Zg,↓Zb,↓Zc,↓vdn,vup,Zh,Zn,Zl,Zm,Zk,List.map_cons,List.map_nil,cond_true,cond_false,aop,Zv,Zq,Zp,ev,sput,Zt,Zy,Ya,unK,Zd,Zw,Nat.reduceBEq,Nat.reduceAdd,Int.reduceBEq,Int.reduceBNe,Int.reduceLT,Zu,Zz,tup,tyf])
     clear hC
     try clear C
     refine Yg fun Y hY=>?_
     refine Yo ?_
     refine Yc fun N11 hN11=>?_
     simp (maxSteps:=2000000) only [s140,↓Za,↓Zj,↓Zr,↓Ze,↓Zi,↓Zs,↓Zf,↓Zo,↓Zg,↓Zb,↓Zc,↓vdn,vup,Zh,Zn,Zl,Zm,Zk,List.map_cons,List.map_nil,cond_true,cond_false,aop,Zv,Zq,Zp,ev,sput,Zt,Zy,Ya,unK,Zd,Zw,Nat.reduceBEq,Nat.reduceAdd,Int.reduceBEq,Int.reduceBNe,Int.reduceLT,Zu,Zz,tup,tyf,Yz,List.nil_append,List.append_nil,List.toList_toArray,List.cons_append,loadO pf.b4 Xd hl.2]
     refine (free_call ho hi' hj').mono ?_
     rintro _ z ⟨rfl,rfl⟩
     have hrow:=rowF_succ o hij
     cases hf:fr o i j with
     | false =>
       rw [hf,if_neg (by decide),List.append_nil] at hrow
       refine hN11 [(0,ptB bs),(1,ordV o),(2,Zx ((m+1:Nat):Int)),(3,ptB n0),(4,ptB (n0+1)),(5,ptB (n0+2)),(6,ptB (n0+3)),(7,.bool false),(8,w),(9,Zx (cn o:Nat)),(10,ptB (n0+5)),(11,Zx (i:Nat)),(12,Zx (j:Nat)),(20,Zx o.length),(21,Zx (i:Nat)),(35,.bool false)] _ _ ?_ (by simp (maxSteps:=2000000) only [↓Za,↓Zj,↓Zr,↓Ze,↓Zi,↓Zs,↓Zf,↓Zo,↓Zg,↓Zb,↓Zc,↓vdn,vup,Zh,Zn,Zl,Zm,Zk,List.map_cons,List.map_nil,cond_true,cond_false,aop,Zv,Zq,Zp,ev,sput,Zt,Zy,Ya,unK,Zd,Zw,Nat.reduceBEq,Nat.reduceAdd,Int.reduceBEq,Int.reduceBNe,Int.reduceLT,Zu,Zz,tup,tyf])
       clear hN11
       try clear N11
       refine Xe rfl ?_
       refine Yf ?_
       try simp (maxSteps:=2000000) only [s140,↓Za,↓Zj,↓Zr,↓Ze,↓Zi,↓Zs,↓Zf,↓Zo,↓Zg,↓Zb,↓Zc,↓vdn,vup,Zh,Zn,Zl,Zm,Zk,List.map_cons,List.map_nil,cond_true,cond_false,aop,Zv,Zq,Zp,ev,sput,Zt,Zy,Ya,unK,Zd,Zw,Nat.reduceBEq,Nat.reduceAdd,Int.reduceBEq,Int.reduceBNe,Int.reduceLT,Zu,Zz,tup,tyf]
       refine hY [(0,ptB bs),(1,ordV o),(2,Zx ((m+1:Nat):Int)),(3,ptB n0),(4,ptB (n0+1)),(5,ptB (n0+2)),(6,ptB (n0+3)),(7,.bool false),(8,w),(9,Zx (cn o:Nat)),(10,ptB (n0+5)),(11,Zx (i:Nat)),(12,Zx (j:Nat)),(20,Zx o.length),(21,Zx (i:Nat))] _ _ ?_ (by simp (maxSteps:=2000000) only [↓Za,↓Zj,↓Zr,↓Ze,↓Zi,↓Zs,↓Zf,↓Zo,↓Zg,↓Zb,↓Zc,↓vdn,vup,Zh,Zn,Zl,Zm,Zk,List.map_cons,List.map_nil,cond_true,cond_false,aop,Zv,Zq,Zp,ev,sput,Zt,Zy,Ya,unK,Zd,Zw,Nat.reduceBEq,Nat.reduceAdd,Int.reduceBEq,Int.reduceBNe,Int.reduceLT,Zu,Zz,tup,tyf])
       clear hY
       try clear Y
       refine Yf ?_
       simp (maxSteps:=2000000) only [s140,↓Za,↓Zj,↓Zr,↓Ze,↓Zi,↓Zs,↓Zf,↓Zo,↓Zg,↓Zb,↓Zc,↓vdn,vup,Zh,Zn,Zl,Zm,Zk,List.map_cons,List.map_nil,cond_true,cond_false,aop,Zv,Zq,Zp,ev,sput,Zt,Zy,Ya,unK,Zd,Zw,Nat.reduceBEq,Nat.reduceAdd,Int.reduceBEq,Int.reduceBNe,Int.reduceLT,Zu,Zz,tup,tyf,add1 (show j<9223372036854775807 by omega)]
       exact hQb _ _ _ ⟨(j+1,w,z),⟨by simp only; omega,hj',pf,by simp only; rw [hrow]; exact how,hvb⟩,by simp only; omega,by simp (maxSteps:=2000000) only [↓Za,↓Zj,↓Zr,↓Ze,↓Zi,↓Zs,↓Zf,↓Zo,↓Zg,↓Zb,↓Zc,↓vdn,vup,Zh,Zn,Zl,Zm,Zk,List.map_cons,List.map_nil,cond_true,cond_false,aop,Zv,Zq,Zp,ev,sput,Zt,Zy,Ya,unK,Zd,Zw,Nat.reduceBEq,Nat.reduceAdd,Int.reduceBEq,Int.reduceBNe,Int.reduceLT,Zu,Zz,tup,tyf],rfl⟩
     | true =>
       rw [hf,if_pos rfl] at hrow
       refine hN11 [(0,ptB bs),(1,ordV o),(2,Zx ((m+1:Nat):Int)),(3,ptB n0),(4,ptB (n0+1)),(5,ptB (n0+2)),(6,ptB (n0+3)),(7,.bool false),(8,w),(9,Zx (cn o:Nat)),(10,ptB (n0+5)),(11,Zx (i:Nat)),(12,Zx (j:Nat)),(20,Zx o.length),(21,Zx (i:Nat)),(35,.bool true)] _ _ ?_ (by simp (maxSteps:=2000000) only [↓Za,↓Zj,↓Zr,↓Ze,↓Zi,↓Zs,↓Zf,↓Zo,↓Zg,↓Zb,↓Zc,↓vdn,vup,Zh,Zn,Zl,Zm,Zk,List.map_cons,List.map_nil,cond_true,cond_false,aop,Zv,Zq,Zp,ev,sput,Zt,Zy,Ya,unK,Zd,Zw,Nat.reduceBEq,Nat.reduceAdd,Int.reduceBEq,Int.reduceBNe,Int.reduceLT,Zu,Zz,tup,tyf])
       clear hN11
       try clear N11
       refine Xl rfl ?_
       refine Yc fun N12 hN12=>?_
       simp (maxSteps:=2000000) only [s140,↓Za,↓Zj,↓Zr,↓Ze,↓Zi,↓Zs,↓Zf,↓Zo,↓Zg,↓Zb,↓Zc,↓vdn,vup,Zh,Zn,Zl,Zm,Zk,List.map_cons,List.map_nil,cond_true,cond_false,aop,Zv,Zq,Zp,ev,sput,Zt,Zy,Ya,unK,Zd,Zw,Nat.reduceBEq,Nat.reduceAdd,Int.reduceBEq,Int.reduceBNe,Int.reduceLT,Zu,Zz,tup,tyf,bld2,Wi,Xh,zero_28]
       rw [pst (Yt _ _) rfl]
       obtain ⟨G,hG⟩ : ∃ G,G=(z++[Blk.cells [.int .i64 0,.int .i64 0] 28 false]).set z.length (.cells [Zx ((i:Nat):Int),Zx ((j:Nat):Int)] 28 false):=⟨_,rfl⟩
       rw [← hG]
       have hEG:Ext (fun _=>False) z G:=⟨by rw [hG]; simp,fun q hq _=>by rw [hG,List.getElem?_set_ne (by omega),List.getElem?_append_left hq]⟩
       have gz:G[z.length]? = some (.cells [Zx ((i:Nat):Int),Zx ((j:Nat):Int)] 28 false):=by rw [hG]; exact Xf (by simp) _
       have hzl:n0+6≤z.length:=by have:=Yu pf.bu; omega
       have hGl:n0+6≤G.length:=Nat.le_trans hzl hEG.1
       have pG:=pf.step (S:=fun _=>False) (fun _ h=>h.elim) hEG
       have hoG:=how.ext hEG
       clear hG
       generalize z.length=bz at gz hzl ⊢
       refine hN12 [(0,ptB bs),(1,ordV o),(2,Zx ((m+1:Nat):Int)),(3,ptB n0),(4,ptB (n0+1)),(5,ptB (n0+2)),(6,ptB (n0+3)),(7,.bool false),(8,w),(9,Zx (cn o:Nat)),(10,ptB (n0+5)),(11,Zx (i:Nat)),(12,Zx (j:Nat)),(13,ptB bz),(20,Zx o.length),(21,Zx (i:Nat)),(35,.bool true)] _ _ ?_ (by simp (maxSteps:=2000000) only [↓Za,↓Zj,↓Zr,↓Ze,↓Zi,↓Zs,↓Zf,↓Zo,↓Zg,↓Zb,↓Zc,↓vdn,vup,Zh,Zn,Zl,Zm,Zk,List.map_cons,List.map_nil,cond_true,cond_false,aop,Zv,Zq,Zp,ev,sput,Zt,Zy,Ya,unK,Zd,Zw,Nat.reduceBEq,Nat.reduceAdd,Int.reduceBEq,Int.reduceBNe,Int.reduceLT,Zu,Zz,tup,tyf])
       clear hN12
       try clear N12
       refine Yc fun N13 hN13=>?_
       simp (maxSteps:=2000000) only [s140,↓Za,↓Zj,↓Zr,↓Ze,↓Zi,↓Zs,↓Zf,↓Zo,↓Zg,↓Zb,↓Zc,↓vdn,vup,Zh,Zn,Zl,Zm,Zk,List.map_cons,List.map_nil,cond_true,cond_false,aop,Zv,Zq,Zp,ev,sput,Zt,Zy,Ya,unK,Zd,Zw,Nat.reduceBEq,Nat.reduceAdd,Int.reduceBEq,Int.reduceBNe,Int.reduceLT,Zu,Zz,tup,tyf,Yz,List.nil_append,List.append_nil,List.toList_toArray,List.cons_append,loadO pG.b4 Xd hl.2]
       refine (before_call ho hi' hj').mono ?_
       rintro _ G ⟨rfl,rfl⟩
       try simp (maxSteps:=2000000) only [s140,↓Za,↓Zj,↓Zr,↓Ze,↓Zi,↓Zs,↓Zf,↓Zo,↓Zg,↓Zb,↓Zc,↓vdn,vup,Zh,Zn,Zl,Zm,Zk,List.map_cons,List.map_nil,cond_true,cond_false,aop,Zv,Zq,Zp,ev,sput,Zt,Zy,Ya,unK,Zd,Zw,Nat.reduceBEq,Nat.reduceAdd,Int.reduceBEq,Int.reduceBNe,Int.reduceLT,Zu,Zz,tup,tyf]
       obtain ⟨d,hd⟩ : ∃ d:Int,d=subV .i64 (mulV .i64 2 ((befN o i j:Nat):Int)) ((cn o:Nat):Int):=⟨_,rfl⟩
       rw [← hd]
       refine hN13 [(0,ptB bs),(1,ordV o),(2,Zx ((m+1:Nat):Int)),(3,ptB n0),(4,ptB (n0+1)),(5,ptB (n0+2)),(6,ptB (n0+3)),(7,.bool false),(8,w),(9,Zx (cn o:Nat)),(10,ptB (n0+5)),(11,Zx (i:Nat)),(12,Zx (j:Nat)),(13,ptB bz),(14,Zx d),(20,Zx o.length),(21,Zx (i:Nat)),(35,.bool true)] _ _ ?_ (by simp (maxSteps:=2000000) only [↓Za,↓Zj,↓Zr,↓Ze,↓Zi,↓Zs,↓Zf,↓Zo,↓Zg,↓Zb,↓Zc,↓vdn,vup,Zh,Zn,Zl,Zm,Zk,List.map_cons,List.map_nil,cond_true,cond_false,aop,Zv,Zq,Zp,ev,sput,Zt,Zy,Ya,unK,Zd,Zw,Nat.reduceBEq,Nat.reduceAdd,Int.reduceBEq,Int.reduceBNe,Int.reduceLT,Zu,Zz,tup,tyf])
       clear hN13
       try clear N13
       refine Yf ?_
       simp only [q140_13]
       refine aw_drawR (fun y=>y[n0+5]? = some (.cells [.map (some (n0+4))] 187 false)∧y[bz]? = some (.cells [Zx ((i:Nat):Int),Zx ((j:Nat):Int)] 28 false)) [(0,5),(1,5)] (by kernel_rfl) (by kernel_rfl) (by kernel_rfl) (by kernel_rfl) ⟨pG.bu,gz⟩ ?_
       try simp (maxSteps:=2000000) only [s140,↓Za,↓Zj,↓Zr,↓Ze,↓Zi,↓Zs,↓Zf,↓Zo,↓Zg,↓Zb,↓Zc,↓vdn,vup,Zh,Zn,Zl,Zm,Zk,List.map_cons,List.map_nil,cond_true,cond_false,aop,Zv,Zq,Zp,ev,sput,Zt,Zy,Ya,unK,Zd,Zw,Nat.reduceBEq,Nat.reduceAdd,Int.reduceBEq,Int.reduceBNe,Int.reduceLT,Zu,Zz,tup,tyf,↓dopsR_lookup,↓Vd,↓dopsR_max]
       refine ⟨.map (some (n0+4)),fun y hy=>by simp only [Xb hy.1 shp_187],?_⟩
       try simp (maxSteps:=2000000) only [s140,↓Za,↓Zj,↓Zr,↓Ze,↓Zi,↓Zs,↓Zf,↓Zo,↓Zg,↓Zb,↓Zc,↓vdn,vup,Zh,Zn,Zl,Zm,Zk,List.map_cons,List.map_nil,cond_true,cond_false,aop,Zv,Zq,Zp,ev,sput,Zt,Zy,Ya,unK,Zd,Zw,Nat.reduceBEq,Nat.reduceAdd,Int.reduceBEq,Int.reduceBNe,Int.reduceLT,Zu,Zz,tup,tyf,↓dopsR_lookup,↓Vd,↓dopsR_max]
       refine ⟨pV ((i:Int),(j:Int)),fun y hy=>by simp only [loadPr hy.2],?_⟩
       simp (maxSteps:=2000000) only [s140,↓Za,↓Zj,↓Zr,↓Ze,↓Zi,↓Zs,↓Zf,↓Zo,↓Zg,↓Zb,↓Zc,↓vdn,vup,Zh,Zn,Zl,Zm,Zk,List.map_cons,List.map_nil,cond_true,cond_false,aop,Zv,Zq,Zp,ev,sput,Zt,Zy,Ya,unK,Zd,Zw,Nat.reduceBEq,Nat.reduceAdd,Int.reduceBEq,Int.reduceBNe,Int.reduceLT,Zu,Zz,tup,tyf,↓dopsR_lookup,↓Vd,↓dopsR_max,loadPr gz,lit1P]
       refine ⟨⟨Yp pG.bu _,Yp gz _⟩,?_⟩
       have hps:=allF_len o i
       have hrl:=rowF_len o i j
       have ht36:triN o.length i≤36:=Nat.le_trans (tri_small _ _) (Nat.mul_le_mul (show i≤6 by omega) hl.2)
       have hnn:(iPP (allF o i++rowF o i j)).length<1099511627776:=by rw [iPP_len,List.length_append]; omega
       refine OwnP.append (x:=((i:Nat):Int)) (y:=((j:Nat):Int)) (hoG.ext (Ext.app _ _ _)) app_26_26 hnn (Yt _ _) ?_
       intro w' z' ho' hE' hb'
       have hbk : ∀ b,Yw w=some b→n0+6≤b:=hvb
       have hbw : ∀ b,Yw w' = some b→n0+6≤b:=fun b hb=>by
        rcases hb' with h1 | ⟨b',h1,h2⟩
        · exact hvb b (h1▸hb)
        · rw [h1] at hb; cases hb
          rw [List.length_append] at h2; omega
       have pz:=(pG.step (S:=fun _=>False) (fun _ h=>h.elim) (Ext.app _ G [Blk.ints [((i:Nat):Int),((j:Nat):Int)] 28 false])).step hbk hE'
       have gz' : z'[bz]? = some (.cells [Zx ((i:Nat):Int),Zx ((j:Nat):Int)] 28 false):=(hE'.2 bz (Yu (Yp gz _)) fun hb=>notCellsP hoG gz hb).trans (Yp gz _)
       refine ⟨⟨pz.bu,gz'⟩,?_⟩
       obtain ⟨l,hml,hkl⟩:=pz.bm
       simp (maxSteps:=2000000) only [s140,↓Za,↓Zj,↓Zr,↓Ze,↓Zi,↓Zs,↓Zf,↓Zo,↓Zg,↓Zb,↓Zc,↓vdn,vup,Zh,Zn,Zl,Zm,Zk,List.map_cons,List.map_nil,cond_true,cond_false,aop,Zv,Zq,Zp,ev,sput,Zt,Zy,Ya,unK,Zd,Zw,Nat.reduceBEq,Nat.reduceAdd,Int.reduceBEq,Int.reduceBNe,Int.reduceLT,Zu,Zz,tup,tyf,↓dopsR_lookup,↓Vd,↓dopsR_max,mmK,if_true,gt_iff_lt,Option.map_none,Option.map_some]
       refine updateA (f:=Zx) hml und_187 keyT_33 hkl (pV_ints ((i:Int),(j:Int))) rfl (key2_in (by omega) (by omega)) ?_
       refine ⟨⟨by rw [List.getElem?_set_ne (by omega)]; exact pz.bu,by rw [List.getElem?_set_ne (by omega)]; exact gz'⟩,?_⟩
       try simp (maxSteps:=2000000) only [s140,↓Za,↓Zj,↓Zr,↓Ze,↓Zi,↓Zs,↓Zf,↓Zo,↓Zg,↓Zb,↓Zc,↓vdn,vup,Zh,Zn,Zl,Zm,Zk,List.map_cons,List.map_nil,cond_true,cond_false,aop,Zv,Zq,Zp,ev,sput,Zt,Zy,Ya,unK,Zd,Zw,Nat.reduceBEq,Nat.reduceAdd,Int.reduceBEq,Int.reduceBNe,Int.reduceLT,Zu,Zz,tup,tyf]
       refine hY [(0,ptB bs),(1,ordV o),(2,Zx ((m+1:Nat):Int)),(3,ptB n0),(4,ptB (n0+1)),(5,ptB (n0+2)),(6,ptB (n0+3)),(7,.bool false),(8,w'),(9,Zx (cn o:Nat)),(10,ptB (n0+5)),(11,Zx (i:Nat)),(12,Zx (j:Nat)),(20,Zx o.length),(21,Zx (i:Nat))] _ _ ?_ (by simp (maxSteps:=2000000) only [↓Za,↓Zj,↓Zr,↓Ze,↓Zi,↓Zs,↓Zf,↓Zo,↓Zg,↓Zb,↓Zc,↓vdn,vup,Zh,Zn,Zl,Zm,Zk,List.map_cons,List.map_nil,cond_true,cond_false,aop,Zv,Zq,Zp,ev,sput,Zt,Zy,Ya,unK,Zd,Zw,Nat.reduceBEq,Nat.reduceAdd,Int.reduceBEq,Int.reduceBNe,Int.reduceLT,Zu,Zz,tup,tyf])
       clear hY
       try clear Y
       refine Yf ?_
       simp (maxSteps:=2000000) only [s140,↓Za,↓Zj,↓Zr,↓Ze,↓Zi,↓Zs,↓Zf,↓Zo,↓Zg,↓Zb,↓Zc,↓vdn,vup,Zh,Zn,Zl,Zm,Zk,List.map_cons,List.map_nil,cond_true,cond_false,aop,Zv,Zq,Zp,ev,sput,Zt,Zy,Ya,unK,Zd,Zw,Nat.reduceBEq,Nat.reduceAdd,Int.reduceBEq,Int.reduceBNe,Int.reduceLT,Zu,Zz,tup,tyf,add1 (show j<9223372036854775807 by omega)]
       refine hQb _ _ _ ⟨(j+1,w',_),⟨by simp only; omega,hj',pz.put (hkl.put rfl (key2_in (by omega) (by omega))),?_,hbw⟩,by simp only; omega,by simp (maxSteps:=2000000) only [↓Za,↓Zj,↓Zr,↓Ze,↓Zi,↓Zs,↓Zf,↓Zo,↓Zg,↓Zb,↓Zc,↓vdn,vup,Zh,Zn,Zl,Zm,Zk,List.map_cons,List.map_nil,cond_true,cond_false,aop,Zv,Zq,Zp,ev,sput,Zt,Zy,Ya,unK,Zd,Zw,Nat.reduceBEq,Nat.reduceAdd,Int.reduceBEq,Int.reduceBNe,Int.reduceLT,Zu,Zz,tup,tyf],rfl⟩
       simp only
       rw [hrow,← List.append_assoc,iPP_app]
       exact ho'.same fun b hb=>List.getElem?_set_ne (by have:=hbw b hb; omega)
   · obtain rfl:j=o.length:=by omega
     refine Yc fun N14 hN14=>?_
     simp (maxSteps:=2000000) only [s140,↓Za,↓Zj,↓Zr,↓Ze,↓Zi,↓Zs,↓Zf,↓Zo,↓Zg,↓Zb,↓Zc,↓vdn,vup,Zh,Zn,Zl,Zm,Zk,List.map_cons,List.map_nil,cond_true,cond_false,aop,Zv,Zq,Zp,ev,sput,Zt,Zy,Ya,unK,Zd,Zw,Nat.reduceBEq,Nat.reduceAdd,Int.reduceBEq,Int.reduceBNe,Int.reduceLT,Zu,Zz,tup,tyf,fldA fld_97_0 Wc,loadN pf.b4 Xc,hjn]
     refine hQb _ _ _ (hQa _ _ _ ?_)
     simp (maxSteps:=2000000) only [s140,↓Za,↓Zj,↓Zr,↓Ze,↓Zi,↓Zs,↓Zf,↓Zo,↓Zg,↓Zb,↓Zc,↓vdn,vup,Zh,Zn,Zl,Zm,Zk,List.map_cons,List.map_nil,cond_true,cond_false,aop,Zv,Zq,Zp,ev,sput,Zt,Zy,Ya,unK,Zd,Zw,Nat.reduceBEq,Nat.reduceAdd,Int.reduceBEq,Int.reduceBNe,Int.reduceLT,Zu,Zz,tup,tyf,if_true]
     refine hB [(0,ptB bs),(1,ordV o),(2,Zx ((m+1:Nat):Int)),(3,ptB n0),(4,ptB (n0+1)),(5,ptB (n0+2)),(6,ptB (n0+3)),(7,.bool false),(8,w),(9,Zx (cn o:Nat)),(10,ptB (n0+5)),(20,Zx o.length),(21,Zx (i:Nat))] _ _ ?_ (by simp (maxSteps:=2000000) only [↓Za,↓Zj,↓Zr,↓Ze,↓Zi,↓Zs,↓Zf,↓Zo,↓Zg,↓Zb,↓Zc,↓vdn,vup,Zh,Zn,Zl,Zm,Zk,List.map_cons,List.map_nil,cond_true,cond_false,aop,Zv,Zq,Zp,ev,sput,Zt,Zy,Ya,unK,Zd,Zw,Nat.reduceBEq,Nat.reduceAdd,Int.reduceBEq,Int.reduceBNe,Int.reduceLT,Zu,Zz,tup,tyf])
     clear hB
     try clear B
     refine Yf ?_
     simp (maxSteps:=2000000) only [s140,↓Za,↓Zj,↓Zr,↓Ze,↓Zi,↓Zs,↓Zf,↓Zo,↓Zg,↓Zb,↓Zc,↓vdn,vup,Zh,Zn,Zl,Zm,Zk,List.map_cons,List.map_nil,cond_true,cond_false,aop,Zv,Zq,Zp,ev,sput,Zt,Zy,Ya,unK,Zd,Zw,Nat.reduceBEq,Nat.reduceAdd,Int.reduceBEq,Int.reduceBNe,Int.reduceLT,Zu,Zz,tup,tyf,add1 (show i<9223372036854775807 by omega)]
     exact hQ2 _ _ _ ⟨(i+1,w,z),⟨hi',pf,how,hvb⟩,by simp only; omega,by simp (maxSteps:=2000000) only [↓Za,↓Zj,↓Zr,↓Ze,↓Zi,↓Zs,↓Zf,↓Zo,↓Zg,↓Zb,↓Zc,↓vdn,vup,Zh,Zn,Zl,Zm,Zk,List.map_cons,List.map_nil,cond_true,cond_false,aop,Zv,Zq,Zp,ev,sput,Zt,Zy,Ya,unK,Zd,Zw,Nat.reduceBEq,Nat.reduceAdd,Int.reduceBEq,Int.reduceBNe,Int.reduceLT,Zu,Zz,tup,tyf],rfl⟩
 · obtain rfl:i=o.length:=by omega
   refine Yc fun N15 hN15=>?_
   simp (maxSteps:=2000000) only [s140,↓Za,↓Zj,↓Zr,↓Ze,↓Zi,↓Zs,↓Zf,↓Zo,↓Zg,↓Zb,↓Zc,↓vdn,vup,Zh,Zn,Zl,Zm,Zk,List.map_cons,List.map_nil,cond_true,cond_false,aop,Zv,Zq,Zp,ev,sput,Zt,Zy,Ya,unK,Zd,Zw,Nat.reduceBEq,Nat.reduceAdd,Int.reduceBEq,Int.reduceBNe,Int.reduceLT,Zu,Zz,tup,tyf,hin]
   refine hN15 [(0,ptB bs),(1,ordV o),(2,Zx ((m+1:Nat):Int)),(3,ptB n0),(4,ptB (n0+1)),(5,ptB (n0+2)),(6,ptB (n0+3)),(7,.bool false),(8,v),(9,Zx (cn o:Nat)),(10,ptB (n0+5)),(20,Zx o.length),(21,Zx (o.length:Nat)),(22,.bool false)] _ _ ?_ (by simp (maxSteps:=2000000) only [↓Za,↓Zj,↓Zr,↓Ze,↓Zi,↓Zs,↓Zf,↓Zo,↓Zg,↓Zb,↓Zc,↓vdn,vup,Zh,Zn,Zl,Zm,Zk,List.map_cons,List.map_nil,cond_true,cond_false,aop,Zv,Zq,Zp,ev,sput,Zt,Zy,Ya,unK,Zd,Zw,Nat.reduceBEq,Nat.reduceAdd,Int.reduceBEq,Int.reduceBNe,Int.reduceLT,Zu,Zz,tup,tyf])
   clear hN15
   try clear N15
   refine Yc fun N16 hN16=>?_
   try simp (maxSteps:=2000000) only [s140,↓Za,↓Zj,↓Zr,↓Ze,↓Zi,↓Zs,↓Zf,↓Zo,↓Zg,↓Zb,↓Zc,↓vdn,vup,Zh,Zn,Zl,Zm,Zk,List.map_cons,List.map_nil,cond_true,cond_false,aop,Zv,Zq,Zp,ev,sput,Zt,Zy,Ya,unK,Zd,Zw,Nat.reduceBEq,Nat.reduceAdd,Int.reduceBEq,Int.reduceBNe,Int.reduceLT,Zu,Zz,tup,tyf]
   refine hQ2 _ _ _ (hQ _ _ _ ?_)
   simp (maxSteps:=2000000) only [s140,↓Za,↓Zj,↓Zr,↓Ze,↓Zi,↓Zs,↓Zf,↓Zo,↓Zg,↓Zb,↓Zc,↓vdn,vup,Zh,Zn,Zl,Zm,Zk,List.map_cons,List.map_nil,cond_true,cond_false,aop,Zv,Zq,Zp,ev,sput,Zt,Zy,Ya,unK,Zd,Zw,Nat.reduceBEq,Nat.reduceAdd,Int.reduceBEq,Int.reduceBNe,Int.reduceLT,Zu,Zz,tup,tyf,if_true]
   refine hM [(0,ptB bs),(1,ordV o),(2,Zx ((m+1:Nat):Int)),(3,ptB n0),(4,ptB (n0+1)),(5,ptB (n0+2)),(6,ptB (n0+3)),(7,.bool false),(8,v),(9,Zx (cn o:Nat)),(10,ptB (n0+5)),(22,.bool false)] _ _ ?_ (by simp (maxSteps:=2000000) only [↓Za,↓Zj,↓Zr,↓Ze,↓Zi,↓Zs,↓Zf,↓Zo,↓Zg,↓Zb,↓Zc,↓vdn,vup,Zh,Zn,Zl,Zm,Zk,List.map_cons,List.map_nil,cond_true,cond_false,aop,Zv,Zq,Zp,ev,sput,Zt,Zy,Ya,unK,Zd,Zw,Nat.reduceBEq,Nat.reduceAdd,Int.reduceBEq,Int.reduceBNe,Int.reduceLT,Zu,Zz,tup,tyf])
   clear hM
   try clear M
   clear hin hQ hQ2
   obtain ⟨L0,hL0⟩ : ∃ L0,L0=iPP (allF o o.length):=⟨_,rfl⟩
   have hLl:L0.length≤15:=by rw [hL0,iPP_len]; exact allF_15 hl.2
   have hmem : ∀ p∈L0,∃ a b:Nat,p=((a:Int),(b:Int))∧a<b∧b<o.length∧fr o a b=true:=fun p hp=>by
    rw [hL0] at hp
    obtain ⟨a,b,rfl,hab⟩:=mem_iPP hp
    have:=mem_allF.1 hab
    exact ⟨a,b,rfl,this.2.1,this.2.2.1,this.2.2.2⟩
   have hin2 : ∀ p∈L0,inR2 p:=fun p hp=>by
    obtain ⟨a,b,rfl,h1,h2,_⟩:=hmem p hp
    exact key2_in (by omega) (by omega)
   have hall : ∀ a b:Nat,a<b→b<o.length→fr o a b=true→((a:Int),(b:Int))∈L0:=fun a b h1 h2 h3=>by
    rw [hL0]; exact List.mem_map.2 ⟨(a,b),mem_allF.2 ⟨by show a<o.length; omega,h1,h2,h3⟩,rfl⟩
   rw [← hL0] at how
   obtain ⟨bv,ys,rfl,hbv⟩:=how.resolve_left fun hn=>by
    obtain ⟨a,b,h1,h2,h3⟩:=free_pair hcn
    have:=hall a b h1 h2 h3
    rw [hn.2] at this; cases this
   have hbn:n0+6≤bv:=hvb bv rfl
   have hbl:=Yu hbv
   obtain ⟨lm,hlm,hkm⟩:=pf.bm
   have hcmp : ∀ L x y,x∈L0→y∈L0→∃ r:Int,APure prog 163 ([pV x,pV y]++(#[ptB (n0+5)]:Array Value).toList) (hp.set bv (.ints (Ym L++Ym ys) 28 false)) (Zx r):=fun L x y hx hy =>
    uneven_call (by rw [List.getElem?_set_ne (by omega)]; exact pf.bu) (by rw [List.getElem?_set_ne (by omega)]; exact hlm) hkm (hin2 x hx) (hin2 y hy)
   refine Yc fun N17 hN17=>?_
   simp (maxSteps:=2000000) only [s140,↓Za,↓Zj,↓Zr,↓Ze,↓Zi,↓Zs,↓Zf,↓Zo,↓Zg,↓Zb,↓Zc,↓vdn,vup,Zh,Zn,Zl,Zm,Zk,List.map_cons,List.map_nil,cond_true,cond_false,aop,Zv,Zq,Zp,ev,sput,Zt,Zy,Ya,unK,Zd,Zw,Nat.reduceBEq,Nat.reduceAdd,Int.reduceBEq,Int.reduceBNe,Int.reduceLT,Zu,Zz,tup,tyf,Yz,List.nil_append,List.append_nil,List.toList_toArray,List.cons_append,List.map_toArray]
   refine (sortP_call hcmp hbv hLl).mono ?_
   rintro r G ⟨L,hperm,rfl⟩
   try simp (maxSteps:=2000000) only [s140,↓Za,↓Zj,↓Zr,↓Ze,↓Zi,↓Zs,↓Zf,↓Zo,↓Zg,↓Zb,↓Zc,↓vdn,vup,Zh,Zn,Zl,Zm,Zk,List.map_cons,List.map_nil,cond_true,cond_false,aop,Zv,Zq,Zp,ev,sput,Zt,Zy,Ya,unK,Zd,Zw,Nat.reduceBEq,Nat.reduceAdd,Int.reduceBEq,Int.reduceBNe,Int.reduceLT,Zu,Zz,tup,tyf]
   refine hN17 [(0,ptB bs),(1,ordV o),(2,Zx ((m+1:Nat):Int)),(3,ptB n0),(4,ptB (n0+1)),(5,ptB (n0+2)),(6,ptB (n0+3)),(7,.bool false),(8,ovP bv L0.length ys.length),(9,Zx (cn o:Nat)),(10,ptB (n0+5)),(22,.bool false)] _ _ ?_ (by simp (maxSteps:=2000000) only [↓Za,↓Zj,↓Zr,↓Ze,↓Zi,↓Zs,↓Zf,↓Zo,↓Zg,↓Zb,↓Zc,↓vdn,vup,Zh,Zn,Zl,Zm,Zk,List.map_cons,List.map_nil,cond_true,cond_false,aop,Zv,Zq,Zp,ev,sput,Zt,Zy,Ya,unK,Zd,Zw,Nat.reduceBEq,Nat.reduceAdd,Int.reduceBEq,Int.reduceBNe,Int.reduceLT,Zu,Zz,tup,tyf])
   clear hN17
   try clear N17
   obtain ⟨G,hG⟩ : ∃ G,G=hp.set bv (.ints (Ym L++Ym ys) 28 false):=⟨_,rfl⟩
   rw [← hG]
   have pG:PFr bs o m n0 h G:=pf.step (S:=fun b=>b=bv) (fun b hb=>by omega) (by rw [hG]; exact Ext.set _ rfl)
   have hLn:L.length=L0.length:=hperm.length_eq
   have hoG:OwnP 28 G (ovP bv L0.length ys.length) L:=by rw [hG]; exact ovP_own hbl hLn
   have hmL : ∀ k,k<L.length→∃ a b:Nat,L.getD k (0,0)=((a:Int),(b:Int))∧a<b∧b<o.length∧fr o a b=true:=fun k hk=>by
    rw [List.getD,List.getElem?_eq_getElem hk,Option.getD_some]
    exact hmem _ (hperm.mem_iff.1 (List.getElem_mem hk))
   have hsG:=hs.ext pG.ext
   have hbmG:bm<n0:=by
    obtain ⟨_,l,h2,_⟩:=hs
    have:=Yu h2; have:=pf.n0h; omega
   clear hG hcmp how hbv hbl hlm hkm pf
   have hidx:=indexP_call (h:=G) (v:=ovP bv L0.length ys.length) (ps:=L) (fn:=164) (cap:=#[ptB n0,ptB (n0+1),ptB (n0+2)]) (by omega) (fun k z=>SK bs bm z∧Ext (fun b=>b=bm) G z∧∀ q,q<k→∀ a b:Nat,L.getD q (0,0)=((a:Int),(b:Int))→bothB m o a b=false) (fun k z=>SK bs bm z∧Ext (fun b=>b=bm) G z∧∀ a b:Nat,L.getD k (0,0)=((a:Int),(b:Int))→bothB m o a b=true)
    (fun k z ⟨z1,z2,z3⟩=>(hoG.same fun b hb=>z2.2 b (hoG.lt hb) fun e=>by cases hb; omega).pair)
    (fun k hk z ⟨z1,z2,z3⟩=>by
     obtain ⟨a,b,h1,h2,h3,h4⟩:=hmL k hk
     rw [h1]
     refine (try_call ih hm ho z1 (show a<o.length by omega) h3 h4 (b3:=n0) (b4:=n0+1) (b5:=n0+2) ?_ ?_ ?_).mono ?_
     · exact (z2.2 _ (Yu pG.b3) (by omega)).trans pG.b3
     · exact (z2.2 _ (Yu pG.b4) (by omega)).trans pG.b4
     · exact (z2.2 _ (Yu pG.b5) (by omega)).trans pG.b5
     · rintro _ z' ⟨rfl,w1,w2⟩
       refine ⟨_,rfl,fun hb=>⟨w1,z2.trans w2,fun a' b' hab=>?_⟩,fun hb=>⟨w1,z2.trans w2,fun q hq a' b' hab=>?_⟩⟩
       · simp only [Prod.mk.injEq,Int.natCast_inj] at hab
         rw [← hab.1,← hab.2]; exact hb
       · by_cases hqk:q=k
         · subst hqk
           rw [h1] at hab
           simp only [Prod.mk.injEq,Int.natCast_inj] at hab
           rw [← hab.1,← hab.2]; exact hb
         · exact z3 q (by omega) a' b' hab)
    ⟨hsG,Ext.refl _ _,fun q hq=>absurd hq (Nat.not_lt_zero q)⟩
   refine Yc fun N18 hN18=>?_
   simp (maxSteps:=2000000) only [s140,↓Za,↓Zj,↓Zr,↓Ze,↓Zi,↓Zs,↓Zf,↓Zo,↓Zg,↓Zb,↓Zc,↓vdn,vup,Zh,Zn,Zl,Zm,Zk,List.map_cons,List.map_nil,cond_true,cond_false,aop,Zv,Zq,Zp,ev,sput,Zt,Zy,Ya,unK,Zd,Zw,Nat.reduceBEq,Nat.reduceAdd,Int.reduceBEq,Int.reduceBNe,Int.reduceLT,Zu,Zz,tup,tyf,Yz,List.nil_append,List.append_nil,List.toList_toArray,List.cons_append,List.map_toArray]
   refine (hidx).mono ?_
   rintro r z hr
   try simp (maxSteps:=2000000) only [s140,↓Za,↓Zj,↓Zr,↓Ze,↓Zi,↓Zs,↓Zf,↓Zo,↓Zg,↓Zb,↓Zc,↓vdn,vup,Zh,Zn,Zl,Zm,Zk,List.map_cons,List.map_nil,cond_true,cond_false,aop,Zv,Zq,Zp,ev,sput,Zt,Zy,Ya,unK,Zd,Zw,Nat.reduceBEq,Nat.reduceAdd,Int.reduceBEq,Int.reduceBNe,Int.reduceLT,Zu,Zz,tup,tyf]
   have hEh : ∀ z,Ext (fun b=>b=bm) G z→Ext (fun b=>b=bm) h (z):=fun z hz=>(pG.ext.mono fun _ h=>h.elim).trans hz
   have fin : ∀ (z:Yb) (c:List Value),SK bs bm z→Ext (fun b=>b=bm) G z→SK bs bm (z.set (n0+3) (.cells c 28 false))∧Ext (fun b=>b=bm) h (z.set (n0+3) (.cells c 28 false)):=fun z c hz hE=>by
    obtain ⟨k1,l,k2,k3⟩:=hz
    have hn:=pG.n0h
    have hbs:bs<h.length:=Yu hs.1
    refine ⟨⟨by rw [List.getElem?_set_ne (by omega)]; exact k1,l,by rw [List.getElem?_set_ne (by omega)]; exact k2,k3⟩,⟨by rw [List.length_set]; exact (hEh z hE).1,fun q hq hne=>?_⟩⟩
    rw [List.getElem?_set_ne (by omega)]
    exact (hEh z hE).2 q hq hne
   rcases hr with ⟨k,hk,rfl,z1,z2,z3⟩ | ⟨rfl,z1,z2,z3⟩
   · obtain ⟨a,b,h1,h2,h3,h4⟩:=hmL k hk
     have b6:=(z2.2 _ (Yu pG.b6) (by omega)).trans pG.b6
     have hpz:PairSl z (ovP bv L0.length ys.length) L:=(hoG.same fun b hb=>z2.2 b (hoG.lt hb) fun e=>by cases hb; omega).pair
     have hld:=hpz.load shp_28 hk
     rw [h1] at hld
     obtain ⟨g1,g2⟩:=fin z [.int .i64 ((a:Nat):Int),.int .i64 ((b:Nat):Int)] z1 z2
     have g6:(z.set (n0+3) (.cells [.int .i64 ((a:Nat):Int),.int .i64 ((b:Nat):Int)] 28 false))[n0+3]? = some (.cells [Zx ((a:Nat):Int),Zx ((b:Nat):Int)] 28 false):=Xf (Yu b6) _
     have hnk : ¬ ((k:Nat):Int)<0:=by omega
     refine hN18 [(0,ptB bs),(1,ordV o),(2,Zx ((m+1:Nat):Int)),(3,ptB n0),(4,ptB (n0+1)),(5,ptB (n0+2)),(6,ptB (n0+3)),(7,.bool false),(8,ovP bv L0.length ys.length),(9,Zx (cn o:Nat)),(10,ptB (n0+5)),(15,Zx (k:Nat)),(22,.bool false)] _ _ ?_ (by simp (maxSteps:=2000000) only [↓Za,↓Zj,↓Zr,↓Ze,↓Zi,↓Zs,↓Zf,↓Zo,↓Zg,↓Zb,↓Zc,↓vdn,vup,Zh,Zn,Zl,Zm,Zk,List.map_cons,List.map_nil,cond_true,cond_false,aop,Zv,Zq,Zp,ev,sput,Zt,Zy,Ya,unK,Zd,Zw,Nat.reduceBEq,Nat.reduceAdd,Int.reduceBEq,Int.reduceBNe,Int.reduceLT,Zu,Zz,tup,tyf])
     clear hN18
     try clear N18
     refine Yf ?_
     simp (maxSteps:=2000000) only [s140,↓Za,↓Zj,↓Zr,↓Ze,↓Zi,↓Zs,↓Zf,↓Zo,↓Zg,↓Zb,↓Zc,↓vdn,vup,Zh,Zn,Zl,Zm,Zk,List.map_cons,List.map_nil,cond_true,cond_false,aop,Zv,Zq,Zp,ev,sput,Zt,Zy,Ya,unK,Zd,Zw,Nat.reduceBEq,Nat.reduceAdd,Int.reduceBEq,Int.reduceBNe,Int.reduceLT,Zu,Zz,tup,tyf,hnk,hpz.idx el_26 esz_28 hk,hld]
     rw [pst b6 rfl]
     simp (maxSteps:=2000000) only [s140,↓Za,↓Zj,↓Zr,↓Ze,↓Zi,↓Zs,↓Zf,↓Zo,↓Zg,↓Zb,↓Zc,↓vdn,vup,Zh,Zn,Zl,Zm,Zk,List.map_cons,List.map_nil,cond_true,cond_false,aop,Zv,Zq,Zp,ev,sput,Zt,Zy,Ya,unK,Zd,Zw,Nat.reduceBEq,Nat.reduceAdd,Int.reduceBEq,Int.reduceBNe,Int.reduceLT,Zu,Zz,tup,tyf,loadPr g6]
     exact ⟨g1,g2,.inl ⟨a,b,h2,h3,h4,z3 a b h1,rfl⟩⟩
   · have b6:=(z2.2 _ (Yu pG.b6) (by omega)).trans pG.b6
     obtain ⟨g1,g2⟩:=fin z [.int .i64 0,.int .i64 0] z1 z2
     have g6:(z.set (n0+3) (.cells [.int .i64 0,.int .i64 0] 28 false))[n0+3]? = some (.cells [Zx 0,Zx 0] 28 false):=Xf (Yu b6) _
     refine hN18 [(0,ptB bs),(1,ordV o),(2,Zx ((m+1:Nat):Int)),(3,ptB n0),(4,ptB (n0+1)),(5,ptB (n0+2)),(6,ptB (n0+3)),(7,.bool false),(8,ovP bv L0.length ys.length),(9,Zx (cn o:Nat)),(10,ptB (n0+5)),(15,.int .i64 (-1)),(22,.bool false)] _ _ ?_ (by simp (maxSteps:=2000000) only [↓Za,↓Zj,↓Zr,↓Ze,↓Zi,↓Zs,↓Zf,↓Zo,↓Zg,↓Zb,↓Zc,↓vdn,vup,Zh,Zn,Zl,Zm,Zk,List.map_cons,List.map_nil,cond_true,cond_false,aop,Zv,Zq,Zp,ev,sput,Zt,Zy,Ya,unK,Zd,Zw,Nat.reduceBEq,Nat.reduceAdd,Int.reduceBEq,Int.reduceBNe,Int.reduceLT,Zu,Zz,tup,tyf])
     clear hN18
     try clear N18
     refine Yf ?_
     have hneg:(-1:Int)<0:=by decide
     simp (maxSteps:=2000000) only [s140,↓Za,↓Zj,↓Zr,↓Ze,↓Zi,↓Zs,↓Zf,↓Zo,↓Zg,↓Zb,↓Zc,↓vdn,vup,Zh,Zn,Zl,Zm,Zk,List.map_cons,List.map_nil,cond_true,cond_false,aop,Zv,Zq,Zp,ev,sput,Zt,Zy,Ya,unK,Zd,Zw,Nat.reduceBEq,Nat.reduceAdd,Int.reduceBEq,Int.reduceBNe,Int.reduceLT,Zu,Zz,tup,tyf,hneg,bld00]
     rw [pst b6 rfl]
     simp (maxSteps:=2000000) only [s140,↓Za,↓Zj,↓Zr,↓Ze,↓Zi,↓Zs,↓Zf,↓Zo,↓Zg,↓Zb,↓Zc,↓vdn,vup,Zh,Zn,Zl,Zm,Zk,List.map_cons,List.map_nil,cond_true,cond_false,aop,Zv,Zq,Zp,ev,sput,Zt,Zy,Ya,unK,Zd,Zw,Nat.reduceBEq,Nat.reduceAdd,Int.reduceBEq,Int.reduceBNe,Int.reduceLT,Zu,Zz,tup,tyf,loadPr g6]
     refine ⟨g1,g2,.inr ⟨pairB_false fun i j hij hj hf=>?_,_,rfl⟩⟩
     obtain ⟨k,hk,hkk⟩:=List.mem_iff_getElem.1 (hperm.mem_iff.2 (hall i j hij hj hf))
     exact z3 k hk i j (by rw [List.getD,List.getElem?_eq_getElem hk,Option.getD_some]; exact hkk)
end Go.Proofs.Tryd.Am.Or
namespace Go.Proofs.Tryd.Am.Or
open Go.Proofs.Tryd.Am
open Go.Am Ord
set_option maxRecDepth 100000
set_option maxHeartbeats 1000000
def castN (l:List Nat):List Int:=l.map fun (i:Nat)=>(i:Int)
def behind (xs:List Int) (Ls:List (List Nat)):List (List Int):=Ls.map fun l=>xs++castN l
end Go.Proofs.Tryd.Am.Or
namespace Go.Proofs.Tryd.Am.Or
open Go.Proofs.Tryd.Am
open Go.Am Ord
set_option maxRecDepth 100000
set_option maxHeartbeats 1000000
theorem getD_setN {L:List Nat} {s x i:Nat} (hs:s<L.length):(L.set s x).getD i 0=if i=s then x else L.getD i 0:=by
 rw [List.getD,List.getElem?_set]
 by_cases h:s=i
 · subst h; simp [hs]
 · rw [if_neg h,if_neg (Ne.symm h)]; rfl
def swL (L:List Nat) (j:Nat):List Nat:=(L.set j (L.getD (j-1) 0)).set (j-1) (L.getD j 0)
theorem swL_get {L:List Nat} {j:Nat} (h1:1≤j) (h2:j<L.length) (t:Nat):(swL L j).getD t 0=if t=j-1 then L.getD j 0 else if t=j then L.getD (j-1) 0 else L.getD t 0:=by
 rw [swL,getD_setN (by rw [List.length_set]; omega),getD_setN h2]
section
variable {key:Nat→Int}
def SrtTo (key:Nat→Int) (L:List Nat) (i:Nat):Prop:=∀ p q,p<q→q<i→key (L.getD p 0)≤key (L.getD q 0)
def SrtBut (key:Nat→Int) (L:List Nat) (i j:Nat):Prop:=∀ p q,p<q→q≤i→q≠j→key (L.getD p 0)≤key (L.getD q 0)
theorem SrtBut.step {L:List Nat} {i j:Nat} (h:SrtBut key L i j) (h1:1≤j) (h2:j<L.length) (hj:j≤i) (hlt:key (L.getD j 0)<key (L.getD (j-1) 0)):SrtBut key (swL L j) i (j-1):=by
 intro p q hpq hq hne
 rw [swL_get h1 h2,swL_get h1 h2,if_neg hne]
 by_cases hqj:q=j
 · rw [if_pos hqj]
   by_cases hp:p=j-1
   · rw [if_pos hp]; omega
   · rw [if_neg hp,if_neg (by omega)]
     exact h p (j-1) (by omega) (by omega) (by omega)
 · rw [if_neg hqj]
   by_cases hp:p=j-1
   · rw [if_pos hp]; exact h j q (by omega) hq hqj
   · rw [if_neg hp]
     by_cases hpj:p=j
     · rw [if_pos hpj]; exact h (j-1) q (by omega) hq hqj
     · rw [if_neg hpj]; exact h p q hpq hq hqj
theorem SrtTo.pw {L:List Nat} (h:SrtTo key L L.length):L.Pairwise fun a b=>key a≤key b:=by
 rw [List.pairwise_iff_getElem]
 intro i j hi hj hij
 have:=h i j hij hj
 rw [List.getD,List.getD,List.getElem?_eq_getElem hi,List.getElem?_eq_getElem hj] at this
 exact this
end
theorem wrap8 {x:Nat} (h:x<256):IntKind.u8.wrap (x:Int)=(x:Int):=by
 simp [IntKind.wrap,IntKind.signed,IntKind.bits]; omega
theorem s139_callW [Tabs Tryd.prog] {args:List Value} {h:Yb} {Q:Value→Yb→Prop} (hsz:args.length≤25) (hk:AWS Tryd.prog 25 s139 (Zu Tryd.prog [.tmp 2] Q) (Zp 0 args) h):ACall Tryd.prog 139 args h Q :=
 Xy Tryd.func139 rfl (enters_of Tryd.func139 (by kernel_rfl) rfl) rfl rfl (by decide) s139_strip s139_ok hsz hk
theorem s101_callW [Tabs Tryd.prog] {args:List Value} {h:Yb} {Q:Value→Yb→Prop} (hsz:args.length≤8) (hk:AWS Tryd.prog 8 s101 (Zu Tryd.prog [.tmp 2] Q) (Zp 0 args) h):ACall Tryd.prog 101 args h Q :=
 Xy Tryd.func101 rfl (enters_of Tryd.func101 (by kernel_rfl) rfl) rfl rfl (by decide) s101_strip s101_ok hsz hk
end Go.Proofs.Tryd.Am.Or
namespace Go.Proofs.Tryd.Am.Or
open Go.Proofs.Tryd.Am
open Go.Am
set_option maxRecDepth 100000
set_option maxHeartbeats 1000000
def LenIs (x z:Nat):Prop:=z≤16∧∀ k,x<2 ^ k→z≤k
theorem lenIs_tab (s:ByteArray) (hs:s.size=256) (h:((List.range 256).all fun x=>decide ((s.get! x).toNat≤8)&&(List.range 8).all fun k=>!decide (x<2 ^ k) || decide ((s.get! x).toNat≤k))=true) {x:Nat} (hx:x<256) : ∃ z:Nat,(s[x]'(by omega)).toNat=z∧z≤8∧∀ k,x<2 ^ k→z≤k:=by
 have h1:=List.all_eq_true.1 h x (List.mem_range.2 hx)
 rw [Bool.and_eq_true,decide_eq_true_eq] at h1
 have e:s.get! x=s[x]'(by omega):=by
  simp [ByteArray.get!,ByteArray.getElem_eq_getElem_data]
  rw [getElem!_pos]
 rw [e] at h1
 refine ⟨_,rfl,h1.1,fun k hk=>?_⟩
 by_cases h8:k<8
 · have h2:=List.all_eq_true.1 h1.2 k (List.mem_range.2 h8)
   rw [decide_eq_true hk,Bool.not_true,Bool.false_or,decide_eq_true_eq] at h2
   exact h2
 · omega
theorem LenIs.shift {x z:Nat} (h:z≤8∧∀ k,x / 256<2 ^ k→z≤k) (hx:256≤x):LenIs x (8+z):=by
 refine ⟨by omega,fun k hk=>?_⟩
 by_cases h8:k≤8
 · have:2 ^ k≤2 ^ 8:=Nat.pow_le_pow_right (by decide) h8
   omega
 · obtain ⟨d,rfl⟩ : ∃ d,k=8+d:=⟨k-8,by omega⟩
   rw [Nat.pow_add] at hk
   have:=h.2 d (Nat.div_lt_of_lt_mul hk)
   omega
theorem len64v_call [Tabs prog] {h:Yb} {x:Nat} (hx:x<65536):ACall prog 139 [vu x] h fun r h'=>(∃ z,LenIs x z∧r=Zx (z:Nat))∧h' = h:=by
 obtain ⟨s,hs,htab,hq⟩ : ∃ s:ByteArray,s.size=256∧((List.range 256).all fun x=>decide ((s.get! x).toNat≤8)&&(List.range 8).all fun k=>!decide (x<2 ^ k) || decide ((s.get! x).toNat≤k))=true∧q139_10 = .region [⟨some 19,.move (.tmp 2),none⟩,⟨some 20,.move (.tmp 0),none⟩,⟨some 21,.convert 88 5 (.tmp 20),none⟩,⟨some 22,.index 9 (.const (.string s)) (.tmp 21),none⟩,
   ⟨some 23,.convert 5 3 (.tmp 22),none⟩,⟨some 24,.binOp .add 3 (.tmp 19) (.tmp 23) 3,none⟩,⟨some 2,.assign (.tmp 24),none⟩]:=by
  refine ⟨_,?_,?_,rfl⟩
  · kernel_rfl
  · kernel_rfl
 have hnn : ∀ i:Nat,(0:Int)≤(i:Int):=Int.natCast_nonneg
 have n1 : ¬ (4294967296:Int)≤(x:Int):=by omega
 have n2 : ¬ (65536:Int)≤(x:Int):=by omega
 refine s139_callW (by simp) ?_
 simp only [s139]
 refine Yc fun N1 hN1=>?_
 simp (maxSteps:=2000000) only [s139,↓Za,↓Zj,↓Zr,↓Ze,↓Zi,↓Zs,↓Zf,↓Zo,↓Zg,↓Zb,↓Zc,↓vdn,vup,Zh,Zn,Zl,Zm,Zk,List.map_cons,List.map_nil,cond_true,cond_false,aop,Zv,Zq,Zp,ev,sput,Zt,Zy,Ya,unK,Zd,Zw,Nat.reduceBEq,Nat.reduceAdd,Int.reduceBEq,Int.reduceBNe,Int.reduceLT,Zu,Zz,tup,tyf]
 refine hN1 [(0,vu x),(2,.int .i64 0)] _ _ ?_ (by simp (maxSteps:=2000000) only [↓Za,↓Zj,↓Zr,↓Ze,↓Zi,↓Zs,↓Zf,↓Zo,↓Zg,↓Zb,↓Zc,↓vdn,vup,Zh,Zn,Zl,Zm,Zk,List.map_cons,List.map_nil,cond_true,cond_false,aop,Zv,Zq,Zp,ev,sput,Zt,Zy,Ya,unK,Zd,Zw,Nat.reduceBEq,Nat.reduceAdd,Int.reduceBEq,Int.reduceBNe,Int.reduceLT,Zu,Zz,tup,tyf])
 clear hN1
 try clear N1
 refine Yc fun N2 hN2=>?_
 simp (maxSteps:=2000000) only [s139,↓Za,↓Zj,↓Zr,↓Ze,↓Zi,↓Zs,↓Zf,↓Zo,↓Zg,↓Zb,↓Zc,↓vdn,vup,Zh,Zn,Zl,Zm,Zk,List.map_cons,List.map_nil,cond_true,cond_false,aop,Zv,Zq,Zp,ev,sput,Zt,Zy,Ya,unK,Zd,Zw,Nat.reduceBEq,Nat.reduceAdd,Int.reduceBEq,Int.reduceBNe,Int.reduceLT,Zu,Zz,tup,tyf,ge_iff_le,n1]
 refine hN2 [(0,vu x),(2,.int .i64 0)] _ _ ?_ (by simp (maxSteps:=2000000) only [↓Za,↓Zj,↓Zr,↓Ze,↓Zi,↓Zs,↓Zf,↓Zo,↓Zg,↓Zb,↓Zc,↓vdn,vup,Zh,Zn,Zl,Zm,Zk,List.map_cons,List.map_nil,cond_true,cond_false,aop,Zv,Zq,Zp,ev,sput,Zt,Zy,Ya,unK,Zd,Zw,Nat.reduceBEq,Nat.reduceAdd,Int.reduceBEq,Int.reduceBNe,Int.reduceLT,Zu,Zz,tup,tyf])
 clear hN2
 try clear N2
 refine Yc fun N3 hN3=>?_
 simp (maxSteps:=2000000) only [s139,↓Za,↓Zj,↓Zr,↓Ze,↓Zi,↓Zs,↓Zf,↓Zo,↓Zg,↓Zb,↓Zc,↓vdn,vup,Zh,Zn,Zl,Zm,Zk,List.map_cons,List.map_nil,cond_true,cond_false,aop,Zv,Zq,Zp,ev,sput,Zt,Zy,Ya,unK,Zd,Zw,Nat.reduceBEq,Nat.reduceAdd,Int.reduceBEq,Int.reduceBNe,Int.reduceLT,Zu,Zz,tup,tyf,ge_iff_le,n2]
 refine hN3 [(0,vu x),(2,.int .i64 0)] _ _ ?_ (by simp (maxSteps:=2000000) only [↓Za,↓Zj,↓Zr,↓Ze,↓Zi,↓Zs,↓Zf,↓Zo,↓Zg,↓Zb,↓Zc,↓vdn,vup,Zh,Zn,Zl,Zm,Zk,List.map_cons,List.map_nil,cond_true,cond_false,aop,Zv,Zq,Zp,ev,sput,Zt,Zy,Ya,unK,Zd,Zw,Nat.reduceBEq,Nat.reduceAdd,Int.reduceBEq,Int.reduceBNe,Int.reduceLT,Zu,Zz,tup,tyf])
 clear hN3
 try clear N3
 by_cases h256:x<256
 · have n3 : ¬ (256:Int)≤(x:Int):=by omega
   have hidx:s[x]? = some (s[x]'(by omega)):=getElem?_pos s x (by omega)
   obtain ⟨z,hz,hz8,hzk⟩:=lenIs_tab s hs htab h256
   have hadd:addV .i64 0 ((z:Nat):Int)=((z:Nat):Int):=by rw [addV_id (by omega) (by omega)]; omega
   refine Yc fun N4 hN4=>?_
   simp (maxSteps:=2000000) only [s139,↓Za,↓Zj,↓Zr,↓Ze,↓Zi,↓Zs,↓Zf,↓Zo,↓Zg,↓Zb,↓Zc,↓vdn,vup,Zh,Zn,Zl,Zm,Zk,List.map_cons,List.map_nil,cond_true,cond_false,aop,Zv,Zq,Zp,ev,sput,Zt,Zy,Ya,unK,Zd,Zw,Nat.reduceBEq,Nat.reduceAdd,Int.reduceBEq,Int.reduceBNe,Int.reduceLT,Zu,Zz,tup,tyf,ge_iff_le,n3]
   refine hN4 [(0,vu x),(2,.int .i64 0)] _ _ ?_ (by simp (maxSteps:=2000000) only [↓Za,↓Zj,↓Zr,↓Ze,↓Zi,↓Zs,↓Zf,↓Zo,↓Zg,↓Zb,↓Zc,↓vdn,vup,Zh,Zn,Zl,Zm,Zk,List.map_cons,List.map_nil,cond_true,cond_false,aop,Zv,Zq,Zp,ev,sput,Zt,Zy,Ya,unK,Zd,Zw,Nat.reduceBEq,Nat.reduceAdd,Int.reduceBEq,Int.reduceBNe,Int.reduceLT,Zu,Zz,tup,tyf])
   clear hN4
   try clear N4
   rw [hq]
   refine Yf ?_
   simp (maxSteps:=2000000) only [s139,↓Za,↓Zj,↓Zr,↓Ze,↓Zi,↓Zs,↓Zf,↓Zo,↓Zg,↓Zb,↓Zc,↓vdn,vup,Zh,Zn,Zl,Zm,Zk,List.map_cons,List.map_nil,cond_true,cond_false,aop,Zv,Zq,Zp,ev,sput,Zt,Zy,Ya,unK,Zd,Zw,Nat.reduceBEq,Nat.reduceAdd,Int.reduceBEq,Int.reduceBNe,Int.reduceLT,Zu,Zz,tup,tyf,convK,und_88,und_5,und_3,wrap8 h256,indexK,und_9,hnn,Int.toNat_natCast,hidx,hz]
   have hwz:IntKind.i64.wrap ((z:Nat):Int)=((z:Nat):Int):=wrap_id (by omega) (by omega)
   exact ⟨z,⟨by omega,fun k hk=>hzk k hk⟩,by rw [hwz,hadd]⟩
 · have n3:(256:Int)≤(x:Int):=by omega
   have h8:x / 256<256:=by omega
   have hidx:s[x / 256]? = some (s[x / 256]'(by omega)):=getElem?_pos s (x / 256) (by omega)
   obtain ⟨z,hz,hz8,hzk⟩:=lenIs_tab s hs htab h8
   have hadd:addV .i64 8 ((z:Nat):Int)=((8+z:Nat):Int):=by rw [addV_id (by omega) (by omega)]; omega
   have h08:addV .i64 0 8=8:=rfl
   have hshr:shrV .u64 ((x:Nat):Int) 8=((x / 256:Nat):Int):=by
    have e8:(2:Int) ^ (min ((8:Int).toNat) IntKind.u64.bits)=256:=rfl
    rw [shrV,e8,Int.fdiv_eq_ediv_of_nonneg _ (by decide)]; omega
   refine Yg fun N5 hN5=>?_
   refine Yc fun N6 hN6=>?_
   simp (maxSteps:=2000000) only [s139,↓Za,↓Zj,↓Zr,↓Ze,↓Zi,↓Zs,↓Zf,↓Zo,↓Zg,↓Zb,↓Zc,↓vdn,vup,Zh,Zn,Zl,Zm,Zk,List.map_cons,List.map_nil,cond_true,cond_false,aop,Zv,Zq,Zp,ev,sput,Zt,Zy,Ya,unK,Zd,Zw,Nat.reduceBEq,Nat.reduceAdd,Int.reduceBEq,Int.reduceBNe,Int.reduceLT,Zu,Zz,tup,tyf,ge_iff_le,n3]
   refine hN6 [(0,vu x),(2,.int .i64 0),(14,.bool true)] _ _ ?_ (by simp (maxSteps:=2000000) only [↓Za,↓Zj,↓Zr,↓Ze,↓Zi,↓Zs,↓Zf,↓Zo,↓Zg,↓Zb,↓Zc,↓vdn,vup,Zh,Zn,Zl,Zm,Zk,List.map_cons,List.map_nil,cond_true,cond_false,aop,Zv,Zq,Zp,ev,sput,Zt,Zy,Ya,unK,Zd,Zw,Nat.reduceBEq,Nat.reduceAdd,Int.reduceBEq,Int.reduceBNe,Int.reduceLT,Zu,Zz,tup,tyf])
   clear hN6
   try clear N6
   refine Xl rfl ?_
   refine Yf ?_
   simp (maxSteps:=2000000) only [s139,↓Za,↓Zj,↓Zr,↓Ze,↓Zi,↓Zs,↓Zf,↓Zo,↓Zg,↓Zb,↓Zc,↓vdn,vup,Zh,Zn,Zl,Zm,Zk,List.map_cons,List.map_nil,cond_true,cond_false,aop,Zv,Zq,Zp,ev,sput,Zt,Zy,Ya,unK,Zd,Zw,Nat.reduceBEq,Nat.reduceAdd,Int.reduceBEq,Int.reduceBNe,Int.reduceLT,Zu,Zz,tup,tyf,hshr,h08,show ((0:Int)≤8)=True from eq_true (by decide)]
   refine hN5 [(0,vu (x / 256)),(2,.int .i64 8)] _ _ ?_ (by simp (maxSteps:=2000000) only [↓Za,↓Zj,↓Zr,↓Ze,↓Zi,↓Zs,↓Zf,↓Zo,↓Zg,↓Zb,↓Zc,↓vdn,vup,Zh,Zn,Zl,Zm,Zk,List.map_cons,List.map_nil,cond_true,cond_false,aop,Zv,Zq,Zp,ev,sput,Zt,Zy,Ya,unK,Zd,Zw,Nat.reduceBEq,Nat.reduceAdd,Int.reduceBEq,Int.reduceBNe,Int.reduceLT,Zu,Zz,tup,tyf])
   clear hN5
   try clear N5
   rw [hq]
   refine Yf ?_
   simp (maxSteps:=2000000) only [s139,↓Za,↓Zj,↓Zr,↓Ze,↓Zi,↓Zs,↓Zf,↓Zo,↓Zg,↓Zb,↓Zc,↓vdn,vup,Zh,Zn,Zl,Zm,Zk,List.map_cons,List.map_nil,cond_true,cond_false,aop,Zv,Zq,Zp,ev,sput,Zt,Zy,Ya,unK,Zd,Zw,Nat.reduceBEq,Nat.reduceAdd,Int.reduceBEq,Int.reduceBNe,Int.reduceLT,Zu,Zz,tup,tyf,convK,und_88,und_5,und_3,wrap8 h8,indexK,und_9,hnn,Int.toNat_natCast,hidx,hz]
   have hwz:IntKind.i64.wrap ((z:Nat):Int)=((z:Nat):Int):=wrap_id (by omega) (by omega)
   exact ⟨8+z,LenIs.shift ⟨hz8,hzk⟩ (by omega),by rw [hwz,hadd]⟩
theorem lenv_call [Tabs prog] {h:Yb} {x:Nat} (hx:x<65536):ACall prog 101 [vu x] h fun r h'=>(∃ z,LenIs x z∧r=Zx (z:Nat))∧h' = h:=by
 refine s101_callW (by simp) ?_
 simp only [s101]
 refine Yc fun N7 hN7=>?_
 simp (maxSteps:=2000000) only [s101,↓Za,↓Zj,↓Zr,↓Ze,↓Zi,↓Zs,↓Zf,↓Zo,↓Zg,↓Zb,↓Zc,↓vdn,vup,Zh,Zn,Zl,Zm,Zk,List.map_cons,List.map_nil,cond_true,cond_false,aop,Zv,Zq,Zp,ev,sput,Zt,Zy,Ya,unK,Zd,Zw,Nat.reduceBEq,Nat.reduceAdd,Int.reduceBEq,Int.reduceBNe,Int.reduceLT,Zu,Zz,tup,tyf]
 refine hN7 [(0,vu x),(2,.int .i64 0)] _ _ ?_ (by simp (maxSteps:=2000000) only [↓Za,↓Zj,↓Zr,↓Ze,↓Zi,↓Zs,↓Zf,↓Zo,↓Zg,↓Zb,↓Zc,↓vdn,vup,Zh,Zn,Zl,Zm,Zk,List.map_cons,List.map_nil,cond_true,cond_false,aop,Zv,Zq,Zp,ev,sput,Zt,Zy,Ya,unK,Zd,Zw,Nat.reduceBEq,Nat.reduceAdd,Int.reduceBEq,Int.reduceBNe,Int.reduceLT,Zu,Zz,tup,tyf])
 clear hN7
 try clear N7
 refine Yg fun N8 hN8=>?_
 refine Xe rfl ?_
 refine Yf ?_
 simp (maxSteps:=2000000) only [s101,↓Za,↓Zj,↓Zr,↓Ze,↓Zi,↓Zs,↓Zf,↓Zo,↓Zg,↓Zb,↓Zc,↓vdn,vup,Zh,Zn,Zl,Zm,Zk,List.map_cons,List.map_nil,cond_true,cond_false,aop,Zv,Zq,Zp,ev,sput,Zt,Zy,Ya,unK,Zd,Zw,Nat.reduceBEq,Nat.reduceAdd,Int.reduceBEq,Int.reduceBNe,Int.reduceLT,Zu,Zz,tup,tyf]
 refine hN8 [(0,vu x),(2,.int .i64 0)] _ _ ?_ (by simp (maxSteps:=2000000) only [↓Za,↓Zj,↓Zr,↓Ze,↓Zi,↓Zs,↓Zf,↓Zo,↓Zg,↓Zb,↓Zc,↓vdn,vup,Zh,Zn,Zl,Zm,Zk,List.map_cons,List.map_nil,cond_true,cond_false,aop,Zv,Zq,Zp,ev,sput,Zt,Zy,Ya,unK,Zd,Zw,Nat.reduceBEq,Nat.reduceAdd,Int.reduceBEq,Int.reduceBNe,Int.reduceLT,Zu,Zz,tup,tyf])
 clear hN8
 try clear N8
 refine Yf ?_
 simp (maxSteps:=2000000) only [s101,↓Za,↓Zj,↓Zr,↓Ze,↓Zi,↓Zs,↓Zf,↓Zo,↓Zg,↓Zb,↓Zc,↓vdn,vup,Zh,Zn,Zl,Zm,Zk,List.map_cons,List.map_nil,cond_true,cond_false,aop,Zv,Zq,Zp,ev,sput,Zt,Zy,Ya,unK,Zd,Zw,Nat.reduceBEq,Nat.reduceAdd,Int.reduceBEq,Int.reduceBNe,Int.reduceLT,Zu,Zz,tup,tyf,Yz,List.nil_append,List.append_nil,List.toList_toArray,List.cons_append]
 refine (len64v_call hx).mono ?_
 rintro _ h ⟨⟨z,hz,rfl⟩,rfl⟩
 exact ⟨⟨z,hz,rfl⟩,rfl⟩
end Go.Proofs.Tryd.Am.Or
namespace Go.Proofs.Tryd.Am.Or
open Go.Proofs.Tryd.Am
open Go.Am Ord
set_option maxRecDepth 100000
set_option maxHeartbeats 2000000
theorem SK.put {bs bm:Nat} {h:Yb} {o:List Int} {n:Nat} (ho:ord o=true) (hn:n≤62) {l:List (List Int×Bool)} (h1:h[bs]? = some (.cells [.map (some bm)] 103 false)) (h2:h[bm]? = some (.map (mA Value.bool l))) (h3:KeysN 8 l) (h4 : ∀ o n v,ord o=true→aget (encN o n) l=some v→v=srtb n o) :
  SK bs bm (h.set bm (.map (mA Value.bool (aput (encN o n) (srtb n o) l)))):=by
 have hl:=Xq ho
 have hne:bs≠bm:=fun e=>by rw [e,h2] at h1; cases h1
 refine ⟨by rw [List.getElem?_set_ne (Ne.symm hne)]; exact h1,_,Xf (Yu h2) _,h3.put (encN_len hl.2 n) (encN_in ho hn),fun o' n' v ho' hv=>?_⟩
 rw [aget_aput] at hv
 split at hv
 · rename_i he
   obtain ⟨rfl,rfl⟩:=encN_inj (Xq ho').2 hl.2 he
   cases hv; rfl
 · exact h4 o' n' v ho' hv
theorem srtb_one {n:Nat} {o:List Int} (h:cn o=1):srtb n o=true:=by
 cases n with
 | zero=>rw [srtb,h]; rfl
 | succ n=>rw [srtb_succ,h]; rfl
theorem s102_callW [Tabs Tryd.prog] {args:List Value} {h:Yb} {Q:Value→Yb→Prop} (hsz:args.length≤55) (hk:AWS Tryd.prog 55 s102 (Zu Tryd.prog [.tmp 6] Q) (Zp 0 args) h):ACall Tryd.prog 102 args h Q :=
 Xy Tryd.func102 rfl (enters_of Tryd.func102 (by kernel_rfl) rfl) rfl rfl (by decide) s102_strip s102_ok hsz hk
theorem sorts_step [BitTab prog 0] {bs bm n:Nat} (hn:n≤60) (ih : ∀ m,n=m+1→SortsOK bs bm m):SortsOK bs bm n:=by
 intro h o ho hs
 have hl:=Xq ho
 refine s102_callW (by simp) ?_
 simp only [s102]
 refine Yc fun N1 hN1=>?_
 simp (maxSteps:=2000000) only [s102,↓Za,↓Zj,↓Zr,↓Ze,↓Zi,↓Zs,↓Zf,↓Zo,↓Zg,↓Zb,↓Zc,↓vdn,vup,Zh,Zn,Zl,Zm,Zk,List.map_cons,List.map_nil,cond_true,cond_false,aop,Zv,Zq,Zp,ev,sput,Zt,Zy,Ya,unK,Zd,Zw,Nat.reduceBEq,Nat.reduceAdd,Int.reduceBEq,Int.reduceBNe,Int.reduceLT,Zu,Zz,tup,tyf,boxO esz_97,Xh]
 have c0:=Yt h (Blk.cells (We o) 97 false)
 have hE:Ext (fun _=>False) h (h++[Blk.cells (We o) 97 false]):=Ext.app _ _ _
 have hsG:=hs.ext hE
 generalize h++[Blk.cells (We o) 97 false]=G at c0 hE hsG ⊢
 generalize h.length=b4 at c0 ⊢
 have hEm:Ext (fun b=>b=bm) h G:=hE.mono fun _ h=>h.elim
 refine hN1 [(0,ptB bs),(1,ordV o),(2,Zx (n:Nat)),(4,ptB b4),(6,.bool false)] _ _ ?_ (by simp (maxSteps:=2000000) only [↓Za,↓Zj,↓Zr,↓Ze,↓Zi,↓Zs,↓Zf,↓Zo,↓Zg,↓Zb,↓Zc,↓vdn,vup,Zh,Zn,Zl,Zm,Zk,List.map_cons,List.map_nil,cond_true,cond_false,aop,Zv,Zq,Zp,ev,sput,Zt,Zy,Ya,unK,Zd,Zw,Nat.reduceBEq,Nat.reduceAdd,Int.reduceBEq,Int.reduceBNe,Int.reduceLT,Zu,Zz,tup,tyf])
 clear hN1
 try clear N1
 refine Yc fun N2 hN2=>?_
 simp (maxSteps:=2000000) only [s102,↓Za,↓Zj,↓Zr,↓Ze,↓Zi,↓Zs,↓Zf,↓Zo,↓Zg,↓Zb,↓Zc,↓vdn,vup,Zh,Zn,Zl,Zm,Zk,List.map_cons,List.map_nil,cond_true,cond_false,aop,Zv,Zq,Zp,ev,sput,Zt,Zy,Ya,unK,Zd,Zw,Nat.reduceBEq,Nat.reduceAdd,Int.reduceBEq,Int.reduceBNe,Int.reduceLT,Zu,Zz,tup,tyf,Yz,List.nil_append,List.append_nil,List.toList_toArray,List.cons_append,loadO c0 Xd hl.2]
 refine (Va ho).mono ?_
 rintro _ G ⟨rfl,rfl⟩
 try simp (maxSteps:=2000000) only [s102,↓Za,↓Zj,↓Zr,↓Ze,↓Zi,↓Zs,↓Zf,↓Zo,↓Zg,↓Zb,↓Zc,↓vdn,vup,Zh,Zn,Zl,Zm,Zk,List.map_cons,List.map_nil,cond_true,cond_false,aop,Zv,Zq,Zp,ev,sput,Zt,Zy,Ya,unK,Zd,Zw,Nat.reduceBEq,Nat.reduceAdd,Int.reduceBEq,Int.reduceBNe,Int.reduceLT,Zu,Zz,tup,tyf]
 refine hN2 [(0,ptB bs),(1,ordV o),(2,Zx (n:Nat)),(4,ptB b4),(6,.bool false),(7,Zx (cn o:Nat))] _ _ ?_ (by simp (maxSteps:=2000000) only [↓Za,↓Zj,↓Zr,↓Ze,↓Zi,↓Zs,↓Zf,↓Zo,↓Zg,↓Zb,↓Zc,↓vdn,vup,Zh,Zn,Zl,Zm,Zk,List.map_cons,List.map_nil,cond_true,cond_false,aop,Zv,Zq,Zp,ev,sput,Zt,Zy,Ya,unK,Zd,Zw,Nat.reduceBEq,Nat.reduceAdd,Int.reduceBEq,Int.reduceBNe,Int.reduceLT,Zu,Zz,tup,tyf])
 clear hN2
 try clear N2
 refine Yg fun C hC=>?_
 by_cases h1:cn o=1
 · have c1:(((cn o:Nat):Int)==1)=true:=by rw [h1]; rfl
   refine Yc fun N3 hN3=>?_
   simp (maxSteps:=2000000) only [s102,↓Za,↓Zj,↓Zr,↓Ze,↓Zi,↓Zs,↓Zf,↓Zo,↓Zg,↓Zb,↓Zc,↓vdn,vup,Zh,Zn,Zl,Zm,Zk,List.map_cons,List.map_nil,cond_true,cond_false,aop,Zv,Zq,Zp,ev,sput,Zt,Zy,Ya,unK,Zd,Zw,Nat.reduceBEq,Nat.reduceAdd,Int.reduceBEq,Int.reduceBNe,Int.reduceLT,Zu,Zz,tup,tyf,c1]
   refine hN3 [(0,ptB bs),(1,ordV o),(2,Zx (n:Nat)),(4,ptB b4),(6,.bool false),(7,Zx (cn o:Nat)),(23,.bool true)] _ _ ?_ (by simp (maxSteps:=2000000) only [↓Za,↓Zj,↓Zr,↓Ze,↓Zi,↓Zs,↓Zf,↓Zo,↓Zg,↓Zb,↓Zc,↓vdn,vup,Zh,Zn,Zl,Zm,Zk,List.map_cons,List.map_nil,cond_true,cond_false,aop,Zv,Zq,Zp,ev,sput,Zt,Zy,Ya,unK,Zd,Zw,Nat.reduceBEq,Nat.reduceAdd,Int.reduceBEq,Int.reduceBNe,Int.reduceLT,Zu,Zz,tup,tyf])
   clear hN3
   try clear N3
   refine Xl rfl ?_
   refine Yf ?_
   simp (maxSteps:=2000000) only [s102,↓Za,↓Zj,↓Zr,↓Ze,↓Zi,↓Zs,↓Zf,↓Zo,↓Zg,↓Zb,↓Zc,↓vdn,vup,Zh,Zn,Zl,Zm,Zk,List.map_cons,List.map_nil,cond_true,cond_false,aop,Zv,Zq,Zp,ev,sput,Zt,Zy,Ya,unK,Zd,Zw,Nat.reduceBEq,Nat.reduceAdd,Int.reduceBEq,Int.reduceBNe,Int.reduceLT,Zu,Zz,tup,tyf,c1]
   exact ⟨by rw [srtb_one h1],hsG,hEm⟩
 have c1:(((cn o:Nat):Int)==1)=false:=by
  have:((cn o:Nat):Int)≠1:=by omega
  simpa using this
 have h1b:(cn o==1)=false:=by simpa using h1
 rcases n with _ | m
 · have c2:(((0:Nat):Int)==0)=true:=rfl
   refine Yc fun N4 hN4=>?_
   simp (maxSteps:=2000000) only [s102,↓Za,↓Zj,↓Zr,↓Ze,↓Zi,↓Zs,↓Zf,↓Zo,↓Zg,↓Zb,↓Zc,↓vdn,vup,Zh,Zn,Zl,Zm,Zk,List.map_cons,List.map_nil,cond_true,cond_false,aop,Zv,Zq,Zp,ev,sput,Zt,Zy,Ya,unK,Zd,Zw,Nat.reduceBEq,Nat.reduceAdd,Int.reduceBEq,Int.reduceBNe,Int.reduceLT,Zu,Zz,tup,tyf,c1,c2]
   refine hN4 [(0,ptB bs),(1,ordV o),(2,Zx ((0:Nat):Int)),(4,ptB b4),(6,.bool false),(7,Zx (cn o:Nat)),(23,.bool true)] _ _ ?_ (by simp (maxSteps:=2000000) only [↓Za,↓Zj,↓Zr,↓Ze,↓Zi,↓Zs,↓Zf,↓Zo,↓Zg,↓Zb,↓Zc,↓vdn,vup,Zh,Zn,Zl,Zm,Zk,List.map_cons,List.map_nil,cond_true,cond_false,aop,Zv,Zq,Zp,ev,sput,Zt,Zy,Ya,unK,Zd,Zw,Nat.reduceBEq,Nat.reduceAdd,Int.reduceBEq,Int.reduceBNe,Int.reduceLT,Zu,Zz,tup,tyf])
   clear hN4
   try clear N4
   refine Xl rfl ?_
   refine Yf ?_
   simp (maxSteps:=2000000) only [s102,↓Za,↓Zj,↓Zr,↓Ze,↓Zi,↓Zs,↓Zf,↓Zo,↓Zg,↓Zb,↓Zc,↓vdn,vup,Zh,Zn,Zl,Zm,Zk,List.map_cons,List.map_nil,cond_true,cond_false,aop,Zv,Zq,Zp,ev,sput,Zt,Zy,Ya,unK,Zd,Zw,Nat.reduceBEq,Nat.reduceAdd,Int.reduceBEq,Int.reduceBNe,Int.reduceLT,Zu,Zz,tup,tyf,c1]
   exact ⟨by rw [srtb,h1b],hsG,hEm⟩
 have c2:(((m+1:Nat):Int)==0)=false:=by
  have:((m+1:Nat):Int)≠0:=by omega
  simpa using this
 have hsh:shlV .i64 1 ((m+1:Nat):Int)=((2 ^ (m+1):Nat):Int):=by rw [shl1 (by omega),pow_cast]
 have hnn:(0:Int)≤((m+1:Nat):Int):=Int.natCast_nonneg _
 have hss:=srtb_succ m o
 rw [h1b,Bool.false_or] at hss
 by_cases h2:cn o≤2 ^ (m+1)
 · have c3 : ¬ ((2 ^ (m+1):Nat):Int)<((cn o:Nat):Int):=fun h=>absurd (Int.ofNat_lt.1 h) (Nat.not_lt.2 h2)
   rw [decide_eq_true h2,Bool.true_and] at hss
   generalize ((2 ^ (m+1):Nat):Int)=pw at hsh c3
   refine Yc fun N5 hN5=>?_
   simp (maxSteps:=2000000) only [s102,↓Za,↓Zj,↓Zr,↓Ze,↓Zi,↓Zs,↓Zf,↓Zo,↓Zg,↓Zb,↓Zc,↓vdn,vup,Zh,Zn,Zl,Zm,Zk,List.map_cons,List.map_nil,cond_true,cond_false,aop,Zv,Zq,Zp,ev,sput,Zt,Zy,Ya,unK,Zd,Zw,Nat.reduceBEq,Nat.reduceAdd,Int.reduceBEq,Int.reduceBNe,Int.reduceLT,Zu,Zz,tup,tyf,c1,c2,hnn,hsh,gt_iff_lt,c3,decide_false]
   refine hN5 [(0,ptB bs),(1,ordV o),(2,Zx ((m+1:Nat):Int)),(4,ptB b4),(6,.bool false),(7,Zx (cn o:Nat)),(23,.bool false)] _ _ ?_ (by simp (maxSteps:=2000000) only [↓Za,↓Zj,↓Zr,↓Ze,↓Zi,↓Zs,↓Zf,↓Zo,↓Zg,↓Zb,↓Zc,↓vdn,vup,Zh,Zn,Zl,Zm,Zk,List.map_cons,List.map_nil,cond_true,cond_false,aop,Zv,Zq,Zp,ev,sput,Zt,Zy,Ya,unK,Zd,Zw,Nat.reduceBEq,Nat.reduceAdd,Int.reduceBEq,Int.reduceBNe,Int.reduceLT,Zu,Zz,tup,tyf])
   clear hN5
   try clear N5
   refine Xe rfl ?_
   refine Yf ?_
   try simp (maxSteps:=2000000) only [s102,↓Za,↓Zj,↓Zr,↓Ze,↓Zi,↓Zs,↓Zf,↓Zo,↓Zg,↓Zb,↓Zc,↓vdn,vup,Zh,Zn,Zl,Zm,Zk,List.map_cons,List.map_nil,cond_true,cond_false,aop,Zv,Zq,Zp,ev,sput,Zt,Zy,Ya,unK,Zd,Zw,Nat.reduceBEq,Nat.reduceAdd,Int.reduceBEq,Int.reduceBNe,Int.reduceLT,Zu,Zz,tup,tyf]
   refine hC [(0,ptB bs),(1,ordV o),(2,Zx ((m+1:Nat):Int)),(4,ptB b4),(6,.bool false),(7,Zx (cn o:Nat))] _ _ ?_ (by simp (maxSteps:=2000000) only [↓Za,↓Zj,↓Zr,↓Ze,↓Zi,↓Zs,↓Zf,↓Zo,↓Zg,↓Zb,↓Zc,↓vdn,vup,Zh,Zn,Zl,Zm,Zk,List.map_cons,List.map_nil,cond_true,cond_false,aop,Zv,Zq,Zp,ev,sput,Zt,Zy,Ya,unK,Zd,Zw,Nat.reduceBEq,Nat.reduceAdd,Int.reduceBEq,Int.reduceBNe,Int.reduceLT,Zu,Zz,tup,tyf])
   clear hC
   try clear C
   have hsG':=hsG
   obtain ⟨k1,l,k2,k3,k4⟩:=hsG'
   have hlen:=encN_len hl.2 (m+1)
   have hin:=encN_in ho (n:=m+1) (by omega)
   refine Yc fun N6 hN6=>?_
   simp only [q102_4]
   refine Xi [] (by kernel_rfl) (by kernel_rfl) (by kernel_rfl) (by kernel_rfl) ?_
   simp (maxSteps:=2000000) only [s102,↓Za,↓Zj,↓Zr,↓Ze,↓Zi,↓Zs,↓Zf,↓Zo,↓Zg,↓Zb,↓Zc,↓vdn,vup,Zh,Zn,Zl,Zm,Zk,List.map_cons,List.map_nil,cond_true,cond_false,aop,Zv,Zq,Zp,ev,sput,Zt,Zy,Ya,unK,Zd,Zw,Nat.reduceBEq,Nat.reduceAdd,Int.reduceBEq,Int.reduceBNe,Int.reduceLT,Zu,Zz,tup,tyf,↓Vn,↓Wp,nilK,fldA fld_103_0 esz_101,Xb k1 shp_101,loadO c0 Xd hl.2,bldT hl.2]
   refine lookupA k2 und_101 keyT_136 zvB k3 (Xv _) hlen hin ?_
   cases ha:aget (encN o (m+1)) l with
   | some v =>
     have hv:=k4 o (m+1) v ho ha
     simp (maxSteps:=2000000) only [s102,↓Za,↓Zj,↓Zr,↓Ze,↓Zi,↓Zs,↓Zf,↓Zo,↓Zg,↓Zb,↓Zc,↓vdn,vup,Zh,Zn,Zl,Zm,Zk,List.map_cons,List.map_nil,cond_true,cond_false,aop,Zv,Zq,Zp,ev,sput,Zt,Zy,Ya,unK,Zd,Zw,Nat.reduceBEq,Nat.reduceAdd,Int.reduceBEq,Int.reduceBNe,Int.reduceLT,Zu,Zz,tup,tyf,Option.map_some,Option.getD_some,Option.isSome_some]
     refine hN6 [(0,ptB bs),(1,ordV o),(2,Zx ((m+1:Nat):Int)),(4,ptB b4),(6,.bool false),(7,Zx (cn o:Nat)),(8,.bool v),(9,.bool true)] _ _ ?_ (by simp (maxSteps:=2000000) only [↓Za,↓Zj,↓Zr,↓Ze,↓Zi,↓Zs,↓Zf,↓Zo,↓Zg,↓Zb,↓Zc,↓vdn,vup,Zh,Zn,Zl,Zm,Zk,List.map_cons,List.map_nil,cond_true,cond_false,aop,Zv,Zq,Zp,ev,sput,Zt,Zy,Ya,unK,Zd,Zw,Nat.reduceBEq,Nat.reduceAdd,Int.reduceBEq,Int.reduceBNe,Int.reduceLT,Zu,Zz,tup,tyf])
     clear hN6
     try clear N6
     refine Yg fun D hD=>?_
     refine Yc fun N7 hN7=>?_
     simp (maxSteps:=2000000) only [s102,↓Za,↓Zj,↓Zr,↓Ze,↓Zi,↓Zs,↓Zf,↓Zo,↓Zg,↓Zb,↓Zc,↓vdn,vup,Zh,Zn,Zl,Zm,Zk,List.map_cons,List.map_nil,cond_true,cond_false,aop,Zv,Zq,Zp,ev,sput,Zt,Zy,Ya,unK,Zd,Zw,Nat.reduceBEq,Nat.reduceAdd,Int.reduceBEq,Int.reduceBNe,Int.reduceLT,Zu,Zz,tup,tyf]
     refine hN7 [(0,ptB bs),(1,ordV o),(2,Zx ((m+1:Nat):Int)),(4,ptB b4),(6,.bool false),(7,Zx (cn o:Nat)),(8,.bool v),(9,.bool true),(38,.bool false)] _ _ ?_ (by simp (maxSteps:=2000000) only [↓Za,↓Zj,↓Zr,↓Ze,↓Zi,↓Zs,↓Zf,↓Zo,↓Zg,↓Zb,↓Zc,↓vdn,vup,Zh,Zn,Zl,Zm,Zk,List.map_cons,List.map_nil,cond_true,cond_false,aop,Zv,Zq,Zp,ev,sput,Zt,Zy,Ya,unK,Zd,Zw,Nat.reduceBEq,Nat.reduceAdd,Int.reduceBEq,Int.reduceBNe,Int.reduceLT,Zu,Zz,tup,tyf])
     clear hN7
     try clear N7
     refine Xe rfl ?_
     refine Yf ?_
     try simp (maxSteps:=2000000) only [s102,↓Za,↓Zj,↓Zr,↓Ze,↓Zi,↓Zs,↓Zf,↓Zo,↓Zg,↓Zb,↓Zc,↓vdn,vup,Zh,Zn,Zl,Zm,Zk,List.map_cons,List.map_nil,cond_true,cond_false,aop,Zv,Zq,Zp,ev,sput,Zt,Zy,Ya,unK,Zd,Zw,Nat.reduceBEq,Nat.reduceAdd,Int.reduceBEq,Int.reduceBNe,Int.reduceLT,Zu,Zz,tup,tyf]
     refine hD [(0,ptB bs),(1,ordV o),(2,Zx ((m+1:Nat):Int)),(4,ptB b4),(6,.bool false),(7,Zx (cn o:Nat)),(8,.bool v),(9,.bool true),(38,.bool false)] _ _ ?_ (by simp (maxSteps:=2000000) only [↓Za,↓Zj,↓Zr,↓Ze,↓Zi,↓Zs,↓Zf,↓Zo,↓Zg,↓Zb,↓Zc,↓vdn,vup,Zh,Zn,Zl,Zm,Zk,List.map_cons,List.map_nil,cond_true,cond_false,aop,Zv,Zq,Zp,ev,sput,Zt,Zy,Ya,unK,Zd,Zw,Nat.reduceBEq,Nat.reduceAdd,Int.reduceBEq,Int.reduceBNe,Int.reduceLT,Zu,Zz,tup,tyf])
     clear hD
     try clear D
     refine Yf ?_
     try simp (maxSteps:=2000000) only [s102,↓Za,↓Zj,↓Zr,↓Ze,↓Zi,↓Zs,↓Zf,↓Zo,↓Zg,↓Zb,↓Zc,↓vdn,vup,Zh,Zn,Zl,Zm,Zk,List.map_cons,List.map_nil,cond_true,cond_false,aop,Zv,Zq,Zp,ev,sput,Zt,Zy,Ya,unK,Zd,Zw,Nat.reduceBEq,Nat.reduceAdd,Int.reduceBEq,Int.reduceBNe,Int.reduceLT,Zu,Zz,tup,tyf]
     exact ⟨by rw [hv],hsG,hEm⟩
   | none =>
     simp (maxSteps:=2000000) only [s102,↓Za,↓Zj,↓Zr,↓Ze,↓Zi,↓Zs,↓Zf,↓Zo,↓Zg,↓Zb,↓Zc,↓vdn,vup,Zh,Zn,Zl,Zm,Zk,List.map_cons,List.map_nil,cond_true,cond_false,aop,Zv,Zq,Zp,ev,sput,Zt,Zy,Ya,unK,Zd,Zw,Nat.reduceBEq,Nat.reduceAdd,Int.reduceBEq,Int.reduceBNe,Int.reduceLT,Zu,Zz,tup,tyf,Option.map_none,Option.getD_none,Option.isSome_none]
     refine hN6 [(0,ptB bs),(1,ordV o),(2,Zx ((m+1:Nat):Int)),(4,ptB b4),(6,.bool false),(7,Zx (cn o:Nat)),(8,.bool false),(9,.bool false)] _ _ ?_ (by simp (maxSteps:=2000000) only [↓Za,↓Zj,↓Zr,↓Ze,↓Zi,↓Zs,↓Zf,↓Zo,↓Zg,↓Zb,↓Zc,↓vdn,vup,Zh,Zn,Zl,Zm,Zk,List.map_cons,List.map_nil,cond_true,cond_false,aop,Zv,Zq,Zp,ev,sput,Zt,Zy,Ya,unK,Zd,Zw,Nat.reduceBEq,Nat.reduceAdd,Int.reduceBEq,Int.reduceBNe,Int.reduceLT,Zu,Zz,tup,tyf])
     clear hN6
     try clear N6
     refine Yg fun D hD=>?_
     refine Yc fun N8 hN8=>?_
     simp (maxSteps:=2000000) only [s102,↓Za,↓Zj,↓Zr,↓Ze,↓Zi,↓Zs,↓Zf,↓Zo,↓Zg,↓Zb,↓Zc,↓vdn,vup,Zh,Zn,Zl,Zm,Zk,List.map_cons,List.map_nil,cond_true,cond_false,aop,Zv,Zq,Zp,ev,sput,Zt,Zy,Ya,unK,Zd,Zw,Nat.reduceBEq,Nat.reduceAdd,Int.reduceBEq,Int.reduceBNe,Int.reduceLT,Zu,Zz,tup,tyf]
     refine hN8 [(0,ptB bs),(1,ordV o),(2,Zx ((m+1:Nat):Int)),(4,ptB b4),(6,.bool false),(7,Zx (cn o:Nat)),(8,.bool false),(9,.bool false),(38,.bool true)] _ _ ?_ (by simp (maxSteps:=2000000) only [↓Za,↓Zj,↓Zr,↓Ze,↓Zi,↓Zs,↓Zf,↓Zo,↓Zg,↓Zb,↓Zc,↓vdn,vup,Zh,Zn,Zl,Zm,Zk,List.map_cons,List.map_nil,cond_true,cond_false,aop,Zv,Zq,Zp,ev,sput,Zt,Zy,Ya,unK,Zd,Zw,Nat.reduceBEq,Nat.reduceAdd,Int.reduceBEq,Int.reduceBNe,Int.reduceLT,Zu,Zz,tup,tyf])
     clear hN8
     try clear N8
     refine Xl rfl ?_
     refine Yc fun N9 hN9=>?_
     simp (maxSteps:=2000000) only [s102,↓Za,↓Zj,↓Zr,↓Ze,↓Zi,↓Zs,↓Zf,↓Zo,↓Zg,↓Zb,↓Zc,↓vdn,vup,Zh,Zn,Zl,Zm,Zk,List.map_cons,List.map_nil,cond_true,cond_false,aop,Zv,Zq,Zp,ev,sput,Zt,Zy,Ya,unK,Zd,Zw,Nat.reduceBEq,Nat.reduceAdd,Int.reduceBEq,Int.reduceBNe,Int.reduceLT,Zu,Zz,tup,tyf,Yz,List.nil_append,List.append_nil,List.toList_toArray,List.cons_append,loadO c0 Xd hl.2]
     refine (pair_call (ih m rfl) (by omega) ho (by have:=cn_pos ho; omega) hsG).mono ?_
     rintro r G2 ⟨hs2,hE2,hr⟩
     obtain ⟨p,rfl⟩ : ∃ p,r = .tuple #[pV p,.bool (srtb (m+1) o)]:=by
      rw [hss]
      rcases hr with ⟨i,j,r1,r2,r3,r4,rfl⟩ | ⟨r1,p,rfl⟩
      · exact ⟨_,by rw [pairB_true r1 r2 r3 r4]⟩
      · exact ⟨p,by rw [r1]⟩
     try simp (maxSteps:=2000000) only [s102,↓Za,↓Zj,↓Zr,↓Ze,↓Zi,↓Zs,↓Zf,↓Zo,↓Zg,↓Zb,↓Zc,↓vdn,vup,Zh,Zn,Zl,Zm,Zk,List.map_cons,List.map_nil,cond_true,cond_false,aop,Zv,Zq,Zp,ev,sput,Zt,Zy,Ya,unK,Zd,Zw,Nat.reduceBEq,Nat.reduceAdd,Int.reduceBEq,Int.reduceBNe,Int.reduceLT,Zu,Zz,tup,tyf]
     refine hN9 [(0,ptB bs),(1,ordV o),(2,Zx ((m+1:Nat):Int)),(4,ptB b4),(6,.bool false),(7,Zx (cn o:Nat)),(8,.bool (srtb (m+1) o)),(9,.bool false)] _ _ ?_ (by simp (maxSteps:=2000000) only [↓Za,↓Zj,↓Zr,↓Ze,↓Zi,↓Zs,↓Zf,↓Zo,↓Zg,↓Zb,↓Zc,↓vdn,vup,Zh,Zn,Zl,Zm,Zk,List.map_cons,List.map_nil,cond_true,cond_false,aop,Zv,Zq,Zp,ev,sput,Zt,Zy,Ya,unK,Zd,Zw,Nat.reduceBEq,Nat.reduceAdd,Int.reduceBEq,Int.reduceBNe,Int.reduceLT,Zu,Zz,tup,tyf])
     clear hN9
     try clear N9
     have g0:=(hE2.2 _ (Yu c0) (hsG.ne c0)).trans c0
     obtain ⟨j1,l2,j2,j3,j4⟩:=hs2
     refine Yf ?_
     simp only [q102_7]
     refine Xi [] (by kernel_rfl) (by kernel_rfl) (by kernel_rfl) (by kernel_rfl) ?_
     simp (maxSteps:=2000000) only [s102,↓Za,↓Zj,↓Zr,↓Ze,↓Zi,↓Zs,↓Zf,↓Zo,↓Zg,↓Zb,↓Zc,↓vdn,vup,Zh,Zn,Zl,Zm,Zk,List.map_cons,List.map_nil,cond_true,cond_false,aop,Zv,Zq,Zp,ev,sput,Zt,Zy,Ya,unK,Zd,Zw,Nat.reduceBEq,Nat.reduceAdd,Int.reduceBEq,Int.reduceBNe,Int.reduceLT,Zu,Zz,tup,tyf,↓Vn,↓Wp,nilK,fldA fld_103_0 esz_101,Xb j1 shp_101,loadO g0 Xd hl.2,bldT hl.2]
     refine updateA (f:=Value.bool) j2 und_101 keyT_136 j3 (Xv _) hlen hin ?_
     have hsk:=SK.put ho (n:=m+1) (by omega) j1 j2 j3 j4
     try simp (maxSteps:=2000000) only [s102,↓Za,↓Zj,↓Zr,↓Ze,↓Zi,↓Zs,↓Zf,↓Zo,↓Zg,↓Zb,↓Zc,↓vdn,vup,Zh,Zn,Zl,Zm,Zk,List.map_cons,List.map_nil,cond_true,cond_false,aop,Zv,Zq,Zp,ev,sput,Zt,Zy,Ya,unK,Zd,Zw,Nat.reduceBEq,Nat.reduceAdd,Int.reduceBEq,Int.reduceBNe,Int.reduceLT,Zu,Zz,tup,tyf]
     refine hD [(0,ptB bs),(1,ordV o),(2,Zx ((m+1:Nat):Int)),(4,ptB b4),(6,.bool false),(7,Zx (cn o:Nat)),(8,.bool (srtb (m+1) o)),(9,.bool false)] _ _ ?_ (by simp (maxSteps:=2000000) only [↓Za,↓Zj,↓Zr,↓Ze,↓Zi,↓Zs,↓Zf,↓Zo,↓Zg,↓Zb,↓Zc,↓vdn,vup,Zh,Zn,Zl,Zm,Zk,List.map_cons,List.map_nil,cond_true,cond_false,aop,Zv,Zq,Zp,ev,sput,Zt,Zy,Ya,unK,Zd,Zw,Nat.reduceBEq,Nat.reduceAdd,Int.reduceBEq,Int.reduceBNe,Int.reduceLT,Zu,Zz,tup,tyf])
     clear hD
     try clear D
     refine Yf ?_
     try simp (maxSteps:=2000000) only [s102,↓Za,↓Zj,↓Zr,↓Ze,↓Zi,↓Zs,↓Zf,↓Zo,↓Zg,↓Zb,↓Zc,↓vdn,vup,Zh,Zn,Zl,Zm,Zk,List.map_cons,List.map_nil,cond_true,cond_false,aop,Zv,Zq,Zp,ev,sput,Zt,Zy,Ya,unK,Zd,Zw,Nat.reduceBEq,Nat.reduceAdd,Int.reduceBEq,Int.reduceBNe,Int.reduceLT,Zu,Zz,tup,tyf]
     exact ⟨hsk,(hEm.trans hE2).trans (Ext.set _ rfl)⟩
 · have c3:((2 ^ (m+1):Nat):Int)<((cn o:Nat):Int):=Int.ofNat_lt.2 (Nat.not_le.1 h2)
   rw [decide_eq_false h2,Bool.false_and] at hss
   generalize ((2 ^ (m+1):Nat):Int)=pw at hsh c3
   refine Yc fun N10 hN10=>?_
   simp (maxSteps:=2000000) only [s102,↓Za,↓Zj,↓Zr,↓Ze,↓Zi,↓Zs,↓Zf,↓Zo,↓Zg,↓Zb,↓Zc,↓vdn,vup,Zh,Zn,Zl,Zm,Zk,List.map_cons,List.map_nil,cond_true,cond_false,aop,Zv,Zq,Zp,ev,sput,Zt,Zy,Ya,unK,Zd,Zw,Nat.reduceBEq,Nat.reduceAdd,Int.reduceBEq,Int.reduceBNe,Int.reduceLT,Zu,Zz,tup,tyf,c1,c2,hnn,hsh,gt_iff_lt,c3,decide_true]
   refine hN10 [(0,ptB bs),(1,ordV o),(2,Zx ((m+1:Nat):Int)),(4,ptB b4),(6,.bool false),(7,Zx (cn o:Nat)),(23,.bool true)] _ _ ?_ (by simp (maxSteps:=2000000) only [↓Za,↓Zj,↓Zr,↓Ze,↓Zi,↓Zs,↓Zf,↓Zo,↓Zg,↓Zb,↓Zc,↓vdn,vup,Zh,Zn,Zl,Zm,Zk,List.map_cons,List.map_nil,cond_true,cond_false,aop,Zv,Zq,Zp,ev,sput,Zt,Zy,Ya,unK,Zd,Zw,Nat.reduceBEq,Nat.reduceAdd,Int.reduceBEq,Int.reduceBNe,Int.reduceLT,Zu,Zz,tup,tyf])
   clear hN10
   try clear N10
   refine Xl rfl ?_
   refine Yf ?_
   simp (maxSteps:=2000000) only [s102,↓Za,↓Zj,↓Zr,↓Ze,↓Zi,↓Zs,↓Zf,↓Zo,↓Zg,↓Zb,↓Zc,↓vdn,vup,Zh,Zn,Zl,Zm,Zk,List.map_cons,List.map_nil,cond_true,cond_false,aop,Zv,Zq,Zp,ev,sput,Zt,Zy,Ya,unK,Zd,Zw,Nat.reduceBEq,Nat.reduceAdd,Int.reduceBEq,Int.reduceBNe,Int.reduceLT,Zu,Zz,tup,tyf,c1]
   exact ⟨by rw [hss],hsG,hEm⟩
theorem sorts_call [BitTab prog 0] {bs bm:Nat} : ∀ n,n≤60→SortsOK bs bm n
 | 0,hn=>sorts_step hn fun m h=>by cases h
 | n+1,hn=>sorts_step hn fun m h=>by cases h; exact sorts_call n (by omega)
def needN (o:List Int):Nat:=((List.range 16).find? fun n=>srtb n o).getD 0
theorem prs_len : ∀ n,n<7→(prsN n).length≤15:=by decide
theorem srtb_15 {o:List Int} (ho:ord o=true):srtb 15 o=true :=
 srtb_free 15 o ho (Nat.le_trans List.countP_le_length (prs_len _ (by have:=Xq ho; omega)))
theorem needN_of {o:List Int} {n:Nat} (hn:n<16) (h:srtb n o=true) (h0 : ∀ k,k<n→srtb k o=false):needN o=n:=by
 have:(List.range 16).find? (fun n=>srtb n o)=some n:=by
  rw [List.find?_range_eq_some]
  exact ⟨h,List.mem_range.2 hn,fun k hk=>by rw [h0 k hk]; rfl⟩
 rw [needN,this]; rfl
theorem s55_callW [Tabs Tryd.prog] {args:List Value} {h:Yb} {Q:Value→Yb→Prop} (hsz:args.length≤19) (hk:AWS Tryd.prog 19 s55 (Zu Tryd.prog [.tmp 4] Q) (Zp 0 args) h):ACall Tryd.prog 55 args h Q :=
 Xy Tryd.func55 rfl (enters_of Tryd.func55 (by kernel_rfl) rfl) rfl rfl (by decide) s55_strip s55_ok hsz hk
theorem need_call [BitTab prog 0] {bs bm:Nat} {h:Yb} {o:List Int} (ho:ord o=true) (hs:SK bs bm h) :
  ACall prog 55 [ptB bs,ordV o] h fun r h'=>r=Zx (needN o)∧SK bs bm h'∧Ext (fun b=>b=bm) h h':=by
 have hl:=Xq ho
 have hcn:=cn_le ho
 have hc0:=cn_pos ho
 have hsub:subV .i64 ((cn o:Nat):Int) 1=((cn o-1:Nat):Int):=by rw [subV_id (by omega) (by omega)]; omega
 have hw:IntKind.u64.wrap ((cn o-1:Nat):Int)=((cn o-1:Nat):Int):=wrapU_id (by omega) (by omega)
 refine s55_callW (by simp) ?_
 simp only [s55]
 refine Yc fun N11 hN11=>?_
 simp (maxSteps:=2000000) only [s55,↓Za,↓Zj,↓Zr,↓Ze,↓Zi,↓Zs,↓Zf,↓Zo,↓Zg,↓Zb,↓Zc,↓vdn,vup,Zh,Zn,Zl,Zm,Zk,List.map_cons,List.map_nil,cond_true,cond_false,aop,Zv,Zq,Zp,ev,sput,Zt,Zy,Ya,unK,Zd,Zw,Nat.reduceBEq,Nat.reduceAdd,Int.reduceBEq,Int.reduceBNe,Int.reduceLT,Zu,Zz,tup,tyf,boxO esz_97,Xh]
 have c0:=Yt h (Blk.cells (We o) 97 false)
 have hE:Ext (fun _=>False) h (h++[Blk.cells (We o) 97 false]):=Ext.app _ _ _
 have hsG:=hs.ext hE
 generalize h++[Blk.cells (We o) 97 false]=G at c0 hE hsG ⊢
 generalize h.length=b3 at c0 ⊢
 have hEm:Ext (fun b=>b=bm) h G:=hE.mono fun _ h=>h.elim
 refine hN11 [(0,ptB bs),(1,ordV o),(3,ptB b3),(4,.int .i64 0)] _ _ ?_ (by simp (maxSteps:=2000000) only [↓Za,↓Zj,↓Zr,↓Ze,↓Zi,↓Zs,↓Zf,↓Zo,↓Zg,↓Zb,↓Zc,↓vdn,vup,Zh,Zn,Zl,Zm,Zk,List.map_cons,List.map_nil,cond_true,cond_false,aop,Zv,Zq,Zp,ev,sput,Zt,Zy,Ya,unK,Zd,Zw,Nat.reduceBEq,Nat.reduceAdd,Int.reduceBEq,Int.reduceBNe,Int.reduceLT,Zu,Zz,tup,tyf])
 clear hN11
 try clear N11
 refine Yc fun N12 hN12=>?_
 refine Xo 2 fun N1 hN1=>?_
 simp (maxSteps:=2000000) only [s55,↓Za,↓Zj,↓Zr,↓Ze,↓Zi,↓Zs,↓Zf,↓Zo,↓Zg,↓Zb,↓Zc,↓vdn,vup,Zh,Zn,Zl,Zm,Zk,List.map_cons,List.map_nil,cond_true,cond_false,aop,Zv,Zq,Zp,ev,sput,Zt,Zy,Ya,unK,Zd,Zw,Nat.reduceBEq,Nat.reduceAdd,Int.reduceBEq,Int.reduceBNe,Int.reduceLT,Zu,Zz,tup,tyf,Yz,List.nil_append,List.append_nil,List.toList_toArray,List.cons_append,List.take_succ_cons,List.take_zero,loadO c0 Xd hl.2]
 refine (Va ho).mono ?_
 rintro _ G ⟨rfl,rfl⟩
 refine hN1 _ _ ?_
 clear hN1 N1
 simp only [List.drop_succ_cons,List.drop_zero]
 simp (maxSteps:=2000000) only [s55,↓Za,↓Zj,↓Zr,↓Ze,↓Zi,↓Zs,↓Zf,↓Zo,↓Zg,↓Zb,↓Zc,↓vdn,vup,Zh,Zn,Zl,Zm,Zk,List.map_cons,List.map_nil,cond_true,cond_false,aop,Zv,Zq,Zp,ev,sput,Zt,Zy,Ya,unK,Zd,Zw,Nat.reduceBEq,Nat.reduceAdd,Int.reduceBEq,Int.reduceBNe,Int.reduceLT,Zu,Zz,tup,tyf,Yz,List.nil_append,List.append_nil,List.toList_toArray,List.cons_append,hsub,convK,und_3,und_57,hw]
 refine (lenv_call (show cn o-1<65536 by omega)).mono ?_
 rintro _ G ⟨⟨z,hz,rfl⟩,rfl⟩
 try simp (maxSteps:=2000000) only [s55,↓Za,↓Zj,↓Zr,↓Ze,↓Zi,↓Zs,↓Zf,↓Zo,↓Zg,↓Zb,↓Zc,↓vdn,vup,Zh,Zn,Zl,Zm,Zk,List.map_cons,List.map_nil,cond_true,cond_false,aop,Zv,Zq,Zp,ev,sput,Zt,Zy,Ya,unK,Zd,Zw,Nat.reduceBEq,Nat.reduceAdd,Int.reduceBEq,Int.reduceBNe,Int.reduceLT,Zu,Zz,tup,tyf]
 refine hN12 [(0,ptB bs),(1,ordV o),(3,ptB b3),(4,.int .i64 0),(5,Zx (z:Nat))] _ _ ?_ (by simp (maxSteps:=2000000) only [↓Za,↓Zj,↓Zr,↓Ze,↓Zi,↓Zs,↓Zf,↓Zo,↓Zg,↓Zb,↓Zc,↓vdn,vup,Zh,Zn,Zl,Zm,Zk,List.map_cons,List.map_nil,cond_true,cond_false,aop,Zv,Zq,Zp,ev,sput,Zt,Zy,Ya,unK,Zd,Zw,Nat.reduceBEq,Nat.reduceAdd,Int.reduceBEq,Int.reduceBNe,Int.reduceLT,Zu,Zz,tup,tyf])
 clear hN12
 try clear N12
 refine Yg fun M hM=>?_
 refine Yo ?_
 refine Yn fun Q hQ=>?_
 refine Xx (γ:=Nat×Yb) (fun s=>(∀ k,k<s.1→srtb k o=false)∧s.1≤16∧SK bs bm s.2∧Ext (fun b=>b=bm) G s.2)
  (fun s=>([(0,ptB bs),(1,ordV o),(3,ptB b3),(4,.int .i64 0),(5,Zx (s.1:Nat))],s.2)) (fun s=>17-s.1) (z,_) ⟨fun k hk=>?_,hz.1,hsG,Ext.refl _ _⟩ (by simp (maxSteps:=2000000) only [↓Za,↓Zj,↓Zr,↓Ze,↓Zi,↓Zs,↓Zf,↓Zo,↓Zg,↓Zb,↓Zc,↓vdn,vup,Zh,Zn,Zl,Zm,Zk,List.map_cons,List.map_nil,cond_true,cond_false,aop,Zv,Zq,Zp,ev,sput,Zt,Zy,Ya,unK,Zd,Zw,Nat.reduceBEq,Nat.reduceAdd,Int.reduceBEq,Int.reduceBNe,Int.reduceLT,Zu,Zz,tup,tyf]) rfl ?_
 · cases hb:srtb k o with
   | false=>rfl
   | true =>
     have h1:=srtb_cn hb
     have:=hz.2 k (Nat.lt_of_lt_of_le (Nat.sub_lt hc0 Nat.one_pos) h1)
     omega
 rintro ⟨n,H⟩ ⟨h0,hn,hsH,hEH⟩
 simp only at h0 hn hsH hEH
 refine Yn fun Q2 hQ2=>?_
 simp only [l55_0]
 have cH:=(hEH.2 _ (Yu c0) (hsG.ne c0)).trans c0
 refine Yg fun C hC=>?_
 refine Yc fun N13 hN13=>?_
 simp (maxSteps:=2000000) only [s55,↓Za,↓Zj,↓Zr,↓Ze,↓Zi,↓Zs,↓Zf,↓Zo,↓Zg,↓Zb,↓Zc,↓vdn,vup,Zh,Zn,Zl,Zm,Zk,List.map_cons,List.map_nil,cond_true,cond_false,aop,Zv,Zq,Zp,ev,sput,Zt,Zy,Ya,unK,Zd,Zw,Nat.reduceBEq,Nat.reduceAdd,Int.reduceBEq,Int.reduceBNe,Int.reduceLT,Zu,Zz,tup,tyf,Yz,List.nil_append,List.append_nil,List.toList_toArray,List.cons_append,loadO cH Xd hl.2]
 refine (sorts_call n (by omega) H o ho hsH).mono ?_
 rintro _ H2 ⟨rfl,hs2,hE2⟩
 cases hb:srtb n o with
 | true =>
   try simp (maxSteps:=2000000) only [s55,↓Za,↓Zj,↓Zr,↓Ze,↓Zi,↓Zs,↓Zf,↓Zo,↓Zg,↓Zb,↓Zc,↓vdn,vup,Zh,Zn,Zl,Zm,Zk,List.map_cons,List.map_nil,cond_true,cond_false,aop,Zv,Zq,Zp,ev,sput,Zt,Zy,Ya,unK,Zd,Zw,Nat.reduceBEq,Nat.reduceAdd,Int.reduceBEq,Int.reduceBNe,Int.reduceLT,Zu,Zz,tup,tyf]
   refine hN13 [(0,ptB bs),(1,ordV o),(3,ptB b3),(4,.int .i64 0),(5,Zx (n:Nat)),(15,.bool false)] _ _ ?_ (by simp (maxSteps:=2000000) only [↓Za,↓Zj,↓Zr,↓Ze,↓Zi,↓Zs,↓Zf,↓Zo,↓Zg,↓Zb,↓Zc,↓vdn,vup,Zh,Zn,Zl,Zm,Zk,List.map_cons,List.map_nil,cond_true,cond_false,aop,Zv,Zq,Zp,ev,sput,Zt,Zy,Ya,unK,Zd,Zw,Nat.reduceBEq,Nat.reduceAdd,Int.reduceBEq,Int.reduceBNe,Int.reduceLT,Zu,Zz,tup,tyf])
   clear hN13
   try clear N13
   refine Xe rfl ?_
   refine Yf ?_
   try simp (maxSteps:=2000000) only [s55,↓Za,↓Zj,↓Zr,↓Ze,↓Zi,↓Zs,↓Zf,↓Zo,↓Zg,↓Zb,↓Zc,↓vdn,vup,Zh,Zn,Zl,Zm,Zk,List.map_cons,List.map_nil,cond_true,cond_false,aop,Zv,Zq,Zp,ev,sput,Zt,Zy,Ya,unK,Zd,Zw,Nat.reduceBEq,Nat.reduceAdd,Int.reduceBEq,Int.reduceBNe,Int.reduceLT,Zu,Zz,tup,tyf]
   refine hQ2 _ _ _ (hQ _ _ _ ?_)
   simp (maxSteps:=2000000) only [s55,↓Za,↓Zj,↓Zr,↓Ze,↓Zi,↓Zs,↓Zf,↓Zo,↓Zg,↓Zb,↓Zc,↓vdn,vup,Zh,Zn,Zl,Zm,Zk,List.map_cons,List.map_nil,cond_true,cond_false,aop,Zv,Zq,Zp,ev,sput,Zt,Zy,Ya,unK,Zd,Zw,Nat.reduceBEq,Nat.reduceAdd,Int.reduceBEq,Int.reduceBNe,Int.reduceLT,Zu,Zz,tup,tyf,if_true]
   refine hM [(0,ptB bs),(1,ordV o),(3,ptB b3),(4,.int .i64 0),(5,Zx (n:Nat)),(15,.bool false)] _ _ ?_ (by simp (maxSteps:=2000000) only [↓Za,↓Zj,↓Zr,↓Ze,↓Zi,↓Zs,↓Zf,↓Zo,↓Zg,↓Zb,↓Zc,↓vdn,vup,Zh,Zn,Zl,Zm,Zk,List.map_cons,List.map_nil,cond_true,cond_false,aop,Zv,Zq,Zp,ev,sput,Zt,Zy,Ya,unK,Zd,Zw,Nat.reduceBEq,Nat.reduceAdd,Int.reduceBEq,Int.reduceBNe,Int.reduceLT,Zu,Zz,tup,tyf])
   clear hM
   try clear M
   refine Yf ?_
   try simp (maxSteps:=2000000) only [s55,↓Za,↓Zj,↓Zr,↓Ze,↓Zi,↓Zs,↓Zf,↓Zo,↓Zg,↓Zb,↓Zc,↓vdn,vup,Zh,Zn,Zl,Zm,Zk,List.map_cons,List.map_nil,cond_true,cond_false,aop,Zv,Zq,Zp,ev,sput,Zt,Zy,Ya,unK,Zd,Zw,Nat.reduceBEq,Nat.reduceAdd,Int.reduceBEq,Int.reduceBNe,Int.reduceLT,Zu,Zz,tup,tyf]
   have hn16:n<16:=by
    apply Classical.byContradiction
    intro hc
    have:=h0 15 (by omega)
    rw [srtb_15 ho] at this; cases this
   exact ⟨by rw [needN_of hn16 hb h0],hs2,(hEm.trans hEH).trans hE2⟩
 | false =>
   have hn15:n<15:=by
    apply Classical.byContradiction
    intro hc
    by_cases he:n=15
    · rw [he,srtb_15 ho] at hb; cases hb
    · have:=h0 15 (by omega)
      rw [srtb_15 ho] at this; cases this
   try simp (maxSteps:=2000000) only [s55,↓Za,↓Zj,↓Zr,↓Ze,↓Zi,↓Zs,↓Zf,↓Zo,↓Zg,↓Zb,↓Zc,↓vdn,vup,Zh,Zn,Zl,Zm,Zk,List.map_cons,List.map_nil,cond_true,cond_false,aop,Zv,Zq,Zp,ev,sput,Zt,Zy,Ya,unK,Zd,Zw,Nat.reduceBEq,Nat.reduceAdd,Int.reduceBEq,Int.reduceBNe,Int.reduceLT,Zu,Zz,tup,tyf]
   refine hN13 [(0,ptB bs),(1,ordV o),(3,ptB b3),(4,.int .i64 0),(5,Zx (n:Nat)),(15,.bool true)] _ _ ?_ (by simp (maxSteps:=2000000) only [↓Za,↓Zj,↓Zr,↓Ze,↓Zi,↓Zs,↓Zf,↓Zo,↓Zg,↓Zb,↓Zc,↓vdn,vup,Zh,Zn,Zl,Zm,Zk,List.map_cons,List.map_nil,cond_true,cond_false,aop,Zv,Zq,Zp,ev,sput,Zt,Zy,Ya,unK,Zd,Zw,Nat.reduceBEq,Nat.reduceAdd,Int.reduceBEq,Int.reduceBNe,Int.reduceLT,Zu,Zz,tup,tyf])
   clear hN13
   try clear N13
   refine Xl rfl ?_
   refine Yf ?_
   try simp (maxSteps:=2000000) only [s55,↓Za,↓Zj,↓Zr,↓Ze,↓Zi,↓Zs,↓Zf,↓Zo,↓Zg,↓Zb,↓Zc,↓vdn,vup,Zh,Zn,Zl,Zm,Zk,List.map_cons,List.map_nil,cond_true,cond_false,aop,Zv,Zq,Zp,ev,sput,Zt,Zy,Ya,unK,Zd,Zw,Nat.reduceBEq,Nat.reduceAdd,Int.reduceBEq,Int.reduceBNe,Int.reduceLT,Zu,Zz,tup,tyf]
   refine hC [(0,ptB bs),(1,ordV o),(3,ptB b3),(4,.int .i64 0),(5,Zx (n:Nat))] _ _ ?_ (by simp (maxSteps:=2000000) only [↓Za,↓Zj,↓Zr,↓Ze,↓Zi,↓Zs,↓Zf,↓Zo,↓Zg,↓Zb,↓Zc,↓vdn,vup,Zh,Zn,Zl,Zm,Zk,List.map_cons,List.map_nil,cond_true,cond_false,aop,Zv,Zq,Zp,ev,sput,Zt,Zy,Ya,unK,Zd,Zw,Nat.reduceBEq,Nat.reduceAdd,Int.reduceBEq,Int.reduceBNe,Int.reduceLT,Zu,Zz,tup,tyf])
   clear hC
   try clear C
   refine Yo ?_
   refine Yf ?_
   simp (maxSteps:=2000000) only [s55,↓Za,↓Zj,↓Zr,↓Ze,↓Zi,↓Zs,↓Zf,↓Zo,↓Zg,↓Zb,↓Zc,↓vdn,vup,Zh,Zn,Zl,Zm,Zk,List.map_cons,List.map_nil,cond_true,cond_false,aop,Zv,Zq,Zp,ev,sput,Zt,Zy,Ya,unK,Zd,Zw,Nat.reduceBEq,Nat.reduceAdd,Int.reduceBEq,Int.reduceBNe,Int.reduceLT,Zu,Zz,tup,tyf,add1 (show n<9223372036854775807 by omega)]
   refine hQ2 _ _ _ ⟨(n+1,H2),⟨fun k hk=>?_,by simp only; omega,hs2,hEH.trans hE2⟩,by simp only; omega,by simp (maxSteps:=2000000) only [↓Za,↓Zj,↓Zr,↓Ze,↓Zi,↓Zs,↓Zf,↓Zo,↓Zg,↓Zb,↓Zc,↓vdn,vup,Zh,Zn,Zl,Zm,Zk,List.map_cons,List.map_nil,cond_true,cond_false,aop,Zv,Zq,Zp,ev,sput,Zt,Zy,Ya,unK,Zd,Zw,Nat.reduceBEq,Nat.reduceAdd,Int.reduceBEq,Int.reduceBNe,Int.reduceLT,Zu,Zz,tup,tyf],rfl⟩
   by_cases he:k=n
   · rw [he]; exact hb
   · exact h0 k (by simp only at hk; omega)
theorem bld100 {b:Nat} {K:Value→Prop}:Wt prog 103 [(0,.map (some b))] K=K (.agg #[.map (some b)]):=by
 simp [Wt,zero_103,fillL,pl_103_0,Ww,cellsOf,Yk]
def needV (o:List Int):Value:=if ord o=true then .tuple #[Zx (needN o),.int .i64 0] else .tuple #[.int .i64 0,.int .i64 2]
theorem low_need (o:List Int):Low (needV o):=by unfold needV; split <;> exact .pair (.int _ _) (.int _ _)
theorem s15_callW [Tabs Tryd.prog] {args:List Value} {h:Yb} {Q:Value→Yb→Prop} (hsz:args.length≤18) (hk:AWS Tryd.prog 18 s15 (Zu Tryd.prog [.tmp 2,.tmp 3] Q) (Zp 0 args) h):ACall Tryd.prog 15 args h Q :=
 Xy Tryd.func15 rfl (enters_of Tryd.func15 (by kernel_rfl) rfl) rfl rfl (by decide) s15_strip s15_ok hsz hk
theorem progNeed_call [BitTab prog 0] {h:Yb} {v:Value} {o:List Int} (hv:IntSl h v o) (hl:o.length<9223372036854775808) (hx : ∀ x∈o,-9223372036854775808≤x∧x<9223372036854775808):APure prog 15 [v] h (needV o):=by
 refine ACall.forget (low_need o) ?_
 refine s15_callW (by simp) ?_
 simp only [s15]
 refine Yc fun N14 hN14=>?_
 simp (maxSteps:=2000000) only [s15,↓Za,↓Zj,↓Zr,↓Ze,↓Zi,↓Zs,↓Zf,↓Zo,↓Zg,↓Zb,↓Zc,↓vdn,vup,Zh,Zn,Zl,Zm,Zk,List.map_cons,List.map_nil,cond_true,cond_false,aop,Zv,Zq,Zp,ev,sput,Zt,Zy,Ya,unK,Zd,Zw,Nat.reduceBEq,Nat.reduceAdd,Int.reduceBEq,Int.reduceBNe,Int.reduceLT,Zu,Zz,tup,tyf]
 refine hN14 [(0,v),(2,.int .i64 0),(3,.int .i64 0)] _ _ ?_ (by simp (maxSteps:=2000000) only [↓Za,↓Zj,↓Zr,↓Ze,↓Zi,↓Zs,↓Zf,↓Zo,↓Zg,↓Zb,↓Zc,↓vdn,vup,Zh,Zn,Zl,Zm,Zk,List.map_cons,List.map_nil,cond_true,cond_false,aop,Zv,Zq,Zp,ev,sput,Zt,Zy,Ya,unK,Zd,Zw,Nat.reduceBEq,Nat.reduceAdd,Int.reduceBEq,Int.reduceBNe,Int.reduceLT,Zu,Zz,tup,tyf])
 clear hN14
 try clear N14
 refine Yc fun N15 hN15=>?_
 simp (maxSteps:=2000000) only [s15,↓Za,↓Zj,↓Zr,↓Ze,↓Zi,↓Zs,↓Zf,↓Zo,↓Zg,↓Zb,↓Zc,↓vdn,vup,Zh,Zn,Zl,Zm,Zk,List.map_cons,List.map_nil,cond_true,cond_false,aop,Zv,Zq,Zp,ev,sput,Zt,Zy,Ya,unK,Zd,Zw,Nat.reduceBEq,Nat.reduceAdd,Int.reduceBEq,Int.reduceBNe,Int.reduceLT,Zu,Zz,tup,tyf,Yz,List.nil_append,List.append_nil,List.toList_toArray,List.cons_append]
 refine (read_call hv hl hx).mono ?_
 rintro _ g ⟨rfl,rfl⟩
 simp (maxSteps:=2000000) only [s15,↓Za,↓Zj,↓Zr,↓Ze,↓Zi,↓Zs,↓Zf,↓Zo,↓Zg,↓Zb,↓Zc,↓vdn,vup,Zh,Zn,Zl,Zm,Zk,List.map_cons,List.map_nil,cond_true,cond_false,aop,Zv,Zq,Zp,ev,sput,Zt,Zy,Ya,unK,Zd,Zw,Nat.reduceBEq,Nat.reduceAdd,Int.reduceBEq,Int.reduceBNe,Int.reduceLT,Zu,Zz,tup,tyf,Wi,Xh,zeroN,zero_97]
 rw [storeRd]
 obtain ⟨hE,hb⟩:=rdBox g o
 generalize hgl:g.length=gl at hE hb ⊢
 generalize (g++[Blk.cells (ordN 0) 97 false]).set gl (.cells (rdC o) 97 false)=G at hE hb ⊢
 cases ho:ord o with
 | false =>
   refine hN15 [(0,v),(2,.int .i64 0),(3,.int .i64 0),(4,ptB gl),(5,.bool false)] _ _ ?_ (by simp (maxSteps:=2000000) only [↓Za,↓Zj,↓Zr,↓Ze,↓Zi,↓Zs,↓Zf,↓Zo,↓Zg,↓Zb,↓Zc,↓vdn,vup,Zh,Zn,Zl,Zm,Zk,List.map_cons,List.map_nil,cond_true,cond_false,aop,Zv,Zq,Zp,ev,sput,Zt,Zy,Ya,unK,Zd,Zw,Nat.reduceBEq,Nat.reduceAdd,Int.reduceBEq,Int.reduceBNe,Int.reduceLT,Zu,Zz,tup,tyf])
   clear hN15
   try clear N15
   refine Yg fun C hC=>?_
   refine Yc fun N16 hN16=>?_
   simp (maxSteps:=2000000) only [s15,↓Za,↓Zj,↓Zr,↓Ze,↓Zi,↓Zs,↓Zf,↓Zo,↓Zg,↓Zb,↓Zc,↓vdn,vup,Zh,Zn,Zl,Zm,Zk,List.map_cons,List.map_nil,cond_true,cond_false,aop,Zv,Zq,Zp,ev,sput,Zt,Zy,Ya,unK,Zd,Zw,Nat.reduceBEq,Nat.reduceAdd,Int.reduceBEq,Int.reduceBNe,Int.reduceLT,Zu,Zz,tup,tyf]
   refine hN16 [(0,v),(2,.int .i64 0),(3,.int .i64 0),(4,ptB gl),(5,.bool false),(12,.bool true)] _ _ ?_ (by simp (maxSteps:=2000000) only [↓Za,↓Zj,↓Zr,↓Ze,↓Zi,↓Zs,↓Zf,↓Zo,↓Zg,↓Zb,↓Zc,↓vdn,vup,Zh,Zn,Zl,Zm,Zk,List.map_cons,List.map_nil,cond_true,cond_false,aop,Zv,Zq,Zp,ev,sput,Zt,Zy,Ya,unK,Zd,Zw,Nat.reduceBEq,Nat.reduceAdd,Int.reduceBEq,Int.reduceBNe,Int.reduceLT,Zu,Zz,tup,tyf])
   clear hN16
   try clear N16
   refine Xl rfl ?_
   refine Yf ?_
   try simp (maxSteps:=2000000) only [s15,↓Za,↓Zj,↓Zr,↓Ze,↓Zi,↓Zs,↓Zf,↓Zo,↓Zg,↓Zb,↓Zc,↓vdn,vup,Zh,Zn,Zl,Zm,Zk,List.map_cons,List.map_nil,cond_true,cond_false,aop,Zv,Zq,Zp,ev,sput,Zt,Zy,Ya,unK,Zd,Zw,Nat.reduceBEq,Nat.reduceAdd,Int.reduceBEq,Int.reduceBNe,Int.reduceLT,Zu,Zz,tup,tyf]
   rw [needV,ho]
   exact ⟨rfl,hE⟩
 | true =>
   have hrd:rdC o=We o:=if_pos (Xq ho)
   rw [hrd] at hb
   refine hN15 [(0,v),(2,.int .i64 0),(3,.int .i64 0),(4,ptB gl),(5,.bool true)] _ _ ?_ (by simp (maxSteps:=2000000) only [↓Za,↓Zj,↓Zr,↓Ze,↓Zi,↓Zs,↓Zf,↓Zo,↓Zg,↓Zb,↓Zc,↓vdn,vup,Zh,Zn,Zl,Zm,Zk,List.map_cons,List.map_nil,cond_true,cond_false,aop,Zv,Zq,Zp,ev,sput,Zt,Zy,Ya,unK,Zd,Zw,Nat.reduceBEq,Nat.reduceAdd,Int.reduceBEq,Int.reduceBNe,Int.reduceLT,Zu,Zz,tup,tyf])
   clear hN15
   try clear N15
   refine Yg fun C hC=>?_
   refine Yc fun N17 hN17=>?_
   simp (maxSteps:=2000000) only [s15,↓Za,↓Zj,↓Zr,↓Ze,↓Zi,↓Zs,↓Zf,↓Zo,↓Zg,↓Zb,↓Zc,↓vdn,vup,Zh,Zn,Zl,Zm,Zk,List.map_cons,List.map_nil,cond_true,cond_false,aop,Zv,Zq,Zp,ev,sput,Zt,Zy,Ya,unK,Zd,Zw,Nat.reduceBEq,Nat.reduceAdd,Int.reduceBEq,Int.reduceBNe,Int.reduceLT,Zu,Zz,tup,tyf]
   refine hN17 [(0,v),(2,.int .i64 0),(3,.int .i64 0),(4,ptB gl),(5,.bool true),(12,.bool false)] _ _ ?_ (by simp (maxSteps:=2000000) only [↓Za,↓Zj,↓Zr,↓Ze,↓Zi,↓Zs,↓Zf,↓Zo,↓Zg,↓Zb,↓Zc,↓vdn,vup,Zh,Zn,Zl,Zm,Zk,List.map_cons,List.map_nil,cond_true,cond_false,aop,Zv,Zq,Zp,ev,sput,Zt,Zy,Ya,unK,Zd,Zw,Nat.reduceBEq,Nat.reduceAdd,Int.reduceBEq,Int.reduceBNe,Int.reduceLT,Zu,Zz,tup,tyf])
   clear hN17
   try clear N17
   refine Xe rfl ?_
   refine Yf ?_
   try simp (maxSteps:=2000000) only [s15,↓Za,↓Zj,↓Zr,↓Ze,↓Zi,↓Zs,↓Zf,↓Zo,↓Zg,↓Zb,↓Zc,↓vdn,vup,Zh,Zn,Zl,Zm,Zk,List.map_cons,List.map_nil,cond_true,cond_false,aop,Zv,Zq,Zp,ev,sput,Zt,Zy,Ya,unK,Zd,Zw,Nat.reduceBEq,Nat.reduceAdd,Int.reduceBEq,Int.reduceBNe,Int.reduceLT,Zu,Zz,tup,tyf]
   refine hC [(0,v),(2,.int .i64 0),(3,.int .i64 0),(4,ptB gl),(5,.bool true)] _ _ ?_ (by simp (maxSteps:=2000000) only [↓Za,↓Zj,↓Zr,↓Ze,↓Zi,↓Zs,↓Zf,↓Zo,↓Zg,↓Zb,↓Zc,↓vdn,vup,Zh,Zn,Zl,Zm,Zk,List.map_cons,List.map_nil,cond_true,cond_false,aop,Zv,Zq,Zp,ev,sput,Zt,Zy,Ya,unK,Zd,Zw,Nat.reduceBEq,Nat.reduceAdd,Int.reduceBEq,Int.reduceBNe,Int.reduceLT,Zu,Zz,tup,tyf])
   clear hC
   try clear C
   have d0:(G++[Blk.map []]++[Blk.cells [.map (some G.length)] 103 false])[gl]? = some (.cells (We o) 97 false):=Yp (Yp hb _) _
   have d1:SK (G.length+1) G.length (G++[Blk.map []]++[Blk.cells [.map (some G.length)] 103 false]):=by
    refine ⟨?_,[],Yp (Yt _ _) _,fun p hp=>(List.not_mem_nil hp).elim,fun o n v _ hv=>by cases hv⟩
    have:=Yt (G++[Blk.map []]) (Blk.cells [.map (some G.length)] 103 false)
    rw [List.length_append,List.length_singleton] at this
    exact this
   have hE2:Ext (fun _=>False) g (G++[Blk.map []]++[Blk.cells [.map (some G.length)] 103 false]):=by rw [List.append_assoc]; exact hE.trans (Ext.app _ _ _)
   refine Yc fun N18 hN18=>?_
   simp (maxSteps:=2000000) only [s15,↓Za,↓Zj,↓Zr,↓Ze,↓Zi,↓Zs,↓Zf,↓Zo,↓Zg,↓Zb,↓Zc,↓vdn,vup,Zh,Zn,Zl,Zm,Zk,List.map_cons,List.map_nil,cond_true,cond_false,aop,Zv,Zq,Zp,ev,sput,Zt,Zy,Ya,unK,Zd,Zw,Nat.reduceBEq,Nat.reduceAdd,Int.reduceBEq,Int.reduceBNe,Int.reduceLT,Zu,Zz,tup,tyf,isPick_map,makeMapK,bld100,boxK,esz_103,cellsOf,Option.isSome_some,Xh,List.length_append,List.length_cons,List.length_nil,Nat.zero_add,loadO d0 Xd (Xq ho).2,Yz,List.nil_append,List.append_nil,List.toList_toArray,List.cons_append]
   refine (need_call ho d1).mono ?_
   rintro _ G3 ⟨rfl,hs3,hE3⟩
   try simp (maxSteps:=2000000) only [s15,↓Za,↓Zj,↓Zr,↓Ze,↓Zi,↓Zs,↓Zf,↓Zo,↓Zg,↓Zb,↓Zc,↓vdn,vup,Zh,Zn,Zl,Zm,Zk,List.map_cons,List.map_nil,cond_true,cond_false,aop,Zv,Zq,Zp,ev,sput,Zt,Zy,Ya,unK,Zd,Zw,Nat.reduceBEq,Nat.reduceAdd,Int.reduceBEq,Int.reduceBNe,Int.reduceLT,Zu,Zz,tup,tyf]
   refine hN18 [(0,v),(2,Zx (needN o)),(3,.int .i64 0),(4,ptB gl),(5,.bool true)] _ _ ?_ (by simp (maxSteps:=2000000) only [↓Za,↓Zj,↓Zr,↓Ze,↓Zi,↓Zs,↓Zf,↓Zo,↓Zg,↓Zb,↓Zc,↓vdn,vup,Zh,Zn,Zl,Zm,Zk,List.map_cons,List.map_nil,cond_true,cond_false,aop,Zv,Zq,Zp,ev,sput,Zt,Zy,Ya,unK,Zd,Zw,Nat.reduceBEq,Nat.reduceAdd,Int.reduceBEq,Int.reduceBNe,Int.reduceLT,Zu,Zz,tup,tyf])
   clear hN18
   try clear N18
   refine Yf ?_
   try simp (maxSteps:=2000000) only [s15,↓Za,↓Zj,↓Zr,↓Ze,↓Zi,↓Zs,↓Zf,↓Zo,↓Zg,↓Zb,↓Zc,↓vdn,vup,Zh,Zn,Zl,Zm,Zk,List.map_cons,List.map_nil,cond_true,cond_false,aop,Zv,Zq,Zp,ev,sput,Zt,Zy,Ya,unK,Zd,Zw,Nat.reduceBEq,Nat.reduceAdd,Int.reduceBEq,Int.reduceBNe,Int.reduceLT,Zu,Zz,tup,tyf]
   rw [needV,ho]
   refine ⟨rfl,⟨Nat.le_trans hE2.1 hE3.1,fun i hi hf=>?_⟩⟩
   have:=hE.1
   rw [hE3.2 i (Nat.lt_of_lt_of_le hi hE2.1) (by omega)]
   exact hE2.2 i hi hf
end Go.Proofs.Tryd.Am.Or
