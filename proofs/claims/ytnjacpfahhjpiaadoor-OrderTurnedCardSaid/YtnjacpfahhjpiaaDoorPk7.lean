/-
  order: how many lines there are: by which sets can come first.
  order: copies, Count, add, slice, Add.
  order: slice, Add.
  Printed by gen.py: the code of some functions, without what no step looks at; held against the program's own by the kernel.
  Plain theory: in how many lines one element stands before another one; heights; fractions; the most even pair.
  order: the reference's count of lines, and its Add.
  Printed by gen.py: the code of some functions, without what no step looks at; held against the program's own by the kernel.
  order: the reference's lines.
  Printed by gen.py: the code of some functions, without what no step looks at; held against the program's own by the kernel.
  Printed by gen.py: the code of some functions, without what no step looks at; held against the program's own by the kernel.
  order: how many elements a set has, by the library and by the reference.
  order: the library's sort of a short slice (insertion).
  Plain theory: Dilworth's theorem: an antichain with as many elements as chains that have all.
  Plain theory: chains, antichains and ideals as sets of bits; the fewest chains are as many as a greatest antichain has elements; an ideal for each antichain.
  order: the reference's chains, antichains and ideals.
  order: the program's ideals and antichains: sets for which something is so, any two elements of a set.
  order: Ideals, Anti.
  order: the fewest chains, by the reference and by the program.
  order: Chains.
  order: Turn.
-/
import Derived.Test.YtnjacpfahhjpiaaDoorPk6
import Derived.Test.YtnjacpfahhjpiaaDoorPk4
import Derived.Test.YtnjacpfahhjpiaaDoorPk3
import Derived.Test.YtnjacpfahhjpiaaDoorProg
import Derived.KernelRfl
import Derived.Shelf.Abstract
set_option linter.all false
namespace Go.Proofs.Tryd.Am
open Go.Am Ord
set_option maxRecDepth 100000
set_option maxHeartbeats 1000000
section
variable {P:Program} {h:Yb} {t e:TypeId} {b o n c k:Nat} {xs:List Int} {ro:Bool}
theorem idxS {K:Value→Prop} (he:elemOf' P t=some e) (hs:esz P e=some 1) (hk:k<n):Yt P t (.slice (some ⟨b,0,none⟩) n c) (Zx (k:Nat)) K=K (.pointer (some ⟨b,k,none⟩)):=by
 simp only [Yt,he,hs,Int.natCast_nonneg,Int.toNat_natCast,Nat.mul_one,Nat.zero_add,true_and,Int.ofNat_lt.2 hk]
theorem loadX {K:Value→Prop} (hb:h[b]? = some (.ints xs e ro)) (hs:shp P t=some none) (ho:o<xs.length):Xw P h t (.pointer (some ⟨b,o,none⟩)) K=K (Zx (xs.getD o 0)):=by
 simp only [Xw,hs,cellK,hb,ho,true_and]
theorem storeX {K:Yb→Prop} {x:Int} (hb:h[b]? = some (.ints xs e false)) (hs:shp P t=some none) (ho:o<xs.length):Xv P h t (.pointer (some ⟨b,o,none⟩)) (Zx x) K=K (h.set b (.ints (xs.set o x) e false)):=by
 simp only [Xv,hs,hb,ho,true_and]
end
def WS (o:List Int) (s:Nat):List Int:=(List.range (2 ^ o.length)).map fun k=>if k<s then ((W o k:Nat):Int) else 0
theorem WS_len {o:List Int} {s:Nat}:(WS o s).length=2 ^ o.length:=by simp [WS]
theorem WS_get {o:List Int} {s k:Nat} (hk:k<s) (hs:s≤2 ^ o.length):(WS o s).getD k 0=((W o k:Nat):Int):=by
 rw [WS,getD_map,if_pos (by omega),if_pos hk]
theorem WS_one {o:List Int}:(List.replicate (2 ^ o.length) (0:Int)).set 0 1=WS o 1:=by
 have hp:=Nat.two_pow_pos o.length
 refine List.ext_getElem (by simp [WS_len]) fun i h1 h2=>?_
 rw [List.getElem_set]
 by_cases hi:0=i
 · subst hi; simp [WS,W_zero]
 · rw [if_neg hi]; simp [WS]; omega
theorem WS_set {o:List Int} {s:Nat}:(WS o s).set s ((W o s:Nat):Int)=WS o (s+1):=by
 refine List.ext_getElem (by simp [WS_len]) fun i h1 h2=>?_
 rw [List.getElem_set]
 by_cases hi:s=i
 · subst hi; simp [WS]
 · rw [if_neg hi]
   simp only [WS,List.getElem_map,List.getElem_range]
   by_cases hlt:i<s
   · rw [if_pos hlt,if_pos (by omega)]
   · rw [if_neg hlt,if_neg (by omega)]
theorem WS_zero {o:List Int} {s:Nat} (hs:s<2 ^ o.length):(WS o s).set s 0=WS o s:=by
 refine List.ext_getElem (by simp) fun i h1 h2=>?_
 rw [List.getElem_set]
 by_cases hi:s=i
 · subst hi; simp [WS]
 · rw [if_neg hi]
def ps (o:List Int) (s:Nat) (pre:List Nat):Nat:=((pre.filter (okLast o s)).map fun i=>W o (Ww s (2 ^ i))).sum
theorem ps_snoc {o:List Int} {s:Nat} {pre:List Nat} {x:Nat}:ps o s (pre++[x])=if okLast o s x=true then ps o s pre+W o (Ww s (2 ^ x)) else ps o s pre:=by
 unfold ps
 rw [List.filter_append,List.map_append,List.sum_append,List.filter_cons]
 split <;> simp
theorem ps_le {o:List Int} {s:Nat} (hs:s<64) : ∀ pre:List Nat,ps o s pre≤pre.length*46656:=by
 intro pre
 unfold ps
 induction pre with
 | nil=>simp
 | cons x pre ih =>
   rw [List.filter_cons,List.length_cons,Nat.succ_mul]
   split
   · rw [List.map_cons,List.sum_cons]
     have:=W_le (o:=o) (s:=Ww s (2 ^ x)) (less_lt (n:=6) hs)
     omega
   · omega
theorem eq0 (n:Nat):(((n:Nat):Int)==0)=decide (n=0):=by
 by_cases h:n=0
 · subst h; rfl
 · rw [decide_eq_false h]
   have:((n:Nat):Int)≠0:=by omega
   simpa using this
theorem Wy [BitTab prog 1] {h:Yb} {o:List Int} (ho:ord o=true):APure prog 65 [ordV o] h (Zx (cn o:Nat)):=by
 have hlen:=Yu ho
 have hpw:=pow6 hlen.2
 refine ACall.forget (Low.int _ _) ?_
 refine s65_call (by simp) ?_
 simp only [s65]
 refine Wj fun N hN=>?_
 simp (maxSteps:=2000000) only [s65,↓Za,↓Zi,↓Zr,↓Ze,↓Zo,↓Zs,↓Zg,↓Zm,↓Zf,↓Zb,↓Zc,↓vdn,vup,Zk,Zn,Zl,Zh,Zj,List.map_cons,List.map_nil,cond_true,cond_false,aop,Zv,Zq,Zp,ev,sput,Zt,Zy,Ya,unK,Zd,Zw,Nat.reduceBEq,Nat.reduceAdd,Int.reduceBEq,Int.reduceBNe,Int.reduceLT,Zu,Zz,tup,tyf,boxO esz_77,Ys]
 refine hN _ _ ?_
 clear hN N
 obtain ⟨n,hn⟩ : ∃ n,n=h.length:=⟨_,rfl⟩
 rw [← hn]
 have hadd:addV .i64 ((2 ^ o.length-1:Nat):Int) 1=((2 ^ o.length:Nat):Int):=by rw [addV_id (by omega) (by omega)]; omega
 have hm0:(0:Int)≤((2 ^ o.length:Nat):Int):=Int.natCast_nonneg _
 have hm1:((2 ^ o.length:Nat):Int)≤35184372088832:=by omega
 have c0:(h++[Blk.cells (Wa o) 77 false])[n]? = some (.cells (Wa o) 77 false):=by rw [hn]; exact Yl _ _
 refine Wj fun N hN=>?_
 simp (maxSteps:=2000000) only [s65,↓Za,↓Zi,↓Zr,↓Ze,↓Zo,↓Zs,↓Zg,↓Zm,↓Zf,↓Zb,↓Zc,↓vdn,vup,Zk,Zn,Zl,Zh,Zj,List.map_cons,List.map_nil,cond_true,cond_false,aop,Zv,Zq,Zp,ev,sput,Zt,Zy,Ya,unK,Zd,Zw,Nat.reduceBEq,Nat.reduceAdd,Int.reduceBEq,Int.reduceBNe,Int.reduceLT,Zu,Zz,tup,tyf,Vd c0 Xb hlen.2,Yx,List.nil_append,List.append_nil,List.toList_toArray,List.cons_append]
 refine (all_call hlen.2).mono ?_
 rintro _ _ ⟨rfl,rfl⟩
 simp (maxSteps:=2000000) only [s65,↓Za,↓Zi,↓Zr,↓Ze,↓Zo,↓Zs,↓Zg,↓Zm,↓Zf,↓Zb,↓Zc,↓vdn,vup,Zk,Zn,Zl,Zh,Zj,List.map_cons,List.map_nil,cond_true,cond_false,aop,Zv,Zq,Zp,ev,sput,Zt,Zy,Ya,unK,Zd,Zw,Nat.reduceBEq,Nat.reduceAdd,Int.reduceBEq,Int.reduceBNe,Int.reduceLT,Zu,Zz,tup,tyf,hadd,makeI Uh zero_3 info_3 hm0 hm1,Int.toNat_natCast,Xr,Ys]
 obtain ⟨N0,hN0⟩ : ∃ N0,N0=2 ^ o.length:=⟨_,rfl⟩
 obtain ⟨S,hS⟩ : ∃ S:Value,S = .slice (some ⟨n+1,0,none⟩) N0 N0:=⟨_,rfl⟩
 simp only [zero_22,List.length_append,List.length_cons,List.length_nil,Nat.zero_add,Nat.add_assoc,Nat.reduceAdd,← hn,← hN0,← hS]
 have hone:one S=true:=by rw [hS]; rfl
 have c2:(h++[Blk.cells (Wa o) 77 false]++[Blk.ints (List.replicate N0 0) 3 false]++[Blk.cells [.slice none 0 0] 22 false])[n+2]? = some (.cells [.slice none 0 0] 22 false):=by
  have:=Yl (h++[Blk.cells (Wa o) 77 false]++[Blk.ints (List.replicate N0 0) 3 false]) (Blk.cells [.slice none 0 0] 22 false)
  simpa [hn] using this
 rw [store1 c2 Wd hone]
 obtain ⟨H,hH⟩ : ∃ H,H=(h++[Blk.cells (Wa o) 77 false]++[Blk.ints (List.replicate N0 0) 3 false]++[Blk.cells [.slice none 0 0] 22 false]).set (n+2) (.cells [S] 22 false):=⟨_,rfl⟩
 rw [← hH]
 have hHl:H.length=n+3:=by rw [hH,hn]; simp
 have b0:H[n]? = some (.cells (Wa o) 77 false):=by rw [hH,List.getElem?_set_ne (by omega)]; exact Yh (Yh c0 _) _
 have b1:H[n+1]? = some (.ints (List.replicate N0 0) 3 false):=by
  rw [hH,List.getElem?_set_ne (by omega)]
  have:=Yl (h++[Blk.cells (Wa o) 77 false]) (Blk.ints (List.replicate N0 0) 3 false)
  simp only [List.length_append,List.length_singleton,← hn] at this
  exact Yh this _
 have b2:H[n+2]? = some (.cells [S] 22 false):=by rw [hH]; exact Xc (by rw [hn]; simp) _
 have hE0:Ext (fun _=>False) h H:=⟨by omega,fun i hi _=>by
  rw [hH,List.getElem?_set_ne (by omega),List.append_assoc,List.append_assoc,List.getElem?_append_left hi]⟩
 clear c2 hH
 refine hN _ _ ?_
 clear hN N
 -- ways[0] = 1
 refine Wj fun N hN=>?_
 have hidx : ∀ {k:Nat} {K:Value→Prop},k<N0→Yt prog 22 S (Zx (k:Nat)) K=K (.pointer (some ⟨n+1,k,none⟩)):=fun {k K} hk=>by rw [hS]; exact idxS Uh Xt hk
 have hidx0 : ∀ {K:Value→Prop},Yt prog 22 S (.int .i64 0) K=K (.pointer (some ⟨n+1,0,none⟩)):=fun {K}=>hidx (k:=0) (by omega)
 simp (maxSteps:=2000000) only [s65,↓Za,↓Zi,↓Zr,↓Ze,↓Zo,↓Zs,↓Zg,↓Zm,↓Zf,↓Zb,↓Zc,↓vdn,vup,Zk,Zn,Zl,Zh,Zj,List.map_cons,List.map_nil,cond_true,cond_false,aop,Zv,Zq,Zp,ev,sput,Zt,Zy,Ya,unK,Zd,Zw,Nat.reduceBEq,Nat.reduceAdd,Int.reduceBEq,Int.reduceBNe,Int.reduceLT,Zu,Zz,tup,tyf,Xh b2 Wd,hidx0]
 rw [storeX (x:=1) b1 Xf (by simp; omega)]
 refine hN _ _ ?_
 clear hN N
 obtain ⟨G,hG⟩ : ∃ G,G=H.set (n+1) (.ints ((List.replicate N0 0).set 0 1) 3 false):=⟨_,rfl⟩
 rw [← hG]
 rw [hN0,WS_one] at hG
 have hGl:G.length=n+3:=by rw [hG]; simp [hHl]
 have g0:G[n]? = some (.cells (Wa o) 77 false):=by rw [hG,List.getElem?_set_ne (by omega)]; exact b0
 have g1:G[n+1]? = some (.ints (WS o 1) 3 false):=by rw [hG]; exact Xc (by omega) _
 have g2:G[n+2]? = some (.cells [S] 22 false):=by rw [hG,List.getElem?_set_ne (by omega)]; exact b2
 have hEG:Ext (fun _=>False) h G:=⟨by omega,fun i hi _=>by rw [hG,List.getElem?_set_ne (by omega)]; exact hE0.2 i hi id⟩
 clear b0 b1 b2 hG hE0 hHl
 clear H
 -- the sets
 simp (maxSteps:=2000000) only [s65,↓Za,↓Zi,↓Zr,↓Ze,↓Zo,↓Zs,↓Zg,↓Zm,↓Zf,↓Zb,↓Zc,↓vdn,vup,Zk,Zn,Zl,Zh,Zj,List.map_cons,List.map_nil,cond_true,cond_false,aop,Zv,Zq,Zp,ev,sput,Zt,Zy,Ya,unK,Zd,Zw,Nat.reduceBEq,Nat.reduceAdd,Int.reduceBEq,Int.reduceBNe,Int.reduceLT,Zu,Zz,tup,tyf,Xr,Ys]
 rw [storeI (v:=.int .i64 0) (e:=3) (Yl _ _) Xf,hGl]
 obtain ⟨F,hF⟩ : ∃ F,F=(G++[Blk.cells [.int .i64 0] 3 false]).set (n+3) (.cells [.int .i64 1] 3 false):=⟨_,rfl⟩
 rw [← hF]
 have hFl:F.length=n+4:=by rw [hF]; simp [hGl]
 have oldF : ∀ {k B},G[k]? = some B→F[k]? = some B:=fun {k B} hk=>by
  have:=Yd hk
  rw [hF,List.getElem?_set_ne (by omega)]; exact Yh hk _
 have f3:F[n+3]? = some (.cells [.int .i64 1] 3 false):=by rw [hF]; exact Xc (by simp [hGl]) _
 have hEF:Ext (fun _=>False) h F:=⟨by omega,fun i hi _=>by rw [hF,List.getElem?_set_ne (by omega),List.getElem?_append_left (by omega)]; exact hEG.2 i hi id⟩
 have f0:=oldF g0
 have f1:=oldF g1
 have f2:=oldF g2
 clear g0 g1 g2 oldF hEG hF hGl
 clear G
 simp only [↓Vl]
 refine Yn fun Q hQ=>?_
 refine aw_loop (γ:=Nat×Nat×Yb) (fun s=>1≤s.1∧s.1≤N0∧n+3≤s.2.1∧s.2.2[n]? = some (.cells (Wa o) 77 false)∧s.2.2[n+1]? = some (.ints (WS o s.1) 3 false)∧s.2.2[n+2]? = some (.cells [S] 22 false)∧s.2.2[s.2.1]? = some (.cells [Zx (s.1:Nat)] 3 false)∧Ext (fun _=>False) h s.2.2)
  (fun s=>([(0,ordV o),(1,.pointer (some ⟨n,0,none⟩)),(2,.int .i64 0),(3,.pointer (some ⟨n+2,0,none⟩)),(4,.pointer (some ⟨s.2.1,0,none⟩))],s.2.2)) (fun s=>N0-s.1) (1,n+3,F) ⟨Nat.le_refl _,by omega,Nat.le_refl _,f0,f1,f2,f3,hEF⟩ (by simp (maxSteps:=2000000) only [↓Za,↓Zi,↓Zr,↓Ze,↓Zo,↓Zs,↓Zg,↓Zm,↓Zf,↓Zb,↓Zc,↓vdn,vup,Zk,Zn,Zl,Zh,Zj,List.map_cons,List.map_nil,cond_true,cond_false,aop,Zv,Zq,Zp,ev,sput,Zt,Zy,Ya,unK,Zd,Zw,Nat.reduceBEq,Nat.reduceAdd,Int.reduceBEq,Int.reduceBNe,Int.reduceLT,Zu,Zz,tup,tyf,Int.natCast_one]) rfl ?_
 rintro ⟨s,b,hp⟩ ⟨hs1,hsN,hb,e0,e1,e2,e3,hE⟩
 simp only at hs1 hsN hb e0 e1 e2 e3 hE
 refine aw_hide fun Q2 hQ2=>?_
 have hbl:=Yd e3
 have hlE:=hE.1
 simp only [l65_1]
 simp (maxSteps:=2000000) only [s65,↓Za,↓Zi,↓Zr,↓Ze,↓Zo,↓Zs,↓Zg,↓Zm,↓Zf,↓Zb,↓Zc,↓vdn,vup,Zk,Zn,Zl,Zh,Zj,List.map_cons,List.map_nil,cond_true,cond_false,aop,Zv,Zq,Zp,ev,sput,Zt,Zy,Ya,unK,Zd,Zw,Nat.reduceBEq,Nat.reduceAdd,Int.reduceBEq,Int.reduceBNe,Int.reduceLT,Zu,Zz,tup,tyf]
 refine Xp [(2,1)] (by kernel_rfl) (by kernel_rfl) (by kernel_rfl) (by kernel_rfl) ?_
 simp (maxSteps:=2000000) only [s65,↓Za,↓Zi,↓Zr,↓Ze,↓Zo,↓Zs,↓Zg,↓Zm,↓Zf,↓Zb,↓Zc,↓vdn,vup,Zk,Zn,Zl,Zh,Zj,List.map_cons,List.map_nil,cond_true,cond_false,aop,Zv,Zq,Zp,ev,sput,Zt,Zy,Ya,unK,Zd,Zw,Nat.reduceBEq,Nat.reduceAdd,Int.reduceBEq,Int.reduceBNe,Int.reduceLT,Zu,Zz,tup,tyf,Xh e3 Xf,Vd e0 Xb hlen.2,Yx,List.nil_append,List.append_nil,List.toList_toArray,List.cons_append]
 refine ⟨_,_,all_call hlen.2,rfl,?_⟩
 by_cases hlast:s=N0
 · have hle : ¬ (s:Int)≤((2 ^ o.length-1:Nat):Int):=by omega
   simp (maxSteps:=2000000) only [s65,↓Za,↓Zi,↓Zr,↓Ze,↓Zo,↓Zs,↓Zg,↓Zm,↓Zf,↓Zb,↓Zc,↓vdn,vup,Zk,Zn,Zl,Zh,Zj,List.map_cons,List.map_nil,cond_true,cond_false,aop,Zv,Zq,Zp,ev,sput,Zt,Zy,Ya,unK,Zd,Zw,Nat.reduceBEq,Nat.reduceAdd,Int.reduceBEq,Int.reduceBNe,Int.reduceLT,Zu,Zz,tup,tyf,hle]
   refine hQ2 _ _ _ (hQ _ _ _ ?_)
   simp (maxSteps:=2000000) only [s65,↓Za,↓Zi,↓Zr,↓Ze,↓Zo,↓Zs,↓Zg,↓Zm,↓Zf,↓Zb,↓Zc,↓vdn,vup,Zk,Zn,Zl,Zh,Zj,List.map_cons,List.map_nil,cond_true,cond_false,aop,Zv,Zq,Zp,ev,sput,Zt,Zy,Ya,unK,Zd,Zw,Nat.reduceBEq,Nat.reduceAdd,Int.reduceBEq,Int.reduceBNe,Int.reduceLT,Zu,Zz,tup,tyf]
   refine Xp [(2,1)] (by kernel_rfl) (by kernel_rfl) (by kernel_rfl) (by kernel_rfl) ?_
   simp (maxSteps:=2000000) only [s65,↓Za,↓Zi,↓Zr,↓Ze,↓Zo,↓Zs,↓Zg,↓Zm,↓Zf,↓Zb,↓Zc,↓vdn,vup,Zk,Zn,Zl,Zh,Zj,List.map_cons,List.map_nil,cond_true,cond_false,aop,Zv,Zq,Zp,ev,sput,Zt,Zy,Ya,unK,Zd,Zw,Nat.reduceBEq,Nat.reduceAdd,Int.reduceBEq,Int.reduceBNe,Int.reduceLT,Zu,Zz,tup,tyf,Xh e2 Wd,Vd e0 Xb hlen.2,Yx,List.nil_append,List.append_nil,List.toList_toArray,List.cons_append]
   refine ⟨_,_,all_call hlen.2,rfl,?_⟩
   have hk:2 ^ o.length-1<N0:=by omega
   have hk2:2 ^ o.length-1<(WS o s).length:=by rw [WS_len]; omega
   have hget:(WS o s).getD (2 ^ o.length-1) 0=((cn o:Nat):Int):=by rw [WS_get (by omega) (by omega),cn_len ho]
   simp (maxSteps:=2000000) only [s65,↓Za,↓Zi,↓Zr,↓Ze,↓Zo,↓Zs,↓Zg,↓Zm,↓Zf,↓Zb,↓Zc,↓vdn,vup,Zk,Zn,Zl,Zh,Zj,List.map_cons,List.map_nil,cond_true,cond_false,aop,Zv,Zq,Zp,ev,sput,Zt,Zy,Ya,unK,Zd,Zw,Nat.reduceBEq,Nat.reduceAdd,Int.reduceBEq,Int.reduceBNe,Int.reduceLT,Zu,Zz,tup,tyf,hidx hk,loadX e1 Xf hk2,hget]
   exact hE
 have hs:s<64:=by omega
 have hle:(s:Int)≤((2 ^ o.length-1:Nat):Int):=by omega
 simp (maxSteps:=2000000) only [s65,↓Za,↓Zi,↓Zr,↓Ze,↓Zo,↓Zs,↓Zg,↓Zm,↓Zf,↓Zb,↓Zc,↓vdn,vup,Zk,Zn,Zl,Zh,Zj,List.map_cons,List.map_nil,cond_true,cond_false,aop,Zv,Zq,Zp,ev,sput,Zt,Zy,Ya,unK,Zd,Zw,Nat.reduceBEq,Nat.reduceAdd,Int.reduceBEq,Int.reduceBNe,Int.reduceLT,Zu,Zz,tup,tyf,hle,Xh e3 Xf,Yx,List.nil_append,List.append_nil,List.toList_toArray,List.cons_append]
 refine elements_call.mono ?_
 rintro _ _ ⟨rfl,rfl⟩
 have hWl:(WS o s).length=N0:=by rw [WS_len,hN0]
 refine aw_range bitIter (bx:=hp.length) (s:=s) (et:=3) rfl (Yl _ _) (by omega) (fun pre hk=>hk[n]? = some (.cells (Wa o) 77 false)∧hk[n+1]? = some (.ints ((WS o s).set s ((ps o s pre:Nat):Int)) 3 false)∧hk[n+2]? = some (.cells [S] 22 false)∧hk[b]? = some (.cells [Zx (s:Nat)] 3 false)∧Ext (fun i=>i=n+1) hp hk∧Ext (fun _=>False) h hk) ?_ ?_ ?_
 · have old : ∀ {k B},hp[k]? = some B→((hp++[Blk.cells [Zx (s:Nat)] 3 false]).set hp.length .dead)[k]? = some B:=fun {k B} hk=>by
    have:=Yd hk
    rw [List.getElem?_set_ne (by omega)]; exact Yh hk _
   refine ⟨old e0,?_,old e2,old e3,⟨by simp,fun j hj _=>?_⟩,⟨by simp; omega,fun j hj _=>?_⟩⟩
   · rw [show ps o s []=0 from rfl,Int.natCast_zero,WS_zero (by omega)]; exact old e1
   · rw [List.getElem?_set_ne (by omega),List.getElem?_append_left hj]
   · rw [List.getElem?_set_ne (by omega),List.getElem?_append_left (by omega)]; exact hE.2 j hj id
 · rintro pre x hk hpre ⟨k0,k1,k2,k3,hEk,hEh⟩
   obtain ⟨hx64,hxb⟩:=Wl.1 (mem_pre hpre)
   have hx6:x<o.length:=by
    rcases Nat.lt_or_ge x o.length with h | h
    · exact h
    · rw [Nat.testBit_lt_two_pow (Nat.lt_of_lt_of_le (show s<2 ^ o.length by omega) (Nat.pow_le_pow_right (by decide) h))] at hxb; cases hxb
   have hpl:pre.length≤64:=by
    obtain ⟨t,ht⟩:=hpre
    have h1:=bits_len6 hs
    have h2:=congrArg List.length ht
    simp only [List.length_append,List.length_singleton] at h2
    omega
   have hps:=ps_le (o:=o) hs pre
   have hdl:=dn_lt (o:=o) (i:=x)
   have hxn:=Vv ho hx6
   have hand1:=Ud (a:=dn o x) (b:=s) (by omega) (by omega)
   have hand2:Vf .and .i64 (o.getD x 0) (s:Int)=((bt o x &&& s:Nat):Int):=by rw [hxn.1]; exact bitsV_and (by omega) (by omega)
   simp (maxSteps:=2000000) only [s65,↓Za,↓Zi,↓Zr,↓Ze,↓Zo,↓Zs,↓Zg,↓Zm,↓Zf,↓Zb,↓Zc,↓vdn,vup,Zk,Zn,Zl,Zh,Zj,List.map_cons,List.map_nil,cond_true,cond_false,aop,Zv,Zq,Zp,ev,sput,Zt,Zy,Ya,unK,Zd,Zw,Nat.reduceBEq,Nat.reduceAdd,Int.reduceBEq,Int.reduceBNe,Int.reduceLT,Zu,Zz,tup,tyf,r65_0_a,r65_0_b]
   refine Xp [(2,1)] (by kernel_rfl) (by kernel_rfl) (by kernel_rfl) (by kernel_rfl) ?_
   simp (maxSteps:=2000000) only [s65,↓Za,↓Zi,↓Zr,↓Ze,↓Zo,↓Zs,↓Zg,↓Zm,↓Zf,↓Zb,↓Zc,↓vdn,vup,Zk,Zn,Zl,Zh,Zj,List.map_cons,List.map_nil,cond_true,cond_false,aop,Zv,Zq,Zp,ev,sput,Zt,Zy,Ya,unK,Zd,Zw,Nat.reduceBEq,Nat.reduceAdd,Int.reduceBEq,Int.reduceBNe,Int.reduceLT,Zu,Zz,tup,tyf,Vd k0 Xb hlen.2,Yx,List.nil_append,List.append_nil,List.toList_toArray,List.cons_append]
   refine ⟨_,_,below_call ho,rfl,?_⟩
   by_cases hd1:Ww (dn o x) s=0
   · by_cases hd2:bt o x &&& s=0
     · have hok:okLast o s x=true:=by simp [okLast,hd1,hd2]
       have hlt:=less_bit_lt hxb
       have h2x:2 ^ x≤32:=Nat.pow_le_pow_right (n:=2) (j:=5) (by decide) (by omega)
       have hshl:shlV .i64 1 x=2 ^ x:=shl1 (by omega)
       have hand3:Vf .andNot .i64 (s:Int) (2 ^ x)=((Ww s (2 ^ x):Nat):Int):=by
        have:=Ud (a:=s) (b:=2 ^ x) (by omega) (by omega)
        rw [Vn] at this; exact this
       have hi1:s<N0:=by omega
       have hi2:Ww s (2 ^ x)<N0:=by omega
       have hsl:s<((WS o s).set s ((ps o s pre:Nat):Int)).length:=by rw [List.length_set]; omega
       have hsl2:Ww s (2 ^ x)<((WS o s).set s ((ps o s pre:Nat):Int)).length:=by rw [List.length_set]; omega
       have hg1:((WS o s).set s ((ps o s pre:Nat):Int)).getD s 0=((ps o s pre:Nat):Int):=by
        rw [List.getD,List.getElem?_set_self (by omega)]; rfl
       have hg2:((WS o s).set s ((ps o s pre:Nat):Int)).getD (Ww s (2 ^ x)) 0=((W o (Ww s (2 ^ x)):Nat):Int):=by
        rw [List.getD,List.getElem?_set_ne (by omega)]; exact WS_get hlt (by omega)
       have hW:=W_le (o:=o) (s:=Ww s (2 ^ x)) (by omega)
       have hsum:addV .i64 ((ps o s pre:Nat):Int) ((W o (Ww s (2 ^ x)):Nat):Int)=((ps o s (pre++[x]):Nat):Int):=by
        rw [ps_snoc,if_pos hok,addV_id (by omega) (by omega)]; omega
       have hone2:(0:Nat)<1:=by decide
       simp (maxSteps:=2000000) only [s65,↓Za,↓Zi,↓Zr,↓Ze,↓Zo,↓Zs,↓Zg,↓Zm,↓Zf,↓Zb,↓Zc,↓vdn,vup,Zk,Zn,Zl,Zh,Zj,List.map_cons,List.map_nil,cond_true,cond_false,aop,Zv,Zq,Zp,ev,sput,Zt,Zy,Ya,unK,Zd,Zw,Nat.reduceBEq,Nat.reduceAdd,Int.reduceBEq,Int.reduceBNe,Int.reduceLT,Zu,Zz,tup,tyf,Xh k3 Xf,hand1,hd1,Int.natCast_zero,fldA Vg esz_75,idxA und_75 Xt (show x<6 by omega),loadI k0 Xf hlen.2 (show x<6 by omega),hand2,hd2]
       refine Xp [] (by kernel_rfl) (by kernel_rfl) (by kernel_rfl) (by kernel_rfl) ?_
       simp (maxSteps:=2000000) only [s65,↓Za,↓Zi,↓Zr,↓Ze,↓Zo,↓Zs,↓Zg,↓Zm,↓Zf,↓Zb,↓Zc,↓vdn,vup,Zk,Zn,Zl,Zh,Zj,List.map_cons,List.map_nil,cond_true,cond_false,aop,Zv,Zq,Zp,ev,sput,Zt,Zy,Ya,unK,Zd,Zw,Nat.reduceBEq,Nat.reduceAdd,Int.reduceBEq,Int.reduceBNe,Int.reduceLT,Zu,Zz,tup,tyf,Xh k2 Wd,Xh k3 Xf,hidx hi1,loadX k1 Xf hsl,hg1,hshl,hand3,hidx hi2,loadX k1 Xf hsl2,hg2,hsum,storeX k1 Xf hsl,List.set_set,rangeQ]
       have hlk:=Yd k1
       refine ⟨?_,Xc hlk _,?_,?_,?_,?_⟩
       · rw [List.getElem?_set_ne (by omega)]; exact k0
       · rw [List.getElem?_set_ne (by omega)]; exact k2
       · rw [List.getElem?_set_ne (by omega)]; exact k3
       · exact hEk.trans (Ext.set _ rfl)
       · exact ⟨by simp; exact hEh.1,fun j hj _=>by rw [List.getElem?_set_ne (by omega)]; exact hEh.2 j hj id⟩
     · have hok:okLast o s x=false:=by simp [okLast,hd2]
       have hne:(((bt o x &&& s:Nat):Int)==0)=false:=by rw [eq0,decide_eq_false hd2]
       simp (maxSteps:=2000000) only [s65,↓Za,↓Zi,↓Zr,↓Ze,↓Zo,↓Zs,↓Zg,↓Zm,↓Zf,↓Zb,↓Zc,↓vdn,vup,Zk,Zn,Zl,Zh,Zj,List.map_cons,List.map_nil,cond_true,cond_false,aop,Zv,Zq,Zp,ev,sput,Zt,Zy,Ya,unK,Zd,Zw,Nat.reduceBEq,Nat.reduceAdd,Int.reduceBEq,Int.reduceBNe,Int.reduceLT,Zu,Zz,tup,tyf,Xh k3 Xf,hand1,hd1,Int.natCast_zero,fldA Vg esz_75,idxA und_75 Xt (show x<6 by omega),loadI k0 Xf hlen.2 (show x<6 by omega),hand2,hne,rangeQ]
       refine ⟨k0,?_,k2,k3,hEk,hEh⟩
       rw [ps_snoc,if_neg (by rw [hok]; decide)]; exact k1
   · have hok:okLast o s x=false:=by simp [okLast,hd1]
     have hne:(((Ww (dn o x) s:Nat):Int)==0)=false:=by rw [eq0,decide_eq_false hd1]
     simp (maxSteps:=2000000) only [s65,↓Za,↓Zi,↓Zr,↓Ze,↓Zo,↓Zs,↓Zg,↓Zm,↓Zf,↓Zb,↓Zc,↓vdn,vup,Zk,Zn,Zl,Zh,Zj,List.map_cons,List.map_nil,cond_true,cond_false,aop,Zv,Zq,Zp,ev,sput,Zt,Zy,Ya,unK,Zd,Zw,Nat.reduceBEq,Nat.reduceAdd,Int.reduceBEq,Int.reduceBNe,Int.reduceLT,Zu,Zz,tup,tyf,Xh k3 Xf,hand1,hne,rangeQ]
     refine ⟨k0,?_,k2,k3,hEk,hEh⟩
     rw [ps_snoc,if_neg (by rw [hok]; decide)]; exact k1
 · rintro hk ⟨k0,k1,k2,k3,hEk,hEh⟩
   have hW:ps o s (Am.bits s)=W o s:=by rw [W_step (by omega) (by omega)]; rfl
   rw [hW,WS_set] at k1
   have hlk:=hEk.1
   simp (maxSteps:=2000000) only [s65,↓Za,↓Zi,↓Zr,↓Ze,↓Zo,↓Zs,↓Zg,↓Zm,↓Zf,↓Zb,↓Zc,↓vdn,vup,Zk,Zn,Zl,Zh,Zj,List.map_cons,List.map_nil,cond_true,cond_false,aop,Zv,Zq,Zp,ev,sput,Zt,Zy,Ya,unK,Zd,Zw,Nat.reduceBEq,Nat.reduceAdd,Int.reduceBEq,Int.reduceBNe,Int.reduceLT,Zu,Zz,tup,tyf,Xh k3 Xf,Xr,Ys]
   rw [storeI (v:=.int .i64 0) (e:=3) (Yl _ _) Xf]
   have j3:((hk++[Blk.cells [Value.int .i64 0] 3 false]).set hk.length (Blk.cells [.int .i64 (s:Int)] 3 false))[hk.length]? = some (Blk.cells [.int .i64 (s:Int)] 3 false):=Xc (by simp) _
   simp (maxSteps:=2000000) only [s65,↓Za,↓Zi,↓Zr,↓Ze,↓Zo,↓Zs,↓Zg,↓Zm,↓Zf,↓Zb,↓Zc,↓vdn,vup,Zk,Zn,Zl,Zh,Zj,List.map_cons,List.map_nil,cond_true,cond_false,aop,Zv,Zq,Zp,ev,sput,Zt,Zy,Ya,unK,Zd,Zw,Nat.reduceBEq,Nat.reduceAdd,Int.reduceBEq,Int.reduceBNe,Int.reduceLT,Zu,Zz,tup,tyf,Xh j3 Xf,add1 (show s<9223372036854775807 by omega),storeI j3 Xf,List.set_set]
   have old : ∀ {k B},hk[k]? = some B→((hk++[Blk.cells [Value.int .i64 0] 3 false]).set hk.length (Blk.cells [.int .i64 ((s+1:Nat):Int)] 3 false))[k]? = some B:=fun {k B} hk'=>by
    have:=Yd hk'
    rw [List.getElem?_set_ne (by omega)]; exact Yh hk' _
   refine hQ2 _ _ _ ⟨(s+1,hk.length,_),⟨by simp only; omega,by simp only; omega,by simp only; omega,old k0,old k1,old k2,Xc (by simp) _,⟨by simp; omega,fun j hj _=>?_⟩⟩,by simp only; omega,by simp (maxSteps:=2000000) only [↓Za,↓Zi,↓Zr,↓Ze,↓Zo,↓Zs,↓Zg,↓Zm,↓Zf,↓Zb,↓Zc,↓vdn,vup,Zk,Zn,Zl,Zh,Zj,List.map_cons,List.map_nil,cond_true,cond_false,aop,Zv,Zq,Zp,ev,sput,Zt,Zy,Ya,unK,Zd,Zw,Nat.reduceBEq,Nat.reduceAdd,Int.reduceBEq,Int.reduceBNe,Int.reduceLT,Zu,Zz,tup,tyf],rfl⟩
   have hEl:=hEh.1
   rw [List.getElem?_set_ne (by omega),List.getElem?_append_left (by omega)]; exact hEh.2 j hj id
end Go.Proofs.Tryd.Am
namespace Go.Proofs.Tryd.Am
open Go.Am Ord
set_option maxRecDepth 100000
set_option maxHeartbeats 1000000
theorem clone_call [Tabs prog] {h:Yb} {v:Value} {xs:List Int} (hv:IntSl h v xs) (hl:xs.length<1099511627776):ACall prog 66 [v] h fun r h'=>IntSl h' r xs∧∃ g,h' = h++g:=by
 refine s66_call (by simp) ?_
 have hv':=hv
 rcases hv with ⟨rfl,rfl⟩ | ⟨b,o,sp,cap,c,e,ro,rfl,hc,hb,hx⟩
 · simp (maxSteps:=2000000) only [s66,↓Za,↓Zi,↓Zr,↓Ze,↓Zo,↓Zs,↓Zg,↓Zm,↓Zf,↓Zb,↓Zc,↓vdn,vup,Zk,Zn,Zl,Zh,Zj,List.map_cons,List.map_nil,cond_true,cond_false,aop,Zv,Zq,Zp,ev,sput,Zt,Zy,Ya,unK,Zd,Zw,Nat.reduceBEq,Nat.reduceAdd,Int.reduceBEq,Int.reduceBNe,Int.reduceLT,Zu,Zz,tup,tyf,Option.isSome_some]
   exact ⟨.inl ⟨rfl,rfl⟩,[],by rw [List.append_nil]⟩
 · simp (maxSteps:=2000000) only [s66,↓Za,↓Zi,↓Zr,↓Ze,↓Zo,↓Zs,↓Zg,↓Zm,↓Zf,↓Zb,↓Zc,↓vdn,vup,Zk,Zn,Zl,Zh,Zj,List.map_cons,List.map_nil,cond_true,cond_false,aop,Zv,Zq,Zp,ev,sput,Zt,Zy,Ya,unK,Zd,Zw,Nat.reduceBEq,Nat.reduceAdd,Int.reduceBEq,Int.reduceBNe,Int.reduceLT,Zu,Zz,tup,tyf,Option.isSome_some]
   simp only [Yw,Uh,zero_3,Xt,reps,Ub,mkb,Xa]
   refine And.intro rfl (And.intro Nat.zero_lt_one (And.intro (Nat.zero_le _) ?_))
   refine (hv'.grow [.ints [] 3 false]).copy app_22_22 hl (by rw [List.getElem?_append_right (Nat.le_refl _)]; simp) ?_
   intro r g hr _
   exact ⟨hr,_,List.append_assoc _ _ _⟩
theorem min9 (n:Nat):(if (9:Int)<n then 9 else (n:Int))=((min n 9:Nat):Int):=by split <;> omega
theorem list_call [Tabs prog] {h:Yb} {v:Value} {xs:List Int} (hv:IntSl h v xs) (hl:xs.length<9223372036854775808):ACall prog 18 [v] h fun r h'=>IntSl h' r (xs.take 9)∧∃ g,h' = h++g:=by
 refine s18_call (by simp) ?_
 simp (maxSteps:=2000000) only [s18,↓Za,↓Zi,↓Zr,↓Ze,↓Zo,↓Zs,↓Zg,↓Zm,↓Zf,↓Zb,↓Zc,↓vdn,vup,Zk,Zn,Zl,Zh,Zj,List.map_cons,List.map_nil,cond_true,cond_false,aop,Zv,Zq,Zp,ev,sput,Zt,Zy,Ya,unK,Zd,Zw,Nat.reduceBEq,Nat.reduceAdd,Int.reduceBEq,Int.reduceBNe,Int.reduceLT,Zu,Zz,tup,tyf,hv.len,mmK,Bool.false_eq_true,if_false,gt_iff_lt,min9,Option.map_none,Option.map_some]
 refine hv.pre Uh Xt (Nat.min_le_left _ _) ?_
 intro v' hv'
 have e:xs.take (min xs.length 9)=xs.take 9:=by
  by_cases h:xs.length≤9
  · rw [Nat.min_eq_left h,List.take_length,List.take_of_length_le h]
  · rw [Nat.min_eq_right (by omega)]
 rw [e] at hv'
 simp (maxSteps:=2000000) only [↓Za,↓Zi,↓Zr,↓Ze,↓Zo,↓Zs,↓Zg,↓Zm,↓Zf,↓Zb,↓Zc,↓vdn,vup,Zk,Zn,Zl,Zh,Zj,List.map_cons,List.map_nil,cond_true,cond_false,aop,Zv,Zq,Zp,ev,sput,Zt,Zy,Ya,unK,Zd,Zw,Nat.reduceBEq,Nat.reduceAdd,Int.reduceBEq,Int.reduceBNe,Int.reduceLT,Zu,Zz,tup,tyf,Yx,List.nil_append,List.append_nil]
 exact clone_call hv' (by simp; omega)
theorem ord_take {o:List Int}:ord (o.take 9)=ord o:=by
 by_cases h:o.length≤9
 · rw [List.take_of_length_le h]
 · have h1:ord o=false:=by simp [ord]; omega
   have h2:ord (o.take 9)=false:=by simp [ord]; omega
   rw [h1,h2]
theorem ord_take_eq {o:List Int} (h:ord o=true):o.take 9=o:=List.take_of_length_le (by have:=Yu h; omega)
theorem storeRd {h:Yb} {o:List Int} {K:Yb→Prop}:Xv prog (h++[Blk.cells (ordN 0) 77 false]) 77 (.pointer (some ⟨h.length,0,none⟩)) (rdV o) K=K ((h++[Blk.cells (ordN 0) 77 false]).set h.length (.cells (rdC o) 77 false)) :=
 storeA (c:=ordN 0) (Yl _ _) (by rw [Xb,rdC_len]) (rdC_one o) (by rw [rdC_len]; rfl)
theorem rdBox (h:Yb) (o:List Int):Ext (fun _=>False) h ((h++[Blk.cells (ordN 0) 77 false]).set h.length (.cells (rdC o) 77 false))∧((h++[Blk.cells (ordN 0) 77 false]).set h.length (.cells (rdC o) 77 false))[h.length]? = some (.cells (rdC o) 77 false) :=
 ⟨⟨by simp,fun i hi _=>by rw [List.getElem?_set_ne (by omega),List.getElem?_append_left hi]⟩,Xc (by simp) _⟩
def countV (o:List Int):Value:=if ord o=true then .tuple #[Zx (cn o:Nat),.int .i64 0] else .tuple #[.int .i64 0,.int .i64 2]
theorem count_call [BitTab prog 1] {h:Yb} {v:Value} {o:List Int} (hv:IntSl h v o) (hl:o.length<9223372036854775808) (hx : ∀ x∈o,-9223372036854775808≤x∧x<9223372036854775808):APure prog 17 [v] h (countV o):=by
 have hlow:Low (countV o):=by unfold countV; split <;> exact .pair (.int _ _) (.int _ _)
 refine ACall.forget hlow ?_
 refine s17_call (by simp) ?_
 simp only [s17]
 simp (maxSteps:=2000000) only [s17,↓Za,↓Zi,↓Zr,↓Ze,↓Zo,↓Zs,↓Zg,↓Zm,↓Zf,↓Zb,↓Zc,↓vdn,vup,Zk,Zn,Zl,Zh,Zj,List.map_cons,List.map_nil,cond_true,cond_false,aop,Zv,Zq,Zp,ev,sput,Zt,Zy,Ya,unK,Zd,Zw,Nat.reduceBEq,Nat.reduceAdd,Int.reduceBEq,Int.reduceBNe,Int.reduceLT,Zu,Zz,tup,tyf,Yx,List.nil_append,List.append_nil,List.toList_toArray,List.cons_append]
 refine (read_call hv hl hx).mono ?_
 rintro _ g ⟨rfl,rfl⟩
 simp (maxSteps:=2000000) only [s17,↓Za,↓Zi,↓Zr,↓Ze,↓Zo,↓Zs,↓Zg,↓Zm,↓Zf,↓Zb,↓Zc,↓vdn,vup,Zk,Zn,Zl,Zh,Zj,List.map_cons,List.map_nil,cond_true,cond_false,aop,Zv,Zq,Zp,ev,sput,Zt,Zy,Ya,unK,Zd,Zw,Nat.reduceBEq,Nat.reduceAdd,Int.reduceBEq,Int.reduceBNe,Int.reduceLT,Zu,Zz,tup,tyf,Xr,Ys,zeroN,zero_77]
 rw [storeRd]
 obtain ⟨hE,hb⟩:=rdBox g o
 generalize hgl:g.length=gl at hE hb ⊢
 generalize (g++[Blk.cells (ordN 0) 77 false]).set gl (.cells (rdC o) 77 false)=G at hE hb ⊢
 cases ho:ord o with
 | false =>
   simp (maxSteps:=2000000) only [s17,↓Za,↓Zi,↓Zr,↓Ze,↓Zo,↓Zs,↓Zg,↓Zm,↓Zf,↓Zb,↓Zc,↓vdn,vup,Zk,Zn,Zl,Zh,Zj,List.map_cons,List.map_nil,cond_true,cond_false,aop,Zv,Zq,Zp,ev,sput,Zt,Zy,Ya,unK,Zd,Zw,Nat.reduceBEq,Nat.reduceAdd,Int.reduceBEq,Int.reduceBNe,Int.reduceLT,Zu,Zz,tup,tyf,ho]
   rw [countV,ho]
   exact ⟨rfl,hE⟩
 | true =>
   have hrd:rdC o=Wa o:=if_pos (Yu ho)
   rw [hrd] at hb
   simp (maxSteps:=2000000) only [s17,↓Za,↓Zi,↓Zr,↓Ze,↓Zo,↓Zs,↓Zg,↓Zm,↓Zf,↓Zb,↓Zc,↓vdn,vup,Zk,Zn,Zl,Zh,Zj,List.map_cons,List.map_nil,cond_true,cond_false,aop,Zv,Zq,Zp,ev,sput,Zt,Zy,Ya,unK,Zd,Zw,Nat.reduceBEq,Nat.reduceAdd,Int.reduceBEq,Int.reduceBNe,Int.reduceLT,Zu,Zz,tup,tyf,ho,Vd hb Xb (Yu ho).2,Yx,List.nil_append,List.append_nil,List.toList_toArray,List.cons_append]
   refine (Wy ho).mono ?_
   rintro _ _ ⟨rfl,rfl⟩
   rw [countV,ho]
   exact ⟨rfl,hE⟩
theorem lit2 {h:Yb} {x y:Int} (K:Value→Yb→Prop):Yw prog h 22 2 [(0,Zx x),(1,Zx y)] K=K (.slice (some ⟨h.length,0,none⟩) 2 2) (h++[.ints [x,y] 3 false]):=by
 simp only [Yw,Uh,zero_3,Xt,reps,Ub,mkb,Xa,Wp,cellsOf,List.length_singleton,Nat.mul_one,Nat.zero_mul,Nat.zero_add]
 exact propext ⟨fun h=>h.2.2.2,fun h=>⟨trivial,Nat.zero_lt_one,by decide,h⟩⟩
theorem litSl {h:Yb} {xs:List Int}:IntSl (h++[.ints xs 3 false]) (.slice (some ⟨h.length,0,none⟩) xs.length xs.length) xs :=
 .inr ⟨h.length,0,none,xs.length,xs.map Zx,3,false,rfl,Nat.le_refl _,by simp [view,Blk.view],fun i hi=>by simp [List.getD,hi]⟩
theorem awake_call [BitTab prog 1] {h:Yb}:APure prog 20 [] h (.bool true):=by
 have hc:countV [0,0] = .tuple #[Zx 2,.int .i64 0]:=by
  have h1:ord [0,0]=true:=by decide
  have h2:cn [0,0]=2:=by decide
  rw [countV,h1,if_pos rfl,h2]; rfl
 refine ACall.forget (Low.bool _) ?_
 refine s20_call (by simp) ?_
 simp (maxSteps:=2000000) only [s20,↓Za,↓Zi,↓Zr,↓Ze,↓Zo,↓Zs,↓Zg,↓Zm,↓Zf,↓Zb,↓Zc,↓vdn,vup,Zk,Zn,Zl,Zh,Zj,List.map_cons,List.map_nil,cond_true,cond_false,aop,Zv,Zq,Zp,ev,sput,Zt,Zy,Ya,unK,Zd,Zw,Nat.reduceBEq,Nat.reduceAdd,Int.reduceBEq,Int.reduceBNe,Int.reduceLT,Zu,Zz,tup,tyf,lit2,Yx,List.nil_append,List.append_nil,List.toList_toArray,List.cons_append]
 refine (count_call (o:=[0,0]) litSl (by decide) (by decide)).mono ?_
 rintro _ _ ⟨rfl,rfl⟩
 rw [hc]
 simp (maxSteps:=2000000) only [s20,↓Za,↓Zi,↓Zr,↓Ze,↓Zo,↓Zs,↓Zg,↓Zm,↓Zf,↓Zb,↓Zc,↓vdn,vup,Zk,Zn,Zl,Zh,Zj,List.map_cons,List.map_nil,cond_true,cond_false,aop,Zv,Zq,Zp,ev,sput,Zt,Zy,Ya,unK,Zd,Zw,Nat.reduceBEq,Nat.reduceAdd,Int.reduceBEq,Int.reduceBNe,Int.reduceLT,Zu,Zz,tup,tyf]
 exact Ext.app _ _ _
def growL (o:List Int) (u:Nat) (pre:List Nat):List Int:=(List.range o.length).map fun k=>if k∈pre then ((bt o k ||| u:Nat):Int) else o.getD k 0
theorem growL_len {o:List Int} {u:Nat} {pre:List Nat}:(growL o u pre).length=o.length:=by simp [growL]
theorem growL_nil {o:List Int} {u:Nat}:growL o u []=o:=by
 refine List.ext_getElem (by simp [growL]) fun i h1 h2=>?_
 simp [growL,List.getD,h2]
theorem growL_snoc {o:List Int} {u x:Nat} {pre:List Nat} (hx:x<o.length):(growL o u pre).set x ((bt o x ||| u:Nat):Int)=growL o u (pre++[x]):=by
 refine List.ext_getElem (by simp [growL]) fun i h1 h2=>?_
 rw [List.getElem_set]
 by_cases hi:x=i
 · subst hi; simp [growL]
 · rw [if_neg hi]
   simp [growL,Ne.symm hi]
theorem growL_get {o:List Int} {u x:Nat} {pre:List Nat} (hx:x<o.length) (hn:x ∉ pre):(growL o u pre).getD x 0=o.getD x 0:=by
 rw [growL,getD_map,if_pos hx,if_neg hn]
theorem growL_add {o:List Int} (ho:ord o=true) {i j:Nat} (hi:i<o.length):growL o (bt o j ||| 2 ^ j) (Am.bits (dn o i ||| 2 ^ i))=addL o i j:=by
 rw [growL,addL]
 refine List.map_congr_left fun k hk=>?_
 have hk':=List.mem_range.1 hk
 have hl:=Yu ho
 have:k∈Am.bits (dn o i ||| 2 ^ i)↔(k=i∨ab o k i=true):=by
  rw [Wl,Nat.testBit_or,Nat.testBit_two_pow,dn_bit' ho,Bool.or_eq_true,decide_eq_true_eq]
  constructor
  · rintro ⟨_,h | h⟩
    · exact .inr h
    · exact .inl h.symm
  · rintro (h | h)
    · exact ⟨by omega,.inr h.symm⟩
    · exact ⟨by omega,.inl h⟩
 by_cases h:k=i∨ab o k i=true
 · rw [if_pos h,if_pos (this.2 h)]
 · rw [if_neg h,if_neg (fun h'=>h (this.1 h'))]
theorem add_call [BitTab prog 1] {h:Yb} {o:List Int} (ho:ord o=true) {i j:Nat} (hi:i<o.length) (hj:j<o.length):APure prog 69 [ordV o,Zx i,Zx j] h (ordV (addL o i j)):=by
 have hl:=Yu ho
 have hpw:=pow6 hl.2
 obtain ⟨hjn,hjl⟩:=Vv ho hj
 have h2j:2 ^ j<2 ^ o.length:=Nat.pow_lt_pow_right (by decide) hj
 have h2i:2 ^ i<2 ^ o.length:=Nat.pow_lt_pow_right (by decide) hi
 have hul:=Nat.or_lt_two_pow hjl h2j
 obtain ⟨u,hu⟩ : ∃ u,u=bt o j ||| 2 ^ j:=⟨_,rfl⟩
 rw [← hu] at hul
 have hor:Vf .or .i64 (o.getD j 0) (2 ^ j)=((u:Nat):Int):=by
  have:=bitsV_or (a:=bt o j) (b:=2 ^ j) (by omega) (by omega)
  rw [← hjn,Vn,← hu] at this; exact this
 refine ACall.forget (Low.ordV _) ?_
 refine s69_call (by simp) ?_
 simp only [s69]
 refine Wj fun N hN=>?_
 simp (maxSteps:=2000000) only [s69,↓Za,↓Zi,↓Zr,↓Ze,↓Zo,↓Zs,↓Zg,↓Zm,↓Zf,↓Zb,↓Zc,↓vdn,vup,Zk,Zn,Zl,Zh,Zj,List.map_cons,List.map_nil,cond_true,cond_false,aop,Zv,Zq,Zp,ev,sput,Zt,Zy,Ya,unK,Zd,Zw,Nat.reduceBEq,Nat.reduceAdd,Int.reduceBEq,Int.reduceBNe,Int.reduceLT,Zu,Zz,tup,tyf,boxO esz_77,Ys,Xr,zeroN]
 refine hN _ _ ?_
 clear hN N
 obtain ⟨n,hn⟩ : ∃ n,n=h.length:=⟨_,rfl⟩
 obtain ⟨H,hH⟩ : ∃ H,H=h++[Blk.cells (Wa o) 77 false]++[Blk.cells (ordN 0) 77 false]:=⟨_,rfl⟩
 rw [← hH]
 simp only [List.length_append,List.length_cons,List.length_nil,Nat.zero_add,← hn]
 have hHl:H.length=n+2:=by rw [hH,hn]; simp
 have b0:H[n]? = some (.cells (Wa o) 77 false):=by rw [hH,hn]; exact Yh (Yl _ _) _
 have b1:H[n+1]? = some (.cells (ordN 0) 77 false):=by
  rw [hH,hn]; have:=Yl (h++[Blk.cells (Wa o) 77 false]) (Blk.cells (ordN 0) 77 false)
  simpa using this
 have hE0:Ext (fun _=>False) h H:=by rw [hH,List.append_assoc]; exact Ext.app _ _ _
 clear hH
 refine Wj fun N hN=>?_
 refine aw_drawR (fun hp=>hp[n]? = some (.cells (Wa o) 77 false)) [(3,5)] (by kernel_rfl) (by kernel_rfl) (by kernel_rfl) (by kernel_rfl) b0 ?_
 simp (maxSteps:=2000000) only [s69,↓Za,↓Zi,↓Zr,↓Ze,↓Zo,↓Zs,↓Zg,↓Zm,↓Zf,↓Zb,↓Zc,↓vdn,vup,Zk,Zn,Zl,Zh,Zj,List.map_cons,List.map_nil,cond_true,cond_false,aop,Zv,Zq,Zp,ev,sput,Zt,Zy,Ya,unK,Zd,Zw,Nat.reduceBEq,Nat.reduceAdd,Int.reduceBEq,Int.reduceBNe,Int.reduceLT,Zu,Zz,tup,tyf,fldA Vg esz_75,idxA und_75 Xt (show j<6 by omega),shl1 (show j≤62 by omega),Xr,Ys]
 refine ⟨Zx (o.getD j 0),fun h0 hk=>?_,?_⟩
 · rw [loadI hk Xf hl.2 (show j<6 by omega)]
 simp (maxSteps:=2000000) only [s69,↓Za,↓Zi,↓Zr,↓Ze,↓Zo,↓Zs,↓Zg,↓Zm,↓Zf,↓Zb,↓Zc,↓vdn,vup,Zk,Zn,Zl,Zh,Zj,List.map_cons,List.map_nil,cond_true,cond_false,aop,Zv,Zq,Zp,ev,sput,Zt,Zy,Ya,unK,Zd,Zw,Nat.reduceBEq,Nat.reduceAdd,Int.reduceBEq,Int.reduceBNe,Int.reduceLT,Zu,Zz,tup,tyf,hor]
 refine ⟨Yh b0 _,?_⟩
 rw [storeI (v:=.int .i64 0) (e:=3) (Yl _ _) Xf,hHl]
 obtain ⟨G,hG⟩ : ∃ G,G=(H++[Blk.cells [Value.int .i64 0] 3 false]).set (n+2) (.cells [.int .i64 ((u:Nat):Int)] 3 false):=⟨_,rfl⟩
 rw [← hG]
 have hGl:G.length=n+3:=by rw [hG]; simp [hHl]
 have g0:G[n]? = some (.cells (Wa o) 77 false):=by rw [hG,List.getElem?_set_ne (by omega)]; exact Yh b0 _
 have g1:G[n+1]? = some (.cells (ordN 0) 77 false):=by rw [hG,List.getElem?_set_ne (by omega)]; exact Yh b1 _
 have g2:G[n+2]? = some (.cells [Zx (u:Nat)] 3 false):=by rw [hG]; exact Xc (by simp [hHl]) _
 have hEG:Ext (fun _=>False) h G:=⟨by omega,fun k hk _=>by rw [hG,List.getElem?_set_ne (by omega),List.getElem?_append_left (by omega)]; exact hE0.2 k hk id⟩
 clear hG b0 b1 hE0 hHl
 clear H
 refine ⟨g0,?_⟩
 refine hN _ _ ?_
 clear hN N
 have hdl:=dn_lt (o:=o) (i:=i)
 have hor2:Vf .or .i64 ((dn o i:Nat):Int) (2 ^ i)=((dn o i ||| 2 ^ i:Nat):Int):=by
  rw [← Vn]; exact bitsV_or (by omega) (by omega)
 simp (maxSteps:=2000000) only [s69,↓Za,↓Zi,↓Zr,↓Ze,↓Zo,↓Zs,↓Zg,↓Zm,↓Zf,↓Zb,↓Zc,↓vdn,vup,Zk,Zn,Zl,Zh,Zj,List.map_cons,List.map_nil,cond_true,cond_false,aop,Zv,Zq,Zp,ev,sput,Zt,Zy,Ya,unK,Zd,Zw,Nat.reduceBEq,Nat.reduceAdd,Int.reduceBEq,Int.reduceBNe,Int.reduceLT,Zu,Zz,tup,tyf]
 refine Xp [(2,1)] (by kernel_rfl) (by kernel_rfl) (by kernel_rfl) (by kernel_rfl) ?_
 simp (maxSteps:=2000000) only [s69,↓Za,↓Zi,↓Zr,↓Ze,↓Zo,↓Zs,↓Zg,↓Zm,↓Zf,↓Zb,↓Zc,↓vdn,vup,Zk,Zn,Zl,Zh,Zj,List.map_cons,List.map_nil,cond_true,cond_false,aop,Zv,Zq,Zp,ev,sput,Zt,Zy,Ya,unK,Zd,Zw,Nat.reduceBEq,Nat.reduceAdd,Int.reduceBEq,Int.reduceBNe,Int.reduceLT,Zu,Zz,tup,tyf,Vd g0 Xb hl.2,Yx,List.nil_append,List.append_nil,List.toList_toArray,List.cons_append]
 refine ⟨_,_,below_call ho,rfl,?_⟩
 simp (maxSteps:=2000000) only [s69,↓Za,↓Zi,↓Zr,↓Ze,↓Zo,↓Zs,↓Zg,↓Zm,↓Zf,↓Zb,↓Zc,↓vdn,vup,Zk,Zn,Zl,Zh,Zj,List.map_cons,List.map_nil,cond_true,cond_false,aop,Zv,Zq,Zp,ev,sput,Zt,Zy,Ya,unK,Zd,Zw,Nat.reduceBEq,Nat.reduceAdd,Int.reduceBEq,Int.reduceBNe,Int.reduceLT,Zu,Zz,tup,tyf,shl1 (show i≤62 by omega),hor2,Yx,List.nil_append,List.append_nil,List.toList_toArray,List.cons_append]
 refine ⟨_,_,elements_call,?_⟩
 have hsl:=Nat.or_lt_two_pow hdl h2i
 refine aw_range bitIter (bx:=G.length) (s:=dn o i ||| 2 ^ i) (et:=3) rfl (Yl _ _) (by omega) (fun pre hk=>hk[n]? = some (.cells (Wa (growL o u pre)) 77 false)∧hk[n+1]? = some (.cells (ordN 0) 77 false)∧hk[n+2]? = some (.cells [Zx (u:Nat)] 3 false)∧Ext (fun _=>False) h hk) ?_ ?_ ?_
 · have old : ∀ {k B},G[k]? = some B→((G++[Blk.cells [Zx ((dn o i ||| 2 ^ i:Nat):Int)] 3 false]).set G.length .dead)[k]? = some B:=fun {k B} hk=>by
    have:=Yd hk
    rw [List.getElem?_set_ne (by omega)]; exact Yh hk _
   refine ⟨by rw [growL_nil]; exact old g0,old g1,old g2,⟨by simp; omega,fun k hk _=>?_⟩⟩
   rw [List.getElem?_set_ne (by omega),List.getElem?_append_left (by omega)]; exact hEG.2 k hk id
 · rintro pre x hk hpre ⟨k0,k1,k2,hEk⟩
   obtain ⟨hx64,hxb⟩:=Wl.1 (mem_pre hpre)
   have hxn:x<o.length:=by
    rcases Nat.lt_or_ge x o.length with h | h
    · exact h
    · rw [Nat.testBit_lt_two_pow (Nat.lt_of_lt_of_le hsl (Nat.pow_le_pow_right (by decide) h))] at hxb; cases hxb
   have hnp:x ∉ pre:=fun hx=>by
    obtain ⟨t,ht⟩:=hpre
    have hnd:=bits_nodup (dn o i ||| 2 ^ i)
    rw [← ht] at hnd
    have:=(List.nodup_append.1 (List.nodup_append.1 hnd).1).2.2 x hx x (by simp)
    exact this rfl
   have hgl:(growL o u pre).length≤6:=by rw [growL_len]; exact hl.2
   obtain ⟨hxv,hxl⟩:=Vv ho hxn
   have hor3:Vf .or .i64 ((growL o u pre).getD x 0) ((u:Nat):Int)=((bt o x ||| u:Nat):Int):=by
    rw [growL_get hxn hnp,hxv]; exact bitsV_or (by omega) (by omega)
   simp (maxSteps:=2000000) only [s69,↓Za,↓Zi,↓Zr,↓Ze,↓Zo,↓Zs,↓Zg,↓Zm,↓Zf,↓Zb,↓Zc,↓vdn,vup,Zk,Zn,Zl,Zh,Zj,List.map_cons,List.map_nil,cond_true,cond_false,aop,Zv,Zq,Zp,ev,sput,Zt,Zy,Ya,unK,Zd,Zw,Nat.reduceBEq,Nat.reduceAdd,Int.reduceBEq,Int.reduceBNe,Int.reduceLT,Zu,Zz,tup,tyf,r69_0_a,r69_0_b]
   refine Xp [] (by kernel_rfl) (by kernel_rfl) (by kernel_rfl) (by kernel_rfl) ?_
   simp (maxSteps:=2000000) only [s69,↓Za,↓Zi,↓Zr,↓Ze,↓Zo,↓Zs,↓Zg,↓Zm,↓Zf,↓Zb,↓Zc,↓vdn,vup,Zk,Zn,Zl,Zh,Zj,List.map_cons,List.map_nil,cond_true,cond_false,aop,Zv,Zq,Zp,ev,sput,Zt,Zy,Ya,unK,Zd,Zw,Nat.reduceBEq,Nat.reduceAdd,Int.reduceBEq,Int.reduceBNe,Int.reduceLT,Zu,Zz,tup,tyf,fldA Vg esz_75,idxA und_75 Xt (show x<6 by omega),loadI k0 Xf hgl (show x<6 by omega),Xh k2 Xf,hor3]
   rw [storeN k0 Xf hgl (by rw [growL_len]; exact hxn),growL_snoc hxn]
   have hlk:=Yd k0
   refine ⟨Xc hlk _,?_,?_,⟨by simp; exact hEk.1,fun k hk' _=>?_⟩⟩
   · rw [List.getElem?_set_ne (by omega)]; exact k1
   · rw [List.getElem?_set_ne (by omega)]; exact k2
   · rw [List.getElem?_set_ne (by omega)]; exact hEk.2 k hk' id
 · rintro hk ⟨k0,k1,k2,hEk⟩
   rw [hu,growL_add ho hi] at k0
   have hal:(addL o i j).length≤6:=by rw [addL_len]; exact hl.2
   have hlk:=Yd k1
   have k1' : (hk.set (n+1) (.cells (Wa (addL o i j)) 77 false))[n+1]? = some (.cells (Wa (addL o i j)) 77 false):=Xc hlk _
   simp (maxSteps:=2000000) only [s69,↓Za,↓Zi,↓Zr,↓Ze,↓Zo,↓Zs,↓Zg,↓Zm,↓Zf,↓Zb,↓Zc,↓vdn,vup,Zk,Zn,Zl,Zh,Zj,List.map_cons,List.map_nil,cond_true,cond_false,aop,Zv,Zq,Zp,ev,sput,Zt,Zy,Ya,unK,Zd,Zw,Nat.reduceBEq,Nat.reduceAdd,Int.reduceBEq,Int.reduceBNe,Int.reduceLT,Zu,Zz,tup,tyf,Vd k0 Xb hal]
   rw [storeO k1 rfl Xb hal]
   simp (maxSteps:=2000000) only [s69,↓Za,↓Zi,↓Zr,↓Ze,↓Zo,↓Zs,↓Zg,↓Zm,↓Zf,↓Zb,↓Zc,↓vdn,vup,Zk,Zn,Zl,Zh,Zj,List.map_cons,List.map_nil,cond_true,cond_false,aop,Zv,Zq,Zp,ev,sput,Zt,Zy,Ya,unK,Zd,Zw,Nat.reduceBEq,Nat.reduceAdd,Int.reduceBEq,Int.reduceBNe,Int.reduceLT,Zu,Zz,tup,tyf,Vd k1' Xb hal]
   exact ⟨by simp; exact hEk.1,fun k hk' _=>by rw [List.getElem?_set_ne (by omega)]; exact hEk.2 k hk' id⟩
end Go.Proofs.Tryd.Am
namespace Go.Proofs.Tryd.Am
open Go.Am Ord
set_option maxRecDepth 100000
set_option maxHeartbeats 1000000
def elI (o:List Int) (i:Int):Bool:=decide (0≤i)&&decide (i<o.length)
def AddR (o:List Int) (i j:Int) (s:Value) (e:Int) (h:Yb):Prop :=
 if ord o=true∧elI o i=true∧elI o j=true then (if fr o i.toNat j.toNat=true then e=0∧IntSl h s (addL o i.toNat j.toNat) else e=5∧s = .slice none 0 0) else e=2∧s = .slice none 0 0
end Go.Proofs.Tryd.Am
namespace Go.Proofs.Tryd.Am
open Go.Am
set_option maxRecDepth 100000
/-! 3: planchet planchetlaw07.OrderCounts -/
@[reducible] def q3_0:SCode:=.region [⟨some 6,.assign (.const (.bool false)),none⟩]
@[reducible] def q3_1:SCode:=.region [⟨some 27,.move (.tmp 0),none⟩,
  ⟨some 28,.call { callee:=.value (.func 18),args:=#[.tmp 27],argTypes:=#[22] },none⟩,
  ⟨some 29,.call { callee:=.value (.func 17),args:=#[.tmp 28],argTypes:=#[22] },none⟩,
  ⟨some 26,.move (.tmp 29),none⟩,
  ⟨some 30,.extract (.tmp 26) 0,none⟩,
  ⟨some 31,.extract (.tmp 26) 1,none⟩,
  ⟨some 7,.assign (.tmp 30),none⟩,
  ⟨some 8,.assign (.tmp 31),none⟩]
@[reducible] def q3_2:SCode:=.region [⟨some 32,.move (.tmp 8),none⟩,
  ⟨some 33,.binOp .neq 23 (.tmp 32) (.const (.int .i64 0)) 23,none⟩,
  ⟨some 34,.move (.tmp 33),none⟩,
  ⟨some 35,.move (.tmp 0),some (34,false)⟩,
  ⟨some 36,.call { callee:=.value (.func 19),args:=#[.tmp 35],argTypes:=#[22] },some (34,false)⟩,
  ⟨some 37,.unOp .not 4 (.tmp 36),some (34,false)⟩,
  ⟨some 38,.pick (.tmp 34) (.const (.bool true)) (.tmp 37),none⟩]
@[reducible] def q3_3:SCode:=.region [⟨some 39,.move (.tmp 8),none⟩,
  ⟨some 40,.binOp .eql 23 (.tmp 39) (.const (.int .i64 2)) 23,none⟩,
  ⟨some 41,.move (.tmp 40),none⟩,
  ⟨some 42,.call { callee:=.value (.func 20),args:=#[],argTypes:=#[] },some (41,true)⟩,
  ⟨some 43,.pick (.tmp 41) (.tmp 42) (.const (.bool false)),none⟩,
  ⟨some 6,.assign (.tmp 43),none⟩]
@[reducible] def q3_4:SCode:=.region [⟨some 9,.assign (.const (.int .i64 0)),none⟩]
@[reducible] def q3_5:SCode:=.region [⟨some 44,.move (.tmp 0),none⟩,
  ⟨some 45,.call { callee:=.builtin .len,args:=#[.tmp 44],argTypes:=#[22] },none⟩,
  ⟨some 46,.move (.const (.int .i64 0)),none⟩]
@[reducible] def q3_6:SCode:=.region [⟨some 47,.binOp .lss 3 (.tmp 46) (.tmp 45) 3,none⟩]
@[reducible] def q3_7:SCode:=.region [⟨some 48,.move (.tmp 46),none⟩,
  ⟨some 10,.assign (.tmp 48),none⟩]
@[reducible] def q3_8:SCode:=.region [⟨some 11,.assign (.const (.bool true)),none⟩]
@[reducible] def q3_9:SCode:=.region [⟨some 49,.move (.tmp 0),none⟩,
  ⟨some 50,.call { callee:=.builtin .len,args:=#[.tmp 49],argTypes:=#[22] },none⟩,
  ⟨some 51,.move (.const (.int .i64 0)),none⟩]
@[reducible] def q3_10:SCode:=.region [⟨some 52,.binOp .lss 3 (.tmp 51) (.tmp 50) 3,none⟩]
@[reducible] def q3_11:SCode:=.region [⟨some 53,.indexAddr 22 (.tmp 49) (.tmp 51),none⟩,
  ⟨some 54,.load 3 (.tmp 53),none⟩,
  ⟨some 13,.assign (.tmp 54),none⟩]
@[reducible] def q3_12:SCode:=.region [⟨some 55,.move (.tmp 11),none⟩,
  ⟨some 56,.move (.tmp 55),none⟩,
  ⟨some 57,.move (.tmp 13),some (56,true)⟩,
  ⟨some 58,.move (.tmp 10),some (56,true)⟩,
  ⟨some 59,.binOp .shr 3 (.tmp 57) (.tmp 58) 3,some (56,true)⟩,
  ⟨some 60,.binOp .and 3 (.tmp 59) (.const (.int .i64 1)) 3,some (56,true)⟩,
  ⟨some 61,.binOp .eql 3 (.tmp 60) (.const (.int .i64 0)) 3,some (56,true)⟩,
  ⟨some 62,.pick (.tmp 56) (.tmp 61) (.const (.bool false)),none⟩,
  ⟨some 11,.assign (.tmp 62),none⟩]
@[reducible] def q3_13:SCode:=.region [⟨some 63,.binOp .add 3 (.tmp 51) (.const (.int .i64 1)) 3,none⟩,
  ⟨some 51,.move (.tmp 63),none⟩]
def l3_0:SCode:=(.seq q3_10 (.seq (.cond (.tmp 52) .skip (.exit 2)) (.seq (.block 3 (.seq q3_11 q3_12)) q3_13)))
@[reducible] def q3_14:SCode:=.region [⟨some 64,.move (.tmp 11),none⟩,
  ⟨some 65,.unOp .not 4 (.tmp 64),none⟩]
@[reducible] def q3_15:SCode:=.region [⟨some 66,.move (.tmp 0),none⟩,
  ⟨some 67,.call { callee:=.builtin .len,args:=#[.tmp 66],argTypes:=#[22] },none⟩,
  ⟨some 68,.binOp .eql 3 (.tmp 67) (.const (.int .i64 1)) 3,none⟩]
@[reducible] def q3_16:SCode:=.region [⟨some 69,.move (.tmp 9),none⟩,
  ⟨some 70,.binOp .add 3 (.tmp 69) (.const (.int .i64 1)) 3,none⟩,
  ⟨some 9,.assign (.tmp 70),none⟩]
@[reducible] def q3_17:SCode:=.region [⟨some 14,.assign (.const (.slice none 0 0)),none⟩]
@[reducible] def q3_18:SCode:=.region [⟨some 71,.move (.tmp 0),none⟩,
  ⟨some 72,.call { callee:=.builtin .len,args:=#[.tmp 71],argTypes:=#[22] },none⟩,
  ⟨some 73,.move (.const (.int .i64 0)),none⟩]
@[reducible] def q3_19:SCode:=.region [⟨some 74,.binOp .lss 3 (.tmp 73) (.tmp 72) 3,none⟩]
@[reducible] def q3_20:SCode:=.region [⟨some 75,.move (.tmp 73),none⟩,
  ⟨some 76,.indexAddr 22 (.tmp 71) (.tmp 73),none⟩,
  ⟨some 77,.load 3 (.tmp 76),none⟩,
  ⟨some 15,.assign (.tmp 75),none⟩,
  ⟨some 16,.assign (.tmp 77),none⟩]
@[reducible] def q3_21:SCode:=.region [⟨some 78,.move (.tmp 15),none⟩,
  ⟨some 79,.move (.tmp 10),none⟩,
  ⟨some 80,.binOp .neq 3 (.tmp 78) (.tmp 79) 3,none⟩]
def q3_22:SCode:=.draw [⟨some 81,.move (.tmp 14),none⟩,
    ⟨some 82,.move (.tmp 16),none⟩,
    ⟨some 83,.move (.tmp 10),none⟩,
    ⟨some 84,.binOp .shl 3 (.const (.int .i64 1)) (.tmp 83) 3,none⟩,
    ⟨some 85,.binOp .sub 3 (.tmp 84) (.const (.int .i64 1)) 3,none⟩,
    ⟨some 86,.binOp .and 3 (.tmp 82) (.tmp 85) 3,none⟩,
    ⟨some 87,.move (.tmp 16),none⟩,
    ⟨some 88,.move (.tmp 10),none⟩,
    ⟨some 89,.binOp .add 3 (.tmp 88) (.const (.int .i64 1)) 3,none⟩,
    ⟨some 90,.binOp .shr 3 (.tmp 87) (.tmp 89) 3,none⟩,
    ⟨some 91,.move (.tmp 10),none⟩,
    ⟨some 92,.binOp .shl 3 (.tmp 90) (.tmp 91) 3,none⟩,
    ⟨some 93,.binOp .or 3 (.tmp 86) (.tmp 92) 3,none⟩,
    ⟨some 94,.buildSlice 22 1 #[(0,.tmp 93)],none⟩,
    ⟨some 95,.call { callee:=.builtin .append,args:=#[.tmp 81,.tmp 94],argTypes:=#[22,22] },none⟩,
    ⟨some 14,.assign (.tmp 95),none⟩]
  [[],[],[],[2],[3],[1,4],[],[],[7],[6,8],[],[9,10],[5,11],[12],[0,13],[14,14,0,1,2,3,4,5,6,7,8,9,10,11,12,13,14]]
@[reducible] def q3_23:SCode:=.region [⟨some 96,.binOp .add 3 (.tmp 73) (.const (.int .i64 1)) 3,none⟩,
  ⟨some 73,.move (.tmp 96),none⟩]
def l3_1:SCode:=(.seq q3_19 (.seq (.cond (.tmp 74) .skip (.exit 4)) (.seq (.block 5 (.seq q3_20 (.seq q3_21 (.cond (.tmp 80) q3_22 .skip)))) q3_23)))
@[reducible] def q3_24:SCode:=.region [⟨some 98,.move (.tmp 14),none⟩,
  ⟨some 99,.call { callee:=.value (.func 17),args:=#[.tmp 98],argTypes:=#[22] },none⟩,
  ⟨some 97,.move (.tmp 99),none⟩,
  ⟨some 100,.extract (.tmp 97) 0,none⟩,
  ⟨some 101,.extract (.tmp 97) 1,none⟩,
  ⟨some 17,.assign (.tmp 100),none⟩,
  ⟨some 18,.assign (.tmp 101),none⟩]
@[reducible] def q3_25:SCode:=.region [⟨some 102,.move (.tmp 18),none⟩,
  ⟨some 103,.binOp .neq 23 (.tmp 102) (.const (.int .i64 0)) 23,none⟩]
@[reducible] def q3_26:SCode:=.region [⟨some 6,.assign (.const (.bool false)),none⟩]
@[reducible] def q3_27:SCode:=.region [⟨some 104,.move (.tmp 9),none⟩,
  ⟨some 105,.move (.tmp 17),none⟩,
  ⟨some 106,.binOp .add 3 (.tmp 104) (.tmp 105) 3,none⟩,
  ⟨some 9,.assign (.tmp 106),none⟩]
@[reducible] def q3_28:SCode:=.region [⟨some 107,.binOp .add 3 (.tmp 46) (.const (.int .i64 1)) 3,none⟩,
  ⟨some 46,.move (.tmp 107),none⟩]
def l3_2:SCode:=(.seq q3_6 (.seq (.cond (.tmp 47) .skip (.exit 0)) (.seq (.block 1 (.seq q3_7 (.seq q3_8 (.seq (.seq q3_9 (.block 2 (.loop l3_0))) (.seq (.seq q3_14 (.cond (.tmp 65) (.exit 1) .skip)) (.seq (.seq q3_15 (.cond (.tmp 68) (.seq q3_16 (.exit 1)) .skip)) (.seq q3_17 (.seq (.seq q3_18 (.block 4 (.loop l3_1))) (.seq q3_24 (.seq (.seq q3_25 (.cond (.tmp 103) (.seq q3_26 .ret) .skip)) q3_27)))))))))) q3_28)))
@[reducible] def q3_29:SCode:=.region [⟨some 108,.move (.tmp 9),none⟩,
  ⟨some 109,.move (.tmp 7),none⟩,
  ⟨some 110,.binOp .neq 3 (.tmp 108) (.tmp 109) 3,none⟩]
@[reducible] def q3_30:SCode:=.region [⟨some 6,.assign (.const (.bool false)),none⟩]
def q3_31:SCode:=.draw [⟨some 111,.move (.tmp 1),none⟩,
    ⟨some 112,.convert 3 29 (.tmp 111),none⟩,
    ⟨some 113,.move (.tmp 0),none⟩,
    ⟨some 114,.call { callee:=.builtin .len,args:=#[.tmp 113],argTypes:=#[22] },none⟩,
    ⟨some 115,.convert 3 29 (.tmp 114),none⟩,
    ⟨some 116,.binOp .rem 29 (.tmp 112) (.tmp 115) 29,none⟩,
    ⟨some 117,.convert 29 3 (.tmp 116),none⟩,
    ⟨some 118,.move (.tmp 2),none⟩,
    ⟨some 119,.convert 3 29 (.tmp 118),none⟩,
    ⟨some 120,.move (.tmp 0),none⟩,
    ⟨some 121,.call { callee:=.builtin .len,args:=#[.tmp 120],argTypes:=#[22] },none⟩,
    ⟨some 122,.convert 3 29 (.tmp 121),none⟩,
    ⟨some 123,.binOp .rem 29 (.tmp 119) (.tmp 122) 29,none⟩,
    ⟨some 124,.convert 29 3 (.tmp 123),none⟩,
    ⟨some 1,.assign (.tmp 117),none⟩,
    ⟨some 2,.assign (.tmp 124),none⟩]
  [[],[0],[],[2],[3],[1,4],[5],[],[7],[],[9],[10],[8,11],[12],[6,0,1,2,3,4,5,6],[13,14,0,1,2,3,4,5,6,7,8,9,10,11,12,13,14]]
@[reducible] def q3_32:SCode:=.region [⟨some 126,.move (.tmp 0),none⟩,
  ⟨some 127,.call { callee:=.value (.func 18),args:=#[.tmp 126],argTypes:=#[22] },none⟩,
  ⟨some 128,.move (.tmp 1),none⟩,
  ⟨some 129,.move (.tmp 2),none⟩,
  ⟨some 130,.call { callee:=.value (.func 21),args:=#[.tmp 127,.tmp 128,.tmp 129],argTypes:=#[22,3,3] },none⟩,
  ⟨some 125,.move (.tmp 130),none⟩,
  ⟨some 131,.extract (.tmp 125) 0,none⟩,
  ⟨some 132,.extract (.tmp 125) 1,none⟩,
  ⟨some 19,.assign (.tmp 131),none⟩,
  ⟨some 8,.assign (.tmp 132),none⟩]
@[reducible] def q3_33:SCode:=.region [⟨some 134,.move (.tmp 0),none⟩,
  ⟨some 135,.call { callee:=.value (.func 18),args:=#[.tmp 134],argTypes:=#[22] },none⟩,
  ⟨some 136,.move (.tmp 2),none⟩,
  ⟨some 137,.move (.tmp 1),none⟩,
  ⟨some 138,.call { callee:=.value (.func 21),args:=#[.tmp 135,.tmp 136,.tmp 137],argTypes:=#[22,3,3] },none⟩,
  ⟨some 133,.move (.tmp 138),none⟩,
  ⟨some 139,.extract (.tmp 133) 0,none⟩,
  ⟨some 140,.extract (.tmp 133) 1,none⟩,
  ⟨some 20,.assign (.tmp 139),none⟩,
  ⟨some 21,.assign (.tmp 140),none⟩]
@[reducible] def q3_34:SCode:=.region [⟨some 141,.move (.tmp 8),none⟩,
  ⟨some 142,.binOp .neq 23 (.tmp 141) (.const (.int .i64 0)) 23,none⟩]
@[reducible] def q3_35:SCode:=.region [⟨some 143,.move (.tmp 8),none⟩,
  ⟨some 144,.binOp .eql 23 (.tmp 143) (.const (.int .i64 5)) 23,none⟩,
  ⟨some 145,.move (.tmp 144),none⟩,
  ⟨some 146,.move (.tmp 21),some (145,true)⟩,
  ⟨some 147,.move (.tmp 8),some (145,true)⟩,
  ⟨some 148,.binOp .eql 23 (.tmp 146) (.tmp 147) 23,some (145,true)⟩,
  ⟨some 149,.pick (.tmp 145) (.tmp 148) (.const (.bool false)),none⟩,
  ⟨some 150,.move (.tmp 149),none⟩,
  ⟨some 151,.move (.tmp 0),some (150,true)⟩,
  ⟨some 152,.move (.tmp 1),some (150,true)⟩,
  ⟨some 153,.move (.tmp 2),some (150,true)⟩,
  ⟨some 154,.call { callee:=.value (.func 22),args:=#[.tmp 151,.tmp 152,.tmp 153],argTypes:=#[22,3,3] },some (150,true)⟩,
  ⟨some 155,.unOp .not 4 (.tmp 154),some (150,true)⟩,
  ⟨some 156,.pick (.tmp 150) (.tmp 155) (.const (.bool false)),none⟩,
  ⟨some 157,.move (.tmp 156),none⟩,
  ⟨some 158,.call { callee:=.value (.func 20),args:=#[],argTypes:=#[] },some (157,true)⟩,
  ⟨some 159,.pick (.tmp 157) (.tmp 158) (.const (.bool false)),none⟩,
  ⟨some 6,.assign (.tmp 159),none⟩]
@[reducible] def q3_36:SCode:=.region [⟨some 161,.move (.tmp 19),none⟩,
  ⟨some 162,.call { callee:=.value (.func 17),args:=#[.tmp 161],argTypes:=#[22] },none⟩,
  ⟨some 160,.move (.tmp 162),none⟩,
  ⟨some 163,.extract (.tmp 160) 0,none⟩,
  ⟨some 164,.extract (.tmp 160) 1,none⟩,
  ⟨some 22,.assign (.tmp 163),none⟩,
  ⟨some 23,.assign (.tmp 164),none⟩]
@[reducible] def q3_37:SCode:=.region [⟨some 166,.move (.tmp 20),none⟩,
  ⟨some 167,.call { callee:=.value (.func 17),args:=#[.tmp 166],argTypes:=#[22] },none⟩,
  ⟨some 165,.move (.tmp 167),none⟩,
  ⟨some 168,.extract (.tmp 165) 0,none⟩,
  ⟨some 169,.extract (.tmp 165) 1,none⟩,
  ⟨some 24,.assign (.tmp 168),none⟩,
  ⟨some 25,.assign (.tmp 169),none⟩]
@[reducible] def q3_38:SCode:=.region [⟨some 170,.move (.tmp 21),none⟩,
  ⟨some 171,.binOp .eql 23 (.tmp 170) (.const (.int .i64 0)) 23,none⟩,
  ⟨some 172,.move (.tmp 171),none⟩,
  ⟨some 173,.move (.tmp 23),some (172,true)⟩,
  ⟨some 174,.binOp .eql 23 (.tmp 173) (.const (.int .i64 0)) 23,some (172,true)⟩,
  ⟨some 175,.pick (.tmp 172) (.tmp 174) (.const (.bool false)),none⟩,
  ⟨some 176,.move (.tmp 175),none⟩,
  ⟨some 177,.move (.tmp 25),some (176,true)⟩,
  ⟨some 178,.binOp .eql 23 (.tmp 177) (.const (.int .i64 0)) 23,some (176,true)⟩,
  ⟨some 179,.pick (.tmp 176) (.tmp 178) (.const (.bool false)),none⟩,
  ⟨some 180,.move (.tmp 179),none⟩,
  ⟨some 181,.move (.tmp 22),some (180,true)⟩,
  ⟨some 182,.move (.tmp 24),some (180,true)⟩,
  ⟨some 183,.binOp .add 3 (.tmp 181) (.tmp 182) 3,some (180,true)⟩,
  ⟨some 184,.move (.tmp 7),some (180,true)⟩,
  ⟨some 185,.binOp .eql 3 (.tmp 183) (.tmp 184) 3,some (180,true)⟩,
  ⟨some 186,.pick (.tmp 180) (.tmp 185) (.const (.bool false)),none⟩,
  ⟨some 187,.move (.tmp 186),none⟩,
  ⟨some 188,.move (.tmp 22),some (187,true)⟩,
  ⟨some 189,.binOp .gtr 3 (.tmp 188) (.const (.int .i64 0)) 3,some (187,true)⟩,
  ⟨some 190,.pick (.tmp 187) (.tmp 189) (.const (.bool false)),none⟩,
  ⟨some 191,.move (.tmp 190),none⟩,
  ⟨some 192,.move (.tmp 24),some (191,true)⟩,
  ⟨some 193,.binOp .gtr 3 (.tmp 192) (.const (.int .i64 0)) 3,some (191,true)⟩,
  ⟨some 194,.pick (.tmp 191) (.tmp 193) (.const (.bool false)),none⟩,
  ⟨some 195,.move (.tmp 194),none⟩,
  ⟨some 196,.call { callee:=.value (.func 20),args:=#[],argTypes:=#[] },some (195,true)⟩,
  ⟨some 197,.pick (.tmp 195) (.tmp 196) (.const (.bool false)),none⟩,
  ⟨some 6,.assign (.tmp 197),none⟩]
def s3:SCode:=(.seq q3_0 (.seq q3_1 (.seq (.seq q3_2 (.cond (.tmp 38) (.seq q3_3 .ret) .skip)) (.seq q3_4 (.seq (.seq q3_5 (.block 0 (.loop l3_2))) (.seq (.seq q3_29 (.cond (.tmp 110) (.seq q3_30 .ret) .skip)) (.seq q3_31 (.seq q3_32 (.seq q3_33 (.seq (.seq q3_34 (.cond (.tmp 142) (.seq q3_35 .ret) .skip)) (.seq q3_36 (.seq q3_37 (.seq q3_38 .ret)))))))))))))
/-! 4: planchet planchetlaw07.OrderEven -/
@[reducible] def q4_0:SCode:=.region [⟨some 2,.assign (.const (.bool false)),none⟩]
@[reducible] def q4_1:SCode:=.region [⟨some 8,.move (.tmp 0),none⟩,
  ⟨some 9,.call { callee:=.value (.func 18),args:=#[.tmp 8],argTypes:=#[22] },none⟩,
  ⟨some 10,.call { callee:=.value (.func 23),args:=#[.tmp 9],argTypes:=#[22] },none⟩,
  ⟨some 7,.move (.tmp 10),none⟩,
  ⟨some 11,.extract (.tmp 7) 0,none⟩,
  ⟨some 12,.extract (.tmp 7) 1,none⟩,
  ⟨some 3,.alloc 33,none⟩,
  ⟨none,.store 33 (.tmp 3) (.tmp 11),none⟩,
  ⟨some 4,.assign (.tmp 12),none⟩]
@[reducible] def q4_2:SCode:=.region [⟨some 13,.move (.tmp 0),none⟩,
  ⟨some 14,.call { callee:=.value (.func 19),args:=#[.tmp 13],argTypes:=#[22] },none⟩,
  ⟨some 15,.unOp .not 4 (.tmp 14),none⟩]
@[reducible] def q4_3:SCode:=.region [⟨some 16,.load 33 (.tmp 3),none⟩,
  ⟨some 17,.build 33 #[],none⟩,
  ⟨some 18,.binOp .eql 33 (.tmp 16) (.tmp 17) 33,none⟩,
  ⟨some 19,.move (.tmp 18),none⟩,
  ⟨some 20,.move (.tmp 4),some (19,true)⟩,
  ⟨some 21,.binOp .eql 23 (.tmp 20) (.const (.int .i64 2)) 23,some (19,true)⟩,
  ⟨some 22,.pick (.tmp 19) (.tmp 21) (.const (.bool false)),none⟩,
  ⟨some 23,.move (.tmp 22),none⟩,
  ⟨some 24,.call { callee:=.value (.func 20),args:=#[],argTypes:=#[] },some (23,true)⟩,
  ⟨some 25,.pick (.tmp 23) (.tmp 24) (.const (.bool false)),none⟩,
  ⟨some 2,.assign (.tmp 25),none⟩]
@[reducible] def q4_4:SCode:=.region [⟨some 27,.move (.tmp 0),none⟩,
  ⟨some 28,.call { callee:=.value (.func 24),args:=#[.tmp 27],argTypes:=#[22] },none⟩,
  ⟨some 26,.move (.tmp 28),none⟩,
  ⟨some 29,.extract (.tmp 26) 0,none⟩,
  ⟨some 30,.extract (.tmp 26) 1,none⟩,
  ⟨some 5,.alloc 33,none⟩,
  ⟨none,.store 33 (.tmp 5) (.tmp 29),none⟩,
  ⟨some 6,.assign (.tmp 30),none⟩]
@[reducible] def q4_5:SCode:=.region [⟨some 31,.load 33 (.tmp 3),none⟩,
  ⟨some 32,.load 33 (.tmp 5),none⟩,
  ⟨some 33,.binOp .eql 33 (.tmp 31) (.tmp 32) 33,none⟩,
  ⟨some 34,.move (.tmp 33),none⟩,
  ⟨some 35,.move (.tmp 4),some (34,true)⟩,
  ⟨some 36,.move (.tmp 6),some (34,true)⟩,
  ⟨some 37,.binOp .eql 23 (.tmp 35) (.tmp 36) 23,some (34,true)⟩,
  ⟨some 38,.pick (.tmp 34) (.tmp 37) (.const (.bool false)),none⟩,
  ⟨some 39,.move (.tmp 38),none⟩,
  ⟨some 40,.call { callee:=.value (.func 20),args:=#[],argTypes:=#[] },some (39,true)⟩,
  ⟨some 41,.pick (.tmp 39) (.tmp 40) (.const (.bool false)),none⟩,
  ⟨some 2,.assign (.tmp 41),none⟩]
def s4:SCode:=(.seq q4_0 (.seq q4_1 (.seq (.seq q4_2 (.cond (.tmp 15) (.seq q4_3 .ret) .skip)) (.seq q4_4 (.seq q4_5 .ret)))))
/-! 72: (planchet order.order).before -/
@[reducible] def q72_0:SCode:=.region [⟨some 3,.box 77 (.tmp 0),none⟩,
  ⟨some 6,.assign (.const (.int .i64 0)),none⟩]
@[reducible] def q72_1:SCode:=.region [⟨some 8,.move (.tmp 1),none⟩,
  ⟨some 9,.fieldAddr 77 (.tmp 3) 1,none⟩,
  ⟨some 10,.indexAddr 75 (.tmp 9) (.tmp 8),none⟩,
  ⟨some 11,.load 3 (.tmp 10),none⟩,
  ⟨some 12,.move (.tmp 2),none⟩,
  ⟨some 13,.binOp .shr 3 (.tmp 11) (.tmp 12) 3,none⟩,
  ⟨some 14,.binOp .and 3 (.tmp 13) (.const (.int .i64 1)) 3,none⟩,
  ⟨some 15,.binOp .eql 3 (.tmp 14) (.const (.int .i64 1)) 3,none⟩,
  ⟨some 7,.assign (.tmp 15),none⟩]
@[reducible] def q72_2:SCode:=.region [⟨some 16,.load 77 (.tmp 3),none⟩,
  ⟨some 17,.call { callee:=.value (.func 65),args:=#[.tmp 16],argTypes:=#[77] },none⟩,
  ⟨some 6,.assign (.tmp 17),none⟩]
@[reducible] def q72_3:SCode:=.region [⟨some 19,.load 77 (.tmp 3),none⟩,
  ⟨some 20,.move (.tmp 1),none⟩,
  ⟨some 21,.move (.tmp 2),none⟩,
  ⟨some 22,.call { callee:=.value (.func 68),args:=#[.tmp 19,.tmp 20,.tmp 21],argTypes:=#[77,3,3] },none⟩,
  ⟨some 23,.unOp .not 4 (.tmp 22),none⟩,
  ⟨some 18,.assign (.tmp 23),none⟩]
@[reducible] def q72_4:SCode:=.region [⟨some 6,.assign (.const (.int .i64 0)),none⟩]
@[reducible] def q72_5:SCode:=.region [⟨some 24,.load 77 (.tmp 3),none⟩,
  ⟨some 25,.move (.tmp 1),none⟩,
  ⟨some 26,.move (.tmp 2),none⟩,
  ⟨some 27,.call { callee:=.value (.func 69),args:=#[.tmp 24,.tmp 25,.tmp 26],argTypes:=#[77,3,3] },none⟩,
  ⟨some 28,.call { callee:=.value (.func 65),args:=#[.tmp 27],argTypes:=#[77] },none⟩,
  ⟨some 6,.assign (.tmp 28),none⟩]
def s72:SCode:=(.seq q72_0 (.seq (.block 0 (.seq q72_1 (.cond (.tmp 7) (.seq q72_2 .ret) (.seq q72_3 (.cond (.tmp 18) (.seq q72_4 .ret) .skip))))) (.seq q72_5 .ret)))
theorem s72_strip:Yg (Yf Tryd.f72)=s72:=by kernel_rfl
theorem s72_ok:Yz 29 (Yf Tryd.f72)=true:=by kernel_rfl
theorem s72_call [Tabs Tryd.prog] {args:List Value} {h:Yb} {Q:Value→Yb→Prop} (hsz:args.length≤29) (hk:aw Tryd.prog 29 s72 (Zu Tryd.prog [.tmp 6] Q) (Zp 0 args) h):ACall Tryd.prog 72 args h Q :=
 Wg Tryd.func72 rfl (enters_of Tryd.func72 (by kernel_rfl) rfl) rfl rfl (by decide) s72_strip s72_ok hsz hk
end Go.Proofs.Tryd.Am
namespace Ord
open Go.Am
def befN (o:List Int) (i j:Nat):Nat:=if ab o i j=true then cn o else if fr o i j=true then cn (addL o i j) else 0
def Yq (o:List Int):List (List Nat):=lines (ab o) o.length (List.range o.length)
theorem Xj (o:List Int):(Yq o).length=cn o:=by rw [Yq,cnt_len]; rfl
theorem mem_all {o:List Int} (h:ord o=true) {l:List Nat}:l∈Yq o↔l.Perm (List.range o.length)∧l.Pairwise fun a b=>ab o b a=false:=by
 rw [Yq,Wz (ord_po h).irr (by simp)]
theorem befN_eq {o:List Int} (h:ord o=true) {i j:Nat} (hi:i<o.length) (hj:j<o.length) (hn:i≠j):befN o i j=((Yq o).filter fun l=>bef l i j).length:=by
 have hmem : ∀ l,l∈Yq o→l.Nodup∧i∈l∧j∈l∧∀ a∈l,∀ b∈l,bef l a b=true→ab o b a=false:=fun l hl=>by
  obtain ⟨hp,hw⟩:=(mem_all h).1 hl
  have hnd:l.Nodup:=hp.nodup_iff.2 List.nodup_range
  exact ⟨hnd,hp.mem_iff.2 (List.mem_range.2 hi),hp.mem_iff.2 (List.mem_range.2 hj),(bef_pw hnd).1 hw⟩
 rw [befN]
 split
 · next hij =>
   rw [List.filter_eq_self.2,Xj]
   intro l hl
   obtain ⟨h1,h2,h3,h4⟩:=hmem l hl
   cases e:bef l i j with
   | true=>rfl
   | false =>
     have:=h4 j h3 i h2 (by rw [bef_not h2 h3 hn,e]; rfl)
     rw [hij] at this; cases this
 · next hij =>
   split
   · next hf =>
     simp only [fr,Bool.and_eq_true,decide_eq_true_eq,Bool.not_eq_true'] at hf
     rw [cn,addL_len,addL_ab hi h]
     have:=cnt_add (ord_po h) hn hf.2 (S:=List.range o.length) List.nodup_range (List.mem_range.2 hi) (List.mem_range.2 hj)
     rw [List.length_range] at this
     exact this
   · next hf =>
     have hji:ab o j i=true:=by
      cases e:ab o j i with
      | true=>rfl
      | false =>
        simp only [Bool.not_eq_true] at hij
        exact absurd (by simp [fr,hn,hij,e]) hf
     rw [eq_comm,List.length_eq_zero_iff,List.filter_eq_nil_iff]
     intro l hl hb
     obtain ⟨h1,h2,h3,h4⟩:=hmem l hl
     have:=h4 i h2 j h3 hb
     rw [hji] at this; cases this
theorem befN_le {o:List Int} (h:ord o=true) {i j:Nat} (hi:i<o.length) (hj:j<o.length) (hn:i≠j):befN o i j≤cn o:=by
 rw [befN_eq h hi hj hn,← Xj]; exact List.length_filter_le _ _
theorem befN_two {o:List Int} (h:ord o=true) {i j:Nat} (hi:i<o.length) (hj:j<o.length) (hn:i≠j):befN o i j+befN o j i=cn o:=by
 rw [befN_eq h hi hj hn,befN_eq h hj hi (Ne.symm hn),← Xj]
 have e:((Yq o).filter fun l=>bef l j i)=(Yq o).filter fun l=>!bef l i j:=by
  refine List.filter_congr fun l hl=>?_
  obtain ⟨hp,-⟩:=(mem_all h).1 hl
  exact bef_not (hp.mem_iff.2 (List.mem_range.2 hi)) (hp.mem_iff.2 (List.mem_range.2 hj)) hn
 rw [e]
 generalize Yq o=L
 clear e
 induction L with
 | nil=>rfl
 | cons x L ih =>
   simp only [List.filter_cons,List.length_cons]
   cases bef x i j <;> simp <;> omega
def hsum (o:List Int) (i:Nat):Nat:=(((List.range o.length).filter fun j=>decide (j≠i)).map fun j=>befN o j i).sum
theorem hsum_le {o:List Int} (h:ord o=true) {i:Nat} (hi:i<o.length):hsum o i≤6*cn o:=by
 have hl:=Yu h
 have key : ∀ J:List Nat,(∀ j∈J,j<o.length∧j≠i)→(J.map fun j=>befN o j i).sum≤J.length*cn o:=by
  intro J
  induction J with
  | nil=>intro _; simp
  | cons j J ih =>
    intro hJ
    have h1:=ih fun j hj=>hJ j (by simp [hj])
    have h2:=befN_le h (hJ j (by simp)).1 hi (hJ j (by simp)).2
    rw [List.map_cons,List.sum_cons,List.length_cons,Nat.succ_mul]; omega
 have h1:=key ((List.range o.length).filter fun j=>decide (j≠i)) fun j hj=>by
  have:=List.mem_filter.1 hj
  exact ⟨List.mem_range.1 this.1,by simpa using this.2⟩
 have h2:=List.length_filter_le (fun j=>decide (j≠i)) (List.range o.length)
 rw [List.length_range] at h2
 have h3:=Nat.mul_le_mul_right (cn o) (Nat.le_trans h2 hl.2)
 rw [hsum]; omega
end Ord
namespace Go.Proofs.Tryd.Am
open Go.Am Ord
set_option maxRecDepth 100000
set_option maxHeartbeats 1000000
def rest (n there:Nat):List Nat:=(List.range n).filter fun i=>!there.testBit i
end Go.Proofs.Tryd.Am
namespace Go.Proofs.Tryd.Am
open Go.Am
set_option maxRecDepth 100000
/-! 26: planchet order.Height -/
@[reducible] def q26_0:SCode:=.region [⟨some 4,.alloc 37,none⟩,
  ⟨some 5,.assign (.const (.int .i64 0)),none⟩]
@[reducible] def q26_1:SCode:=.region [⟨some 11,.move (.tmp 0),none⟩,
  ⟨some 12,.call { callee:=.value (.func 64),args:=#[.tmp 11],argTypes:=#[22] },none⟩,
  ⟨some 10,.move (.tmp 12),none⟩,
  ⟨some 13,.extract (.tmp 10) 0,none⟩,
  ⟨some 14,.extract (.tmp 10) 1,none⟩,
  ⟨some 6,.alloc 77,none⟩,
  ⟨none,.store 77 (.tmp 6) (.tmp 13),none⟩,
  ⟨some 7,.assign (.tmp 14),none⟩]
@[reducible] def q26_2:SCode:=.region [⟨some 15,.move (.tmp 7),none⟩,
  ⟨some 16,.unOp .not 4 (.tmp 15),none⟩,
  ⟨some 17,.move (.tmp 16),none⟩,
  ⟨some 18,.load 77 (.tmp 6),some (17,false)⟩,
  ⟨some 19,.move (.tmp 1),some (17,false)⟩,
  ⟨some 20,.call { callee:=.value (.func 67),args:=#[.tmp 18,.tmp 19],argTypes:=#[77,3] },some (17,false)⟩,
  ⟨some 21,.unOp .not 4 (.tmp 20),some (17,false)⟩,
  ⟨some 22,.pick (.tmp 17) (.const (.bool true)) (.tmp 21),none⟩]
@[reducible] def q26_3:SCode:=.region [⟨some 23,.build 37 #[],none⟩,
  ⟨none,.store 37 (.tmp 4) (.tmp 23),none⟩,
  ⟨some 5,.assign (.const (.int .i64 2)),none⟩]
@[reducible] def q26_4:SCode:=.region [⟨some 8,.assign (.const (.int .i64 0)),none⟩]
@[reducible] def q26_5:SCode:=.region [⟨some 24,.fieldAddr 77 (.tmp 6) 0,none⟩,
  ⟨some 25,.load 3 (.tmp 24),none⟩,
  ⟨some 26,.move (.const (.int .i64 0)),none⟩]
@[reducible] def q26_6:SCode:=.region [⟨some 27,.binOp .lss 3 (.tmp 26) (.tmp 25) 3,none⟩]
@[reducible] def q26_7:SCode:=.region [⟨some 28,.move (.tmp 26),none⟩,
  ⟨some 9,.assign (.tmp 28),none⟩]
@[reducible] def q26_8:SCode:=.region [⟨some 29,.move (.tmp 9),none⟩,
  ⟨some 30,.move (.tmp 1),none⟩,
  ⟨some 31,.binOp .neq 3 (.tmp 29) (.tmp 30) 3,none⟩]
@[reducible] def q26_9:SCode:=.region [⟨some 32,.move (.tmp 8),none⟩,
  ⟨some 33,.load 77 (.tmp 6),none⟩,
  ⟨some 34,.move (.tmp 9),none⟩,
  ⟨some 35,.move (.tmp 1),none⟩,
  ⟨some 36,.call { callee:=.value (.func 72),args:=#[.tmp 33,.tmp 34,.tmp 35],argTypes:=#[77,3,3] },none⟩,
  ⟨some 37,.binOp .add 3 (.tmp 32) (.tmp 36) 3,none⟩,
  ⟨some 8,.assign (.tmp 37),none⟩]
@[reducible] def q26_10:SCode:=.region [⟨some 38,.binOp .add 3 (.tmp 26) (.const (.int .i64 1)) 3,none⟩,
  ⟨some 26,.move (.tmp 38),none⟩]
def l26_0:SCode:=(.seq q26_6 (.seq (.cond (.tmp 27) .skip (.exit 0)) (.seq (.block 1 (.seq q26_7 (.seq q26_8 (.cond (.tmp 31) q26_9 .skip)))) q26_10)))
@[reducible] def q26_11:SCode:=.region [⟨some 39,.move (.tmp 8),none⟩,
  ⟨some 40,.load 77 (.tmp 6),none⟩,
  ⟨some 41,.call { callee:=.value (.func 65),args:=#[.tmp 40],argTypes:=#[77] },none⟩,
  ⟨some 42,.call { callee:=.value (.func 73),args:=#[.tmp 39,.tmp 41],argTypes:=#[3,3] },none⟩,
  ⟨none,.store 37 (.tmp 4) (.tmp 42),none⟩,
  ⟨some 5,.assign (.const (.int .i64 0)),none⟩]
def s26:SCode:=(.seq q26_0 (.seq q26_1 (.seq (.seq q26_2 (.cond (.tmp 22) (.seq q26_3 .ret) .skip)) (.seq q26_4 (.seq (.seq q26_5 (.block 0 (.loop l26_0))) (.seq q26_11 .ret))))))
theorem s26_strip:Yg (Yf Tryd.f26)=s26:=by kernel_rfl
theorem s26_ok:Yz 43 (Yf Tryd.f26)=true:=by kernel_rfl
theorem s26_call [Tabs Tryd.prog] {args:List Value} {h:Yb} {Q:Value→Yb→Prop} (hsz:args.length≤43) (hk:aw Tryd.prog 43 s26 (Zu Tryd.prog [.cell 4 37,.tmp 5] Q) (Zp 0 args) h):ACall Tryd.prog 26 args h Q :=
 Wg Tryd.func26 rfl (enters_of Tryd.func26 (by kernel_rfl) rfl) rfl rfl (by decide) s26_strip s26_ok hsz hk
/-! 73: planchet order.frac -/
@[reducible] def q73_0:SCode:=.region [⟨some 4,.alloc 37,none⟩]
@[reducible] def q73_1:SCode:=.region [⟨some 7,.move (.tmp 0),none⟩,
  ⟨some 8,.move (.tmp 1),none⟩,
  ⟨some 5,.assign (.tmp 7),none⟩,
  ⟨some 6,.assign (.tmp 8),none⟩]
@[reducible] def q73_2:SCode:=.region [⟨some 9,.move (.tmp 6),none⟩,
  ⟨some 10,.binOp .neq 3 (.tmp 9) (.const (.int .i64 0)) 3,none⟩]
def q73_3:SCode:=.draw [⟨some 11,.move (.tmp 6),none⟩,
    ⟨some 12,.move (.tmp 5),none⟩,
    ⟨some 13,.move (.tmp 6),none⟩,
    ⟨some 14,.binOp .rem 3 (.tmp 12) (.tmp 13) 3,none⟩,
    ⟨some 5,.assign (.tmp 11),none⟩,
    ⟨some 6,.assign (.tmp 14),none⟩]
  [[],[],[],[1,2],[0,0,1],[3,4,0,1,2,3,4]]
def l73_0:SCode:=(.seq (.seq q73_2 (.cond (.tmp 10) .skip (.exit 0))) (.block 1 q73_3))
def q73_4:SCode:=.draw [⟨some 15,.move (.tmp 0),none⟩,
    ⟨some 16,.move (.tmp 5),none⟩,
    ⟨some 17,.binOp .quo 3 (.tmp 15) (.tmp 16) 3,none⟩,
    ⟨some 18,.move (.tmp 1),none⟩,
    ⟨some 19,.move (.tmp 5),none⟩,
    ⟨some 20,.binOp .quo 3 (.tmp 18) (.tmp 19) 3,none⟩,
    ⟨some 21,.build 37 #[(0,.tmp 17),(1,.tmp 20)],none⟩,
    ⟨none,.store 37 (.tmp 4) (.tmp 21),none⟩]
  [[],[],[0,1],[],[],[3,4],[2,5],[6,0,1,2,3,4,5,6]]
def s73:SCode:=(.seq q73_0 (.seq q73_1 (.seq (.block 0 (.loop l73_0)) (.seq q73_4 .ret))))
theorem s73_strip:Yg (Yf Tryd.f73)=s73:=by kernel_rfl
theorem s73_ok:Yz 22 (Yf Tryd.f73)=true:=by kernel_rfl
theorem s73_call [Tabs Tryd.prog] {args:List Value} {h:Yb} {Q:Value→Yb→Prop} (hsz:args.length≤22) (hk:aw Tryd.prog 22 s73 (Zu Tryd.prog [.cell 4 37] Q) (Zp 0 args) h):ACall Tryd.prog 73 args h Q :=
 Wg Tryd.func73 rfl (enters_of Tryd.func73 (by kernel_rfl) rfl) rfl rfl (by decide) s73_strip s73_ok hsz hk
/-! 75: (planchet order.order).lines -/
@[reducible] def q75_0:SCode:=.region [⟨some 1,.box 77 (.tmp 0),none⟩,
  ⟨some 2,.assign (.const (.slice none 0 0)),none⟩]
@[reducible] def q75_1:SCode:=.region [⟨some 3,.alloc 45,none⟩]
@[reducible] def q75_2:SCode:=.region [⟨some 4,.alloc 22,none⟩]
@[reducible] def q75_3:SCode:=.region [⟨some 5,.alloc 118,none⟩]
@[reducible] def q75_4:SCode:=.region [⟨some 6,.makeFunc (.func 103) #[] #[.tmp 3,.tmp 4,.tmp 1,.tmp 5],none⟩,
  ⟨none,.store 118 (.tmp 5) (.tmp 6),none⟩]
def q75_5:SCode:=.draw [⟨some 7,.load 118 (.tmp 5),none⟩,
    ⟨some 8,.load 77 (.tmp 1),none⟩,
    ⟨some 9,.call { callee:=.value (.func 98),args:=#[.tmp 8],argTypes:=#[77] },none⟩,
    ⟨some 10,.call { callee:=.value (.tmp 7),args:=#[.tmp 9],argTypes:=#[3] },none⟩]
  [[],[],[1],[0,2,2]]
@[reducible] def q75_6:SCode:=.region [⟨some 11,.load 45 (.tmp 3),none⟩,
  ⟨some 2,.assign (.tmp 11),none⟩]
def s75:SCode:=(.seq q75_0 (.seq q75_1 (.seq q75_2 (.seq q75_3 (.seq q75_4 (.seq q75_5 (.seq q75_6 .ret)))))))
theorem s75_strip:Yg (Yf Tryd.f75)=s75:=by kernel_rfl
theorem s75_ok:Yz 12 (Yf Tryd.f75)=true:=by kernel_rfl
theorem s75_call [Tabs Tryd.prog] {args:List Value} {h:Yb} {Q:Value→Yb→Prop} (hsz:args.length≤12) (hk:aw Tryd.prog 12 s75 (Zu Tryd.prog [.tmp 2] Q) (Zp 0 args) h):ACall Tryd.prog 75 args h Q :=
 Wg Tryd.func75 rfl (enters_of Tryd.func75 (by kernel_rfl) rfl) rfl rfl (by decide) s75_strip s75_ok hsz hk
/-! 103: (planchet order.order).lines$1 -/
@[reducible] def q103_0:SCode:=.region [⟨some 5,.box 3 (.tmp 0),none⟩]
@[reducible] def q103_1:SCode:=.region [⟨some 7,.load 3 (.tmp 5),none⟩,
  ⟨some 8,.binOp .eql 3 (.tmp 7) (.const (.int .i64 0)) 3,none⟩]
def q103_2:SCode:=.draw [⟨some 9,.load 45 (.tmp 1),none⟩,
    ⟨some 10,.load 22 (.tmp 2),none⟩,
    ⟨some 11,.call { callee:=.value (.func 66),args:=#[.tmp 10],argTypes:=#[22] },none⟩,
    ⟨some 12,.buildSlice 45 1 #[(0,.tmp 11)],none⟩,
    ⟨some 13,.call { callee:=.builtin .append,args:=#[.tmp 9,.tmp 12],argTypes:=#[45,45] },none⟩,
    ⟨none,.store 45 (.tmp 1) (.tmp 13),none⟩]
  [[],[],[1],[2],[0,3,2],[4,4,0,1,2,3,4]]
@[reducible] def q103_3:SCode:=.region [⟨some 14,.load 3 (.tmp 5),none⟩,
  ⟨some 15,.call { callee:=.value (.func 101),args:=#[.tmp 14],argTypes:=#[3] },none⟩]
@[reducible] def q103_4:SCode:=.region [⟨some 6,.assign (.tmp 16),none⟩]
def q103_5:SCode:=.draw [⟨some 17,.load 77 (.tmp 3),none⟩,
    ⟨some 18,.move (.tmp 6),none⟩,
    ⟨some 19,.call { callee:=.value (.func 81),args:=#[.tmp 17,.tmp 18],argTypes:=#[77,3] },none⟩,
    ⟨some 20,.load 3 (.tmp 5),none⟩,
    ⟨some 21,.binOp .and 3 (.tmp 19) (.tmp 20) 3,none⟩,
    ⟨some 22,.binOp .eql 3 (.tmp 21) (.const (.int .i64 0)) 3,none⟩]
  [[],[],[0,1],[],[2,3],[4]]
@[reducible] def q103_6:SCode:=.region [⟨some 23,.load 22 (.tmp 2),none⟩,
  ⟨some 24,.move (.tmp 6),none⟩,
  ⟨some 25,.buildSlice 22 1 #[(0,.tmp 24)],none⟩,
  ⟨some 26,.call { callee:=.builtin .append,args:=#[.tmp 23,.tmp 25],argTypes:=#[22,22] },none⟩,
  ⟨none,.store 22 (.tmp 2) (.tmp 26),none⟩]
def q103_7:SCode:=.draw [⟨some 27,.load 118 (.tmp 4),none⟩,
    ⟨some 28,.load 3 (.tmp 5),none⟩,
    ⟨some 29,.move (.tmp 6),none⟩,
    ⟨some 30,.binOp .shl 3 (.const (.int .i64 1)) (.tmp 29) 3,none⟩,
    ⟨some 31,.binOp .andNot 3 (.tmp 28) (.tmp 30) 3,none⟩,
    ⟨some 32,.call { callee:=.value (.tmp 27),args:=#[.tmp 31],argTypes:=#[3] },none⟩]
  [[],[],[],[2],[1,3],[0,4]]
@[reducible] def q103_8:SCode:=.region [⟨some 33,.load 22 (.tmp 2),none⟩,
  ⟨some 34,.load 22 (.tmp 2),none⟩,
  ⟨some 35,.call { callee:=.builtin .len,args:=#[.tmp 34],argTypes:=#[22] },none⟩,
  ⟨some 36,.binOp .sub 3 (.tmp 35) (.const (.int .i64 1)) 3,none⟩,
  ⟨some 37,.slice 22 (.tmp 33) none (some (.tmp 36)) none,none⟩,
  ⟨none,.store 22 (.tmp 2) (.tmp 37),none⟩]
def r103_0_a:SCode:=q103_4
def r103_0_b:SCode:=(.block 1 (.seq q103_5 (.cond (.tmp 22) (.seq q103_6 (.seq q103_7 q103_8)) .skip)))
def s103:SCode:=(.seq q103_0 (.seq (.seq q103_1 (.cond (.tmp 8) q103_2 .skip)) (.seq q103_3 (.block 0 (.range (.tmp 15) [16] r103_0_a r103_0_b)))))
theorem s103_strip:Yg (Yf Tryd.f103)=s103:=by kernel_rfl
theorem s103_ok:Yz 38 (Yf Tryd.f103)=true:=by kernel_rfl
theorem s103_call [Tabs Tryd.prog] {args:List Value} {h:Yb} {Q:Value→Yb→Prop} (hsz:args.length≤38) (hk:aw Tryd.prog 38 s103 (Zu Tryd.prog [] Q) (Zp 0 args) h):ACall Tryd.prog 103 args h Q :=
 Wg Tryd.func103 rfl (enters_of Tryd.func103 (by kernel_rfl) rfl) rfl rfl (by decide) s103_strip s103_ok hsz hk
end Go.Proofs.Tryd.Am
namespace Go.Proofs.Tryd.Am
open Go.Am Ord
set_option maxRecDepth 100000
set_option maxHeartbeats 1000000
def castN (l:List Nat):List Int:=l.map fun (i:Nat)=>(i:Int)
theorem castN_len (l:List Nat):(castN l).length=l.length:=by simp [castN]
def behind (xs:List Int) (Ls:List (List Nat)):List (List Int):=Ls.map fun l=>xs++castN l
theorem litI1 {h:Yb} {x:Int} (K:Value→Yb→Prop):Yw prog h 22 1 [(0,Zx x)] K=K (.slice (some ⟨h.length,0,none⟩) 1 1) (h++[.ints [x] 3 false]):=by
 simp only [Yw,Uh,zero_3,Xt,reps,Ub,mkb,Xa,Wp,cellsOf,List.length_singleton,Nat.mul_one,Nat.zero_mul,Nat.zero_add]
 exact propext ⟨fun h=>h.2.2.2,fun h=>⟨trivial,by decide,by decide,h⟩⟩
def linesI (o:List Int):List (List Int):=behind [] (Yq o)
theorem linesI_len (o:List Int):(linesI o).length=cn o:=by rw [linesI,behind,List.length_map,Xj]
theorem linesI_get (o:List Int) {k:Nat} (hk:k<cn o):(linesI o).getD k []=castN ((Yq o).getD k []):=by
 have h1:k<(Yq o).length:=by rw [Xj]; exact hk
 simp [linesI,behind,List.getD,h1]
end Go.Proofs.Tryd.Am
namespace Go.Proofs.Tryd.Am
open Go.Am
set_option maxRecDepth 100000
end Go.Proofs.Tryd.Am
namespace Go.Proofs.Tryd.Am
open Go.Am
set_option maxRecDepth 100000
/-! 108: math bits.Len -/
@[reducible] def q108_0:SCode:=.region [⟨some 2,.assign (.const (.int .i64 0)),none⟩]
@[reducible] def q108_1:SCode:=.region [⟨some 3,.move (.tmp 0),none⟩,
  ⟨some 4,.convert 29 131 (.tmp 3),none⟩,
  ⟨some 5,.call { callee:=.value (.func 118),args:=#[.tmp 4],argTypes:=#[131] },none⟩,
  ⟨some 2,.assign (.tmp 5),none⟩]
@[reducible] def q108_2:SCode:=.region [⟨some 6,.move (.tmp 0),none⟩,
  ⟨some 7,.call { callee:=.value (.func 119),args:=#[.tmp 6],argTypes:=#[133] },none⟩,
  ⟨some 2,.assign (.tmp 7),none⟩]
def s108:SCode:=(.seq q108_0 (.seq (.cond (.const (.bool false)) (.seq q108_1 .ret) .skip) (.seq q108_2 .ret)))
theorem s108_strip:Yg (Yf Tryd.f108)=s108:=by kernel_rfl
theorem s108_ok:Yz 8 (Yf Tryd.f108)=true:=by kernel_rfl
/-! 119: math bits.Len64 -/
@[reducible] def q119_0:SCode:=.region [⟨some 2,.assign (.const (.int .i64 0)),none⟩]
@[reducible] def q119_1:SCode:=.region [⟨some 3,.move (.tmp 0),none⟩,
  ⟨some 4,.binOp .geq 133 (.tmp 3) (.const (.int .u64 4294967296)) 133,none⟩]
@[reducible] def q119_2:SCode:=.region [⟨some 5,.move (.tmp 0),none⟩,
  ⟨some 6,.binOp .shr 133 (.tmp 5) (.const (.int .u64 32)) 29,none⟩,
  ⟨some 0,.assign (.tmp 6),none⟩]
@[reducible] def q119_3:SCode:=.region [⟨some 2,.assign (.const (.int .i64 32)),none⟩]
@[reducible] def q119_4:SCode:=.region [⟨some 7,.move (.tmp 0),none⟩,
  ⟨some 8,.binOp .geq 133 (.tmp 7) (.const (.int .u64 65536)) 133,none⟩]
@[reducible] def q119_5:SCode:=.region [⟨some 9,.move (.tmp 0),none⟩,
  ⟨some 10,.binOp .shr 133 (.tmp 9) (.const (.int .u64 16)) 29,none⟩,
  ⟨some 0,.assign (.tmp 10),none⟩]
@[reducible] def q119_6:SCode:=.region [⟨some 11,.move (.tmp 2),none⟩,
  ⟨some 12,.binOp .add 3 (.tmp 11) (.const (.int .i64 16)) 3,none⟩,
  ⟨some 2,.assign (.tmp 12),none⟩]
@[reducible] def q119_7:SCode:=.region [⟨some 13,.move (.tmp 0),none⟩,
  ⟨some 14,.binOp .geq 133 (.tmp 13) (.const (.int .u64 256)) 133,none⟩]
@[reducible] def q119_8:SCode:=.region [⟨some 15,.move (.tmp 0),none⟩,
  ⟨some 16,.binOp .shr 133 (.tmp 15) (.const (.int .u64 8)) 29,none⟩,
  ⟨some 0,.assign (.tmp 16),none⟩]
@[reducible] def q119_9:SCode:=.region [⟨some 17,.move (.tmp 2),none⟩,
  ⟨some 18,.binOp .add 3 (.tmp 17) (.const (.int .i64 8)) 3,none⟩,
  ⟨some 2,.assign (.tmp 18),none⟩]
@[reducible] def q119_10:SCode:=.region [⟨some 19,.move (.tmp 2),none⟩,
  ⟨some 20,.move (.tmp 0),none⟩,
  ⟨some 21,.convert 133 5 (.tmp 20),none⟩,
  ⟨some 22,.index 9 (.const (.string { data:=#[0,1,2,2,3,3,3,3,4,4,4,4,4,4,4,4,5,5,5,5,5,5,5,5,5,5,5,5,5,5,5,5,6,6,6,6,6,6,6,6,6,6,6,6,6,6,6,6,6,6,6,6,6,6,6,6,6,6,6,6,6,6,6,6,7,7,7,7,7,7,7,7,7,7,7,7,7,7,7,7,7,7,7,7,7,7,7,7,7,7,7,7,7,7,7,7,7,7,7,7,7,7,7,7,7,7,7,7,7,7,7,7,7,7,7,7,7,7,7,7,7,7,7,7,7,7,7,7,8,8,8,8,8,8,8,8,8,8,8,8,8,8,8,8,8,8,8,8,8,8,8,8,8,8,8,8,8,8,8,8,8,8,8,8,8,8,8,8,8,8,8,8,8,8,8,8,8,8,8,8,8,8,8,8,8,8,8,8,8,8,8,8,8,8,8,8,8,8,8,8,8,8,8,8,8,8,8,8,8,8,8,8,8,8,8,8,8,8,8,8,8,8,8,8,8,8,8,8,8,8,8,8,8,8,8,8,8,8,8,8,8,8,8,8,8,8,8,8,8,8,8,8,8,8,8,8] })) (.tmp 21),none⟩,
  ⟨some 23,.convert 5 3 (.tmp 22),none⟩,
  ⟨some 24,.binOp .add 3 (.tmp 19) (.tmp 23) 3,none⟩,
  ⟨some 2,.assign (.tmp 24),none⟩]
def s119:SCode:=(.seq q119_0 (.seq (.seq q119_1 (.cond (.tmp 4) (.seq q119_2 q119_3) .skip)) (.seq (.seq q119_4 (.cond (.tmp 8) (.seq q119_5 q119_6) .skip)) (.seq (.seq q119_7 (.cond (.tmp 14) (.seq q119_8 q119_9) .skip)) (.seq q119_10 .ret)))))
theorem s119_strip:Yg (Yf Tryd.f119)=s119:=by kernel_rfl
theorem s119_ok:Yz 25 (Yf Tryd.f119)=true:=by kernel_rfl
/-! 45: planchet order.Turn -/
@[reducible] def q45_0:SCode:=.region [⟨some 2,.assign (.const (.slice none 0 0)),none⟩,
  ⟨some 3,.assign (.const (.int .i64 0)),none⟩]
@[reducible] def q45_1:SCode:=.region [⟨some 9,.move (.tmp 0),none⟩,
  ⟨some 10,.call { callee:=.value (.func 64),args:=#[.tmp 9],argTypes:=#[22] },none⟩,
  ⟨some 8,.move (.tmp 10),none⟩,
  ⟨some 11,.extract (.tmp 8) 0,none⟩,
  ⟨some 12,.extract (.tmp 8) 1,none⟩,
  ⟨some 4,.alloc 77,none⟩,
  ⟨none,.store 77 (.tmp 4) (.tmp 11),none⟩,
  ⟨some 5,.assign (.tmp 12),none⟩]
@[reducible] def q45_2:SCode:=.region [⟨some 13,.move (.tmp 5),none⟩,
  ⟨some 14,.unOp .not 4 (.tmp 13),none⟩]
@[reducible] def q45_3:SCode:=.region [⟨some 2,.assign (.const (.slice none 0 0)),none⟩,
  ⟨some 3,.assign (.const (.int .i64 2)),none⟩]
@[reducible] def q45_4:SCode:=.region [⟨some 6,.assign (.const (.slice none 0 0)),none⟩]
@[reducible] def q45_5:SCode:=.region [⟨some 15,.fieldAddr 77 (.tmp 4) 0,none⟩,
  ⟨some 16,.load 3 (.tmp 15),none⟩,
  ⟨some 17,.move (.const (.int .i64 0)),none⟩]
@[reducible] def q45_6:SCode:=.region [⟨some 18,.binOp .lss 3 (.tmp 17) (.tmp 16) 3,none⟩]
@[reducible] def q45_7:SCode:=.region [⟨some 19,.move (.tmp 17),none⟩,
  ⟨some 7,.assign (.tmp 19),none⟩]
@[reducible] def q45_8:SCode:=.region [⟨some 20,.move (.tmp 6),none⟩,
  ⟨some 21,.load 77 (.tmp 4),none⟩,
  ⟨some 22,.move (.tmp 7),none⟩,
  ⟨some 23,.call { callee:=.value (.func 81),args:=#[.tmp 21,.tmp 22],argTypes:=#[77,3] },none⟩,
  ⟨some 24,.buildSlice 22 1 #[(0,.tmp 23)],none⟩,
  ⟨some 25,.call { callee:=.builtin .append,args:=#[.tmp 20,.tmp 24],argTypes:=#[22,22] },none⟩,
  ⟨some 6,.assign (.tmp 25),none⟩]
@[reducible] def q45_9:SCode:=.region [⟨some 26,.binOp .add 3 (.tmp 17) (.const (.int .i64 1)) 3,none⟩,
  ⟨some 17,.move (.tmp 26),none⟩]
def l45_0:SCode:=(.seq q45_6 (.seq (.cond (.tmp 18) .skip (.exit 0)) (.seq (.block 1 (.seq q45_7 q45_8)) q45_9)))
@[reducible] def q45_10:SCode:=.region [⟨some 27,.move (.tmp 6),none⟩,
  ⟨some 2,.assign (.tmp 27),none⟩,
  ⟨some 3,.assign (.const (.int .i64 0)),none⟩]
def s45:SCode:=(.seq q45_0 (.seq q45_1 (.seq (.seq q45_2 (.cond (.tmp 14) (.seq q45_3 .ret) .skip)) (.seq q45_4 (.seq (.seq q45_5 (.block 0 (.loop l45_0))) (.seq q45_10 .ret))))))
theorem s45_strip:Yg (Yf Tryd.f45)=s45:=by kernel_rfl
theorem s45_ok:Yz 28 (Yf Tryd.f45)=true:=by kernel_rfl
end Go.Proofs.Tryd.Am
namespace Go.Proofs.Tryd.Am
open Go.Am Ord
set_option maxRecDepth 100000
set_option maxHeartbeats 1000000
end Go.Proofs.Tryd.Am
namespace Go.Proofs.Tryd.Am
open Go.Am Ord
set_option maxRecDepth 100000
set_option maxHeartbeats 1000000
abbrev iL (L:List Nat):List Int:=L.map Int.ofNat
theorem iL_len (L:List Nat):(iL L).length=L.length:=by simp
theorem iL_snoc (L:List Nat) (i:Nat):iL L++[(i:Int)]=iL (L++[i]):=by simp [iL]
theorem iL_get (L:List Nat) (i:Nat):(iL L).getD i 0=((L.getD i 0:Nat):Int):=by
 rw [List.getD,List.getElem?_map,List.getD]; cases L[i]? <;> rfl
theorem getD_setN {L:List Nat} {s x i:Nat} (hs:s<L.length):(L.set s x).getD i 0=if i=s then x else L.getD i 0:=by
 rw [List.getD,List.getElem?_set]
 by_cases h:s=i
 · subst h; simp [hs]
 · rw [if_neg h,if_neg (Ne.symm h)]; rfl
def swL (L:List Nat) (j:Nat):List Nat:=(L.set j (L.getD (j-1) 0)).set (j-1) (L.getD j 0)
theorem swL_get {L:List Nat} {j:Nat} (h1:1≤j) (h2:j<L.length) (t:Nat):(swL L j).getD t 0=if t=j-1 then L.getD j 0 else if t=j then L.getD (j-1) 0 else L.getD t 0:=by
 rw [swL,getD_setN (by rw [List.length_set]; omega),getD_setN h2]
section
variable {key:Nat→Int}
def SrtTo (key:Nat→Int) (L:List Nat) (i:Nat):Prop:=∀ p q,p<q→q<i→key (L.getD p 0)≤key (L.getD q 0)
def SrtBut (key:Nat→Int) (L:List Nat) (i j:Nat):Prop:=∀ p q,p<q→q≤i→q≠j→key (L.getD p 0)≤key (L.getD q 0)
theorem SrtBut.step {L:List Nat} {i j:Nat} (h:SrtBut key L i j) (h1:1≤j) (h2:j<L.length) (hj:j≤i) (hlt:key (L.getD j 0)<key (L.getD (j-1) 0)):SrtBut key (swL L j) i (j-1):=by
 intro p q hpq hq hne
 rw [swL_get h1 h2,swL_get h1 h2,if_neg hne]
 by_cases hqj:q=j
 · rw [if_pos hqj]
   by_cases hp:p=j-1
   · rw [if_pos hp]; omega
   · rw [if_neg hp,if_neg (by omega)]
     exact h p (j-1) (by omega) (by omega) (by omega)
 · rw [if_neg hqj]
   by_cases hp:p=j-1
   · rw [if_pos hp]; exact h j q (by omega) hq hqj
   · rw [if_neg hp]
     by_cases hpj:p=j
     · rw [if_pos hpj]; exact h (j-1) q (by omega) hq hqj
     · rw [if_neg hpj]; exact h p q hpq hq hqj
theorem SrtBut.done {L:List Nat} {i j:Nat} (h:SrtBut key L i j) (hj:j=0∨key (L.getD (j-1) 0)≤key (L.getD j 0)):SrtTo key L (i+1):=by
 intro p q hpq hq
 by_cases hqj:q=j
 · subst hqj
   rcases hj with hj | hj
   · omega
   · by_cases hp:p=q-1
     · subst hp; exact hj
     · exact Int.le_trans (h p (q-1) (by omega) (by omega) (by omega)) hj
 · exact h p q hpq (by omega) hqj
theorem SrtTo.pw {L:List Nat} (h:SrtTo key L L.length):L.Pairwise fun a b=>key a≤key b:=by
 rw [List.pairwise_iff_getElem]
 intro i j hi hj hij
 have:=h i j hij hj
 rw [List.getD,List.getD,List.getElem?_eq_getElem hi,List.getElem?_eq_getElem hj] at this
 exact this
end
abbrev ov (b n m:Nat):Value:=.slice (some ⟨b,0,some 0⟩) n (n+m)
theorem wrap8 {x:Nat} (h:x<256):IntKind.u8.wrap (x:Int)=(x:Int):=by
 simp [IntKind.wrap,IntKind.signed,IntKind.bits]; omega
theorem s119_callW [Tabs Tryd.prog] {args:List Value} {h:Yb} {Q:Value→Yb→Prop} (hsz:args.length≤25) (hk:AWS Tryd.prog 25 s119 (Zu Tryd.prog [.tmp 2] Q) (Zp 0 args) h):ACall Tryd.prog 119 args h Q :=
 Wx Tryd.func119 rfl (enters_of Tryd.func119 (by kernel_rfl) rfl) rfl rfl (by decide) s119_strip s119_ok hsz hk
theorem s108_callW [Tabs Tryd.prog] {args:List Value} {h:Yb} {Q:Value→Yb→Prop} (hsz:args.length≤8) (hk:AWS Tryd.prog 8 s108 (Zu Tryd.prog [.tmp 2] Q) (Zp 0 args) h):ACall Tryd.prog 108 args h Q :=
 Wx Tryd.func108 rfl (enters_of Tryd.func108 (by kernel_rfl) rfl) rfl rfl (by decide) s108_strip s108_ok hsz hk
end Go.Proofs.Tryd.Am
namespace Ord
theorem sub_len {α:Type} [DecidableEq α] : ∀ {l1 l2:List α},l1.Nodup→(∀ a∈l1,a∈l2)→l1.length≤l2.length
 | [],_,_,_=>Nat.zero_le _
 | a::l1,l2,hn,hs=>by
   obtain ⟨ha,hn'⟩:=List.nodup_cons.1 hn
   have hal:a∈l2:=hs a (by simp)
   have:=sub_len (l1:=l1) (l2:=l2.erase a) hn' fun b hb=>(List.mem_erase_of_ne (by rintro rfl; exact ha hb)).2 (hs b (by simp [hb]))
   rw [List.length_erase_of_mem hal] at this
   have:=List.length_pos_of_mem hal
   simp only [List.length_cons]; omega
theorem sub_full {α:Type} [DecidableEq α] {l1 l2:List α} (hn:l1.Nodup) (hs : ∀ a∈l1,a∈l2) (hl:l2.length≤l1.length) {b:α} (hb:b∈l2):b∈l1:=Classical.byContradiction fun hc=>by
 have:=sub_len (l2:=l2.erase b) hn fun a ha=>(List.mem_erase_of_ne (by rintro rfl; exact hc ha)).2 (hs a ha)
 rw [List.length_erase_of_mem hb] at this
 have:=List.length_pos_of_mem hb
 omega
theorem map_nodup {α β:Type} {f:α→β} : ∀ {l:List α},l.Nodup→(∀ a∈l,∀ b∈l,f a=f b→a=b)→(l.map f).Nodup
 | [],_,_=>List.nodup_nil
 | a::l,hn,hf=>by
   obtain ⟨ha,hn'⟩:=List.nodup_cons.1 hn
   rw [List.map_cons,List.nodup_cons]
   refine ⟨fun hm=>?_,map_nodup hn' fun b hb c hc=>hf b (by simp [hb]) c (by simp [hc])⟩
   obtain ⟨b,hb,he⟩:=List.mem_map.1 hm
   exact ha (hf b (by simp [hb]) a (by simp) he▸hb)
def cmpb (r:Nat→Nat→Bool) (x y:Nat):Prop:=x=y∨r x y=true∨r y x=true
structure Chn (r:Nat→Nat→Bool) (S:List Nat) (k:Nat) (f:Nat→Nat):Prop where
 lt : ∀ x∈S,f x<k
 ch : ∀ x∈S,∀ y∈S,f x=f y→cmpb r x y
structure Ant (r:Nat→Nat→Bool) (S A:List Nat):Prop where
 sub : ∀ a∈A,a∈S
 nd:A.Nodup
 an : ∀ a∈A,∀ b∈A,r a b=false
section
variable {r:Nat→Nat→Bool} {S A:List Nat} {k:Nat} {f:Nat→Nat}
theorem Chn.inj (hc:Chn r S k f) (ha:Ant r S A) : ∀ a∈A,∀ b∈A,f a=f b→a=b:=fun a h1 b h2 he=>by
 rcases hc.ch a (ha.sub a h1) b (ha.sub b h2) he with h | h | h
 · exact h
 · rw [ha.an a h1 b h2] at h; cases h
 · rw [ha.an b h2 a h1] at h; cases h
theorem Chn.nd (hc:Chn r S k f) (ha:Ant r S A):(A.map f).Nodup:=map_nodup ha.nd (hc.inj ha)
theorem Chn.sub (hc:Chn r S k f) (ha:Ant r S A) : ∀ i∈A.map f,i∈List.range k:=fun i hi=>by
 obtain ⟨a,h1,rfl⟩:=List.mem_map.1 hi
 exact List.mem_range.2 (hc.lt a (ha.sub a h1))
theorem Chn.le (hc:Chn r S k f) (ha:Ant r S A):A.length≤k:=by
 have:=sub_len (hc.nd ha) (hc.sub ha)
 simpa using this
theorem Chn.full (hc:Chn r S k f) (ha:Ant r S A) (hl:A.length=k) {i:Nat} (hi:i<k) : ∃ a∈A,f a=i:=by
 have:=sub_full (hc.nd ha) (hc.sub ha) (by simp [hl]) (List.mem_range.2 hi)
 exact List.mem_map.1 this
end
theorem Ant.mono {r:Nat→Nat→Bool} {S T A:List Nat} (h:Ant r T A) (hs : ∀ a∈T,a∈S):Ant r S A:=⟨fun a ha=>hs a (h.sub a ha),h.nd,h.an⟩
open Classical in
/-- **Dilworth's theorem.** -/
theorem dilworth {r:Nat→Nat→Bool} (h:Po r) : ∀ (n:Nat) (S:List Nat),S.length≤n→S.Nodup→∃ (A:List Nat) (f:Nat→Nat),Ant r S A∧Chn r S A.length f
 | 0,S,hl,_=>by
   obtain rfl:S=[]:=List.length_eq_zero_iff.1 (by omega)
   exact ⟨[],id,⟨fun _ h=>h,List.nodup_nil,fun _ h=>by cases h⟩,fun _ h=>(by cases h),fun _ h=>by cases h⟩
 | n+1,S,hl,hn=>by
   by_cases hS:S=[]
   · subst hS
     exact ⟨[],id,⟨fun _ h=>h,List.nodup_nil,fun _ h=>by cases h⟩,fun _ h=>(by cases h),fun _ h=>by cases h⟩
   obtain ⟨m,hm⟩:=List.exists_mem_of_ne_nil _ (firsts_ne h hS)
   obtain ⟨hmS,hmin⟩:=Wt.1 hm
   have hmem : ∀ {z},z∈S.erase m↔z≠m∧z∈S:=fun {z}=>hn.mem_erase_iff
   have hlen:(S.erase m).length=S.length-1:=List.length_erase_of_mem hmS
   have hpos:=List.length_pos_of_mem hmS
   obtain ⟨A0,f,ha0,hf⟩:=dilworth h n (S.erase m) (by omega) (hn.erase m)
   obtain ⟨k,hk⟩ : ∃ k,A0.length=k:=⟨_,rfl⟩
   rw [hk] at hf
   have sup : ∀ {B},Ant r (S.erase m) B→Ant r S B:=fun hB=>hB.mono fun a ha=>(hmem.1 ha).2
   -- the lowest of each chain that is in some greatest antichain
   have hx : ∀ i,∃ x,i<k→(x∈S.erase m∧f x=i∧∃ B,Ant r (S.erase m) B∧B.length=k∧x∈B)∧∀ z B,Ant r (S.erase m) B→B.length=k→z∈B→f z=i→z=x∨r x z=true:=fun i=>by
    by_cases hi:i<k
    · obtain ⟨X,hX⟩ : ∃ X,X=(S.erase m).filter fun z=>decide (f z=i∧∃ B,Ant r (S.erase m) B∧B.length=k∧z∈B):=⟨_,rfl⟩
      have hXm : ∀ {z},z∈X↔z∈S.erase m∧f z=i∧∃ B,Ant r (S.erase m) B∧B.length=k∧z∈B:=fun {z}=>by
       rw [hX,List.mem_filter,decide_eq_true_eq]
      obtain ⟨a,h1,h2⟩:=hf.full ha0 hk hi
      have hXne:X≠[]:=List.ne_nil_of_mem (hXm.2 ⟨ha0.sub a h1,h2,A0,ha0,hk,h1⟩)
      obtain ⟨x,hxm⟩:=List.exists_mem_of_ne_nil _ (firsts_ne h hXne)
      obtain ⟨hxX,hxmin⟩:=Wt.1 hxm
      obtain ⟨h3,h4,h5⟩:=hXm.1 hxX
      refine ⟨x,fun _=>⟨⟨h3,h4,h5⟩,fun z B hB hl hz hfz=>?_⟩⟩
      have hzX:=hXm.2 ⟨hB.sub z hz,hfz,B,hB,hl,hz⟩
      rcases hf.ch z (hB.sub z hz) x h3 (hfz.trans h4.symm) with h6 | h6 | h6
      · exact .inl h6
      · rw [hxmin z hzX] at h6; cases h6
      · exact .inr h6
    · exact ⟨0,fun h=>absurd h hi⟩
   obtain ⟨x,hx⟩:=Classical.skolem.1 hx
   have hA:Ant r (S.erase m) ((List.range k).map x):=by
    refine ⟨fun a ha=>?_,map_nodup List.nodup_range fun i hi j hj he=>?_,fun a ha b hb=>?_⟩
    · obtain ⟨i,hi,rfl⟩:=List.mem_map.1 ha
      exact (hx i (List.mem_range.1 hi)).1.1
    · rw [← (hx i (List.mem_range.1 hi)).1.2.1,he,(hx j (List.mem_range.1 hj)).1.2.1]
    · obtain ⟨i,hi,rfl⟩:=List.mem_map.1 ha
      obtain ⟨j,hj,rfl⟩:=List.mem_map.1 hb
      rw [List.mem_range] at hi hj
      obtain ⟨⟨h1,h2,B,hB,hl,hxB⟩,_⟩:=hx i hi
      obtain ⟨y,hy,hfy⟩:=hf.full hB hl hj
      rw [← Bool.not_eq_true]
      intro hc
      rcases (hx j hj).2 y B hB hl hy hfy with h3 | h3
      · rw [← h3,hB.an _ hxB y hy] at hc; cases hc
      · have:=h.tr _ _ _ hc h3
        rw [hB.an _ hxB y hy] at this; cases this
   have hAl:((List.range k).map x).length=k:=by simp
   by_cases hcase : ∃ i,i<k∧r m (x i)=true
   · obtain ⟨i,hi,hmx⟩:=hcase
     obtain ⟨⟨hx1,hx2,_⟩,hx3⟩:=hx i hi
     obtain ⟨p,hp⟩ : ∃ p:Nat→Bool,p=fun z=>decide (z=m∨(f z=i∧(z=x i∨r (x i) z=true))):=⟨_,rfl⟩
     have hpt : ∀ z,p z=true↔z=m∨(f z=i∧(z=x i∨r (x i) z=true)):=fun z=>by rw [hp]; exact decide_eq_true_iff
     obtain ⟨T,hT⟩ : ∃ T,T=S.filter fun z=>!p z:=⟨_,rfl⟩
     have hTm : ∀ {z},z∈T↔z∈S∧p z=false:=fun {z}=>by rw [hT,List.mem_filter,Bool.not_eq_true']
     have hTS : ∀ z∈T,z∈S.erase m:=fun z hz=>by
      refine hmem.2 ⟨fun he=>?_,(hTm.1 hz).1⟩
      have:=(hpt z).2 (.inl he)
      rw [(hTm.1 hz).2] at this
      cases this
     have hTn:T.Nodup:=by rw [hT]; exact hn.filter _
     have hTl:T.length≤n:=by
      have:=sub_len hTn hTS
      omega
     obtain ⟨A1,f1,ha1,hf1⟩:=dilworth h n T hTl hTn
     have ha1':=ha1.mono hTS
     have hle:=hf.le ha1'
     have hne:A1.length≠k:=fun he=>by
      obtain ⟨z,hz,hfz⟩:=hf.full ha1' he hi
      have:=(hpt z).2 (.inr ⟨hfz,hx3 z A1 ha1' he hz hfz⟩)
      rw [(hTm.1 (ha1.sub z hz)).2] at this; cases this
     have hg:Chn r S (A1.length+1) fun z=>if p z=true then A1.length else f1 z:=by
      have hmz : ∀ z,z∈S→p z=true→z≠m→r m z=true∧f z=i∧z∈S.erase m:=fun z hz hpz hne=>by
       rcases (hpt z).1 hpz with h1 | ⟨h1,h2⟩
       · exact absurd h1 hne
       · refine ⟨?_,h1,hmem.2 ⟨hne,hz⟩⟩
         rcases h2 with rfl | h2
         · exact hmx
         · exact h.tr _ _ _ hmx h2
      refine ⟨fun z hz=>?_,fun z hz w hw he=>?_⟩
      · split
        · omega
        · rename_i hpz
          have:=hf1.lt z (hTm.2 ⟨hz,by simpa using hpz⟩)
          omega
      · cases hpz:p z with
        | true =>
          rw [hpz,if_pos rfl] at he
          cases hpw:p w with
          | false =>
            rw [hpw,if_neg (by decide)] at he
            have:=hf1.lt w (hTm.2 ⟨hw,hpw⟩)
            omega
          | true =>
            by_cases h1:z=m
            · by_cases h2:w=m
              · exact .inl (h1.trans h2.symm)
              · subst h1; exact .inr (.inl (hmz w hw hpw h2).1)
            · by_cases h2:w=m
              · subst h2; exact .inr (.inr (hmz z hz hpz h1).1)
              · obtain ⟨_,h3,h4⟩:=hmz z hz hpz h1
                obtain ⟨_,h5,h6⟩:=hmz w hw hpw h2
                exact hf.ch z h4 w h6 (h3.trans h5.symm)
        | false =>
          rw [hpz,if_neg (by decide)] at he
          have h1:=hTm.2 ⟨hz,hpz⟩
          cases hpw:p w with
          | true =>
            rw [hpw,if_pos rfl] at he
            have:=hf1.lt z h1
            omega
          | false =>
            rw [hpw,if_neg (by decide)] at he
            exact hf1.ch z h1 w (hTm.2 ⟨hw,hpw⟩) he
     have hle2:=hg.le (sup ha0)
     have hkk:A0.length=A1.length+1:=by omega
     exact ⟨A0,_,sup ha0,by rw [hkk]; exact hg⟩
   · have hno : ∀ i,i<k→r m (x i)=false:=fun i hi=>by
      cases hc:r m (x i) with
      | false=>rfl
      | true=>exact absurd ⟨i,hi,hc⟩ hcase
     have hmA:m ∉ (List.range k).map x:=fun hc=>(hmem.1 (hA.sub m hc)).1 rfl
     refine ⟨m::(List.range k).map x,fun z=>if z=m then k else f z,⟨fun a ha=>?_,List.nodup_cons.2 ⟨hmA,hA.nd⟩,fun a ha b hb=>?_⟩,fun z hz=>?_,fun z hz w hw he=>?_⟩
     · rcases List.mem_cons.1 ha with rfl | ha
       · exact hmS
       · exact (hmem.1 (hA.sub a ha)).2
     · rcases List.mem_cons.1 ha with rfl | ha'
       · rcases List.mem_cons.1 hb with rfl | hb'
         · exact h.irr _
         · obtain ⟨i,hi,rfl⟩:=List.mem_map.1 hb'
           exact hno i (List.mem_range.1 hi)
       · rcases List.mem_cons.1 hb with rfl | hb'
         · exact hmin a (hmem.1 (hA.sub a ha')).2
         · exact hA.an a ha' b hb'
     · simp only [List.length_cons,List.length_map,List.length_range]
       split
       · omega
       · rename_i hz2
         have:=hf.lt z (hmem.2 ⟨hz2,hz⟩)
         omega
     · by_cases h1:z=m
       · by_cases h2:w=m
         · exact .inl (h1.trans h2.symm)
         · rw [if_pos h1,if_neg h2] at he
           have:=hf.lt w (hmem.2 ⟨h2,hw⟩)
           omega
       · by_cases h2:w=m
         · rw [if_neg h1,if_pos h2] at he
           have:=hf.lt z (hmem.2 ⟨h1,hz⟩)
           omega
         · rw [if_neg h1,if_neg h2] at he
           exact hf.ch z (hmem.2 ⟨h1,hz⟩) w (hmem.2 ⟨h2,hw⟩) he
end Ord
namespace Ord
open Go.Am
def uni (o:List Int) (s:Nat) (f:Bool):Bool:=(List.range o.length).all fun i=>(List.range i).all fun j=>!(s.testBit i&&(s.testBit j&&(fr o i j != f)))
theorem fr_symm (o:List Int) (i j:Nat):fr o i j=fr o j i:=by
 rw [fr,fr,Bool.and_right_comm]
 simp only [ne_comm]
theorem uni_iff {o:List Int} {s:Nat} {f:Bool} (hs:s<2 ^ o.length):uni o s f=true↔∀ i j,i≠j→s.testBit i=true→s.testBit j=true→fr o i j=f:=by
 simp only [uni,List.all_eq_true,List.mem_range,Bool.not_eq_true',Bool.and_eq_false_iff,bne_eq_false_iff_eq]
 have hlt : ∀ i,s.testBit i=true→i<o.length:=fun i hi=>by
  rcases Nat.lt_or_ge i o.length with h | h
  · exact h
  · rw [Nat.testBit_lt_two_pow (Nat.lt_of_lt_of_le hs (Nat.pow_le_pow_right (by decide) h))] at hi; cases hi
 constructor
 · intro h i j hne hi hj
   have key : ∀ i j,j<i→s.testBit i=true→s.testBit j=true→fr o i j=f:=fun i j hji hi hj=>by
    rcases h i (hlt i hi) j hji with h1 | h1 | h1
    · rw [hi] at h1; cases h1
    · rw [hj] at h1; cases h1
    · exact h1
   rcases Nat.lt_or_gt_of_ne hne with h1 | h1
   · rw [fr_symm]; exact key j i h1 hj hi
   · exact key i j h1 hi hj
 · intro h i hi j hj
   cases h1:s.testBit i with
   | false=>exact .inl rfl
   | true =>
     cases h2:s.testBit j with
     | false=>exact .inr (.inl rfl)
     | true=>exact .inr (.inr (h i j (by omega) h1 h2))
/-! ### A set of bits out of a list -/
def msk (A:List Nat):Nat:=A.foldl (fun r j=>r ||| 2 ^ j) 0
theorem msk_bit {A:List Nat} {k:Nat}:(msk A).testBit k=true↔k∈A:=by
 rw [msk,foldl_or_bit,Nat.zero_testBit,Bool.false_or,List.any_eq_true]
 constructor
 · rintro ⟨j,hj,h⟩
   rw [Nat.testBit_two_pow,decide_eq_true_eq] at h
   exact h▸hj
 · intro h
   exact ⟨k,h,by rw [Nat.testBit_two_pow,decide_eq_true_eq]⟩
theorem msk_lt {A:List Nat} {n:Nat} (h : ∀ a∈A,a<n):msk A<2 ^ n:=lt_of_bits fun j hj=>by
 cases hb:(msk A).testBit j with
 | false=>rfl
 | true=>have:=h j (msk_bit.1 hb); omega
theorem bits_msk {A:List Nat} (hn:A.Nodup) (h : ∀ a∈A,a<64):(bits (msk A)).length=A.length :=
 (perm_of_nodup (bits_nodup _) hn fun a=>by rw [Wl,msk_bit]; exact ⟨fun h=>h.2,fun ha=>⟨h a ha,ha⟩⟩).length_eq
/-! ### The greatest antichain -/
def antiTo (o:List Int):Nat→Nat
 | 0=>0
 | s+1=>if uni o s true=true∧(bits (antiTo o s)).length<(bits s).length then s else antiTo o s
theorem antiTo_spec (o:List Int) : ∀ k,0<k→antiTo o k<k∧uni o (antiTo o k) true=true∧(∀ s,s<k→uni o s true=true→(bits s).length≤(bits (antiTo o k)).length)∧∀ s,s<antiTo o k→uni o s true=true→(bits s).length<(bits (antiTo o k)).length
 | 0,h=>by omega
 | 1,_=>by
   have h0:antiTo o 1=0:=by rw [antiTo,antiTo]; split <;> rfl
   rw [h0]
   refine ⟨by omega,?_,fun s hs _=>by rw [show s=0 by omega]; exact Nat.le_refl _,fun s hs=>by omega⟩
   simp [uni]
 | k+2,_=>by
   obtain ⟨h1,h2,h3,h4⟩:=antiTo_spec o (k+1) (by omega)
   rw [antiTo]
   split
   · rename_i hc
     refine ⟨by omega,hc.1,fun s hs hu=>?_,fun s hs hu=>?_⟩
     · by_cases he:s=k+1
       · rw [he]; exact Nat.le_refl _
       · have:=h3 s (by omega) hu; omega
     · have:=h3 s hs hu; omega
   · rename_i hc
     refine ⟨by omega,h2,fun s hs hu=>?_,h4⟩
     by_cases he:s=k+1
     · subst he
       rcases Nat.lt_or_ge (bits (antiTo o (k+1))).length (bits (k+1)).length with h5 | h5
       · exact absurd ⟨hu,h5⟩ hc
       · exact h5
     · exact h3 s (by omega) hu
def antiM (o:List Int):Nat:=antiTo o (2 ^ o.length)
/-! ### Chains that part a set -/
def Part (o:List Int):Nat→List Nat→Prop
 | s,[]=>s=0
 | s,c::cs=>c≠0∧Ww c s=0∧uni o c false=true∧Part o (Ww s c) cs
theorem less_bit' {a b k:Nat}:(Ww a b).testBit k=(a.testBit k && !b.testBit k):=Wi a b k
theorem less_le (s c:Nat):Ww s c≤s:=by
 have:Ww s c=s &&& Ww s c:=Nat.eq_of_testBit_eq fun k=>by
  rw [Nat.testBit_and,less_bit',← Bool.and_assoc,Bool.and_self]
 rw [this]; exact Nat.and_le_left
theorem less_lt {s c:Nat} (h0:c≠0) (h:Ww c s=0):Ww s c<s:=by
 refine Nat.lt_of_le_of_ne (less_le s c) fun he=>h0 ?_
 refine Nat.eq_of_testBit_eq fun k=>?_
 rw [Nat.zero_testBit]
 cases hk:c.testBit k with
 | false=>rfl
 | true =>
   have h1:=less_zero.1 h k hk
   have h2:=congrArg (fun z=>Nat.testBit z k) he
   simp only [less_bit',h1,hk] at h2
   cases h2
def Fewest (o:List Int) (s k:Nat):Prop:=(∃ cs,Part o s cs∧cs.length=k)∧∀ cs,Part o s cs→k≤cs.length
theorem fewest_zero (o:List Int):Fewest o 0 0:=⟨⟨[],rfl,rfl⟩,fun _ _=>Nat.zero_le _⟩
theorem fewest_step {o:List Int} {s k:Nat} {v:Nat→Nat} (h0:s≠0) (hv : ∀ t,t<s→Fewest o t (v t)) (hex : ∃ c,c≠0∧Ww c s=0∧uni o c false=true∧k=1+v (Ww s c))
  (hmin : ∀ c,c≠0→Ww c s=0→uni o c false=true→k≤1+v (Ww s c)):Fewest o s k:=by
 obtain ⟨c,c0,c1,c2,rfl⟩:=hex
 refine ⟨?_,fun cs hp=>?_⟩
 · obtain ⟨⟨cs,p,l⟩,_⟩:=hv _ (less_lt c0 c1)
   exact ⟨c::cs,⟨c0,c1,c2,p⟩,by rw [List.length_cons,l]; omega⟩
 · match cs,hp with
   | [],hp=>exact absurd hp h0
   | d::cs,hp =>
     obtain ⟨d0,d1,d2,p⟩:=hp
     have:=(hv _ (less_lt d0 d1)).2 cs p
     have:=hmin d d0 d1 d2
     rw [List.length_cons]; omega
theorem uni_single {o:List Int} {i:Nat}:uni o (2 ^ i) false=true:=by
 simp only [uni,List.all_eq_true,List.mem_range,Nat.testBit_two_pow]
 intro a _ b hb
 by_cases h1:i=a
 · have : ¬ i=b:=by omega
   simp [this]
 · simp [h1]
theorem low_bit {s:Nat} (h:s≠0) : ∃ i,s.testBit i=true:=by
 refine Classical.byContradiction fun hc=>h ?_
 refine Nat.eq_of_testBit_eq fun k=>?_
 rw [Nat.zero_testBit,← Bool.not_eq_true]
 exact fun hk=>hc ⟨k,hk⟩
theorem single_sub {s i:Nat} (h:s.testBit i=true):Ww (2 ^ i) s=0:=less_zero.2 fun k hk=>by
 rw [Nat.testBit_two_pow,decide_eq_true_eq] at hk
 exact hk▸h
theorem fewest_exTo {o:List Int} : ∀ m t,t≤m→∃ l,Fewest o t l:=fun m=>by
 induction m with
 | zero=>intro t ht; rw [show t=0 by omega]; exact ⟨0,fewest_zero o⟩
 | succ m ih =>
   intro t ht
   by_cases ht0:t=0
   · rw [ht0]; exact ⟨0,fewest_zero o⟩
   obtain ⟨v,hv⟩:=Classical.skolem.1 (show ∀ u,∃ l,u<t→Fewest o u l from fun u=>by
    by_cases hu:u<t
    · obtain ⟨l,hl⟩:=ih u (by omega)
      exact ⟨l,fun _=>hl⟩
    · exact ⟨0,fun h=>absurd h hu⟩)
   obtain ⟨i,hi⟩:=low_bit ht0
   obtain ⟨m0,⟨c,c0,c1,c2,hm⟩,hmin⟩ : ∃ m0,(∃ c,c≠0∧Ww c t=0∧uni o c false=true∧m0=1+v (Ww t c))∧∀ c,c≠0→Ww c t=0→uni o c false=true→m0≤1+v (Ww t c):=by
    have hne : ∃ m0,∃ c,c≠0∧Ww c t=0∧uni o c false=true∧m0=1+v (Ww t c):=⟨_,2 ^ i,Nat.ne_of_gt (Nat.two_pow_pos i),single_sub hi,uni_single,rfl⟩
    have wf : ∀ b m0,m0≤b→(∃ c,c≠0∧Ww c t=0∧uni o c false=true∧m0=1+v (Ww t c))→∃ m1,(∃ c,c≠0∧Ww c t=0∧uni o c false=true∧m1=1+v (Ww t c))∧∀ c,c≠0→Ww c t=0→uni o c false=true→m1≤1+v (Ww t c):=fun b=>by
     induction b with
     | zero=>intro m0 hb h; obtain ⟨c,_,_,_,h⟩:=h; omega
     | succ b ihb =>
       intro m0 hb h
       by_cases hall : ∀ c,c≠0→Ww c t=0→uni o c false=true→m0≤1+v (Ww t c)
       · exact ⟨m0,h,hall⟩
       · simp only [Classical.not_forall] at hall
         obtain ⟨c,c0,c1,c2,hlt⟩:=hall
         exact ihb (1+v (Ww t c)) (by omega) ⟨c,c0,c1,c2,rfl⟩
    obtain ⟨m0,h⟩:=hne
    exact wf m0 m0 (Nat.le_refl _) h
   exact ⟨m0,fewest_step ht0 (fun u hu=>hv u hu) ⟨c,c0,c1,c2,hm⟩ hmin⟩
theorem fewest_ex (o:List Int) (t:Nat) : ∃ l,Fewest o t l:=fewest_exTo t t (Nat.le_refl _)
noncomputable def fw (o:List Int) (t:Nat):Nat:=Classical.choose (fewest_ex o t)
theorem fw_spec (o:List Int) (t:Nat):Fewest o t (fw o t):=Classical.choose_spec (fewest_ex o t)
def okC (o:List Int) (s c:Nat):Prop:=c≠0∧Ww c s=0∧uni o c false=true
theorem fw_le_one {o:List Int} {s c:Nat} (h:okC o s c):fw o s≤1+fw o (Ww s c):=by
 obtain ⟨⟨cs,p,l⟩,_⟩:=fw_spec o (Ww s c)
 have:=(fw_spec o s).2 (c::cs) ⟨h.1,h.2.1,h.2.2,p⟩
 rw [List.length_cons,l] at this; omega
theorem fw_first {o:List Int} {s:Nat} (h0:s≠0) : ∃ c,okC o s c∧fw o s=1+fw o (Ww s c):=by
 obtain ⟨⟨cs,p,l⟩,hm⟩:=fw_spec o s
 match cs,p,l with
 | [],p,_=>exact absurd p h0
 | c::cs,p,l =>
   obtain ⟨c0,c1,c2,p'⟩:=p
   refine ⟨c,⟨c0,c1,c2⟩,?_⟩
   have h1:=(fw_spec o (Ww s c)).2 cs p'
   have h2:=fw_le_one (o:=o) (s:=s) (c:=c) ⟨c0,c1,c2⟩
   rw [List.length_cons] at l; omega
theorem all_bit {n i:Nat}:(2 ^ n-1).testBit i=decide (i<n):=Nat.testBit_two_pow_sub_one ..
def down (o:List Int) (a:Nat):Nat:=msk ((List.range o.length).filter fun i=>a.testBit i || !decide (bt o i &&& a=0))
end Ord
namespace Go.Proofs.Tryd.Am
open Go.Am Ord
set_option maxRecDepth 100000
set_option maxHeartbeats 2000000
theorem ext_app {h hp H' h' : Yb} {w:Value} (hE:Ext (fun _=>False) h hp) (hl:hp.length≤H'.length) (hk : ∀ q,q<h.length→H'[q]? = hp[q]?) (hb : ∀ b,Ye w=some b→h.length≤b) (hE' : Ext (fun i=>Ye w=some i) H' h'):Ext (fun _=>False) h h':=by
 refine ⟨by have:=hE.1; have:=hE'.1; omega,fun q hq _=>?_⟩
 have l1:=hE.1
 rw [hE'.2 q (by omega) (fun hb0=>by have:=hb q hb0; omega),hk q hq]
 exact hE.2 q hq id
end Go.Proofs.Tryd.Am
namespace Go.Proofs.Tryd.Am
open Go.Am Ord
set_option maxRecDepth 100000
set_option maxHeartbeats 2000000
end Go.Proofs.Tryd.Am
namespace Go.Proofs.Tryd.Am
open Go.Am Ord
set_option maxRecDepth 100000
set_option maxHeartbeats 2000000
def cmpS (a b:Nat):Int:=if ((Am.bits b).length:Int)-(Am.bits a).length=0 then (a:Int)-b else ((Am.bits b).length:Int)-(Am.bits a).length
structure MinI (L:List Nat) (k m:Nat):Prop where
 at_ : ∃ a,a<k∧L.getD a 0=m∧∀ b,b<a→(Am.bits (L.getD b 0)).length<(Am.bits m).length
 le : ∀ b,b<k→(Am.bits (L.getD b 0)).length≤(Am.bits m).length
theorem MinI.step {L:List Nat} {k m:Nat} (h:MinI L k m) (hs : ∀ a b,a<b→b<L.length→L.getD a 0<L.getD b 0) (hk:k<L.length):(cmpS (L.getD k 0) m<0→MinI L (k+1) (L.getD k 0))∧(¬ cmpS (L.getD k 0) m<0→MinI L (k+1) m):=by
 obtain ⟨⟨a,ha,ham,hb⟩,hle⟩:=h
 have hlt:m<L.getD k 0:=by rw [← ham]; exact hs a k ha hk
 have hc:cmpS (L.getD k 0) m<0↔(Am.bits m).length<(Am.bits (L.getD k 0)).length:=by
  rw [cmpS]; split <;> omega
 constructor
 · intro h1
   have h2:=hc.1 h1
   refine ⟨⟨k,by omega,rfl,fun b hb'=>?_⟩,fun b hb'=>?_⟩
   · have:=hle b hb'; omega
   · by_cases he:b=k
     · rw [he]; exact Nat.le_refl _
     · have:=hle b (by omega); omega
 · intro h1
   have h2 : ¬ (Am.bits m).length<(Am.bits (L.getD k 0)).length:=fun h=>h1 (hc.2 h)
   refine ⟨⟨a,by omega,ham,hb⟩,fun b hb'=>?_⟩
   by_cases he:b=k
   · rw [he]; omega
   · exact hle b (by omega)
theorem getD_memN {L:List Nat} {a:Nat} (h:a<L.length):L.getD a 0∈L:=by rw [List.getD,List.getElem?_eq_getElem h]; exact List.getElem_mem h
end Go.Proofs.Tryd.Am
namespace Go.Proofs.Tryd.Am
open Go.Am Ord
set_option maxRecDepth 100000
set_option maxHeartbeats 4000000
structure TabI (o:List Int) (T:List Int) (s:Nat):Prop where
 len:T.length=2 ^ o.length
 get : ∀ t,t<s→T.getD t 0=(fw o t:Nat)
theorem getD_setI {L:List Int} {s i:Nat} {x:Int} (hs:s<L.length):(L.set s x).getD i 0=if i=s then x else L.getD i 0:=by
 rw [List.getD,List.getElem?_set]
 by_cases h:s=i
 · subst h; simp [hs]
 · rw [if_neg h,if_neg (Ne.symm h)]; rfl
theorem TabI.put {o:List Int} {T:List Int} {s:Nat} (h:TabI o T s) (hs:s<2 ^ o.length) (x:Int):TabI o (T.set s x) s∧(T.set s x).getD s 0=x :=
 ⟨⟨by rw [List.length_set,h.len],fun t ht=>by rw [getD_setI (by rw [h.len]; exact hs),if_neg (by omega)]; exact h.get t ht⟩,by rw [getD_setI (by rw [h.len]; exact hs),if_pos rfl]⟩
theorem TabI.next {o:List Int} {T:List Int} {s:Nat} (h:TabI o T s) (hx:T.getD s 0=(fw o s:Nat)):TabI o T (s+1) :=
 ⟨h.len,fun t ht=>by
  by_cases he:t=s
  · rw [he,hx]
  · exact h.get t (by omega)⟩
structure BstI (o:List Int) (s:Nat) (S:Nat→Prop) (x:Nat):Prop where
 ge:fw o s≤x
 le : ∀ c,S c→okC o s c→x≤1+fw o (Ww s c)
theorem BstI.fin {o:List Int} {s x:Nat} {S:Nat→Prop} (h:BstI o s S x) (h0:s≠0) (hS : ∀ c,okC o s c→S c):x=fw o s:=by
 obtain ⟨c,hc,he⟩:=fw_first (o:=o) h0
 have:=h.le c (hS c hc) hc
 have:=h.ge
 omega
end Go.Proofs.Tryd.Am
namespace Go.Proofs.Tryd.Am
open Go.Am Ord
set_option maxRecDepth 100000
set_option maxHeartbeats 4000000
end Go.Proofs.Tryd.Am
namespace Go.Proofs.Tryd.Am
open Go.Am Ord
set_option maxRecDepth 100000
set_option maxHeartbeats 2000000
def Xu (o:List Int):List Int:=(List.range o.length).map fun i=>((dn o i:Nat):Int)
def IntsIs (o:List Int) (xs:List Int) (h' : Yb) (x:Value) (e:Int):Prop:=if ord o=true then e=0∧IntSl h' x xs else x = .slice none 0 0∧e=2
theorem s45_callW [Tabs Tryd.prog] {args:List Value} {h:Yb} {Q:Value→Yb→Prop} (hsz:args.length≤28) (hk:AWS Tryd.prog 28 s45 (Zu Tryd.prog [.tmp 2,.tmp 3] Q) (Zp 0 args) h):ACall Tryd.prog 45 args h Q :=
 Wx Tryd.func45 rfl (enters_of Tryd.func45 (by kernel_rfl) rfl) rfl rfl (by decide) s45_strip s45_ok hsz hk
theorem turn_call [BitTab prog 1] {h:Yb} {v:Value} {o:List Int} (hv:IntSl h v o) (hl:o.length<9223372036854775808) (hx : ∀ x∈o,-9223372036854775808≤x∧x<9223372036854775808) :
  ACall prog 45 [v] h fun r h'=>Ext (fun _=>False) h h'∧∃ x e,r = .tuple #[x,.int .i64 e]∧IntsIs o (Xu o) h' x e:=by
 refine s45_callW (by simp) ?_
 simp only [s45]
 refine Yc fun N16 hN16=>?_
 simp (maxSteps:=2000000) only [s45,↓Za,↓Zi,↓Zr,↓Ze,↓Zo,↓Zs,↓Zg,↓Zm,↓Zf,↓Zb,↓Zc,↓vdn,vup,Zk,Zn,Zl,Zh,Zj,List.map_cons,List.map_nil,cond_true,cond_false,aop,Zv,Zq,Zp,ev,sput,Zt,Zy,Ya,unK,Zd,Zw,Nat.reduceBEq,Nat.reduceAdd,Int.reduceBEq,Int.reduceBNe,Int.reduceLT,Zu,Zz,tup,tyf]
 refine hN16 [(0,v),(2,.slice none 0 0),(3,.int .i64 0)] _ _ ?_ (by simp (maxSteps:=2000000) only [↓Za,↓Zi,↓Zr,↓Ze,↓Zo,↓Zs,↓Zg,↓Zm,↓Zf,↓Zb,↓Zc,↓vdn,vup,Zk,Zn,Zl,Zh,Zj,List.map_cons,List.map_nil,cond_true,cond_false,aop,Zv,Zq,Zp,ev,sput,Zt,Zy,Ya,unK,Zd,Zw,Nat.reduceBEq,Nat.reduceAdd,Int.reduceBEq,Int.reduceBNe,Int.reduceLT,Zu,Zz,tup,tyf])
 clear hN16
 try clear N16
 refine Yc fun N17 hN17=>?_
 simp (maxSteps:=2000000) only [s45,↓Za,↓Zi,↓Zr,↓Ze,↓Zo,↓Zs,↓Zg,↓Zm,↓Zf,↓Zb,↓Zc,↓vdn,vup,Zk,Zn,Zl,Zh,Zj,List.map_cons,List.map_nil,cond_true,cond_false,aop,Zv,Zq,Zp,ev,sput,Zt,Zy,Ya,unK,Zd,Zw,Nat.reduceBEq,Nat.reduceAdd,Int.reduceBEq,Int.reduceBNe,Int.reduceLT,Zu,Zz,tup,tyf,Yx,List.nil_append,List.append_nil,List.toList_toArray,List.cons_append]
 refine (read_call hv hl hx).mono ?_
 rintro _ g ⟨rfl,rfl⟩
 simp (maxSteps:=2000000) only [s45,↓Za,↓Zi,↓Zr,↓Ze,↓Zo,↓Zs,↓Zg,↓Zm,↓Zf,↓Zb,↓Zc,↓vdn,vup,Zk,Zn,Zl,Zh,Zj,List.map_cons,List.map_nil,cond_true,cond_false,aop,Zv,Zq,Zp,ev,sput,Zt,Zy,Ya,unK,Zd,Zw,Nat.reduceBEq,Nat.reduceAdd,Int.reduceBEq,Int.reduceBNe,Int.reduceLT,Zu,Zz,tup,tyf,Xr,Ys,zeroN,zero_77]
 rw [storeRd]
 obtain ⟨hE,hb⟩:=rdBox g o
 generalize hgl:g.length=gl at hE hb ⊢
 generalize (g++[Blk.cells (ordN 0) 77 false]).set gl (.cells (rdC o) 77 false)=G at hE hb ⊢
 refine hN17 [(2,.slice none 0 0),(3,.int .i64 0),(4,.pointer (some ⟨gl,0,none⟩)),(5,.bool (ord o))] _ _ ?_ (by simp (maxSteps:=2000000) only [↓Za,↓Zi,↓Zr,↓Ze,↓Zo,↓Zs,↓Zg,↓Zm,↓Zf,↓Zb,↓Zc,↓vdn,vup,Zk,Zn,Zl,Zh,Zj,List.map_cons,List.map_nil,cond_true,cond_false,aop,Zv,Zq,Zp,ev,sput,Zt,Zy,Ya,unK,Zd,Zw,Nat.reduceBEq,Nat.reduceAdd,Int.reduceBEq,Int.reduceBNe,Int.reduceLT,Zu,Zz,tup,tyf])
 clear hN17
 try clear N17
 refine Yi fun M hM=>?_
 cases ho:ord o with
 | false =>
   refine Yc fun N18 hN18=>?_
   simp (maxSteps:=2000000) only [s45,↓Za,↓Zi,↓Zr,↓Ze,↓Zo,↓Zs,↓Zg,↓Zm,↓Zf,↓Zb,↓Zc,↓vdn,vup,Zk,Zn,Zl,Zh,Zj,List.map_cons,List.map_nil,cond_true,cond_false,aop,Zv,Zq,Zp,ev,sput,Zt,Zy,Ya,unK,Zd,Zw,Nat.reduceBEq,Nat.reduceAdd,Int.reduceBEq,Int.reduceBNe,Int.reduceLT,Zu,Zz,tup,tyf,Bool.not_false]
   refine hN18 [(2,.slice none 0 0),(3,.int .i64 0),(4,.pointer (some ⟨gl,0,none⟩)),(5,.bool false),(14,.bool true)] _ _ ?_ (by simp (maxSteps:=2000000) only [↓Za,↓Zi,↓Zr,↓Ze,↓Zo,↓Zs,↓Zg,↓Zm,↓Zf,↓Zb,↓Zc,↓vdn,vup,Zk,Zn,Zl,Zh,Zj,List.map_cons,List.map_nil,cond_true,cond_false,aop,Zv,Zq,Zp,ev,sput,Zt,Zy,Ya,unK,Zd,Zw,Nat.reduceBEq,Nat.reduceAdd,Int.reduceBEq,Int.reduceBNe,Int.reduceLT,Zu,Zz,tup,tyf])
   clear hN18
   try clear N18
   refine Wh rfl ?_
   refine Yk ?_
   simp (maxSteps:=2000000) only [s45,↓Za,↓Zi,↓Zr,↓Ze,↓Zo,↓Zs,↓Zg,↓Zm,↓Zf,↓Zb,↓Zc,↓vdn,vup,Zk,Zn,Zl,Zh,Zj,List.map_cons,List.map_nil,cond_true,cond_false,aop,Zv,Zq,Zp,ev,sput,Zt,Zy,Ya,unK,Zd,Zw,Nat.reduceBEq,Nat.reduceAdd,Int.reduceBEq,Int.reduceBNe,Int.reduceLT,Zu,Zz,tup,tyf]
   exact ⟨hE,_,_,rfl,by rw [IntsIs,ho]; exact ⟨rfl,rfl⟩⟩
 | true =>
   have hln:=Yu ho
   have hrd:rdC o=Wa o:=if_pos hln
   rw [hrd] at hb
   have f4 : ∀ {K:Value→Prop},Xs prog 77 (.pointer (some ⟨gl,0,none⟩)) 0 K=K (.pointer (some ⟨gl,0,none⟩)):=fun {K}=>by
    simp [Xs,Vy,Xt]
   have hgG:=Yd hb
   have hgg:=hE.1
   refine Yc fun N19 hN19=>?_
   simp (maxSteps:=2000000) only [s45,↓Za,↓Zi,↓Zr,↓Ze,↓Zo,↓Zs,↓Zg,↓Zm,↓Zf,↓Zb,↓Zc,↓vdn,vup,Zk,Zn,Zl,Zh,Zj,List.map_cons,List.map_nil,cond_true,cond_false,aop,Zv,Zq,Zp,ev,sput,Zt,Zy,Ya,unK,Zd,Zw,Nat.reduceBEq,Nat.reduceAdd,Int.reduceBEq,Int.reduceBNe,Int.reduceLT,Zu,Zz,tup,tyf,Bool.not_true]
   refine hN19 [(2,.slice none 0 0),(3,.int .i64 0),(4,.pointer (some ⟨gl,0,none⟩)),(5,.bool true),(14,.bool false)] _ _ ?_ (by simp (maxSteps:=2000000) only [↓Za,↓Zi,↓Zr,↓Ze,↓Zo,↓Zs,↓Zg,↓Zm,↓Zf,↓Zb,↓Zc,↓vdn,vup,Zk,Zn,Zl,Zh,Zj,List.map_cons,List.map_nil,cond_true,cond_false,aop,Zv,Zq,Zp,ev,sput,Zt,Zy,Ya,unK,Zd,Zw,Nat.reduceBEq,Nat.reduceAdd,Int.reduceBEq,Int.reduceBNe,Int.reduceLT,Zu,Zz,tup,tyf])
   clear hN19
   try clear N19
   refine Xx rfl ?_
   refine Yk ?_
   simp (maxSteps:=2000000) only [s45,↓Za,↓Zi,↓Zr,↓Ze,↓Zo,↓Zs,↓Zg,↓Zm,↓Zf,↓Zb,↓Zc,↓vdn,vup,Zk,Zn,Zl,Zh,Zj,List.map_cons,List.map_nil,cond_true,cond_false,aop,Zv,Zq,Zp,ev,sput,Zt,Zy,Ya,unK,Zd,Zw,Nat.reduceBEq,Nat.reduceAdd,Int.reduceBEq,Int.reduceBNe,Int.reduceLT,Zu,Zz,tup,tyf]
   refine hM [(2,.slice none 0 0),(3,.int .i64 0),(4,.pointer (some ⟨gl,0,none⟩)),(5,.bool true)] _ _ ?_ (by simp (maxSteps:=2000000) only [↓Za,↓Zi,↓Zr,↓Ze,↓Zo,↓Zs,↓Zg,↓Zm,↓Zf,↓Zb,↓Zc,↓vdn,vup,Zk,Zn,Zl,Zh,Zj,List.map_cons,List.map_nil,cond_true,cond_false,aop,Zv,Zq,Zp,ev,sput,Zt,Zy,Ya,unK,Zd,Zw,Nat.reduceBEq,Nat.reduceAdd,Int.reduceBEq,Int.reduceBNe,Int.reduceLT,Zu,Zz,tup,tyf])
   clear hM
   try clear M
   refine Yc fun N20 hN20=>?_
   simp (maxSteps:=2000000) only [s45,↓Za,↓Zi,↓Zr,↓Ze,↓Zo,↓Zs,↓Zg,↓Zm,↓Zf,↓Zb,↓Zc,↓vdn,vup,Zk,Zn,Zl,Zh,Zj,List.map_cons,List.map_nil,cond_true,cond_false,aop,Zv,Zq,Zp,ev,sput,Zt,Zy,Ya,unK,Zd,Zw,Nat.reduceBEq,Nat.reduceAdd,Int.reduceBEq,Int.reduceBNe,Int.reduceLT,Zu,Zz,tup,tyf]
   refine hN20 [(2,.slice none 0 0),(3,.int .i64 0),(4,.pointer (some ⟨gl,0,none⟩)),(5,.bool true),(6,.slice none 0 0)] _ _ ?_ (by simp (maxSteps:=2000000) only [↓Za,↓Zi,↓Zr,↓Ze,↓Zo,↓Zs,↓Zg,↓Zm,↓Zf,↓Zb,↓Zc,↓vdn,vup,Zk,Zn,Zl,Zh,Zj,List.map_cons,List.map_nil,cond_true,cond_false,aop,Zv,Zq,Zp,ev,sput,Zt,Zy,Ya,unK,Zd,Zw,Nat.reduceBEq,Nat.reduceAdd,Int.reduceBEq,Int.reduceBNe,Int.reduceLT,Zu,Zz,tup,tyf])
   clear hN20
   try clear N20
   refine Yi fun Z hZ=>?_
   refine Yc fun N21 hN21=>?_
   simp (maxSteps:=2000000) only [s45,↓Za,↓Zi,↓Zr,↓Ze,↓Zo,↓Zs,↓Zg,↓Zm,↓Zf,↓Zb,↓Zc,↓vdn,vup,Zk,Zn,Zl,Zh,Zj,List.map_cons,List.map_nil,cond_true,cond_false,aop,Zv,Zq,Zp,ev,sput,Zt,Zy,Ya,unK,Zd,Zw,Nat.reduceBEq,Nat.reduceAdd,Int.reduceBEq,Int.reduceBNe,Int.reduceLT,Zu,Zz,tup,tyf,f4,loadN hb Xf]
   refine hN21 [(2,.slice none 0 0),(3,.int .i64 0),(4,.pointer (some ⟨gl,0,none⟩)),(5,.bool true),(6,.slice none 0 0),(16,Zx o.length),(17,.int .i64 0)] _ _ ?_ (by simp (maxSteps:=2000000) only [↓Za,↓Zi,↓Zr,↓Ze,↓Zo,↓Zs,↓Zg,↓Zm,↓Zf,↓Zb,↓Zc,↓vdn,vup,Zk,Zn,Zl,Zh,Zj,List.map_cons,List.map_nil,cond_true,cond_false,aop,Zv,Zq,Zp,ev,sput,Zt,Zy,Ya,unK,Zd,Zw,Nat.reduceBEq,Nat.reduceAdd,Int.reduceBEq,Int.reduceBNe,Int.reduceLT,Zu,Zz,tup,tyf])
   clear hN21
   try clear N21
   refine Yr ?_
   refine Yn fun Q hQ=>?_
   refine We (γ:=Nat×Value×Yb) (fun s=>s.1≤o.length∧OwnSl 3 s.2.2 s.2.1 ((List.range s.1).map fun i=>((dn o i:Nat):Int))∧Ext (fun _=>False) G s.2.2∧∀ b,Ye s.2.1=some b→G.length≤b)
    (fun s=>([(2,.slice none 0 0),(3,.int .i64 0),(4,.pointer (some ⟨gl,0,none⟩)),(5,.bool true),(6,s.2.1),(16,Zx o.length),(17,Zx (s.1:Nat))],s.2.2)) (fun s=>o.length-s.1) (0,.slice none 0 0,G) ⟨Nat.zero_le _,.inl ⟨rfl,rfl⟩,Ext.refl _ _,fun b hb=>by cases hb⟩ (by simp (maxSteps:=2000000) only [↓Za,↓Zi,↓Zr,↓Ze,↓Zo,↓Zs,↓Zg,↓Zm,↓Zf,↓Zb,↓Zc,↓vdn,vup,Zk,Zn,Zl,Zh,Zj,List.map_cons,List.map_nil,cond_true,cond_false,aop,Zv,Zq,Zp,ev,sput,Zt,Zy,Ya,unK,Zd,Zw,Nat.reduceBEq,Nat.reduceAdd,Int.reduceBEq,Int.reduceBNe,Int.reduceLT,Zu,Zz,tup,tyf,Int.natCast_zero]) rfl ?_
   rintro ⟨s,w,H⟩ ⟨hs,how,hEH,hbw⟩
   simp only at hs how hEH hbw
   refine Yn fun Q2 hQ2=>?_
   simp only [l45_0]
   by_cases hin:(s:Int)<o.length
   · have hs' : s<o.length:=by omega
     have hbH:=(hEH.2 _ hgG id).trans hb
     have hnx:((List.range (s+1)).map fun i=>((dn o i:Nat):Int))=((List.range s).map fun i=>((dn o i:Nat):Int))++[((dn o s:Nat):Int)]:=by rw [List.range_succ,List.map_append]; rfl
     refine Yc fun N22 hN22=>?_
     simp (maxSteps:=2000000) only [s45,↓Za,↓Zi,↓Zr,↓Ze,↓Zo,↓Zs,↓Zg,↓Zm,↓Zf,↓Zb,↓Zc,↓vdn,vup,Zk,Zn,Zl,Zh,Zj,List.map_cons,List.map_nil,cond_true,cond_false,aop,Zv,Zq,Zp,ev,sput,Zt,Zy,Ya,unK,Zd,Zw,Nat.reduceBEq,Nat.reduceAdd,Int.reduceBEq,Int.reduceBNe,Int.reduceLT,Zu,Zz,tup,tyf,hin]
     refine hN22 [(2,.slice none 0 0),(3,.int .i64 0),(4,.pointer (some ⟨gl,0,none⟩)),(5,.bool true),(6,w),(16,Zx o.length),(17,Zx (s:Nat)),(18,.bool true)] _ _ ?_ (by simp (maxSteps:=2000000) only [↓Za,↓Zi,↓Zr,↓Ze,↓Zo,↓Zs,↓Zg,↓Zm,↓Zf,↓Zb,↓Zc,↓vdn,vup,Zk,Zn,Zl,Zh,Zj,List.map_cons,List.map_nil,cond_true,cond_false,aop,Zv,Zq,Zp,ev,sput,Zt,Zy,Ya,unK,Zd,Zw,Nat.reduceBEq,Nat.reduceAdd,Int.reduceBEq,Int.reduceBNe,Int.reduceLT,Zu,Zz,tup,tyf])
     clear hN22
     try clear N22
     refine Yc fun N23 hN23=>?_
     simp (maxSteps:=2000000) only [s45,↓Za,↓Zi,↓Zr,↓Ze,↓Zo,↓Zs,↓Zg,↓Zm,↓Zf,↓Zb,↓Zc,↓vdn,vup,Zk,Zn,Zl,Zh,Zj,List.map_cons,List.map_nil,cond_true,cond_false,aop,Zv,Zq,Zp,ev,sput,Zt,Zy,Ya,unK,Zd,Zw,Nat.reduceBEq,Nat.reduceAdd,Int.reduceBEq,Int.reduceBNe,Int.reduceLT,Zu,Zz,tup,tyf]
     refine hN23 [(2,.slice none 0 0),(3,.int .i64 0),(4,.pointer (some ⟨gl,0,none⟩)),(5,.bool true),(6,w),(16,Zx o.length),(17,Zx (s:Nat))] _ _ ?_ (by simp (maxSteps:=2000000) only [↓Za,↓Zi,↓Zr,↓Ze,↓Zo,↓Zs,↓Zg,↓Zm,↓Zf,↓Zb,↓Zc,↓vdn,vup,Zk,Zn,Zl,Zh,Zj,List.map_cons,List.map_nil,cond_true,cond_false,aop,Zv,Zq,Zp,ev,sput,Zt,Zy,Ya,unK,Zd,Zw,Nat.reduceBEq,Nat.reduceAdd,Int.reduceBEq,Int.reduceBNe,Int.reduceLT,Zu,Zz,tup,tyf])
     clear hN23
     try clear N23
     refine Yi fun B hB=>?_
     refine Yr ?_
     refine Yc fun N24 hN24=>?_
     simp (maxSteps:=2000000) only [s45,↓Za,↓Zi,↓Zr,↓Ze,↓Zo,↓Zs,↓Zg,↓Zm,↓Zf,↓Zb,↓Zc,↓vdn,vup,Zk,Zn,Zl,Zh,Zj,List.map_cons,List.map_nil,cond_true,cond_false,aop,Zv,Zq,Zp,ev,sput,Zt,Zy,Ya,unK,Zd,Zw,Nat.reduceBEq,Nat.reduceAdd,Int.reduceBEq,Int.reduceBNe,Int.reduceLT,Zu,Zz,tup,tyf]
     refine hN24 [(2,.slice none 0 0),(3,.int .i64 0),(4,.pointer (some ⟨gl,0,none⟩)),(5,.bool true),(6,w),(7,Zx (s:Nat)),(16,Zx o.length),(17,Zx (s:Nat))] _ _ ?_ (by simp (maxSteps:=2000000) only [↓Za,↓Zi,↓Zr,↓Ze,↓Zo,↓Zs,↓Zg,↓Zm,↓Zf,↓Zb,↓Zc,↓vdn,vup,Zk,Zn,Zl,Zh,Zj,List.map_cons,List.map_nil,cond_true,cond_false,aop,Zv,Zq,Zp,ev,sput,Zt,Zy,Ya,unK,Zd,Zw,Nat.reduceBEq,Nat.reduceAdd,Int.reduceBEq,Int.reduceBNe,Int.reduceLT,Zu,Zz,tup,tyf])
     clear hN24
     try clear N24
     refine Yk ?_
     simp (maxSteps:=2000000) only [s45,↓Za,↓Zi,↓Zr,↓Ze,↓Zo,↓Zs,↓Zg,↓Zm,↓Zf,↓Zb,↓Zc,↓vdn,vup,Zk,Zn,Zl,Zh,Zj,List.map_cons,List.map_nil,cond_true,cond_false,aop,Zv,Zq,Zp,ev,sput,Zt,Zy,Ya,unK,Zd,Zw,Nat.reduceBEq,Nat.reduceAdd,Int.reduceBEq,Int.reduceBNe,Int.reduceLT,Zu,Zz,tup,tyf,Yx,List.nil_append,List.append_nil,List.toList_toArray,List.cons_append,Vd hbH Xb hln.2]
     refine (below_call ho (i:=s)).mono ?_
     rintro _ H ⟨rfl,rfl⟩
     simp (maxSteps:=2000000) only [s45,↓Za,↓Zi,↓Zr,↓Ze,↓Zo,↓Zs,↓Zg,↓Zm,↓Zf,↓Zb,↓Zc,↓vdn,vup,Zk,Zn,Zl,Zh,Zj,List.map_cons,List.map_nil,cond_true,cond_false,aop,Zv,Zq,Zp,ev,sput,Zt,Zy,Ya,unK,Zd,Zw,Nat.reduceBEq,Nat.reduceAdd,Int.reduceBEq,Int.reduceBNe,Int.reduceLT,Zu,Zz,tup,tyf,litI1]
     refine OwnSl.append (x:=((dn o s:Nat):Int)) (how.ext (S:=fun _=>False) (Ext.app _ _ _) (fun _ _=>id)) app_22_22 (by simp; omega) (Yl _ _) ?_
     intro w' G2 ho' hE' hb'
     rw [← hnx] at ho'
     have hE2:Ext (fun _=>False) G G2:=ext_app hEH (H':=H++[Blk.ints [((dn o s:Nat):Int)] 3 false]) (by simp) (fun q hq=>List.getElem?_append_left (by have:=hEH.1; omega)) (fun b hb=>hbw b hb) hE'
     have hbw' : ∀ b,Ye w' = some b→G.length≤b:=fun b hb=>by
      rcases hb' with h1 | ⟨b',h1,h2⟩
      · exact hbw b (h1▸hb)
      · rw [h1] at hb; cases hb
        rw [List.length_append] at h2
        have:=hEH.1; omega
     refine hB [(2,.slice none 0 0),(3,.int .i64 0),(4,.pointer (some ⟨gl,0,none⟩)),(5,.bool true),(6,w'),(16,Zx o.length),(17,Zx (s:Nat))] _ _ ?_ (by simp (maxSteps:=2000000) only [↓Za,↓Zi,↓Zr,↓Ze,↓Zo,↓Zs,↓Zg,↓Zm,↓Zf,↓Zb,↓Zc,↓vdn,vup,Zk,Zn,Zl,Zh,Zj,List.map_cons,List.map_nil,cond_true,cond_false,aop,Zv,Zq,Zp,ev,sput,Zt,Zy,Ya,unK,Zd,Zw,Nat.reduceBEq,Nat.reduceAdd,Int.reduceBEq,Int.reduceBNe,Int.reduceLT,Zu,Zz,tup,tyf])
     clear hB
     try clear B
     refine Yk ?_
     simp (maxSteps:=2000000) only [s45,↓Za,↓Zi,↓Zr,↓Ze,↓Zo,↓Zs,↓Zg,↓Zm,↓Zf,↓Zb,↓Zc,↓vdn,vup,Zk,Zn,Zl,Zh,Zj,List.map_cons,List.map_nil,cond_true,cond_false,aop,Zv,Zq,Zp,ev,sput,Zt,Zy,Ya,unK,Zd,Zw,Nat.reduceBEq,Nat.reduceAdd,Int.reduceBEq,Int.reduceBNe,Int.reduceLT,Zu,Zz,tup,tyf,add1 (show s<9223372036854775807 by omega)]
     exact hQ2 _ _ _ ⟨(s+1,w',G2),⟨hs',ho',hE2,hbw'⟩,by simp only; omega,by simp (maxSteps:=2000000) only [↓Za,↓Zi,↓Zr,↓Ze,↓Zo,↓Zs,↓Zg,↓Zm,↓Zf,↓Zb,↓Zc,↓vdn,vup,Zk,Zn,Zl,Zh,Zj,List.map_cons,List.map_nil,cond_true,cond_false,aop,Zv,Zq,Zp,ev,sput,Zt,Zy,Ya,unK,Zd,Zw,Nat.reduceBEq,Nat.reduceAdd,Int.reduceBEq,Int.reduceBNe,Int.reduceLT,Zu,Zz,tup,tyf],rfl⟩
   · obtain rfl:s=o.length:=by omega
     refine Yc fun N25 hN25=>?_
     simp (maxSteps:=2000000) only [s45,↓Za,↓Zi,↓Zr,↓Ze,↓Zo,↓Zs,↓Zg,↓Zm,↓Zf,↓Zb,↓Zc,↓vdn,vup,Zk,Zn,Zl,Zh,Zj,List.map_cons,List.map_nil,cond_true,cond_false,aop,Zv,Zq,Zp,ev,sput,Zt,Zy,Ya,unK,Zd,Zw,Nat.reduceBEq,Nat.reduceAdd,Int.reduceBEq,Int.reduceBNe,Int.reduceLT,Zu,Zz,tup,tyf,hin]
     refine hN25 [(2,.slice none 0 0),(3,.int .i64 0),(4,.pointer (some ⟨gl,0,none⟩)),(5,.bool true),(6,w),(16,Zx o.length),(17,Zx o.length),(18,.bool false)] _ _ ?_ (by simp (maxSteps:=2000000) only [↓Za,↓Zi,↓Zr,↓Ze,↓Zo,↓Zs,↓Zg,↓Zm,↓Zf,↓Zb,↓Zc,↓vdn,vup,Zk,Zn,Zl,Zh,Zj,List.map_cons,List.map_nil,cond_true,cond_false,aop,Zv,Zq,Zp,ev,sput,Zt,Zy,Ya,unK,Zd,Zw,Nat.reduceBEq,Nat.reduceAdd,Int.reduceBEq,Int.reduceBNe,Int.reduceLT,Zu,Zz,tup,tyf])
     clear hN25
     try clear N25
     refine Yc fun N26 hN26=>?_
     simp (maxSteps:=2000000) only [s45,↓Za,↓Zi,↓Zr,↓Ze,↓Zo,↓Zs,↓Zg,↓Zm,↓Zf,↓Zb,↓Zc,↓vdn,vup,Zk,Zn,Zl,Zh,Zj,List.map_cons,List.map_nil,cond_true,cond_false,aop,Zv,Zq,Zp,ev,sput,Zt,Zy,Ya,unK,Zd,Zw,Nat.reduceBEq,Nat.reduceAdd,Int.reduceBEq,Int.reduceBNe,Int.reduceLT,Zu,Zz,tup,tyf]
     refine hQ2 _ _ _ (hQ _ _ _ ?_)
     simp (maxSteps:=2000000) only [s45,↓Za,↓Zi,↓Zr,↓Ze,↓Zo,↓Zs,↓Zg,↓Zm,↓Zf,↓Zb,↓Zc,↓vdn,vup,Zk,Zn,Zl,Zh,Zj,List.map_cons,List.map_nil,cond_true,cond_false,aop,Zv,Zq,Zp,ev,sput,Zt,Zy,Ya,unK,Zd,Zw,Nat.reduceBEq,Nat.reduceAdd,Int.reduceBEq,Int.reduceBNe,Int.reduceLT,Zu,Zz,tup,tyf,if_true]
     refine hZ [(2,.slice none 0 0),(3,.int .i64 0),(4,.pointer (some ⟨gl,0,none⟩)),(5,.bool true),(6,w)] _ _ ?_ (by simp (maxSteps:=2000000) only [↓Za,↓Zi,↓Zr,↓Ze,↓Zo,↓Zs,↓Zg,↓Zm,↓Zf,↓Zb,↓Zc,↓vdn,vup,Zk,Zn,Zl,Zh,Zj,List.map_cons,List.map_nil,cond_true,cond_false,aop,Zv,Zq,Zp,ev,sput,Zt,Zy,Ya,unK,Zd,Zw,Nat.reduceBEq,Nat.reduceAdd,Int.reduceBEq,Int.reduceBNe,Int.reduceLT,Zu,Zz,tup,tyf])
     clear hZ
     try clear Z
     refine Yk ?_
     simp (maxSteps:=2000000) only [s45,↓Za,↓Zi,↓Zr,↓Ze,↓Zo,↓Zs,↓Zg,↓Zm,↓Zf,↓Zb,↓Zc,↓vdn,vup,Zk,Zn,Zl,Zh,Zj,List.map_cons,List.map_nil,cond_true,cond_false,aop,Zv,Zq,Zp,ev,sput,Zt,Zy,Ya,unK,Zd,Zw,Nat.reduceBEq,Nat.reduceAdd,Int.reduceBEq,Int.reduceBNe,Int.reduceLT,Zu,Zz,tup,tyf]
     exact ⟨hE.trans hEH,_,_,rfl,by rw [IntsIs,ho]; exact ⟨rfl,how.int⟩⟩
end Go.Proofs.Tryd.Am
