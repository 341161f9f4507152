/-
  The seat's bits: TrailingZeros64 and TrailingZeros of math/bits, on the model's own worlds.
  order: reading an order: the two functions that say whether there is one.
  Plain theory: the least order with some pairs: built pair by pair, and by rounds.
  order: read.
  order: how many lines there are: by which sets can come first.
  order: copies, Count, add, slice, Add.
  order: slice, Add.
  Plain theory: in how many lines one element stands before another one; heights; fractions; the most even pair.
  order: the reference's Add; how many lines have one element before another one; the most even pair.
  order: the most even pair, of the code and of the reference.
  order: the library's stable sort of a short slice of pairs, by any function: it keeps the pairs.
  order: slices of pairs: copies, whether they are pairs of elements.
  order, plain: how many comparisons sort an order.
  order: what a sorter knows; the comparison of pairs by their unevenness.
  top: whether two entries may be in one fooling set.
  Printed by gen.py: the code of some functions, without what no step looks at; held against the program's own by the kernel.
-/
import Derived.Test.YtmjpngmoankpkaaDoorProg
import Derived.Test.YtmjpngmoankpkaaDoorPk3
import Derived.Shelf.Spec.TrailingZeros
import Derived.Shelf.Abstract
import Derived.TacticsInMore
import Derived.LoopNIn
import Derived.LoopIn
import Derived.Test.YtmjpngmoankpkaaDoorPk7
import Derived.Test.YtmjpngmoankpkaaDoorPk4
import Derived.Test.YtmjpngmoankpkaaDoorPk6
import Derived.Test.YtmjpngmoankpkaaDoorPk5
import Derived.KernelRfl
set_option linter.all false
namespace Go.Proofs.Tryd.Ob
open Go.Proofs.Tryd
open Go.RowKit Go.Am
set_option maxHeartbeats 1000000 in
theorem tz64_core (x k idx:Nat) (w:World) (hx0:((x:Int)==0)=false)
  (key:IntKind.u64.wrap (bits BinOp.and IntKind.u64 (x:Int) (IntKind.u64.wrap (-(x:Int)))*285870213051353865) / 288230376151711744=(idx:Int))
  (hi:idx<64) (hk:k<64) (hcell:w.cell? ⟨0,idx,none⟩=some (.int .u8 k)) :
  Calls prog 98 #[.int .u64 x] w fun e w'=>e = .returned (.int .i64 k)∧w' = w:=by
 go_enter func98,ntmps98
 go_wp2_with (simp only [key])
 go_ret
 exact ⟨rfl,rfl⟩
theorem tz64_zero (w:World):Calls prog 98 #[.int .u64 0] w fun e w'=>e = .returned (.int .i64 64)∧w' = w:=by
 go_enter func98,ntmps98
 go_wp2
 go_ret
 exact ⟨rfl,rfl⟩
theorem tz64 (x:Nat) (hx:x<18446744073709551616) (w:World) (hT:x≠0→TabAt 0 Lib.deBruijn64tab w) :
  Calls prog 98 #[.int .u64 x] w fun e w'=>e = .returned (.int .i64 (Lib.ctz 64 x))∧w' = w:=by
 by_cases hx0:x=0
 · subst hx0; exact tz64_zero w
 · obtain ⟨hlow,hk⟩:=Lib.lowest_bit 64 x hx0 hx
   obtain ⟨hi,htab⟩:=Lib.deBruijn64_at _ hk
   have hcell:=hT hx0 _ hi
   rw [htab] at hcell
   exact tz64_core x _ _ w (by simp; omega) (tz64_key x _ hx hx0 hlow) hi hk hcell
theorem tz (x:Nat) (hx:x<18446744073709551616) (w:World) (hT:x≠0→TabAt 0 Lib.deBruijn64tab w) :
  Calls prog 137 #[.int .u64 x] w fun e w'=>e = .returned (.int .i64 (Lib.ctz 64 x))∧w' = w:=by
 have c64:=tz64 x hx w hT
 have e29 : ∀ args w,(callFunc 98 args).run prog w = .ok (.enter 98 args) w:=enters_of func98 (by kernel_rfl) rfl
 have hw:IntKind.u64.wrap (x:Int)=(x:Int):=by rw [IntKind.wrap_u64]; omega
 go_enter func137,ntmps137
 go_wp2_with (go_at_fn 98; refine c64.mono ?_; rintro e w' ⟨rfl,hw'⟩; rw [hw'])
 go_ret
 exact ⟨rfl,rfl⟩
theorem and_pred_lt (s:Nat) (h:s≠0):s &&& (s-1)<s:=Nat.lt_of_le_of_lt Nat.and_le_right (by omega)
def boxLeft (B:Nat) (w:World):Nat:=match w.cell? ⟨B,0,none⟩ with | some (.int _ n)=>n.toNat | _=>0
theorem boxLeft_eq {B s:Nat} {w:World} (h:w.cell? ⟨B,0,none⟩=some (.int .i64 s)):boxLeft B w=s:=by simp [boxLeft,h]
attribute [local go_sem] Oper.semAt_some
set_option maxRecDepth 100000 in
set_option maxHeartbeats 2000000 in
theorem elements1 (l B s:Nat) (J Jx:List Nat→World→Prop) (W:World) (hs:s<9223372036854775808) (hB:W.cell? ⟨B,0,none⟩=some (.int .i64 s)) (hfz:W.frozen? ⟨B,0,none⟩=false)
  (hT : ∀ pre W,J pre W→TabAt 0 Lib.deBruijn64tab W)
  (hst : ∀ pre W v,J pre W→J pre (W.setCell ⟨B,0,none⟩ v))
  (hY : ∀ pre (x:Nat) W,J pre W→pre++[x] <+: Am.bits s→YieldAt Fence.wide 0 prog l #[.int .i64 x] W fun en W' =>
   (en = .returned (.bool true)∧J (pre++[x]) W'∧W'.cell? ⟨B,0,none⟩=W.cell? ⟨B,0,none⟩∧W'.frozen? ⟨B,0,none⟩=W.frozen? ⟨B,0,none⟩)∨(en = .returned (.bool false)∧Jx (pre++[x]) W'))
  (h0:J [] W) :
  CallsIn Fence.wide 1 prog 136 #[.func (.yield l) #[] #[],.pointer (some ⟨B,0,none⟩)] W fun en W'=>(∃ v,en = .returned v)∧(J (Am.bits s) W'∨∃ pre,Jx pre W'):=by
 refine callsIn_of_wp func136 rfl trivial ?_ rfl
 simp only [ntmps136,List.size_toArray,List.length_cons,List.length_nil,Nat.reduceAdd,Nat.reduceSub,Array.replicate_succ,Array.replicate_zero,List.push_toArray,List.append_toArray,List.nil_append,List.cons_append]
 have e115 : ∀ args w,(callFunc 137 args).run prog w = .ok (.enter 137 args) w:=enters_of func137 (by kernel_rfl) rfl
 gi_wp2
 gi_loopw [3] (fun _ wr=>∃ (pre:List Nat) (t:Nat),t<9223372036854775808∧Am.bits s=pre++Am.bits t∧wr.cell? ⟨B,0,none⟩=some (.int .i64 t)∧wr.frozen? ⟨B,0,none⟩=false∧J pre wr)
  (fun _ wr=>boxLeft B wr)
 case atStart=>exact ⟨[],s,hs,rfl,hB,hfz,h0⟩
 case round =>
  obtain ⟨pre,t,ht,hx,hc,hf,hJ⟩:=hrel
  by_cases ht0:t=0
  · subst ht0
    gi_wp2
    go_end0
    exact ⟨⟨_,rfl⟩,.inl (by rw [hx,show Am.bits 0=[] from rfl,List.append_nil]; exact hJ)⟩
  · have hw:IntKind.u64.wrap (t:Int)=(t:Int):=by rw [IntKind.wrap_u64]; omega
    have htz:=tz t (by omega) wr (fun _=>hT _ _ hJ)
    have hy:=hY pre (Lib.ctz 64 t) wr hJ (by rw [hx,Am.bits_step t ht ht0]; simp)
    have hne:((t:Int)==0)=false:=by simpa using ht0
    have htz' : CallsIn Fence.wide 0 prog 137 #[.int .u64 t] wr fun e w'=>e = .returned (.int .i64 (Lib.ctz 64 t))∧w' = wr:=callsIn_wide.2 htz
    obtain ⟨fn,tmps,assign,body,hy1,hR⟩:=hy
    gi_wp2
    refine ⟨trivial,htz'.mono ?_⟩
    rintro e w2 ⟨rfl,rfl⟩
    gi_wp2
    refine hR.mono ?_
    rintro e W3 (⟨rfl,hJ3,hc3,hf3⟩ | ⟨rfl,hJx3⟩)
    · rw [hc] at hc3
      rw [hf] at hf3
      gi_wp2
      have hand:bits BinOp.and IntKind.i64 (t:Int) ((t:Int)-1)=((t &&& (t-1):Nat):Int):=by
       have:=bitsV_and (a:=t) (b:=t-1) ht (by omega)
       rw [← this,show ((t-1:Nat):Int)=(t:Int)-1 by omega]; rfl
      have hlt:=and_pred_lt t ht0
      rw [hand]
      have hcell:(W3.setCell ⟨B,0,none⟩ (.int .i64 ((t &&& (t-1):Nat):Int))).cell? ⟨B,0,none⟩=some (.int .i64 ((t &&& (t-1):Nat):Int)):=World.cell?_setCell_same' _ _ _ (by rw [hc3]; rfl)
      refine ⟨⟨_,_,_,_,_,_,_,_,_,_,_,_,⟨pre++[Lib.ctz 64 t],t &&& (t-1),by omega,by rw [hx,Am.bits_step t ht ht0]; simp,hcell,by rw [World.frozen?_setCell]; exact hf3,hst _ _ _ hJ3⟩,rfl⟩,?_⟩
      rw [boxLeft_eq hcell,boxLeft_eq hc]
      exact hlt
    · gi_wp2
      refine bodyPost_ret (results_none rfl _ _ _) rfl ?_
      exact ⟨⟨_,rfl⟩,.inr ⟨_,hJx3⟩⟩
theorem tabAt_of [T:BitTab prog 0] {w:World} (h : ∀ p∈Tabs.tabs prog,w.heap[p.1]? = some p.2):TabAt 0 Lib.deBruijn64tab w:=by
 intro j hj
 have:=h (0,_) (by rw [T.eq]; exact List.mem_singleton.2 rfl)
 simp only [World.cell?,this]
 simp [hj]
theorem bitIter [BitTab prog 0]:BitIter prog 136:=by
 refine ⟨enters_of func136 (by kernel_rfl) rfl,?_⟩
 intro r l B s J Jx W hs hB hfz hT hst hY h0
 cases r with
 | none=>exact elements1 l B s J Jx W hs hB hfz (fun pre W hJ=>tabAt_of (hT pre W hJ)) hst hY h0
 | some l0=>exact CallsIn.inRound l0 (elements1 l B s J Jx W hs hB hfz (fun pre W hJ=>tabAt_of (hT pre W hJ)) hst hY h0)
#print axioms bitIter
end Go.Proofs.Tryd.Ob
namespace Go.Proofs.Tryd.Am.Or
open Go.Proofs.Tryd.Am
open Go.Am Ord
set_option maxRecDepth 100000
set_option maxHeartbeats 1000000
theorem testA {o:List Int} {i:Nat} (h0:0≤o.getD i 0) (h1:o.getD i 0<9223372036854775808) (j:Nat):We .and .i64 (shrV .i64 (o.getD i 0) j) 1=if ab o i j then 1 else 0:=by
 have:=testV (a:=bt o i) (y:=j) (by unfold bt; omega)
 rw [show ((bt o i:Nat):Int)=o.getD i 0 from Int.toNat_of_nonneg h0] at this
 exact this
theorem pow6I {n:Nat} (h:n≤6):(2:Int) ^ n≤64∧0<(2:Int) ^ n:=by
 have:=pow6 h
 rw [← pow_cast]; omega
end Go.Proofs.Tryd.Am.Or
namespace Ord
open Go.Am
inductive Reach (l:List (Nat×Nat)):Nat→Nat→Prop
 | one {a b:Nat} (h:(a,b)∈l):Reach l a b
 | tr {a b c:Nat} (h1:Reach l a b) (h2:Reach l b c):Reach l a c
theorem Reach.mono {l l' : List (Nat×Nat)} (h : ∀ p∈l,p∈l') {a b:Nat} (hr:Reach l a b):Reach l' a b:=by
 induction hr with
 | one h1=>exact .one (h _ h1)
 | tr _ _ i1 i2=>exact .tr i1 i2
def Path (l:List (Nat×Nat)):Nat→Nat→Nat→Prop
 | 0,_,_=>False
 | 1,a,b=>(a,b)∈l
 | m+2,a,b=>∃ c,(a,c)∈l∧Path l (m+1) c b
theorem Path.mono {l l' : List (Nat×Nat)} (h : ∀ p∈l,p∈l') : ∀ {m a b},Path l m a b→Path l' m a b
 | 0,_,_,hp=>hp.elim
 | 1,_,_,hp=>h _ hp
 | m+2,_,_,⟨c,h1,h2⟩=>⟨c,h _ h1,h2.mono h⟩
def Sets (n:Nat) (o:List Int):Prop:=o.length=n∧∀ i,i<n→o.getD i 0=(bt o i:Int)∧bt o i<2 ^ n
theorem Sets.bit {n:Nat} {o:List Int} (h:Sets n o) {i j:Nat} (hij:ab o i j=true):i<n∧j<n:=by
 have hi:i<n:=by
  rcases Nat.lt_or_ge i n with h' | h'
  · exact h'
  · rw [ab,bt_out (by rw [h.1]; exact h')] at hij; simp at hij
 refine ⟨hi,?_⟩
 rcases Nat.lt_or_ge j n with h' | h'
 · exact h'
 · have:=Nat.testBit_lt_two_pow (Nat.lt_of_lt_of_le (h.2 i hi).2 (Nat.pow_le_pow_right (by decide) h'))
   rw [ab,this] at hij; cases hij
theorem Sets.ext {n:Nat} {o o' : List Int} (h:Sets n o) (h' : Sets n o') (he : ∀ i j,ab o i j=ab o' i j):o=o':=by
 refine List.ext_getElem (h.1.trans h'.1.symm) fun i h1 h2=>?_
 have e1:o[i]=o.getD i 0:=by simp [List.getD,h1]
 have e2:o'[i]=o'.getD i 0:=by simp [List.getD,h2]
 rw [e1,e2,(h.2 i (h.1▸h1)).1,(h'.2 i (h'.1▸h2)).1]
 congr 1
 exact Nat.eq_of_testBit_eq fun j=>he i j
theorem Sets.ord {n:Nat} {o:List Int} (h:Sets n o) (hn:1≤n∧n≤6) (hp:Po (ab o)):Ord.ord o=true :=
 ord_of (by rw [h.1]; exact hn) (fun i hi=>⟨_,(h.2 i (by rw [← h.1]; exact hi)).1,by rw [h.1]; exact (h.2 i (by rw [← h.1]; exact hi)).2⟩) hp
structure Good (n:Nat) (l:List (Nat×Nat)) (o o' : List Int):Prop where
 sets:Sets n o'
 mono : ∀ a b,ab o a b=true→ab o' a b=true
 sound:(∀ a b,ab o a b=true→Reach l a b)→∀ a b,ab o' a b=true→Reach l a b
theorem Good.refl {n:Nat} {l:List (Nat×Nat)} {o:List Int} (h:Sets n o):Good n l o o:=⟨h,fun _ _ h=>h,fun h=>h⟩
theorem Good.trans {n:Nat} {l:List (Nat×Nat)} {o o' o'' : List Int} (h1:Good n l o o') (h2:Good n l o' o''):Good n l o o'' :=
 ⟨h2.sets,fun a b h=>h2.mono a b (h1.mono a b h),fun h=>h2.sound (h1.sound h)⟩
end Ord
namespace Go.Proofs.Tryd.Am.Or
open Go.Proofs.Tryd.Am
open Go.Am Ord
set_option maxRecDepth 100000
set_option maxHeartbeats 1000000
theorem Wl {h h' : Yc} {v:Value} {xs:List Int} (hv:IntSl h v xs) (he:Ext (fun _=>False) h h'):IntSl h' v xs:=hv.same fun b hb=>he.2 b (hv.lt hb) id
def ordN (n:Int):List Value:=[Zx n,.int .i64 0,.int .i64 0,.int .i64 0,.int .i64 0,.int .i64 0,.int .i64 0]
theorem bldN {n:Int} {K:Value→Prop}:Vv prog 97 [(0,Zx n)] K=K (.agg (ordN n).toArray):=by
 simp [Vv,zero_97,fillL,pl_97_0,Wt,cellsOf,Yt,ordN]
theorem zeroN:([.int .i64 0,.int .i64 0,.int .i64 0,.int .i64 0,.int .i64 0,.int .i64 0,.int .i64 0]:List Value)=ordN 0:=rfl
theorem copyO {h:Yc} {v:Value} {o:List Int} (hv:IntSl h v o) (h1:1≤o.length∧o.length≤6) {b:Nat} (hb:h[b]? = some (.cells (ordN o.length) 97 false)) {K:Value→Yc→Prop} (hk:K (Zx o.length) (h.set b (.cells (Vx o) 97 false))) :
  copyK prog h 27 (.slice (some ⟨b,1,none⟩) 6 6) v K:=by
 have hne:o≠[]:=by rintro rfl; simp at h1
 have hv':=hv
 rcases hv with ⟨rfl,hx⟩ | ⟨b2,o2,sp,cap,c,e,ro,rfl,hc,hw,hx⟩
 · exact absurd hx hne
 have e6:min (o.length:Int) ((6:Nat):Int)=o.length:=by omega
 simp only [copyK,Wp,Xk,Nat.min_eq_left h1.2,e6]
 refine hv'.cells hne b2 o2 sp o.length cap rfl ?_
 refine ⟨?_,?_⟩
 · rw [List.all_eq_true]; intro x hx
   obtain ⟨y,-,rfl⟩:=List.mem_map.1 hx; rfl
 · simp only [hb]
   refine ⟨by simp [ordN]; omega,?_⟩
   have e1:Yt (ordN o.length) 1 (o.map Zx)=Vx o:=by
    rw [Yt,Vx,ordN,sixs,List.map_append,List.length_map]
    show _::(_++_)=_
    congr 2
    rw [List.map_replicate]
    have:o.length=1∨o.length=2∨o.length=3∨o.length=4∨o.length=5∨o.length=6:=by omega
    rcases this with h | h | h | h | h | h <;> rw [h] <;> rfl
   rw [e1]; exact hk
def rdC (o:List Int):List Value:=if 1≤o.length∧o.length≤6 then Vx o else ordN o.length
def rdV (o:List Int):Value:=.agg (rdC o).toArray
theorem rdC_len (o:List Int):(rdC o).length=7:=by
 unfold rdC; split
 · next h=>exact Xw h.2
 · rfl
theorem rdC_one (o:List Int):(rdC o).all one=true:=by
 unfold rdC; split
 · exact ordC_one o
 · rfl
theorem low_rdV (o:List Int):Low (rdV o):=by
 unfold rdV rdC
 split
 · exact Low.ordV o
 · exact .agg fun x hx=>by
    simp only [ordN,List.mem_cons,List.not_mem_nil,or_false] at hx
    rcases hx with rfl | rfl | rfl | rfl | rfl | rfl | rfl <;> exact .int _ _
theorem read_call [BitTab prog 0] {h:Yc} {v:Value} {o:List Int} (hv:IntSl h v o) (hl:o.length<9223372036854775808) (hx : ∀ x∈o,-9223372036854775808≤x∧x<9223372036854775808):APure prog 54 [v] h (.tuple #[rdV o,.bool (ord o)]):=by
 refine ACall.forget (.pair (low_rdV o) (.bool _)) ?_
 refine s54_call (by simp) ?_
 simp only [s54]
 obtain ⟨tp,tl,tc,rfl⟩ : ∃ p l c,v = .slice p l c:=by
  rcases hv with ⟨rfl,_⟩ | ⟨b,o,sp,cap,c,e,ro,rfl,_⟩
  · exact ⟨_,_,_,rfl⟩
  · exact ⟨_,_,_,rfl⟩
 refine Vw fun N hN=>?_
 simp (maxSteps:=2000000) only [s54,↓Za,↓Zk,↓Zr,↓Ze,↓Zm,↓Zs,↓Zf,↓Zh,↓Zg,↓Zc,↓Zb,↓vdn,vup,Zn,Zl,Zo,Zi,Zj,List.map_cons,List.map_nil,cond_true,cond_false,aop,Zv,Zq,Zp,ev,sput,Zt,Zy,Ya,unK,Zd,Zw,Nat.reduceBEq,Nat.reduceAdd,Int.reduceBEq,Int.reduceBNe,Int.reduceLT,Zu,Zz,tup,tyf,boxK,cellsOf,Option.isSome_some,Xd,Xx,zeroN]
 refine hN _ _ ?_
 clear hN N
 generalize htv:Value.slice tp tl tc=tv at *
 obtain ⟨H,hH⟩ : ∃ H,H=h++[Blk.cells [tv] 27 false]++[Blk.cells (ordN 0) 97 false]++[Blk.cells [.bool false] 4 false]:=⟨_,rfl⟩
 rw [← hH]
 simp only [List.length_append,List.length_cons,List.length_nil,Nat.zero_add,Nat.add_assoc,Nat.reduceAdd]
 obtain ⟨n,hn⟩ : ∃ n,n=h.length:=⟨_,rfl⟩
 have hHl:H.length=n+3:=by rw [hH,hn]; simp
 have hE0:Ext (fun _=>False) h H:=by rw [hH,List.append_assoc,List.append_assoc]; exact Ext.app _ _ _
 have b1:H[n]? = some (.cells [tv] 27 false):=by rw [hH,hn]; exact Xi (Xi (Yj _ _) _) _
 have b2:H[n+1]? = some (.cells (ordN 0) 97 false):=by
  rw [hH,hn]; have:=Xi (Yj (h++[Blk.cells [tv] 27 false]) (Blk.cells (ordN 0) 97 false)) [Blk.cells [.bool false] 4 false]
  simpa using this
 have b3:H[n+2]? = some (.cells [.bool false] 4 false):=by
  rw [hH,hn]; have:=Yj (h++[Blk.cells [tv] 27 false]++[Blk.cells (ordN 0) 97 false]) (Blk.cells [.bool false] 4 false)
  simpa using this
 have hvH:IntSl H tv o:=Wl hv hE0
 rw [← hn]
 clear hH
 refine Vw fun N hN=>?_
 simp (maxSteps:=2000000) only [s54,↓Za,↓Zk,↓Zr,↓Ze,↓Zm,↓Zs,↓Zf,↓Zh,↓Zg,↓Zc,↓Zb,↓vdn,vup,Zn,Zl,Zo,Zi,Zj,List.map_cons,List.map_nil,cond_true,cond_false,aop,Zv,Zq,Zp,ev,sput,Zt,Zy,Ya,unK,Zd,Zw,Nat.reduceBEq,Nat.reduceAdd,Int.reduceBEq,Int.reduceBNe,Int.reduceLT,Zu,Zz,tup,tyf,Xa b1 Wb,hvH.len,Xx,Xd,bldN,zeroN]
 rw [storeA (c:=ordN 0) (vs:=ordN o.length) (Yj _ _) (by rw [Wi]; rfl) rfl rfl]
 refine hN _ _ ?_
 clear hN N
 rw [hHl]
 obtain ⟨G,hG⟩ : ∃ G,G=(H++[Blk.cells (ordN 0) 97 false]).set (n+3) (.cells (ordN o.length) 97 false):=⟨_,rfl⟩
 rw [← hG]
 have hGl:G.length=n+4:=by rw [hG]; simp [hHl]
 have oldG : ∀ {k B},H[k]? = some B→G[k]? = some B:=fun {k B} hk=>by
  have:=Yp hk
  rw [hG,List.getElem?_set_ne (by omega)]; exact Xi hk _
 have b4:G[n+3]? = some (.cells (ordN o.length) 97 false):=by rw [hG]; exact Xy (by simp [hHl]) _
 have hEG:Ext (fun _=>False) h G:=⟨by omega,fun i hi _=>by
  rw [hG,List.getElem?_set_ne (by omega),List.getElem?_append_left (by omega)]; exact hE0.2 i hi id⟩
 replace b1:=oldG b1
 replace b2:=oldG b2
 replace b3:=oldG b3
 clear oldG hG
 have hvG:IntSl G tv o:=Wl hv hEG
 clear hvH hE0 hHl
 clear H
 -- what a return does
 have fin : ∀ (hp:Yc) (bb:Bool),Ext (fun i=>i=n+3) G hp→bb=ord o→Ext (fun _=>False) h ((hp.set (n+1) (.cells (rdC o) 97 false)).set (n+2) (.cells [.bool bb] 4 false)) ∧
   ((hp.set (n+1) (.cells (rdC o) 97 false)).set (n+2) (.cells [.bool bb] 4 false))[n+1]? = some (.cells (rdC o) 97 false) ∧
   ((hp.set (n+1) (.cells (rdC o) 97 false)).set (n+2) (.cells [.bool bb] 4 false))[n+2]? = some (.cells [.bool bb] 4 false) ∧
   hp[n+1]? = some (.cells (ordN 0) 97 false)∧(hp.set (n+1) (.cells (rdC o) 97 false))[n+2]? = some (.cells [.bool false] 4 false):=fun hp bb hE hb=>by
  have hl:=hE.1
  have g2:hp[n+1]? = some (.cells (ordN 0) 97 false):=(hE.2 _ (by omega) (by omega)).trans b2
  refine ⟨⟨by simp; omega,fun i hi _=>?_⟩,?_,?_,g2,?_⟩
  · rw [List.getElem?_set_ne (by omega),List.getElem?_set_ne (by omega),hE.2 i (by omega) (by omega)]; exact hEG.2 i hi id
  · rw [List.getElem?_set_ne (by omega)]; exact Xy (by omega) _
  · exact Xy (by simp; omega) _
  · rw [List.getElem?_set_ne (by omega),hE.2 _ (by omega) (by omega)]; exact b3
 refine Vw fun N hN=>?_
 by_cases hlen:1≤o.length∧o.length≤6
 rotate_left
 · have ht:ord o=false:=by
    cases e:ord o with
    | false=>rfl
    | true=>exact absurd (ord_len e) hlen
   have hrd:rdC o=ordN o.length:=if_neg hlen
   obtain ⟨f1,f2,f3,f4,f5⟩:=fin G false (Ext.refl _ _) ht.symm
   rw [hrd] at f1 f2 f3 f5
   by_cases h1:(o.length:Int)<1
   · simp (maxSteps:=2000000) only [s54,↓Za,↓Zk,↓Zr,↓Ze,↓Zm,↓Zs,↓Zf,↓Zh,↓Zg,↓Zc,↓Zb,↓vdn,vup,Zn,Zl,Zo,Zi,Zj,List.map_cons,List.map_nil,cond_true,cond_false,aop,Zv,Zq,Zp,ev,sput,Zt,Zy,Ya,unK,Zd,Zw,Nat.reduceBEq,Nat.reduceAdd,Int.reduceBEq,Int.reduceBNe,Int.reduceLT,Zu,Zz,tup,tyf,Xa b1 Wb,hvG.len,h1,loadA b4 (t:=97) (by rw [Wi]; rfl),storeA (vs:=ordN o.length) b2 (t:=97) (by rw [Wi]; rfl) rfl rfl,storeB f5 shp_4,loadA f2 (t:=97) (by rw [Wi]; rfl),Xa f3 shp_4]
     exact ⟨by rw [rdV,hrd,ht],f1⟩
   · have h6:(6:Int)<o.length:=by omega
     simp (maxSteps:=2000000) only [s54,↓Za,↓Zk,↓Zr,↓Ze,↓Zm,↓Zs,↓Zf,↓Zh,↓Zg,↓Zc,↓Zb,↓vdn,vup,Zn,Zl,Zo,Zi,Zj,List.map_cons,List.map_nil,cond_true,cond_false,aop,Zv,Zq,Zp,ev,sput,Zt,Zy,Ya,unK,Zd,Zw,Nat.reduceBEq,Nat.reduceAdd,Int.reduceBEq,Int.reduceBNe,Int.reduceLT,Zu,Zz,tup,tyf,Xa b1 Wb,hvG.len,h1,gt_iff_lt,h6,loadA b4 (t:=97) (by rw [Wi]; rfl),storeA (vs:=ordN o.length) b2 (t:=97) (by rw [Wi]; rfl) rfl rfl,storeB f5 shp_4,loadA f2 (t:=97) (by rw [Wi]; rfl),Xa f3 shp_4]
     exact ⟨by rw [rdV,hrd,ht],f1⟩
 have h1 : ¬ (o.length:Int)<1:=by omega
 have h6 : ¬ (6:Int)<o.length:=by omega
 have hrd:rdC o=Vx o:=if_pos hlen
 simp (maxSteps:=2000000) only [s54,↓Za,↓Zk,↓Zr,↓Ze,↓Zm,↓Zs,↓Zf,↓Zh,↓Zg,↓Zc,↓Zb,↓vdn,vup,Zn,Zl,Zo,Zi,Zj,List.map_cons,List.map_nil,cond_true,cond_false,aop,Zv,Zq,Zp,ev,sput,Zt,Zy,Ya,unK,Zd,Zw,Nat.reduceBEq,Nat.reduceAdd,Int.reduceBEq,Int.reduceBNe,Int.reduceLT,Zu,Zz,tup,tyf,Xa b1 Wb,hvG.len,h1,gt_iff_lt,h6]
 refine hN _ _ ?_
 clear hN N
 refine Vw fun N hN=>?_
 refine Xv [] (by kernel_rfl) (by kernel_rfl) (by kernel_rfl) (by kernel_rfl) ?_
 simp (maxSteps:=2000000) only [s54,↓Za,↓Zk,↓Zr,↓Ze,↓Zm,↓Zs,↓Zf,↓Zh,↓Zg,↓Zc,↓Zb,↓vdn,vup,Zn,Zl,Zo,Zi,Zj,List.map_cons,List.map_nil,cond_true,cond_false,aop,Zv,Zq,Zp,ev,sput,Zt,Zy,Ya,unK,Zd,Zw,Nat.reduceBEq,Nat.reduceAdd,Int.reduceBEq,Int.reduceBNe,Int.reduceLT,Zu,Zz,tup,tyf,fldA fld_97_1 esz_95,Vs,Option.isSome_some,Xa b1 Wb]
 refine copyO hvG hlen b4 ?_
 refine hN _ _ ?_
 clear hN N
 obtain ⟨F,hF⟩ : ∃ F,F=G.set (n+3) (.cells (Vx o) 97 false):=⟨_,rfl⟩
 rw [← hF]
 have hEF:Ext (fun i=>i=n+3) G F:=by rw [hF]; exact Ext.set _ rfl
 have hvF:IntSl F tv o:=by
  refine Wl hv ⟨by rw [hF]; simp; omega,fun i hi _=>?_⟩
  rw [hF,List.getElem?_set_ne (by omega)]; exact hEG.2 i hi id
 have c1:F[n]? = some (.cells [tv] 27 false):=(hEF.2 _ (by omega) (by omega)).trans b1
 have c4:F[n+3]? = some (.cells (Vx o) 97 false):=by rw [hF]; exact Xy (by omega) _
 clear hF
 have hp:=pow6I hlen.2
 simp (maxSteps:=2000000) only [s54,↓Za,↓Zk,↓Zr,↓Ze,↓Zm,↓Zs,↓Zf,↓Zh,↓Zg,↓Zc,↓Zb,↓vdn,vup,Zn,Zl,Zo,Zi,Zj,List.map_cons,List.map_nil,cond_true,cond_false,aop,Zv,Zq,Zp,ev,sput,Zt,Zy,Ya,unK,Zd,Zw,Nat.reduceBEq,Nat.reduceAdd,Int.reduceBEq,Int.reduceBNe,Int.reduceLT,Zu,Zz,tup,tyf,Xa c1 Wb,hvF.len,↓Xo]
 refine Yf fun Q hQ=>?_
 refine Ve (γ:=Nat×Yc) (fun s=>s.1≤o.length∧Ext (fun _=>False) F s.2∧∀ k,k<s.1→okO o k=true)
  (fun s=>([(0,tv),(1,.pointer (some ⟨n,0,none⟩)),(2,.pointer (some ⟨n+1,0,none⟩)),(3,.pointer (some ⟨n+2,0,none⟩)),(4,.pointer (some ⟨n+3,0,none⟩)),(24,tv),(25,Zx o.length),(26,Zx s.1)],s.2)) (fun s=>o.length-s.1) (0,F) ⟨by omega,Ext.refl _ _,fun _ hk=>by simp at hk⟩ (by simp (maxSteps:=2000000) only [↓Za,↓Zk,↓Zr,↓Ze,↓Zm,↓Zs,↓Zf,↓Zh,↓Zg,↓Zc,↓Zb,↓vdn,vup,Zn,Zl,Zo,Zi,Zj,List.map_cons,List.map_nil,cond_true,cond_false,aop,Zv,Zq,Zp,ev,sput,Zt,Zy,Ya,unK,Zd,Zw,Nat.reduceBEq,Nat.reduceAdd,Int.reduceBEq,Int.reduceBNe,Int.reduceLT,Zu,Zz,tup,tyf,Int.natCast_zero]) rfl ?_
 rintro ⟨i,hp0⟩ ⟨hi,hE,hok⟩
 simp only at hi hE hok
 have e1:hp0[n]? = some (.cells [tv] 27 false):=(hE.2 _ (Yp c1) id).trans c1
 have e4:hp0[n+3]? = some (.cells (Vx o) 97 false):=(hE.2 _ (Yp c4) id).trans c4
 have hvE:IntSl hp0 tv o:=Wl hvF hE
 have hGl':=hEF.1
 have hl0:=hE.1
 refine Vi fun Q2 hQ2=>?_
 by_cases hin:(i:Int)<o.length
 · have hin' : i<o.length:=by omega
   have hbad:okO o i=false→ord o=false:=fun hb=>by
    have:(List.range o.length).all (okO o)=false:=by
     rw [List.all_eq_false]; exact ⟨i,by simpa using hin',by simp [hb]⟩
    simp [ord,this]
   obtain ⟨hx1,hx2⟩:=hx (o.getD i 0) (by rw [List.getD,List.getElem?_eq_getElem hin']; exact List.getElem_mem hin')
   obtain ⟨m,hm⟩ : ∃ m,m=hp0.length:=⟨_,rfl⟩
   obtain ⟨X,hX⟩ : ∃ X,X=(hp0++[Blk.cells [Value.int .i64 0] 3 false]).set hp0.length (Blk.cells [.int .i64 (o.getD i 0)] 3 false):=⟨_,rfl⟩
   have hlX:X.length=m+1:=by rw [hX,hm]; simp
   have hEX:Ext (fun _=>False) hp0 X:=⟨by omega,fun j hj _=>by rw [hX,List.getElem?_set_ne (by omega),List.getElem?_append_left hj]⟩
   have bX:X[m]? = some (.cells [.int .i64 (o.getD i 0)] 3 false):=by rw [hX,hm]; exact Xy (by simp) _
   have x1:X[n]? = some (.cells [tv] 27 false):=(hEX.2 _ (Yp e1) id).trans e1
   have x4:X[n+3]? = some (.cells (Vx o) 97 false):=(hEX.2 _ (Yp e4) id).trans e4
   have hvX:IntSl X tv o:=Wl hvE hEX
   have hGX:Ext (fun i=>i=n+3) G X:=⟨by omega,fun j hj hjn=>by rw [hEX.2 j (by omega) id,hE.2 j (by omega) id]; exact hEF.2 j hj hjn⟩
   simp only [l54_1]
   refine Vw fun N hN=>?_
   simp (maxSteps:=2000000) only [s54,↓Za,↓Zk,↓Zr,↓Ze,↓Zm,↓Zs,↓Zf,↓Zh,↓Zg,↓Zc,↓Zb,↓vdn,vup,Zn,Zl,Zo,Zi,Zj,List.map_cons,List.map_nil,cond_true,cond_false,aop,Zv,Zq,Zp,ev,sput,Zt,Zy,Ya,unK,Zd,Zw,Nat.reduceBEq,Nat.reduceAdd,Int.reduceBEq,Int.reduceBNe,Int.reduceLT,Zu,Zz,tup,tyf]
   refine hN _ _ ?_
   clear hN N
   refine Vw fun N hN=>?_
   simp (maxSteps:=2000000) only [s54,↓Za,↓Zk,↓Zr,↓Ze,↓Zm,↓Zs,↓Zf,↓Zh,↓Zg,↓Zc,↓Zb,↓vdn,vup,Zn,Zl,Zo,Zi,Zj,List.map_cons,List.map_nil,cond_true,cond_false,aop,Zv,Zq,Zp,ev,sput,Zt,Zy,Ya,unK,Zd,Zw,Nat.reduceBEq,Nat.reduceAdd,Int.reduceBEq,Int.reduceBNe,Int.reduceLT,Zu,Zz,tup,tyf,hin]
   refine hN _ _ ?_
   clear hN N
   refine Vw fun N hN=>?_
   simp only [↓Ze]
   refine Vw fun N2 hN2=>?_
   simp (maxSteps:=2000000) only [s54,↓Za,↓Zk,↓Zr,↓Ze,↓Zm,↓Zs,↓Zf,↓Zh,↓Zg,↓Zc,↓Zb,↓vdn,vup,Zn,Zl,Zo,Zi,Zj,List.map_cons,List.map_nil,cond_true,cond_false,aop,Zv,Zq,Zp,ev,sput,Zt,Zy,Ya,unK,Zd,Zw,Nat.reduceBEq,Nat.reduceAdd,Int.reduceBEq,Int.reduceBNe,Int.reduceLT,Zu,Zz,tup,tyf,hvE.idx Wp Xk hin',hvE.load Yw hin',Xx,Xd]
   rw [storeI (v:=.int .i64 0) (e:=3) (Yj _ _) Yw,← hX,← hm]
   refine hN2 _ _ ?_
   clear hN2 N2
   -- what a return inside does
   have back : ∀ (hq:Yc),Ext (fun i=>i=n+3) G hq→hq[n+3]? = some (.cells (Vx o) 97 false)→ord o=false→∀ (e:Env),sget e 2 = .pointer (some ⟨n+1,0,none⟩)→sget e 3 = .pointer (some ⟨n+2,0,none⟩) →
     Q2 .ret e ((hq.set (n+1) (.cells (Vx o) 97 false)).set (n+2) (.cells [.bool false] 4 false)):=fun hq hEq _ ht e g2 g3=>by
    obtain ⟨f1,f2,f3,f4,f5⟩:=fin hq false hEq ht.symm
    rw [hrd] at f1 f2 f3 f5
    refine hQ2 _ _ _ (hQ _ _ _ ?_)
    simp only [Zq,Zv,Zu,Zz,g2,g3]
    rw [loadA f2 (t:=97) (by rw [Wi,Xw hlen.2]),Xa f3 shp_4]
    exact ⟨by rw [rdV,hrd,ht]; rfl,f1⟩
   obtain ⟨f1,f2,f3,f4,f5⟩:_:=fin X (ord o) hGX rfl
   rw [hrd] at f1 f2 f3 f5
   refine Vw fun N2 hN2=>?_
   simp (maxSteps:=2000000) only [s54,↓Za,↓Zk,↓Zr,↓Ze,↓Zm,↓Zs,↓Zf,↓Zh,↓Zg,↓Zc,↓Zb,↓vdn,vup,Zn,Zl,Zo,Zi,Zj,List.map_cons,List.map_nil,cond_true,cond_false,aop,Zv,Zq,Zp,ev,sput,Zt,Zy,Ya,unK,Zd,Zw,Nat.reduceBEq,Nat.reduceAdd,Int.reduceBEq,Int.reduceBNe,Int.reduceLT,Zu,Zz,tup,tyf]
   refine Xv [] (by kernel_rfl) (by kernel_rfl) (by kernel_rfl) (by kernel_rfl) ?_
   by_cases hneg:o.getD i 0<0
   · have hb:=hbad (by rw [okO,decide_eq_false (show ¬ 0≤o.getD i 0 by omega)]; rfl)
     simp (maxSteps:=2000000) only [s54,↓Za,↓Zk,↓Zr,↓Ze,↓Zm,↓Zs,↓Zf,↓Zh,↓Zg,↓Zc,↓Zb,↓vdn,vup,Zn,Zl,Zo,Zi,Zj,List.map_cons,List.map_nil,cond_true,cond_false,aop,Zv,Zq,Zp,ev,sput,Zt,Zy,Ya,unK,Zd,Zw,Nat.reduceBEq,Nat.reduceAdd,Int.reduceBEq,Int.reduceBNe,Int.reduceLT,Zu,Zz,tup,tyf,Xa bX Yw,hneg,loadA x4 (t:=97) (by rw [Wi,Xw hlen.2]),storeA (vs:=Vx o) f4 (t:=97) (by rw [Wi,Xw hlen.2]) (ordC_one o) (by rw [Xw hlen.2]; rfl),storeB f5 shp_4]
     exact back X hGX x4 hb _ rfl rfl
   by_cases hbig:2 ^ o.length≤o.getD i 0
   · have hb:=hbad (by rw [okO,decide_eq_false (show ¬ o.getD i 0<2 ^ o.length from Int.not_lt.2 hbig),Bool.and_false]; rfl)
     simp (maxSteps:=2000000) only [s54,↓Za,↓Zk,↓Zr,↓Ze,↓Zm,↓Zs,↓Zf,↓Zh,↓Zg,↓Zc,↓Zb,↓vdn,vup,Zn,Zl,Zo,Zi,Zj,List.map_cons,List.map_nil,cond_true,cond_false,aop,Zv,Zq,Zp,ev,sput,Zt,Zy,Ya,unK,Zd,Zw,Nat.reduceBEq,Nat.reduceAdd,Int.reduceBEq,Int.reduceBNe,Int.reduceLT,Zu,Zz,tup,tyf,Xa bX Yw,hneg,Xa x1 Wb,hvX.len,shl1 (show o.length≤62 by omega),ge_iff_le,hbig,loadA x4 (t:=97) (by rw [Wi,Xw hlen.2]),storeA (vs:=Vx o) f4 (t:=97) (by rw [Wi,Xw hlen.2]) (ordC_one o) (by rw [Xw hlen.2]; rfl),storeB f5 shp_4]
     exact back X hGX x4 hb _ rfl rfl
   have hs0:0≤o.getD i 0:=by omega
   have hs1:o.getD i 0<9223372036854775808:=by omega
   by_cases hbit:ab o i i=true
   · have hb:=hbad (by rw [okO,hbit,Bool.not_true,Bool.and_false]; rfl)
     simp (maxSteps:=2000000) only [s54,↓Za,↓Zk,↓Zr,↓Ze,↓Zm,↓Zs,↓Zf,↓Zh,↓Zg,↓Zc,↓Zb,↓vdn,vup,Zn,Zl,Zo,Zi,Zj,List.map_cons,List.map_nil,cond_true,cond_false,aop,Zv,Zq,Zp,ev,sput,Zt,Zy,Ya,unK,Zd,Zw,Nat.reduceBEq,Nat.reduceAdd,Int.reduceBEq,Int.reduceBNe,Int.reduceLT,Zu,Zz,tup,tyf,Xa bX Yw,hneg,Xa x1 Wb,hvX.len,shl1 (show o.length≤62 by omega),ge_iff_le,hbig,testA hs0 hs1,hbit,if_true,Int.reduceBEq,loadA x4 (t:=97) (by rw [Wi,Xw hlen.2]),storeA (vs:=Vx o) f4 (t:=97) (by rw [Wi,Xw hlen.2]) (ordC_one o) (by rw [Xw hlen.2]; rfl),storeB f5 shp_4]
     exact back X hGX x4 hb _ rfl rfl
   simp only [Bool.not_eq_true] at hbit
   simp (maxSteps:=2000000) only [s54,↓Za,↓Zk,↓Zr,↓Ze,↓Zm,↓Zs,↓Zf,↓Zh,↓Zg,↓Zc,↓Zb,↓vdn,vup,Zn,Zl,Zo,Zi,Zj,List.map_cons,List.map_nil,cond_true,cond_false,aop,Zv,Zq,Zp,ev,sput,Zt,Zy,Ya,unK,Zd,Zw,Nat.reduceBEq,Nat.reduceAdd,Int.reduceBEq,Int.reduceBNe,Int.reduceLT,Zu,Zz,tup,tyf,Xa bX Yw,hneg,Xa x1 Wb,hvX.len,shl1 (show o.length≤62 by omega),ge_iff_le,hbig,testA hs0 hs1,hbit,if_false,Bool.false_eq_true,Int.reduceBEq]
   refine hN2 _ _ ?_
   clear hN2 N2
   have hset:o.getD i 0=((bt o i:Nat):Int):=(Int.toNat_of_nonneg hs0).symm
   have hsl:bt o i<64:=by have h1:=hp.1; have:o.getD i 0<64:=by omega
                          omega
   simp (maxSteps:=2000000) only [s54,↓Za,↓Zk,↓Zr,↓Ze,↓Zm,↓Zs,↓Zf,↓Zh,↓Zg,↓Zc,↓Zb,↓vdn,vup,Zn,Zl,Zo,Zi,Zj,List.map_cons,List.map_nil,cond_true,cond_false,aop,Zv,Zq,Zp,ev,sput,Zt,Zy,Ya,unK,Zd,Zw,Nat.reduceBEq,Nat.reduceAdd,Int.reduceBEq,Int.reduceBNe,Int.reduceLT,Zu,Zz,tup,tyf,Xa bX Yw,Yz,List.nil_append,List.append_nil,List.toList_toArray,List.cons_append]
   refine elements_call.mono ?_
   rintro _ _ ⟨rfl,rfl⟩
   rw [hset] at bX ⊢
   refine aw_range Ob.bitIter (bx:=X.length) (s:=bt o i) (et:=3) rfl (Yj _ _) (by omega) (fun pre hk=>Ext (fun _=>False) X hk∧∀ k∈pre,(We .andNot .i64 (o.getD k 0) (o.getD i 0)==0)=true) ⟨?_,fun _ hk=>by cases hk⟩ ?_ ?_
   · refine ⟨by simp,fun j hj _=>?_⟩
     rw [List.getElem?_set_ne (by omega),List.getElem?_append_left hj]
   · rintro pre x hk hpre ⟨hEk,hall⟩
     obtain ⟨hx64,hxb⟩:=Vy.1 (mem_pre hpre)
     have hxn:x<o.length:=by
      rcases Nat.lt_or_ge x o.length with h | h
      · exact h
      · have h2:bt o i<2 ^ o.length:=by
         have h3 : ¬ (2:Int) ^ o.length≤((bt o i:Nat):Int):=by rw [← hset]; exact hbig
         rw [← pow_cast] at h3
         omega
        rw [Nat.testBit_lt_two_pow (Nat.lt_of_lt_of_le h2 (Nat.pow_le_pow_right (by decide) h))] at hxb; cases hxb
     have k1:hk[n]? = some (.cells [tv] 27 false):=(hEk.2 _ (Yp x1) id).trans x1
     have k4:hk[n+3]? = some (.cells (Vx o) 97 false):=(hEk.2 _ (Yp x4) id).trans x4
     have kX:hk[m]? = some (.cells [.int .i64 ((bt o i:Nat):Int)] 3 false):=(hEk.2 _ (Yp bX) id).trans bX
     have hvk:IntSl hk tv o:=Wl hvX hEk
     have hlk:=hEk.1
     have hGk:Ext (fun i=>i=n+3) G hk:=⟨by omega,fun j hj hjn=>by rw [hEk.2 j (by omega) id]; exact hGX.2 j hj hjn⟩
     simp (maxSteps:=2000000) only [s54,↓Za,↓Zk,↓Zr,↓Ze,↓Zm,↓Zs,↓Zf,↓Zh,↓Zg,↓Zc,↓Zb,↓vdn,vup,Zn,Zl,Zo,Zi,Zj,List.map_cons,List.map_nil,cond_true,cond_false,aop,Zv,Zq,Zp,ev,sput,Zt,Zy,Ya,unK,Zd,Zw,Nat.reduceBEq,Nat.reduceAdd,Int.reduceBEq,Int.reduceBNe,Int.reduceLT,Zu,Zz,tup,tyf,r54_0_a,r54_0_b]
     refine Xv [] (by kernel_rfl) (by kernel_rfl) (by kernel_rfl) (by kernel_rfl) ?_
     cases hlz:(We .andNot .i64 (o.getD x 0) ((bt o i:Nat):Int)==0) with
     | true =>
       have hlz' : (We .andNot .i64 (o.getD x 0) ((bt o i:Nat):Int) != 0)=false:=by rw [bne,hlz]; rfl
       simp (maxSteps:=2000000) only [s54,↓Za,↓Zk,↓Zr,↓Ze,↓Zm,↓Zs,↓Zf,↓Zh,↓Zg,↓Zc,↓Zb,↓vdn,vup,Zn,Zl,Zo,Zi,Zj,List.map_cons,List.map_nil,cond_true,cond_false,aop,Zv,Zq,Zp,ev,sput,Zt,Zy,Ya,unK,Zd,Zw,Nat.reduceBEq,Nat.reduceAdd,Int.reduceBEq,Int.reduceBNe,Int.reduceLT,Zu,Zz,tup,tyf,Xa k1 Wb,hvk.idx Wp Xk hxn,hvk.load Yw hxn,Xa kX Yw,hlz']
       refine ⟨hEk,fun k hk'=>?_⟩
       rcases List.mem_append.1 hk' with h | h
       · exact hall k h
       · rw [List.mem_singleton.1 h,hset]; exact hlz
     | false =>
       have hlz' : (We .andNot .i64 (o.getD x 0) ((bt o i:Nat):Int) != 0)=true:=by rw [bne,hlz]; rfl
       have hb:=hbad (by
        have:((List.range o.length).all fun j=>!ab o i j || (We .andNot .i64 (o.getD j 0) (o.getD i 0)==0))=false:=by
         rw [List.all_eq_false]; exact ⟨x,List.mem_range.2 hxn,by rw [show ab o i x=true from hxb,hset,hlz]; decide⟩
        rw [okO,this,Bool.and_false])
       obtain ⟨g1,g2,g3,g4,g5⟩:=fin hk (ord o) hGk rfl
       rw [hrd] at g1 g2 g3 g5
       simp (maxSteps:=2000000) only [s54,↓Za,↓Zk,↓Zr,↓Ze,↓Zm,↓Zs,↓Zf,↓Zh,↓Zg,↓Zc,↓Zb,↓vdn,vup,Zn,Zl,Zo,Zi,Zj,List.map_cons,List.map_nil,cond_true,cond_false,aop,Zv,Zq,Zp,ev,sput,Zt,Zy,Ya,unK,Zd,Zw,Nat.reduceBEq,Nat.reduceAdd,Int.reduceBEq,Int.reduceBNe,Int.reduceLT,Zu,Zz,tup,tyf,Xa k1 Wb,hvk.idx Wp Xk hxn,hvk.load Yw hxn,Xa kX Yw,hlz',loadA k4 (t:=97) (by rw [Wi,Xw hlen.2]),storeA (vs:=Vx o) g4 (t:=97) (by rw [Wi,Xw hlen.2]) (ordC_one o) (by rw [Xw hlen.2]; rfl),storeB g5 shp_4,rangeQ]
       exact back hk hGk k4 hb _ rfl rfl
   · rintro hk ⟨hEk,hall⟩
     simp (maxSteps:=2000000) only [s54,↓Za,↓Zk,↓Zr,↓Ze,↓Zm,↓Zs,↓Zf,↓Zh,↓Zg,↓Zc,↓Zb,↓vdn,vup,Zn,Zl,Zo,Zi,Zj,List.map_cons,List.map_nil,cond_true,cond_false,aop,Zv,Zq,Zp,ev,sput,Zt,Zy,Ya,unK,Zd,Zw,Nat.reduceBEq,Nat.reduceAdd,Int.reduceBEq,Int.reduceBNe,Int.reduceLT,Zu,Zz,tup,tyf,rangeQ]
     refine hN _ _ ?_
     simp (maxSteps:=2000000) only [s54,↓Za,↓Zk,↓Zr,↓Ze,↓Zm,↓Zs,↓Zf,↓Zh,↓Zg,↓Zc,↓Zb,↓vdn,vup,Zn,Zl,Zo,Zi,Zj,List.map_cons,List.map_nil,cond_true,cond_false,aop,Zv,Zq,Zp,ev,sput,Zt,Zy,Ya,unK,Zd,Zw,Nat.reduceBEq,Nat.reduceAdd,Int.reduceBEq,Int.reduceBNe,Int.reduceLT,Zu,Zz,tup,tyf,Vd (show i<9223372036854775807 by omega)]
     have hlk:=hEk.1
     refine hQ2 _ _ _ ⟨(i+1,hk),⟨by simp only; omega,⟨by simp only; omega,fun j hj _=>?_⟩,fun k hk'=>?_⟩,by simp only; omega,by simp (maxSteps:=2000000) only [↓Za,↓Zk,↓Zr,↓Ze,↓Zm,↓Zs,↓Zf,↓Zh,↓Zg,↓Zc,↓Zb,↓vdn,vup,Zn,Zl,Zo,Zi,Zj,List.map_cons,List.map_nil,cond_true,cond_false,aop,Zv,Zq,Zp,ev,sput,Zt,Zy,Ya,unK,Zd,Zw,Nat.reduceBEq,Nat.reduceAdd,Int.reduceBEq,Int.reduceBNe,Int.reduceLT,Zu,Zz,tup,tyf],rfl⟩
     · show hk[j]? = F[j]?
       rw [hEk.2 j (by omega) id,hEX.2 j (by omega) id]; exact hE.2 j hj id
     · simp only at hk'
       by_cases hki:k=i
       · subst hki
         have hle:bt o k<2 ^ o.length:=by
          have h3 : ¬ (2:Int) ^ o.length≤((bt o k:Nat):Int):=by rw [← hset]; exact hbig
          rw [← pow_cast] at h3
          omega
         have:((List.range o.length).all fun j=>!ab o k j || (We .andNot .i64 (o.getD j 0) (o.getD k 0)==0))=true:=by
          rw [List.all_eq_true]
          intro j hj
          cases hkj:ab o k j with
          | false=>rfl
          | true=>rw [hall j (Vy.2 ⟨by have:=List.mem_range.1 hj; omega,hkj⟩)]; rfl
         rw [okO,decide_eq_true hs0,decide_eq_true (Int.not_le.1 hbig),hbit,this]; rfl
       · exact hok k (by omega)
 · obtain rfl:i=o.length:=by omega
   have ht:ord o=true:=by simp only [ord,Bool.and_eq_true,decide_eq_true_eq,List.all_eq_true,List.mem_range]; exact ⟨hlen,hok⟩
   obtain ⟨f1,f2,f3,f4,f5⟩:=fin hp0 true ⟨by omega,fun j hj hjn=>by rw [hE.2 j (by omega) id]; exact hEF.2 j hj hjn⟩ ht.symm
   rw [hrd] at f1 f2 f3 f5
   simp (maxSteps:=2000000) only [s54,↓Za,↓Zk,↓Zr,↓Ze,↓Zm,↓Zs,↓Zf,↓Zh,↓Zg,↓Zc,↓Zb,↓vdn,vup,Zn,Zl,Zo,Zi,Zj,List.map_cons,List.map_nil,cond_true,cond_false,aop,Zv,Zq,Zp,ev,sput,Zt,Zy,Ya,unK,Zd,Zw,Nat.reduceBEq,Nat.reduceAdd,Int.reduceBEq,Int.reduceBNe,Int.reduceLT,Zu,Zz,tup,tyf,l54_1,Int.lt_irrefl]
   refine hQ2 _ _ _ (hQ _ _ _ ?_)
   simp (maxSteps:=2000000) only [s54,↓Za,↓Zk,↓Zr,↓Ze,↓Zm,↓Zs,↓Zf,↓Zh,↓Zg,↓Zc,↓Zb,↓vdn,vup,Zn,Zl,Zo,Zi,Zj,List.map_cons,List.map_nil,cond_true,cond_false,aop,Zv,Zq,Zp,ev,sput,Zt,Zy,Ya,unK,Zd,Zw,Nat.reduceBEq,Nat.reduceAdd,Int.reduceBEq,Int.reduceBNe,Int.reduceLT,Zu,Zz,tup,tyf,if_true,loadA e4 (t:=97) (by rw [Wi,Xw hlen.2]),storeA (vs:=Vx o) f4 (t:=97) (by rw [Wi,Xw hlen.2]) (ordC_one o) (by rw [Xw hlen.2]; rfl),storeB f5 shp_4,loadA f2 (t:=97) (by rw [Wi,Xw hlen.2]),Xa f3 shp_4]
   exact ⟨by rw [rdV,hrd,ht],f1⟩
end Go.Proofs.Tryd.Am.Or
namespace Go.Proofs.Tryd.Am.Or
open Go.Proofs.Tryd.Am
open Go.Am Ord
set_option maxRecDepth 100000
set_option maxHeartbeats 1000000
section
variable {P:Program} {h:Yc} {t e:TypeId} {b o n c k:Nat} {xs:List Int} {ro:Bool}
theorem idxS {K:Value→Prop} (he:elemOf' P t=some e) (hs:esz P e=some 1) (hk:k<n):Yv P t (.slice (some ⟨b,0,none⟩) n c) (Zx (k:Nat)) K=K (.pointer (some ⟨b,k,none⟩)):=by
 simp only [Yv,he,hs,Int.natCast_nonneg,Int.toNat_natCast,Nat.mul_one,Nat.zero_add,true_and,Int.ofNat_lt.2 hk]
theorem loadX {K:Value→Prop} (hb:h[b]? = some (.ints xs e ro)) (hs:shp P t=some none) (ho:o<xs.length):Xn P h t (.pointer (some ⟨b,o,none⟩)) K=K (Zx (xs.getD o 0)):=by
 simp only [Xn,hs,cellK,hb,ho,true_and]
theorem storeX {K:Yc→Prop} {x:Int} (hb:h[b]? = some (.ints xs e false)) (hs:shp P t=some none) (ho:o<xs.length):Xu P h t (.pointer (some ⟨b,o,none⟩)) (Zx x) K=K (h.set b (.ints (xs.set o x) e false)):=by
 simp only [Xu,hs,hb,ho,true_and]
end
def WS (o:List Int) (s:Nat):List Int:=(List.range (2 ^ o.length)).map fun k=>if k<s then ((W o k:Nat):Int) else 0
theorem WS_len {o:List Int} {s:Nat}:(WS o s).length=2 ^ o.length:=by simp [WS]
theorem WS_get {o:List Int} {s k:Nat} (hk:k<s) (hs:s≤2 ^ o.length):(WS o s).getD k 0=((W o k:Nat):Int):=by
 rw [WS,getD_map,if_pos (by omega),if_pos hk]
theorem WS_one {o:List Int}:(List.replicate (2 ^ o.length) (0:Int)).set 0 1=WS o 1:=by
 have hp:=Nat.two_pow_pos o.length
 refine List.ext_getElem (by simp [WS_len]) fun i h1 h2=>?_
 rw [List.getElem_set]
 by_cases hi:0=i
 · subst hi; simp [WS,W_zero]
 · rw [if_neg hi]; simp [WS]; omega
theorem WS_set {o:List Int} {s:Nat}:(WS o s).set s ((W o s:Nat):Int)=WS o (s+1):=by
 refine List.ext_getElem (by simp [WS_len]) fun i h1 h2=>?_
 rw [List.getElem_set]
 by_cases hi:s=i
 · subst hi; simp [WS]
 · rw [if_neg hi]
   simp only [WS,List.getElem_map,List.getElem_range]
   by_cases hlt:i<s
   · rw [if_pos hlt,if_pos (by omega)]
   · rw [if_neg hlt,if_neg (by omega)]
theorem WS_zero {o:List Int} {s:Nat} (hs:s<2 ^ o.length):(WS o s).set s 0=WS o s:=by
 refine List.ext_getElem (by simp) fun i h1 h2=>?_
 rw [List.getElem_set]
 by_cases hi:s=i
 · subst hi; simp [WS]
 · rw [if_neg hi]
def ps (o:List Int) (s:Nat) (pre:List Nat):Nat:=((pre.filter (okLast o s)).map fun i=>W o (Wh s (2 ^ i))).sum
theorem ps_snoc {o:List Int} {s:Nat} {pre:List Nat} {x:Nat}:ps o s (pre++[x])=if okLast o s x=true then ps o s pre+W o (Wh s (2 ^ x)) else ps o s pre:=by
 unfold ps
 rw [List.filter_append,List.map_append,List.sum_append,List.filter_cons]
 split <;> simp
theorem ps_le {o:List Int} {s:Nat} (hs:s<64) : ∀ pre:List Nat,ps o s pre≤pre.length*46656:=by
 intro pre
 unfold ps
 induction pre with
 | nil=>simp
 | cons x pre ih =>
   rw [List.filter_cons,List.length_cons,Nat.succ_mul]
   split
   · rw [List.map_cons,List.sum_cons]
     have:=W_le (o:=o) (s:=Wh s (2 ^ x)) (less_lt (n:=6) hs)
     omega
   · omega
theorem eq0 (n:Nat):(((n:Nat):Int)==0)=decide (n=0):=by
 by_cases h:n=0
 · subst h; rfl
 · rw [decide_eq_false h]
   have:((n:Nat):Int)≠0:=by omega
   simpa using this
theorem counted_call [BitTab prog 0] {h:Yc} {o:List Int} (ho:ord o=true):APure prog 56 [ordV o] h (Zx (cn o:Nat)):=by
 have hlen:=ord_len ho
 have hpw:=pow6 hlen.2
 refine ACall.forget (Low.int _ _) ?_
 refine s56_call (by simp) ?_
 simp only [s56]
 refine Vw fun N hN=>?_
 simp (maxSteps:=2000000) only [s56,↓Za,↓Zk,↓Zr,↓Ze,↓Zm,↓Zs,↓Zf,↓Zh,↓Zg,↓Zc,↓Zb,↓vdn,vup,Zn,Zl,Zo,Zi,Zj,List.map_cons,List.map_nil,cond_true,cond_false,aop,Zv,Zq,Zp,ev,sput,Zt,Zy,Ya,unK,Zd,Zw,Nat.reduceBEq,Nat.reduceAdd,Int.reduceBEq,Int.reduceBNe,Int.reduceLT,Zu,Zz,tup,tyf,boxO esz_97,Xd]
 refine hN _ _ ?_
 clear hN N
 obtain ⟨n,hn⟩ : ∃ n,n=h.length:=⟨_,rfl⟩
 rw [← hn]
 have hadd:addV .i64 ((2 ^ o.length-1:Nat):Int) 1=((2 ^ o.length:Nat):Int):=by rw [addV_id (by omega) (by omega)]; omega
 have hm0:(0:Int)≤((2 ^ o.length:Nat):Int):=Int.natCast_nonneg _
 have hm1:((2 ^ o.length:Nat):Int)≤35184372088832:=by omega
 have c0:(h++[Blk.cells (Vx o) 97 false])[n]? = some (.cells (Vx o) 97 false):=by rw [hn]; exact Yj _ _
 refine Vw fun N hN=>?_
 simp (maxSteps:=2000000) only [s56,↓Za,↓Zk,↓Zr,↓Ze,↓Zm,↓Zs,↓Zf,↓Zh,↓Zg,↓Zc,↓Zb,↓vdn,vup,Zn,Zl,Zo,Zi,Zj,List.map_cons,List.map_nil,cond_true,cond_false,aop,Zv,Zq,Zp,ev,sput,Zt,Zy,Ya,unK,Zd,Zw,Nat.reduceBEq,Nat.reduceAdd,Int.reduceBEq,Int.reduceBNe,Int.reduceLT,Zu,Zz,tup,tyf,loadO c0 Wi hlen.2,Yz,List.nil_append,List.append_nil,List.toList_toArray,List.cons_append]
 refine (Vq hlen.2).mono ?_
 rintro _ _ ⟨rfl,rfl⟩
 simp (maxSteps:=2000000) only [s56,↓Za,↓Zk,↓Zr,↓Ze,↓Zm,↓Zs,↓Zf,↓Zh,↓Zg,↓Zc,↓Zb,↓vdn,vup,Zn,Zl,Zo,Zi,Zj,List.map_cons,List.map_nil,cond_true,cond_false,aop,Zv,Zq,Zp,ev,sput,Zt,Zy,Ya,unK,Zd,Zw,Nat.reduceBEq,Nat.reduceAdd,Int.reduceBEq,Int.reduceBNe,Int.reduceLT,Zu,Zz,tup,tyf,hadd,makeI Wp zero_3 info_3 hm0 hm1,Int.toNat_natCast,Xx,Xd]
 obtain ⟨N0,hN0⟩ : ∃ N0,N0=2 ^ o.length:=⟨_,rfl⟩
 obtain ⟨S,hS⟩ : ∃ S:Value,S = .slice (some ⟨n+1,0,none⟩) N0 N0:=⟨_,rfl⟩
 simp only [zero_27,List.length_append,List.length_cons,List.length_nil,Nat.zero_add,Nat.add_assoc,Nat.reduceAdd,← hn,← hN0,← hS]
 have hone:one S=true:=by rw [hS]; rfl
 have c2:(h++[Blk.cells (Vx o) 97 false]++[Blk.ints (List.replicate N0 0) 3 false]++[Blk.cells [.slice none 0 0] 27 false])[n+2]? = some (.cells [.slice none 0 0] 27 false):=by
  have:=Yj (h++[Blk.cells (Vx o) 97 false]++[Blk.ints (List.replicate N0 0) 3 false]) (Blk.cells [.slice none 0 0] 27 false)
  simpa [hn] using this
 rw [store1 c2 Wb hone]
 obtain ⟨H,hH⟩ : ∃ H,H=(h++[Blk.cells (Vx o) 97 false]++[Blk.ints (List.replicate N0 0) 3 false]++[Blk.cells [.slice none 0 0] 27 false]).set (n+2) (.cells [S] 27 false):=⟨_,rfl⟩
 rw [← hH]
 have hHl:H.length=n+3:=by rw [hH,hn]; simp
 have b0:H[n]? = some (.cells (Vx o) 97 false):=by rw [hH,List.getElem?_set_ne (by omega)]; exact Xi (Xi c0 _) _
 have b1:H[n+1]? = some (.ints (List.replicate N0 0) 3 false):=by
  rw [hH,List.getElem?_set_ne (by omega)]
  have:=Yj (h++[Blk.cells (Vx o) 97 false]) (Blk.ints (List.replicate N0 0) 3 false)
  simp only [List.length_append,List.length_singleton,← hn] at this
  exact Xi this _
 have b2:H[n+2]? = some (.cells [S] 27 false):=by rw [hH]; exact Xy (by rw [hn]; simp) _
 have hE0:Ext (fun _=>False) h H:=⟨by omega,fun i hi _=>by
  rw [hH,List.getElem?_set_ne (by omega),List.append_assoc,List.append_assoc,List.getElem?_append_left hi]⟩
 clear c2 hH
 refine hN _ _ ?_
 clear hN N
 -- ways[0] = 1
 refine Vw fun N hN=>?_
 have hidx : ∀ {k:Nat} {K:Value→Prop},k<N0→Yv prog 27 S (Zx (k:Nat)) K=K (.pointer (some ⟨n+1,k,none⟩)):=fun {k K} hk=>by rw [hS]; exact idxS Wp Xk hk
 have hidx0 : ∀ {K:Value→Prop},Yv prog 27 S (.int .i64 0) K=K (.pointer (some ⟨n+1,0,none⟩)):=fun {K}=>hidx (k:=0) (by omega)
 simp (maxSteps:=2000000) only [s56,↓Za,↓Zk,↓Zr,↓Ze,↓Zm,↓Zs,↓Zf,↓Zh,↓Zg,↓Zc,↓Zb,↓vdn,vup,Zn,Zl,Zo,Zi,Zj,List.map_cons,List.map_nil,cond_true,cond_false,aop,Zv,Zq,Zp,ev,sput,Zt,Zy,Ya,unK,Zd,Zw,Nat.reduceBEq,Nat.reduceAdd,Int.reduceBEq,Int.reduceBNe,Int.reduceLT,Zu,Zz,tup,tyf,Xa b2 Wb,hidx0]
 rw [storeX (x:=1) b1 Yw (by simp; omega)]
 refine hN _ _ ?_
 clear hN N
 obtain ⟨G,hG⟩ : ∃ G,G=H.set (n+1) (.ints ((List.replicate N0 0).set 0 1) 3 false):=⟨_,rfl⟩
 rw [← hG]
 rw [hN0,WS_one] at hG
 have hGl:G.length=n+3:=by rw [hG]; simp [hHl]
 have g0:G[n]? = some (.cells (Vx o) 97 false):=by rw [hG,List.getElem?_set_ne (by omega)]; exact b0
 have g1:G[n+1]? = some (.ints (WS o 1) 3 false):=by rw [hG]; exact Xy (by omega) _
 have g2:G[n+2]? = some (.cells [S] 27 false):=by rw [hG,List.getElem?_set_ne (by omega)]; exact b2
 have hEG:Ext (fun _=>False) h G:=⟨by omega,fun i hi _=>by rw [hG,List.getElem?_set_ne (by omega)]; exact hE0.2 i hi id⟩
 clear b0 b1 b2 hG hE0 hHl
 clear H
 -- the sets
 simp (maxSteps:=2000000) only [s56,↓Za,↓Zk,↓Zr,↓Ze,↓Zm,↓Zs,↓Zf,↓Zh,↓Zg,↓Zc,↓Zb,↓vdn,vup,Zn,Zl,Zo,Zi,Zj,List.map_cons,List.map_nil,cond_true,cond_false,aop,Zv,Zq,Zp,ev,sput,Zt,Zy,Ya,unK,Zd,Zw,Nat.reduceBEq,Nat.reduceAdd,Int.reduceBEq,Int.reduceBNe,Int.reduceLT,Zu,Zz,tup,tyf,Xx,Xd]
 rw [storeI (v:=.int .i64 0) (e:=3) (Yj _ _) Yw,hGl]
 obtain ⟨F,hF⟩ : ∃ F,F=(G++[Blk.cells [.int .i64 0] 3 false]).set (n+3) (.cells [.int .i64 1] 3 false):=⟨_,rfl⟩
 rw [← hF]
 have hFl:F.length=n+4:=by rw [hF]; simp [hGl]
 have oldF : ∀ {k B},G[k]? = some B→F[k]? = some B:=fun {k B} hk=>by
  have:=Yp hk
  rw [hF,List.getElem?_set_ne (by omega)]; exact Xi hk _
 have f3:F[n+3]? = some (.cells [.int .i64 1] 3 false):=by rw [hF]; exact Xy (by simp [hGl]) _
 have hEF:Ext (fun _=>False) h F:=⟨by omega,fun i hi _=>by rw [hF,List.getElem?_set_ne (by omega),List.getElem?_append_left (by omega)]; exact hEG.2 i hi id⟩
 have f0:=oldF g0
 have f1:=oldF g1
 have f2:=oldF g2
 clear g0 g1 g2 oldF hEG hF hGl
 clear G
 simp only [↓Xo]
 refine Yf fun Q hQ=>?_
 refine Ve (γ:=Nat×Nat×Yc) (fun s=>1≤s.1∧s.1≤N0∧n+3≤s.2.1∧s.2.2[n]? = some (.cells (Vx o) 97 false)∧s.2.2[n+1]? = some (.ints (WS o s.1) 3 false)∧s.2.2[n+2]? = some (.cells [S] 27 false)∧s.2.2[s.2.1]? = some (.cells [Zx (s.1:Nat)] 3 false)∧Ext (fun _=>False) h s.2.2)
  (fun s=>([(0,ordV o),(1,.pointer (some ⟨n,0,none⟩)),(2,.int .i64 0),(3,.pointer (some ⟨n+2,0,none⟩)),(4,.pointer (some ⟨s.2.1,0,none⟩))],s.2.2)) (fun s=>N0-s.1) (1,n+3,F) ⟨Nat.le_refl _,by omega,Nat.le_refl _,f0,f1,f2,f3,hEF⟩ (by simp (maxSteps:=2000000) only [↓Za,↓Zk,↓Zr,↓Ze,↓Zm,↓Zs,↓Zf,↓Zh,↓Zg,↓Zc,↓Zb,↓vdn,vup,Zn,Zl,Zo,Zi,Zj,List.map_cons,List.map_nil,cond_true,cond_false,aop,Zv,Zq,Zp,ev,sput,Zt,Zy,Ya,unK,Zd,Zw,Nat.reduceBEq,Nat.reduceAdd,Int.reduceBEq,Int.reduceBNe,Int.reduceLT,Zu,Zz,tup,tyf,Int.natCast_one]) rfl ?_
 rintro ⟨s,b,hp⟩ ⟨hs1,hsN,hb,e0,e1,e2,e3,hE⟩
 simp only at hs1 hsN hb e0 e1 e2 e3 hE
 refine Vi fun Q2 hQ2=>?_
 have hbl:=Yp e3
 have hlE:=hE.1
 simp only [l56_1]
 simp (maxSteps:=2000000) only [s56,↓Za,↓Zk,↓Zr,↓Ze,↓Zm,↓Zs,↓Zf,↓Zh,↓Zg,↓Zc,↓Zb,↓vdn,vup,Zn,Zl,Zo,Zi,Zj,List.map_cons,List.map_nil,cond_true,cond_false,aop,Zv,Zq,Zp,ev,sput,Zt,Zy,Ya,unK,Zd,Zw,Nat.reduceBEq,Nat.reduceAdd,Int.reduceBEq,Int.reduceBNe,Int.reduceLT,Zu,Zz,tup,tyf]
 refine Xv [(2,1)] (by kernel_rfl) (by kernel_rfl) (by kernel_rfl) (by kernel_rfl) ?_
 simp (maxSteps:=2000000) only [s56,↓Za,↓Zk,↓Zr,↓Ze,↓Zm,↓Zs,↓Zf,↓Zh,↓Zg,↓Zc,↓Zb,↓vdn,vup,Zn,Zl,Zo,Zi,Zj,List.map_cons,List.map_nil,cond_true,cond_false,aop,Zv,Zq,Zp,ev,sput,Zt,Zy,Ya,unK,Zd,Zw,Nat.reduceBEq,Nat.reduceAdd,Int.reduceBEq,Int.reduceBNe,Int.reduceLT,Zu,Zz,tup,tyf,Xa e3 Yw,loadO e0 Wi hlen.2,Yz,List.nil_append,List.append_nil,List.toList_toArray,List.cons_append]
 refine ⟨_,_,Vq hlen.2,rfl,?_⟩
 by_cases hlast:s=N0
 · have hle : ¬ (s:Int)≤((2 ^ o.length-1:Nat):Int):=by omega
   simp (maxSteps:=2000000) only [s56,↓Za,↓Zk,↓Zr,↓Ze,↓Zm,↓Zs,↓Zf,↓Zh,↓Zg,↓Zc,↓Zb,↓vdn,vup,Zn,Zl,Zo,Zi,Zj,List.map_cons,List.map_nil,cond_true,cond_false,aop,Zv,Zq,Zp,ev,sput,Zt,Zy,Ya,unK,Zd,Zw,Nat.reduceBEq,Nat.reduceAdd,Int.reduceBEq,Int.reduceBNe,Int.reduceLT,Zu,Zz,tup,tyf,hle]
   refine hQ2 _ _ _ (hQ _ _ _ ?_)
   simp (maxSteps:=2000000) only [s56,↓Za,↓Zk,↓Zr,↓Ze,↓Zm,↓Zs,↓Zf,↓Zh,↓Zg,↓Zc,↓Zb,↓vdn,vup,Zn,Zl,Zo,Zi,Zj,List.map_cons,List.map_nil,cond_true,cond_false,aop,Zv,Zq,Zp,ev,sput,Zt,Zy,Ya,unK,Zd,Zw,Nat.reduceBEq,Nat.reduceAdd,Int.reduceBEq,Int.reduceBNe,Int.reduceLT,Zu,Zz,tup,tyf]
   refine Xv [(2,1)] (by kernel_rfl) (by kernel_rfl) (by kernel_rfl) (by kernel_rfl) ?_
   simp (maxSteps:=2000000) only [s56,↓Za,↓Zk,↓Zr,↓Ze,↓Zm,↓Zs,↓Zf,↓Zh,↓Zg,↓Zc,↓Zb,↓vdn,vup,Zn,Zl,Zo,Zi,Zj,List.map_cons,List.map_nil,cond_true,cond_false,aop,Zv,Zq,Zp,ev,sput,Zt,Zy,Ya,unK,Zd,Zw,Nat.reduceBEq,Nat.reduceAdd,Int.reduceBEq,Int.reduceBNe,Int.reduceLT,Zu,Zz,tup,tyf,Xa e2 Wb,loadO e0 Wi hlen.2,Yz,List.nil_append,List.append_nil,List.toList_toArray,List.cons_append]
   refine ⟨_,_,Vq hlen.2,rfl,?_⟩
   have hk:2 ^ o.length-1<N0:=by omega
   have hk2:2 ^ o.length-1<(WS o s).length:=by rw [WS_len]; omega
   have hget:(WS o s).getD (2 ^ o.length-1) 0=((cn o:Nat):Int):=by rw [WS_get (by omega) (by omega),cn_len ho]
   simp (maxSteps:=2000000) only [s56,↓Za,↓Zk,↓Zr,↓Ze,↓Zm,↓Zs,↓Zf,↓Zh,↓Zg,↓Zc,↓Zb,↓vdn,vup,Zn,Zl,Zo,Zi,Zj,List.map_cons,List.map_nil,cond_true,cond_false,aop,Zv,Zq,Zp,ev,sput,Zt,Zy,Ya,unK,Zd,Zw,Nat.reduceBEq,Nat.reduceAdd,Int.reduceBEq,Int.reduceBNe,Int.reduceLT,Zu,Zz,tup,tyf,hidx hk,loadX e1 Yw hk2,hget]
   exact hE
 have hs:s<64:=by omega
 have hle:(s:Int)≤((2 ^ o.length-1:Nat):Int):=by omega
 simp (maxSteps:=2000000) only [s56,↓Za,↓Zk,↓Zr,↓Ze,↓Zm,↓Zs,↓Zf,↓Zh,↓Zg,↓Zc,↓Zb,↓vdn,vup,Zn,Zl,Zo,Zi,Zj,List.map_cons,List.map_nil,cond_true,cond_false,aop,Zv,Zq,Zp,ev,sput,Zt,Zy,Ya,unK,Zd,Zw,Nat.reduceBEq,Nat.reduceAdd,Int.reduceBEq,Int.reduceBNe,Int.reduceLT,Zu,Zz,tup,tyf,hle,Xa e3 Yw,Yz,List.nil_append,List.append_nil,List.toList_toArray,List.cons_append]
 refine elements_call.mono ?_
 rintro _ _ ⟨rfl,rfl⟩
 have hWl:(WS o s).length=N0:=by rw [WS_len,hN0]
 refine aw_range Ob.bitIter (bx:=hp.length) (s:=s) (et:=3) rfl (Yj _ _) (by omega) (fun pre hk=>hk[n]? = some (.cells (Vx o) 97 false)∧hk[n+1]? = some (.ints ((WS o s).set s ((ps o s pre:Nat):Int)) 3 false)∧hk[n+2]? = some (.cells [S] 27 false)∧hk[b]? = some (.cells [Zx (s:Nat)] 3 false)∧Ext (fun i=>i=n+1) hp hk∧Ext (fun _=>False) h hk) ?_ ?_ ?_
 · have old : ∀ {k B},hp[k]? = some B→((hp++[Blk.cells [Zx (s:Nat)] 3 false]).set hp.length .dead)[k]? = some B:=fun {k B} hk=>by
    have:=Yp hk
    rw [List.getElem?_set_ne (by omega)]; exact Xi hk _
   refine ⟨old e0,?_,old e2,old e3,⟨by simp,fun j hj _=>?_⟩,⟨by simp; omega,fun j hj _=>?_⟩⟩
   · rw [show ps o s []=0 from rfl,Int.natCast_zero,WS_zero (by omega)]; exact old e1
   · rw [List.getElem?_set_ne (by omega),List.getElem?_append_left hj]
   · rw [List.getElem?_set_ne (by omega),List.getElem?_append_left (by omega)]; exact hE.2 j hj id
 · rintro pre x hk hpre ⟨k0,k1,k2,k3,hEk,hEh⟩
   obtain ⟨hx64,hxb⟩:=Vy.1 (mem_pre hpre)
   have hx6:x<o.length:=by
    rcases Nat.lt_or_ge x o.length with h | h
    · exact h
    · rw [Nat.testBit_lt_two_pow (Nat.lt_of_lt_of_le (show s<2 ^ o.length by omega) (Nat.pow_le_pow_right (by decide) h))] at hxb; cases hxb
   have hpl:pre.length≤64:=by
    obtain ⟨t,ht⟩:=hpre
    have h1:=bits_len6 hs
    have h2:=congrArg List.length ht
    simp only [List.length_append,List.length_singleton] at h2
    omega
   have hps:=ps_le (o:=o) hs pre
   have hdl:=dn_lt (o:=o) (i:=x)
   have hxn:=ord_nat ho hx6
   have hand1:=Wc (a:=dn o x) (b:=s) (by omega) (by omega)
   have hand2:We .and .i64 (o.getD x 0) (s:Int)=((bt o x &&& s:Nat):Int):=by rw [hxn.1]; exact bitsV_and (by omega) (by omega)
   simp (maxSteps:=2000000) only [s56,↓Za,↓Zk,↓Zr,↓Ze,↓Zm,↓Zs,↓Zf,↓Zh,↓Zg,↓Zc,↓Zb,↓vdn,vup,Zn,Zl,Zo,Zi,Zj,List.map_cons,List.map_nil,cond_true,cond_false,aop,Zv,Zq,Zp,ev,sput,Zt,Zy,Ya,unK,Zd,Zw,Nat.reduceBEq,Nat.reduceAdd,Int.reduceBEq,Int.reduceBNe,Int.reduceLT,Zu,Zz,tup,tyf,r56_0_a,r56_0_b]
   refine Xv [(2,1)] (by kernel_rfl) (by kernel_rfl) (by kernel_rfl) (by kernel_rfl) ?_
   simp (maxSteps:=2000000) only [s56,↓Za,↓Zk,↓Zr,↓Ze,↓Zm,↓Zs,↓Zf,↓Zh,↓Zg,↓Zc,↓Zb,↓vdn,vup,Zn,Zl,Zo,Zi,Zj,List.map_cons,List.map_nil,cond_true,cond_false,aop,Zv,Zq,Zp,ev,sput,Zt,Zy,Ya,unK,Zd,Zw,Nat.reduceBEq,Nat.reduceAdd,Int.reduceBEq,Int.reduceBNe,Int.reduceLT,Zu,Zz,tup,tyf,loadO k0 Wi hlen.2,Yz,List.nil_append,List.append_nil,List.toList_toArray,List.cons_append]
   refine ⟨_,_,below_call ho,rfl,?_⟩
   by_cases hd1:Wh (dn o x) s=0
   · by_cases hd2:bt o x &&& s=0
     · have hok:okLast o s x=true:=by simp [okLast,hd1,hd2]
       have hlt:=less_bit_lt hxb
       have h2x:2 ^ x≤32:=Nat.pow_le_pow_right (n:=2) (j:=5) (by decide) (by omega)
       have hshl:shlV .i64 1 x=2 ^ x:=shl1 (by omega)
       have hand3:We .andNot .i64 (s:Int) (2 ^ x)=((Wh s (2 ^ x):Nat):Int):=by
        have:=Wc (a:=s) (b:=2 ^ x) (by omega) (by omega)
        rw [pow_cast] at this; exact this
       have hi1:s<N0:=by omega
       have hi2:Wh s (2 ^ x)<N0:=by omega
       have hsl:s<((WS o s).set s ((ps o s pre:Nat):Int)).length:=by rw [List.length_set]; omega
       have hsl2:Wh s (2 ^ x)<((WS o s).set s ((ps o s pre:Nat):Int)).length:=by rw [List.length_set]; omega
       have hg1:((WS o s).set s ((ps o s pre:Nat):Int)).getD s 0=((ps o s pre:Nat):Int):=by
        rw [List.getD,List.getElem?_set_self (by omega)]; rfl
       have hg2:((WS o s).set s ((ps o s pre:Nat):Int)).getD (Wh s (2 ^ x)) 0=((W o (Wh s (2 ^ x)):Nat):Int):=by
        rw [List.getD,List.getElem?_set_ne (by omega)]; exact WS_get hlt (by omega)
       have hW:=W_le (o:=o) (s:=Wh s (2 ^ x)) (by omega)
       have hsum:addV .i64 ((ps o s pre:Nat):Int) ((W o (Wh s (2 ^ x)):Nat):Int)=((ps o s (pre++[x]):Nat):Int):=by
        rw [ps_snoc,if_pos hok,addV_id (by omega) (by omega)]; omega
       have hone2:(0:Nat)<1:=by decide
       simp (maxSteps:=2000000) only [s56,↓Za,↓Zk,↓Zr,↓Ze,↓Zm,↓Zs,↓Zf,↓Zh,↓Zg,↓Zc,↓Zb,↓vdn,vup,Zn,Zl,Zo,Zi,Zj,List.map_cons,List.map_nil,cond_true,cond_false,aop,Zv,Zq,Zp,ev,sput,Zt,Zy,Ya,unK,Zd,Zw,Nat.reduceBEq,Nat.reduceAdd,Int.reduceBEq,Int.reduceBNe,Int.reduceLT,Zu,Zz,tup,tyf,Xa k3 Yw,hand1,hd1,Int.natCast_zero,fldA fld_97_1 esz_95,idxA und_95 Xk (show x<6 by omega),loadI k0 Yw hlen.2 (show x<6 by omega),hand2,hd2]
       refine Xv [] (by kernel_rfl) (by kernel_rfl) (by kernel_rfl) (by kernel_rfl) ?_
       simp (maxSteps:=2000000) only [s56,↓Za,↓Zk,↓Zr,↓Ze,↓Zm,↓Zs,↓Zf,↓Zh,↓Zg,↓Zc,↓Zb,↓vdn,vup,Zn,Zl,Zo,Zi,Zj,List.map_cons,List.map_nil,cond_true,cond_false,aop,Zv,Zq,Zp,ev,sput,Zt,Zy,Ya,unK,Zd,Zw,Nat.reduceBEq,Nat.reduceAdd,Int.reduceBEq,Int.reduceBNe,Int.reduceLT,Zu,Zz,tup,tyf,Xa k2 Wb,Xa k3 Yw,hidx hi1,loadX k1 Yw hsl,hg1,hshl,hand3,hidx hi2,loadX k1 Yw hsl2,hg2,hsum,storeX k1 Yw hsl,List.set_set,rangeQ]
       have hlk:=Yp k1
       refine ⟨?_,Xy hlk _,?_,?_,?_,?_⟩
       · rw [List.getElem?_set_ne (by omega)]; exact k0
       · rw [List.getElem?_set_ne (by omega)]; exact k2
       · rw [List.getElem?_set_ne (by omega)]; exact k3
       · exact hEk.trans (Ext.set _ rfl)
       · exact ⟨by simp; exact hEh.1,fun j hj _=>by rw [List.getElem?_set_ne (by omega)]; exact hEh.2 j hj id⟩
     · have hok:okLast o s x=false:=by simp [okLast,hd2]
       have hne:(((bt o x &&& s:Nat):Int)==0)=false:=by rw [eq0,decide_eq_false hd2]
       simp (maxSteps:=2000000) only [s56,↓Za,↓Zk,↓Zr,↓Ze,↓Zm,↓Zs,↓Zf,↓Zh,↓Zg,↓Zc,↓Zb,↓vdn,vup,Zn,Zl,Zo,Zi,Zj,List.map_cons,List.map_nil,cond_true,cond_false,aop,Zv,Zq,Zp,ev,sput,Zt,Zy,Ya,unK,Zd,Zw,Nat.reduceBEq,Nat.reduceAdd,Int.reduceBEq,Int.reduceBNe,Int.reduceLT,Zu,Zz,tup,tyf,Xa k3 Yw,hand1,hd1,Int.natCast_zero,fldA fld_97_1 esz_95,idxA und_95 Xk (show x<6 by omega),loadI k0 Yw hlen.2 (show x<6 by omega),hand2,hne,rangeQ]
       refine ⟨k0,?_,k2,k3,hEk,hEh⟩
       rw [ps_snoc,if_neg (by rw [hok]; decide)]; exact k1
   · have hok:okLast o s x=false:=by simp [okLast,hd1]
     have hne:(((Wh (dn o x) s:Nat):Int)==0)=false:=by rw [eq0,decide_eq_false hd1]
     simp (maxSteps:=2000000) only [s56,↓Za,↓Zk,↓Zr,↓Ze,↓Zm,↓Zs,↓Zf,↓Zh,↓Zg,↓Zc,↓Zb,↓vdn,vup,Zn,Zl,Zo,Zi,Zj,List.map_cons,List.map_nil,cond_true,cond_false,aop,Zv,Zq,Zp,ev,sput,Zt,Zy,Ya,unK,Zd,Zw,Nat.reduceBEq,Nat.reduceAdd,Int.reduceBEq,Int.reduceBNe,Int.reduceLT,Zu,Zz,tup,tyf,Xa k3 Yw,hand1,hne,rangeQ]
     refine ⟨k0,?_,k2,k3,hEk,hEh⟩
     rw [ps_snoc,if_neg (by rw [hok]; decide)]; exact k1
 · rintro hk ⟨k0,k1,k2,k3,hEk,hEh⟩
   have hW:ps o s (Am.bits s)=W o s:=by rw [W_step (by omega) (by omega)]; rfl
   rw [hW,WS_set] at k1
   have hlk:=hEk.1
   simp (maxSteps:=2000000) only [s56,↓Za,↓Zk,↓Zr,↓Ze,↓Zm,↓Zs,↓Zf,↓Zh,↓Zg,↓Zc,↓Zb,↓vdn,vup,Zn,Zl,Zo,Zi,Zj,List.map_cons,List.map_nil,cond_true,cond_false,aop,Zv,Zq,Zp,ev,sput,Zt,Zy,Ya,unK,Zd,Zw,Nat.reduceBEq,Nat.reduceAdd,Int.reduceBEq,Int.reduceBNe,Int.reduceLT,Zu,Zz,tup,tyf,Xa k3 Yw,Xx,Xd]
   rw [storeI (v:=.int .i64 0) (e:=3) (Yj _ _) Yw]
   have j3:((hk++[Blk.cells [Value.int .i64 0] 3 false]).set hk.length (Blk.cells [.int .i64 (s:Int)] 3 false))[hk.length]? = some (Blk.cells [.int .i64 (s:Int)] 3 false):=Xy (by simp) _
   simp (maxSteps:=2000000) only [s56,↓Za,↓Zk,↓Zr,↓Ze,↓Zm,↓Zs,↓Zf,↓Zh,↓Zg,↓Zc,↓Zb,↓vdn,vup,Zn,Zl,Zo,Zi,Zj,List.map_cons,List.map_nil,cond_true,cond_false,aop,Zv,Zq,Zp,ev,sput,Zt,Zy,Ya,unK,Zd,Zw,Nat.reduceBEq,Nat.reduceAdd,Int.reduceBEq,Int.reduceBNe,Int.reduceLT,Zu,Zz,tup,tyf,Xa j3 Yw,Vd (show s<9223372036854775807 by omega),storeI j3 Yw,List.set_set]
   have old : ∀ {k B},hk[k]? = some B→((hk++[Blk.cells [Value.int .i64 0] 3 false]).set hk.length (Blk.cells [.int .i64 ((s+1:Nat):Int)] 3 false))[k]? = some B:=fun {k B} hk'=>by
    have:=Yp hk'
    rw [List.getElem?_set_ne (by omega)]; exact Xi hk' _
   refine hQ2 _ _ _ ⟨(s+1,hk.length,_),⟨by simp only; omega,by simp only; omega,by simp only; omega,old k0,old k1,old k2,Xy (by simp) _,⟨by simp; omega,fun j hj _=>?_⟩⟩,by simp only; omega,by simp (maxSteps:=2000000) only [↓Za,↓Zk,↓Zr,↓Ze,↓Zm,↓Zs,↓Zf,↓Zh,↓Zg,↓Zc,↓Zb,↓vdn,vup,Zn,Zl,Zo,Zi,Zj,List.map_cons,List.map_nil,cond_true,cond_false,aop,Zv,Zq,Zp,ev,sput,Zt,Zy,Ya,unK,Zd,Zw,Nat.reduceBEq,Nat.reduceAdd,Int.reduceBEq,Int.reduceBNe,Int.reduceLT,Zu,Zz,tup,tyf],rfl⟩
   have hEl:=hEh.1
   rw [List.getElem?_set_ne (by omega),List.getElem?_append_left (by omega)]; exact hEh.2 j hj id
end Go.Proofs.Tryd.Am.Or
namespace Go.Proofs.Tryd.Am.Or
open Go.Proofs.Tryd.Am
open Go.Am Ord
set_option maxRecDepth 100000
set_option maxHeartbeats 1000000
theorem clone_call [Tabs prog] {h:Yc} {v:Value} {xs:List Int} (hv:IntSl h v xs) (hl:xs.length<1099511627776):ACall prog 13 [v] h fun r h'=>IntSl h' r xs∧∃ g,h' = h++g:=by
 refine s13_call (by simp) ?_
 have hv':=hv
 rcases hv with ⟨rfl,rfl⟩ | ⟨b,o,sp,cap,c,e,ro,rfl,hc,hb,hx⟩
 · simp (maxSteps:=2000000) only [s13,↓Za,↓Zk,↓Zr,↓Ze,↓Zm,↓Zs,↓Zf,↓Zh,↓Zg,↓Zc,↓Zb,↓vdn,vup,Zn,Zl,Zo,Zi,Zj,List.map_cons,List.map_nil,cond_true,cond_false,aop,Zv,Zq,Zp,ev,sput,Zt,Zy,Ya,unK,Zd,Zw,Nat.reduceBEq,Nat.reduceAdd,Int.reduceBEq,Int.reduceBNe,Int.reduceLT,Zu,Zz,tup,tyf,Option.isSome_some]
   exact ⟨.inl ⟨rfl,rfl⟩,[],by rw [List.append_nil]⟩
 · simp (maxSteps:=2000000) only [s13,↓Za,↓Zk,↓Zr,↓Ze,↓Zm,↓Zs,↓Zf,↓Zh,↓Zg,↓Zc,↓Zb,↓vdn,vup,Zn,Zl,Zo,Zi,Zj,List.map_cons,List.map_nil,cond_true,cond_false,aop,Zv,Zq,Zp,ev,sput,Zt,Zy,Ya,unK,Zd,Zw,Nat.reduceBEq,Nat.reduceAdd,Int.reduceBEq,Int.reduceBNe,Int.reduceLT,Zu,Zz,tup,tyf,Option.isSome_some]
   simp only [Yx,Wp,zero_3,Xk,reps,fillL,mkb,Xf]
   refine And.intro rfl (And.intro Nat.zero_lt_one (And.intro (Nat.zero_le _) ?_))
   refine (hv'.grow [.ints [] 3 false]).copy app_27_27 hl (by rw [List.getElem?_append_right (Nat.le_refl _)]; simp) ?_
   intro r g hr _
   exact ⟨hr,_,List.append_assoc _ _ _⟩
theorem storeRd {h:Yc} {o:List Int} {K:Yc→Prop}:Xu prog (h++[Blk.cells (ordN 0) 97 false]) 97 (.pointer (some ⟨h.length,0,none⟩)) (rdV o) K=K ((h++[Blk.cells (ordN 0) 97 false]).set h.length (.cells (rdC o) 97 false)) :=
 storeA (c:=ordN 0) (Yj _ _) (by rw [Wi,rdC_len]) (rdC_one o) (by rw [rdC_len]; rfl)
theorem rdBox (h:Yc) (o:List Int):Ext (fun _=>False) h ((h++[Blk.cells (ordN 0) 97 false]).set h.length (.cells (rdC o) 97 false))∧((h++[Blk.cells (ordN 0) 97 false]).set h.length (.cells (rdC o) 97 false))[h.length]? = some (.cells (rdC o) 97 false) :=
 ⟨⟨by simp,fun i hi _=>by rw [List.getElem?_set_ne (by omega),List.getElem?_append_left hi]⟩,Xy (by simp) _⟩
def countV (o:List Int):Value:=if ord o=true then .tuple #[Zx (cn o:Nat),.int .i64 0] else .tuple #[.int .i64 0,.int .i64 2]
theorem count_call [BitTab prog 0] {h:Yc} {v:Value} {o:List Int} (hv:IntSl h v o) (hl:o.length<9223372036854775808) (hx : ∀ x∈o,-9223372036854775808≤x∧x<9223372036854775808):APure prog 18 [v] h (countV o):=by
 have hlow:Low (countV o):=by unfold countV; split <;> exact .pair (.int _ _) (.int _ _)
 refine ACall.forget hlow ?_
 refine s18_call (by simp) ?_
 simp only [s18]
 simp (maxSteps:=2000000) only [s18,↓Za,↓Zk,↓Zr,↓Ze,↓Zm,↓Zs,↓Zf,↓Zh,↓Zg,↓Zc,↓Zb,↓vdn,vup,Zn,Zl,Zo,Zi,Zj,List.map_cons,List.map_nil,cond_true,cond_false,aop,Zv,Zq,Zp,ev,sput,Zt,Zy,Ya,unK,Zd,Zw,Nat.reduceBEq,Nat.reduceAdd,Int.reduceBEq,Int.reduceBNe,Int.reduceLT,Zu,Zz,tup,tyf,Yz,List.nil_append,List.append_nil,List.toList_toArray,List.cons_append]
 refine (read_call hv hl hx).mono ?_
 rintro _ g ⟨rfl,rfl⟩
 simp (maxSteps:=2000000) only [s18,↓Za,↓Zk,↓Zr,↓Ze,↓Zm,↓Zs,↓Zf,↓Zh,↓Zg,↓Zc,↓Zb,↓vdn,vup,Zn,Zl,Zo,Zi,Zj,List.map_cons,List.map_nil,cond_true,cond_false,aop,Zv,Zq,Zp,ev,sput,Zt,Zy,Ya,unK,Zd,Zw,Nat.reduceBEq,Nat.reduceAdd,Int.reduceBEq,Int.reduceBNe,Int.reduceLT,Zu,Zz,tup,tyf,Xx,Xd,zeroN,zero_97]
 rw [storeRd]
 obtain ⟨hE,hb⟩:=rdBox g o
 generalize hgl:g.length=gl at hE hb ⊢
 generalize (g++[Blk.cells (ordN 0) 97 false]).set gl (.cells (rdC o) 97 false)=G at hE hb ⊢
 cases ho:ord o with
 | false =>
   simp (maxSteps:=2000000) only [s18,↓Za,↓Zk,↓Zr,↓Ze,↓Zm,↓Zs,↓Zf,↓Zh,↓Zg,↓Zc,↓Zb,↓vdn,vup,Zn,Zl,Zo,Zi,Zj,List.map_cons,List.map_nil,cond_true,cond_false,aop,Zv,Zq,Zp,ev,sput,Zt,Zy,Ya,unK,Zd,Zw,Nat.reduceBEq,Nat.reduceAdd,Int.reduceBEq,Int.reduceBNe,Int.reduceLT,Zu,Zz,tup,tyf,ho]
   rw [countV,ho]
   exact ⟨rfl,hE⟩
 | true =>
   have hrd:rdC o=Vx o:=if_pos (ord_len ho)
   rw [hrd] at hb
   simp (maxSteps:=2000000) only [s18,↓Za,↓Zk,↓Zr,↓Ze,↓Zm,↓Zs,↓Zf,↓Zh,↓Zg,↓Zc,↓Zb,↓vdn,vup,Zn,Zl,Zo,Zi,Zj,List.map_cons,List.map_nil,cond_true,cond_false,aop,Zv,Zq,Zp,ev,sput,Zt,Zy,Ya,unK,Zd,Zw,Nat.reduceBEq,Nat.reduceAdd,Int.reduceBEq,Int.reduceBNe,Int.reduceLT,Zu,Zz,tup,tyf,ho,loadO hb Wi (ord_len ho).2,Yz,List.nil_append,List.append_nil,List.toList_toArray,List.cons_append]
   refine (counted_call ho).mono ?_
   rintro _ _ ⟨rfl,rfl⟩
   rw [countV,ho]
   exact ⟨rfl,hE⟩
theorem lit2 {h:Yc} {x y:Int} (K:Value→Yc→Prop):Yx prog h 27 2 [(0,Zx x),(1,Zx y)] K=K (.slice (some ⟨h.length,0,none⟩) 2 2) (h++[.ints [x,y] 3 false]):=by
 simp only [Yx,Wp,zero_3,Xk,reps,fillL,mkb,Xf,Wt,cellsOf,List.length_singleton,Nat.mul_one,Nat.zero_mul,Nat.zero_add]
 exact propext ⟨fun h=>h.2.2.2,fun h=>⟨trivial,Nat.zero_lt_one,by decide,h⟩⟩
theorem litSl {h:Yc} {xs:List Int}:IntSl (h++[.ints xs 3 false]) (.slice (some ⟨h.length,0,none⟩) xs.length xs.length) xs :=
 .inr ⟨h.length,0,none,xs.length,xs.map Zx,3,false,rfl,Nat.le_refl _,by simp [view,Blk.view],fun i hi=>by simp [List.getD,hi]⟩
theorem awake_call [BitTab prog 0] {h:Yc}:APure prog 17 [] h (.bool true):=by
 have hc:countV [0,0] = .tuple #[Zx 2,.int .i64 0]:=by
  have h1:ord [0,0]=true:=by decide
  have h2:cn [0,0]=2:=by decide
  rw [countV,h1,if_pos rfl,h2]; rfl
 refine ACall.forget (Low.bool _) ?_
 refine s17_call (by simp) ?_
 simp (maxSteps:=2000000) only [s17,↓Za,↓Zk,↓Zr,↓Ze,↓Zm,↓Zs,↓Zf,↓Zh,↓Zg,↓Zc,↓Zb,↓vdn,vup,Zn,Zl,Zo,Zi,Zj,List.map_cons,List.map_nil,cond_true,cond_false,aop,Zv,Zq,Zp,ev,sput,Zt,Zy,Ya,unK,Zd,Zw,Nat.reduceBEq,Nat.reduceAdd,Int.reduceBEq,Int.reduceBNe,Int.reduceLT,Zu,Zz,tup,tyf,lit2,Yz,List.nil_append,List.append_nil,List.toList_toArray,List.cons_append]
 refine (count_call (o:=[0,0]) litSl (by decide) (by decide)).mono ?_
 rintro _ _ ⟨rfl,rfl⟩
 rw [hc]
 simp (maxSteps:=2000000) only [s17,↓Za,↓Zk,↓Zr,↓Ze,↓Zm,↓Zs,↓Zf,↓Zh,↓Zg,↓Zc,↓Zb,↓vdn,vup,Zn,Zl,Zo,Zi,Zj,List.map_cons,List.map_nil,cond_true,cond_false,aop,Zv,Zq,Zp,ev,sput,Zt,Zy,Ya,unK,Zd,Zw,Nat.reduceBEq,Nat.reduceAdd,Int.reduceBEq,Int.reduceBNe,Int.reduceLT,Zu,Zz,tup,tyf]
 exact Ext.app _ _ _
end Go.Proofs.Tryd.Am.Or
namespace Go.Proofs.Tryd.Am.Or
open Go.Proofs.Tryd.Am
open Go.Am Ord
set_option maxRecDepth 100000
set_option maxHeartbeats 1000000
end Go.Proofs.Tryd.Am.Or
namespace Ord
open Go.Am
def befN (o:List Int) (i j:Nat):Nat:=if ab o i j=true then cn o else if fr o i j=true then cn (addL o i j) else 0
def hsum (o:List Int) (i:Nat):Nat:=(((List.range o.length).filter fun j=>decide (j≠i)).map fun j=>befN o j i).sum
end Ord
namespace Go.Proofs.Tryd.Am.Or
open Go.Proofs.Tryd.Am
open Go.Am Ord
set_option maxRecDepth 100000
set_option maxHeartbeats 1000000
end Go.Proofs.Tryd.Am.Or
namespace Go.Proofs.Tryd.Am.Or
open Go.Proofs.Tryd.Am
open Go.Am Ord
set_option maxRecDepth 100000
set_option maxHeartbeats 1000000
end Go.Proofs.Tryd.Am.Or
namespace Go.Proofs.Tryd.Am.Or
open Go.Proofs.Tryd.Am
open Go.Am Ord
set_option maxRecDepth 100000
set_option maxHeartbeats 1000000
abbrev pV (p:Int×Int):Value:=.agg #[Zx p.1,Zx p.2]
end Go.Proofs.Tryd.Am.Or
namespace Go.Proofs.Tryd.Am.Or
open Go.Proofs.Tryd.Am
open Go.Am Ord
set_option maxRecDepth 100000
set_option maxHeartbeats 1000000
section
variable {h:Yc} {b:Nat} {e:TypeId} {ro:Bool} {x y:Int} {K:Value→Prop}
theorem pidx0 {p:Nat}:Yv prog 28 (.pointer (some ⟨p,0,none⟩)) (.int .i64 0) K=K (.pointer (some ⟨p,0,none⟩)):=idxA (k:=0) und_28 Xk (by decide)
theorem pidx1 {p:Nat}:Yv prog 28 (.pointer (some ⟨p,0,none⟩)) (.int .i64 1) K=K (.pointer (some ⟨p,1,none⟩)):=idxA (k:=1) und_28 Xk (by decide)
theorem pl0 (hb:h[b]? = some (.cells [.int .i64 x,.int .i64 y] e ro)):Xn prog h 3 (.pointer (some ⟨b,0,none⟩)) K=K (.int .i64 x):=loadC hb Yw rfl
theorem pl1 (hb:h[b]? = some (.cells [.int .i64 x,.int .i64 y] e ro)):Xn prog h 3 (.pointer (some ⟨b,1,none⟩)) K=K (.int .i64 y):=loadC hb Yw rfl
end
end Go.Proofs.Tryd.Am.Or
namespace Ord
set_option maxRecDepth 100000
def srtb:Nat→List Int→Bool
 | 0,o=>cn o==1
 | n+1,o=>cn o==1 || (decide (cn o≤2 ^ (n+1))&&(List.range o.length).any fun i=>(List.range o.length).any fun j=>decide (i<j)&&(fr o i j&&(srtb n (addL o i j)&&srtb n (addL o j i))))
end Ord
namespace Go.Proofs.Tryd.Am.Or
open Go.Proofs.Tryd.Am
open Go.Am Ord
set_option maxRecDepth 100000
set_option maxHeartbeats 1000000
def encN (o:List Int) (n:Nat):List Int:=(o.length:Int)::(sixs o++[(n:Int)])
def SK (bs bm:Nat) (h:Yc):Prop:=h[bs]? = some (.cells [.map (some bm)] 103 false)∧∃ l:List (List Int×Bool),h[bm]? = some (.map (mA Value.bool l))∧KeysN 8 l∧∀ o n v,ord o=true→aget (encN o n) l=some v→v=srtb n o
theorem SK.ext {bs bm:Nat} {h h' : Yc} (hs:SK bs bm h) (he:Ext (fun _=>False) h h'):SK bs bm h':=by
 obtain ⟨h1,l,h2,h3⟩:=hs
 exact ⟨(he.2 _ (Yp h1) id).trans h1,l,(he.2 _ (Yp h2) id).trans h2,h3⟩
theorem s91_callW [Tabs Tryd.prog] {args:List Value} {h:Yc} {Q:Value→Yc→Prop} (hsz:args.length≤19) (hk:AWS Tryd.prog 19 s91 (Zu Tryd.prog [.tmp 4] Q) (Zp 0 args) h):ACall Tryd.prog 91 args h Q :=
 Xg Tryd.func91 rfl (enters_of Tryd.func91 (by kernel_rfl) rfl) rfl rfl (by decide) s91_strip s91_ok hsz hk
theorem indexP_call [Tabs prog] {h:Yc} {v:Value} {ps:List (Int×Int)} {fn:FuncId} {cap:Array Value} (hl:ps.length<9223372036854775808) (I J:Nat→Yc→Prop) (hI : ∀ k hp,I k hp→PairSl hp v ps)
  (step : ∀ k,k<ps.length→∀ hp,I k hp→ACall prog fn (([]:List Value)++[pV (ps.getD k (0,0))]++cap.toList) hp fun r h2=>∃ b,r = .bool b∧(b=true→J k h2)∧(b=false→I (k+1) h2)) (h0:I 0 h) :
  ACall prog 91 [v,.func (.func fn) #[] cap] h fun r h'=>(∃ k,k<ps.length∧r=Zx (k:Nat)∧J k h')∨(r = .int .i64 (-1)∧I ps.length h'):=by
 refine s91_callW (by simp) ?_
 simp only [s91]
 refine Yb fun N2 hN2=>?_
 simp (maxSteps:=2000000) only [s91,↓Za,↓Zk,↓Zr,↓Ze,↓Zm,↓Zs,↓Zf,↓Zh,↓Zg,↓Zc,↓Zb,↓vdn,vup,Zn,Zl,Zo,Zi,Zj,List.map_cons,List.map_nil,cond_true,cond_false,aop,Zv,Zq,Zp,ev,sput,Zt,Zy,Ya,unK,Zd,Zw,Nat.reduceBEq,Nat.reduceAdd,Int.reduceBEq,Int.reduceBNe,Int.reduceLT,Zu,Zz,tup,tyf]
 refine hN2 [(0,v),(1,.func (.func fn) #[] cap),(4,.int .i64 0)] _ _ ?_ (by simp (maxSteps:=2000000) only [↓Za,↓Zk,↓Zr,↓Ze,↓Zm,↓Zs,↓Zf,↓Zh,↓Zg,↓Zc,↓Zb,↓vdn,vup,Zn,Zl,Zo,Zi,Zj,List.map_cons,List.map_nil,cond_true,cond_false,aop,Zv,Zq,Zp,ev,sput,Zt,Zy,Ya,unK,Zd,Zw,Nat.reduceBEq,Nat.reduceAdd,Int.reduceBEq,Int.reduceBNe,Int.reduceLT,Zu,Zz,tup,tyf])
 clear hN2
 try clear N2
 refine Ye fun M hM=>?_
 refine Yb fun N3 hN3=>?_
 simp (maxSteps:=2000000) only [s91,↓Za,↓Zk,↓Zr,↓Ze,↓Zm,↓Zs,↓Zf,↓Zh,↓Zg,↓Zc,↓Zb,↓vdn,vup,Zn,Zl,Zo,Zi,Zj,List.map_cons,List.map_nil,cond_true,cond_false,aop,Zv,Zq,Zp,ev,sput,Zt,Zy,Ya,unK,Zd,Zw,Nat.reduceBEq,Nat.reduceAdd,Int.reduceBEq,Int.reduceBNe,Int.reduceLT,Zu,Zz,tup,tyf,(hI _ _ h0).len]
 refine hN3 [(0,v),(1,.func (.func fn) #[] cap),(4,.int .i64 0),(7,Zx ps.length),(8,.int .i64 0)] _ _ ?_ (by simp (maxSteps:=2000000) only [↓Za,↓Zk,↓Zr,↓Ze,↓Zm,↓Zs,↓Zf,↓Zh,↓Zg,↓Zc,↓Zb,↓vdn,vup,Zn,Zl,Zo,Zi,Zj,List.map_cons,List.map_nil,cond_true,cond_false,aop,Zv,Zq,Zp,ev,sput,Zt,Zy,Ya,unK,Zd,Zw,Nat.reduceBEq,Nat.reduceAdd,Int.reduceBEq,Int.reduceBNe,Int.reduceLT,Zu,Zz,tup,tyf])
 clear hN3
 try clear N3
 refine Yh ?_
 refine Yf fun Q hQ=>?_
 refine Xh (γ:=Nat×Yc) (fun s=>s.1≤ps.length∧I s.1 s.2)
  (fun s=>([(0,v),(1,.func (.func fn) #[] cap),(4,.int .i64 0),(7,Zx ps.length),(8,Zx (s.1:Nat))],s.2)) (fun s=>ps.length-s.1) (0,h) ⟨Nat.zero_le _,h0⟩ (by simp (maxSteps:=2000000) only [↓Za,↓Zk,↓Zr,↓Ze,↓Zm,↓Zs,↓Zf,↓Zh,↓Zg,↓Zc,↓Zb,↓vdn,vup,Zn,Zl,Zo,Zi,Zj,List.map_cons,List.map_nil,cond_true,cond_false,aop,Zv,Zq,Zp,ev,sput,Zt,Zy,Ya,unK,Zd,Zw,Nat.reduceBEq,Nat.reduceAdd,Int.reduceBEq,Int.reduceBNe,Int.reduceLT,Zu,Zz,tup,tyf,Int.natCast_zero]) rfl ?_
 rintro ⟨k,hp⟩ ⟨hk,hik⟩
 simp only at hk hik
 refine Yf fun Q2 hQ2=>?_
 simp only [l91_0]
 have hv:=hI _ _ hik
 by_cases hin:(k:Int)<ps.length
 · have hk' : k<ps.length:=by omega
   refine Yb fun N4 hN4=>?_
   simp (maxSteps:=2000000) only [s91,↓Za,↓Zk,↓Zr,↓Ze,↓Zm,↓Zs,↓Zf,↓Zh,↓Zg,↓Zc,↓Zb,↓vdn,vup,Zn,Zl,Zo,Zi,Zj,List.map_cons,List.map_nil,cond_true,cond_false,aop,Zv,Zq,Zp,ev,sput,Zt,Zy,Ya,unK,Zd,Zw,Nat.reduceBEq,Nat.reduceAdd,Int.reduceBEq,Int.reduceBNe,Int.reduceLT,Zu,Zz,tup,tyf,hin]
   refine hN4 [(0,v),(1,.func (.func fn) #[] cap),(4,.int .i64 0),(7,Zx ps.length),(8,Zx (k:Nat)),(9,.bool true)] _ _ ?_ (by simp (maxSteps:=2000000) only [↓Za,↓Zk,↓Zr,↓Ze,↓Zm,↓Zs,↓Zf,↓Zh,↓Zg,↓Zc,↓Zb,↓vdn,vup,Zn,Zl,Zo,Zi,Zj,List.map_cons,List.map_nil,cond_true,cond_false,aop,Zv,Zq,Zp,ev,sput,Zt,Zy,Ya,unK,Zd,Zw,Nat.reduceBEq,Nat.reduceAdd,Int.reduceBEq,Int.reduceBNe,Int.reduceLT,Zu,Zz,tup,tyf])
   clear hN4
   try clear N4
   refine Yb fun N5 hN5=>?_
   simp (maxSteps:=2000000) only [s91,↓Za,↓Zk,↓Zr,↓Ze,↓Zm,↓Zs,↓Zf,↓Zh,↓Zg,↓Zc,↓Zb,↓vdn,vup,Zn,Zl,Zo,Zi,Zj,List.map_cons,List.map_nil,cond_true,cond_false,aop,Zv,Zq,Zp,ev,sput,Zt,Zy,Ya,unK,Zd,Zw,Nat.reduceBEq,Nat.reduceAdd,Int.reduceBEq,Int.reduceBNe,Int.reduceLT,Zu,Zz,tup,tyf]
   refine hN5 [(0,v),(1,.func (.func fn) #[] cap),(4,.int .i64 0),(7,Zx ps.length),(8,Zx (k:Nat))] _ _ ?_ (by simp (maxSteps:=2000000) only [↓Za,↓Zk,↓Zr,↓Ze,↓Zm,↓Zs,↓Zf,↓Zh,↓Zg,↓Zc,↓Zb,↓vdn,vup,Zn,Zl,Zo,Zi,Zj,List.map_cons,List.map_nil,cond_true,cond_false,aop,Zv,Zq,Zp,ev,sput,Zt,Zy,Ya,unK,Zd,Zw,Nat.reduceBEq,Nat.reduceAdd,Int.reduceBEq,Int.reduceBNe,Int.reduceLT,Zu,Zz,tup,tyf])
   clear hN5
   try clear N5
   refine Ye fun B hB=>?_
   refine Yh ?_
   refine Yb fun N6 hN6=>?_
   simp (maxSteps:=2000000) only [s91,↓Za,↓Zk,↓Zr,↓Ze,↓Zm,↓Zs,↓Zf,↓Zh,↓Zg,↓Zc,↓Zb,↓vdn,vup,Zn,Zl,Zo,Zi,Zj,List.map_cons,List.map_nil,cond_true,cond_false,aop,Zv,Zq,Zp,ev,sput,Zt,Zy,Ya,unK,Zd,Zw,Nat.reduceBEq,Nat.reduceAdd,Int.reduceBEq,Int.reduceBNe,Int.reduceLT,Zu,Zz,tup,tyf]
   refine hN6 [(0,v),(1,.func (.func fn) #[] cap),(4,.int .i64 0),(5,Zx (k:Nat)),(7,Zx ps.length),(8,Zx (k:Nat))] _ _ ?_ (by simp (maxSteps:=2000000) only [↓Za,↓Zk,↓Zr,↓Ze,↓Zm,↓Zs,↓Zf,↓Zh,↓Zg,↓Zc,↓Zb,↓vdn,vup,Zn,Zl,Zo,Zi,Zj,List.map_cons,List.map_nil,cond_true,cond_false,aop,Zv,Zq,Zp,ev,sput,Zt,Zy,Ya,unK,Zd,Zw,Nat.reduceBEq,Nat.reduceAdd,Int.reduceBEq,Int.reduceBNe,Int.reduceLT,Zu,Zz,tup,tyf])
   clear hN6
   try clear N6
   refine Yb fun N7 hN7=>?_
   simp (maxSteps:=2000000) only [s91,↓Za,↓Zk,↓Zr,↓Ze,↓Zm,↓Zs,↓Zf,↓Zh,↓Zg,↓Zc,↓Zb,↓vdn,vup,Zn,Zl,Zo,Zi,Zj,List.map_cons,List.map_nil,cond_true,cond_false,aop,Zv,Zq,Zp,ev,sput,Zt,Zy,Ya,unK,Zd,Zw,Nat.reduceBEq,Nat.reduceAdd,Int.reduceBEq,Int.reduceBNe,Int.reduceLT,Zu,Zz,tup,tyf,Yz,List.nil_append,List.append_nil,List.toList_toArray,List.cons_append,hv.idx el_26 Vk hk',hv.load shp_28 hk']
   refine (step k hk' hp hik).mono ?_
   rintro _ h2 ⟨b,rfl,hJ,hI2⟩
   cases b with
   | true =>
     refine hN7 [(0,v),(1,.func (.func fn) #[] cap),(4,.int .i64 0),(5,Zx (k:Nat)),(7,Zx ps.length),(8,Zx (k:Nat)),(16,.bool true)] _ _ ?_ (by simp (maxSteps:=2000000) only [↓Za,↓Zk,↓Zr,↓Ze,↓Zm,↓Zs,↓Zf,↓Zh,↓Zg,↓Zc,↓Zb,↓vdn,vup,Zn,Zl,Zo,Zi,Zj,List.map_cons,List.map_nil,cond_true,cond_false,aop,Zv,Zq,Zp,ev,sput,Zt,Zy,Ya,unK,Zd,Zw,Nat.reduceBEq,Nat.reduceAdd,Int.reduceBEq,Int.reduceBNe,Int.reduceLT,Zu,Zz,tup,tyf])
     clear hN7
     try clear N7
     refine Xe rfl ?_
     refine Yd ?_
     simp (maxSteps:=2000000) only [s91,↓Za,↓Zk,↓Zr,↓Ze,↓Zm,↓Zs,↓Zf,↓Zh,↓Zg,↓Zc,↓Zb,↓vdn,vup,Zn,Zl,Zo,Zi,Zj,List.map_cons,List.map_nil,cond_true,cond_false,aop,Zv,Zq,Zp,ev,sput,Zt,Zy,Ya,unK,Zd,Zw,Nat.reduceBEq,Nat.reduceAdd,Int.reduceBEq,Int.reduceBNe,Int.reduceLT,Zu,Zz,tup,tyf]
     refine hQ2 _ _ _ (hQ _ _ _ ?_)
     simp (maxSteps:=2000000) only [s91,↓Za,↓Zk,↓Zr,↓Ze,↓Zm,↓Zs,↓Zf,↓Zh,↓Zg,↓Zc,↓Zb,↓vdn,vup,Zn,Zl,Zo,Zi,Zj,List.map_cons,List.map_nil,cond_true,cond_false,aop,Zv,Zq,Zp,ev,sput,Zt,Zy,Ya,unK,Zd,Zw,Nat.reduceBEq,Nat.reduceAdd,Int.reduceBEq,Int.reduceBNe,Int.reduceLT,Zu,Zz,tup,tyf]
     exact .inl ⟨k,hk',rfl,hJ rfl⟩
   | false =>
     refine hN7 [(0,v),(1,.func (.func fn) #[] cap),(4,.int .i64 0),(5,Zx (k:Nat)),(7,Zx ps.length),(8,Zx (k:Nat)),(16,.bool false)] _ _ ?_ (by simp (maxSteps:=2000000) only [↓Za,↓Zk,↓Zr,↓Ze,↓Zm,↓Zs,↓Zf,↓Zh,↓Zg,↓Zc,↓Zb,↓vdn,vup,Zn,Zl,Zo,Zi,Zj,List.map_cons,List.map_nil,cond_true,cond_false,aop,Zv,Zq,Zp,ev,sput,Zt,Zy,Ya,unK,Zd,Zw,Nat.reduceBEq,Nat.reduceAdd,Int.reduceBEq,Int.reduceBNe,Int.reduceLT,Zu,Zz,tup,tyf])
     clear hN7
     try clear N7
     refine Yq rfl ?_
     refine Yd ?_
     simp (maxSteps:=2000000) only [s91,↓Za,↓Zk,↓Zr,↓Ze,↓Zm,↓Zs,↓Zf,↓Zh,↓Zg,↓Zc,↓Zb,↓vdn,vup,Zn,Zl,Zo,Zi,Zj,List.map_cons,List.map_nil,cond_true,cond_false,aop,Zv,Zq,Zp,ev,sput,Zt,Zy,Ya,unK,Zd,Zw,Nat.reduceBEq,Nat.reduceAdd,Int.reduceBEq,Int.reduceBNe,Int.reduceLT,Zu,Zz,tup,tyf]
     refine hB [(0,v),(1,.func (.func fn) #[] cap),(4,.int .i64 0),(7,Zx ps.length),(8,Zx (k:Nat))] _ _ ?_ (by simp (maxSteps:=2000000) only [↓Za,↓Zk,↓Zr,↓Ze,↓Zm,↓Zs,↓Zf,↓Zh,↓Zg,↓Zc,↓Zb,↓vdn,vup,Zn,Zl,Zo,Zi,Zj,List.map_cons,List.map_nil,cond_true,cond_false,aop,Zv,Zq,Zp,ev,sput,Zt,Zy,Ya,unK,Zd,Zw,Nat.reduceBEq,Nat.reduceAdd,Int.reduceBEq,Int.reduceBNe,Int.reduceLT,Zu,Zz,tup,tyf])
     clear hB
     try clear B
     refine Yd ?_
     simp (maxSteps:=2000000) only [s91,↓Za,↓Zk,↓Zr,↓Ze,↓Zm,↓Zs,↓Zf,↓Zh,↓Zg,↓Zc,↓Zb,↓vdn,vup,Zn,Zl,Zo,Zi,Zj,List.map_cons,List.map_nil,cond_true,cond_false,aop,Zv,Zq,Zp,ev,sput,Zt,Zy,Ya,unK,Zd,Zw,Nat.reduceBEq,Nat.reduceAdd,Int.reduceBEq,Int.reduceBNe,Int.reduceLT,Zu,Zz,tup,tyf,Vd (show k<9223372036854775807 by omega)]
     exact hQ2 _ _ _ ⟨(k+1,h2),⟨hk',hI2 rfl⟩,by simp only; omega,by simp (maxSteps:=2000000) only [↓Za,↓Zk,↓Zr,↓Ze,↓Zm,↓Zs,↓Zf,↓Zh,↓Zg,↓Zc,↓Zb,↓vdn,vup,Zn,Zl,Zo,Zi,Zj,List.map_cons,List.map_nil,cond_true,cond_false,aop,Zv,Zq,Zp,ev,sput,Zt,Zy,Ya,unK,Zd,Zw,Nat.reduceBEq,Nat.reduceAdd,Int.reduceBEq,Int.reduceBNe,Int.reduceLT,Zu,Zz,tup,tyf],rfl⟩
 · obtain rfl:k=ps.length:=by omega
   refine Yb fun N8 hN8=>?_
   simp (maxSteps:=2000000) only [s91,↓Za,↓Zk,↓Zr,↓Ze,↓Zm,↓Zs,↓Zf,↓Zh,↓Zg,↓Zc,↓Zb,↓vdn,vup,Zn,Zl,Zo,Zi,Zj,List.map_cons,List.map_nil,cond_true,cond_false,aop,Zv,Zq,Zp,ev,sput,Zt,Zy,Ya,unK,Zd,Zw,Nat.reduceBEq,Nat.reduceAdd,Int.reduceBEq,Int.reduceBNe,Int.reduceLT,Zu,Zz,tup,tyf,hin]
   refine hN8 [(0,v),(1,.func (.func fn) #[] cap),(4,.int .i64 0),(7,Zx ps.length),(8,Zx (ps.length:Nat)),(9,.bool false)] _ _ ?_ (by simp (maxSteps:=2000000) only [↓Za,↓Zk,↓Zr,↓Ze,↓Zm,↓Zs,↓Zf,↓Zh,↓Zg,↓Zc,↓Zb,↓vdn,vup,Zn,Zl,Zo,Zi,Zj,List.map_cons,List.map_nil,cond_true,cond_false,aop,Zv,Zq,Zp,ev,sput,Zt,Zy,Ya,unK,Zd,Zw,Nat.reduceBEq,Nat.reduceAdd,Int.reduceBEq,Int.reduceBNe,Int.reduceLT,Zu,Zz,tup,tyf])
   clear hN8
   try clear N8
   refine Yb fun N9 hN9=>?_
   simp (maxSteps:=2000000) only [s91,↓Za,↓Zk,↓Zr,↓Ze,↓Zm,↓Zs,↓Zf,↓Zh,↓Zg,↓Zc,↓Zb,↓vdn,vup,Zn,Zl,Zo,Zi,Zj,List.map_cons,List.map_nil,cond_true,cond_false,aop,Zv,Zq,Zp,ev,sput,Zt,Zy,Ya,unK,Zd,Zw,Nat.reduceBEq,Nat.reduceAdd,Int.reduceBEq,Int.reduceBNe,Int.reduceLT,Zu,Zz,tup,tyf]
   refine hQ2 _ _ _ (hQ _ _ _ ?_)
   simp (maxSteps:=2000000) only [s91,↓Za,↓Zk,↓Zr,↓Ze,↓Zm,↓Zs,↓Zf,↓Zh,↓Zg,↓Zc,↓Zb,↓vdn,vup,Zn,Zl,Zo,Zi,Zj,List.map_cons,List.map_nil,cond_true,cond_false,aop,Zv,Zq,Zp,ev,sput,Zt,Zy,Ya,unK,Zd,Zw,Nat.reduceBEq,Nat.reduceAdd,Int.reduceBEq,Int.reduceBNe,Int.reduceLT,Zu,Zz,tup,tyf,if_true]
   refine hM [(0,v),(1,.func (.func fn) #[] cap),(4,.int .i64 0),(7,Zx ps.length),(8,Zx (ps.length:Nat)),(9,.bool false)] _ _ ?_ (by simp (maxSteps:=2000000) only [↓Za,↓Zk,↓Zr,↓Ze,↓Zm,↓Zs,↓Zf,↓Zh,↓Zg,↓Zc,↓Zb,↓vdn,vup,Zn,Zl,Zo,Zi,Zj,List.map_cons,List.map_nil,cond_true,cond_false,aop,Zv,Zq,Zp,ev,sput,Zt,Zy,Ya,unK,Zd,Zw,Nat.reduceBEq,Nat.reduceAdd,Int.reduceBEq,Int.reduceBNe,Int.reduceLT,Zu,Zz,tup,tyf])
   clear hM
   try clear M
   refine Yd ?_
   simp (maxSteps:=2000000) only [s91,↓Za,↓Zk,↓Zr,↓Ze,↓Zm,↓Zs,↓Zf,↓Zh,↓Zg,↓Zc,↓Zb,↓vdn,vup,Zn,Zl,Zo,Zi,Zj,List.map_cons,List.map_nil,cond_true,cond_false,aop,Zv,Zq,Zp,ev,sput,Zt,Zy,Ya,unK,Zd,Zw,Nat.reduceBEq,Nat.reduceAdd,Int.reduceBEq,Int.reduceBNe,Int.reduceLT,Zu,Zz,tup,tyf]
   exact .inr hik
end Go.Proofs.Tryd.Am.Or
namespace Go.Proofs.Tryd.Am.Tf
open Go.Proofs.Tryd.Am
open Go.Am
set_option maxRecDepth 100000
set_option maxHeartbeats 2000000
abbrev pV (p:Int×Int):Value:=.agg #[Zx p.1,Zx p.2]
theorem boxP {h:Yc} {p:Int×Int} {K:Value→Yc→Prop}:boxK prog h 28 (pV p) K=K (Xd h) (h++[.cells [Zx p.1,Zx p.2] 28 false]):=by
 simp only [boxK,pV,Vk,Option.isSome_some,true_and,cellsOf]
theorem loadP {h:Yc} {b:Nat} {ro:Bool} {x y:Int} {K:Value→Prop} (hb:h[b]? = some (.cells [Zx x,Zx y] 28 ro)):Xn prog h 28 (pt b) K=K (pV (x,y)) :=
 loadA hb (by rw [shp_28]; rfl)
theorem pidx0 {p:Nat} {K:Value→Prop}:Yv prog 28 (.pointer (some ⟨p,0,none⟩)) (.int .i64 0) K=K (.pointer (some ⟨p,0,none⟩)):=idxA (k:=0) und_28 Xk (by decide)
theorem pidx1 {p:Nat} {K:Value→Prop}:Yv prog 28 (.pointer (some ⟨p,0,none⟩)) (.int .i64 1) K=K (.pointer (some ⟨p,1,none⟩)):=idxA (k:=1) und_28 Xk (by decide)
theorem pl0 {h:Yc} {b:Nat} {e:TypeId} {ro:Bool} {x y:Int} {K:Value→Prop} (hb:h[b]? = some (.cells [Zx x,Zx y] e ro)):Xn prog h 3 (.pointer (some ⟨b,0,none⟩)) K=K (Zx x):=loadC hb Yw rfl
theorem pl1 {h:Yc} {b:Nat} {e:TypeId} {ro:Bool} {x y:Int} {K:Value→Prop} (hb:h[b]? = some (.cells [Zx x,Zx y] e ro)):Xn prog h 3 (.pointer (some ⟨b,1,none⟩)) K=K (Zx y):=loadC hb Yw rfl
def cel (t:List (List Int)) (i j:Int):Int:=(t.getD i.toNat []).getD j.toNat 0
def Wy (t:List (List Int)) (x:Int) (p q:Int×Int):Bool:=(cel t p.1 q.2 != x) || (cel t q.1 p.2 != x)
def InT (t:List (List Int)) (p:Int×Int):Prop:=∃ i k:Nat,p=((i:Int),(k:Int))∧i<t.length∧k<wd t
theorem entL_in {t:List (List Int)} (ht:Tab t) {x:Int} {p:Int×Int} (h:p∈entL t x):InT t p∧cel t p.1 p.2=x:=by
 obtain ⟨i,k,h1,h2,rfl,h4⟩:=ents_mem h
 refine ⟨⟨i,k,rfl,h1,?_⟩,by simpa [cel] using h4⟩
 rw [(ht.row _ (ht.get h1)).1] at h2; exact h2
theorem s43_callW [Tabs Tryd.prog] {args:List Value} {h:Yc} {Q:Value→Yc→Prop} (hsz:args.length≤33) (hk:AWS Tryd.prog 33 s43 (Zu Tryd.prog [.tmp 8] Q) (Zp 0 args) h):ACall Tryd.prog 43 args h Q :=
 Xg Tryd.func43 rfl (enters_of Tryd.func43 (by kernel_rfl) rfl) rfl rfl (by decide) s43_strip s43_ok hsz hk
theorem fooled_call [Tabs prog] {h:Yc} {v:Value} {t:List (List Int)} {x:Int} {p q:Int×Int} (hv:TabS h v t) (ht:Tab t) (hp:InT t p) (hq:InT t q) :
  ACall prog 43 [v,Zx x,pV p,pV q] h fun r h'=>r = .bool (Wy t x p q)∧Ext (fun _=>False) h h':=by
 obtain ⟨i,j,rfl,hi,hj⟩:=hp
 obtain ⟨k,l,rfl,hk,hl⟩:=hq
 refine s43_callW (by simp) ?_
 simp only [s43]
 refine Yb fun N1 hN1=>?_
 simp (maxSteps:=2000000) only [s43,↓Za,↓Zk,↓Zr,↓Ze,↓Zm,↓Zs,↓Zf,↓Zh,↓Zg,↓Zc,↓Zb,↓vdn,vup,Zn,Zl,Zo,Zi,Zj,List.map_cons,List.map_nil,cond_true,cond_false,aop,Zv,Zq,Zp,ev,sput,Zt,Zy,Ya,unK,Zd,Zw,Nat.reduceBEq,Nat.reduceAdd,Int.reduceBEq,Int.reduceBNe,Int.reduceLT,Zu,Zz,tup,tyf,boxP,Xd]
 have c6:=Xi (Yj h (Blk.cells [Zx (i:Int),Zx (j:Int)] 28 false)) [Blk.cells [Zx (k:Int),Zx (l:Int)] 28 false]
 have c7:=Yj (h++[Blk.cells [Zx (i:Int),Zx (j:Int)] 28 false]) (Blk.cells [Zx (k:Int),Zx (l:Int)] 28 false)
 have hE:Ext (fun _=>False) h (h++[Blk.cells [Zx (i:Int),Zx (j:Int)] 28 false]++[Blk.cells [Zx (k:Int),Zx (l:Int)] 28 false]):=by rw [List.append_assoc]; exact Ext.app _ _ _
 generalize h++[Blk.cells [Zx (i:Int),Zx (j:Int)] 28 false]++[Blk.cells [Zx (k:Int),Zx (l:Int)] 28 false]=h1 at c6 c7 hE ⊢
 generalize (h++[Blk.cells [Zx (i:Int),Zx (j:Int)] 28 false]).length=b7 at c7 ⊢
 generalize h.length=b6 at c6 ⊢
 refine hN1 [(0,v),(1,Zx x),(2,pV ((i:Int),(j:Int))),(3,pV ((k:Int),(l:Int))),(6,pt b6),(7,pt b7),(8,.bool false)] _ _ ?_ (by simp (maxSteps:=2000000) only [↓Za,↓Zk,↓Zr,↓Ze,↓Zm,↓Zs,↓Zf,↓Zh,↓Zg,↓Zc,↓Zb,↓vdn,vup,Zn,Zl,Zo,Zi,Zj,List.map_cons,List.map_nil,cond_true,cond_false,aop,Zv,Zq,Zp,ev,sput,Zt,Zy,Ya,unK,Zd,Zw,Nat.reduceBEq,Nat.reduceAdd,Int.reduceBEq,Int.reduceBNe,Int.reduceLT,Zu,Zz,tup,tyf])
 clear hN1
 try clear N1
 have hv1:=hv.ext hE
 obtain ⟨wi,hwi,ldi⟩:=hv1.load (P:=prog) Wb hi
 obtain ⟨wk,hwk,ldk⟩:=hv1.load (P:=prog) Wb hk
 have hl' : l<(t.getD i []).length:=by rw [(ht.row _ (ht.get hi)).1]; exact hl
 have hj' : j<(t.getD k []).length:=by rw [(ht.row _ (ht.get hk)).1]; exact hj
 have e1:cel t (i:Int) (l:Int)=(t.getD i []).getD l 0:=by simp [cel]
 have e2:cel t (k:Int) (j:Int)=(t.getD k []).getD j 0:=by simp [cel]
 refine Yb fun N2 hN2=>?_
 simp only [q43_1]
 refine Xv [] (by kernel_rfl) (by kernel_rfl) (by kernel_rfl) (by kernel_rfl) ?_
 cases hx:((t.getD i []).getD l 0 != x) with
 | true =>
   simp (maxSteps:=2000000) only [s43,↓Za,↓Zk,↓Zr,↓Ze,↓Zm,↓Zs,↓Zf,↓Zh,↓Zg,↓Zc,↓Zb,↓vdn,vup,Zn,Zl,Zo,Zi,Zj,List.map_cons,List.map_nil,cond_true,cond_false,aop,Zv,Zq,Zp,ev,sput,Zt,Zy,Ya,unK,Zd,Zw,Nat.reduceBEq,Nat.reduceAdd,Int.reduceBEq,Int.reduceBNe,Int.reduceLT,Zu,Zz,tup,tyf,pidx0,pidx1,pl0 c6,pl1 c6,pl0 c7,pl1 c7,hv1.idx el_70 Vb hi,ldi,hwi.idx Wp Xk hl',hwi.load Yw hl',hx]
   refine hN2 [(0,v),(1,Zx x),(2,pV ((i:Int),(j:Int))),(3,pV ((k:Int),(l:Int))),(6,pt b6),(7,pt b7),(8,.bool true)] _ _ ?_ (by simp (maxSteps:=2000000) only [↓Za,↓Zk,↓Zr,↓Ze,↓Zm,↓Zs,↓Zf,↓Zh,↓Zg,↓Zc,↓Zb,↓vdn,vup,Zn,Zl,Zo,Zi,Zj,List.map_cons,List.map_nil,cond_true,cond_false,aop,Zv,Zq,Zp,ev,sput,Zt,Zy,Ya,unK,Zd,Zw,Nat.reduceBEq,Nat.reduceAdd,Int.reduceBEq,Int.reduceBNe,Int.reduceLT,Zu,Zz,tup,tyf])
   clear hN2
   try clear N2
   refine Yd ?_
   simp (maxSteps:=2000000) only [s43,↓Za,↓Zk,↓Zr,↓Ze,↓Zm,↓Zs,↓Zf,↓Zh,↓Zg,↓Zc,↓Zb,↓vdn,vup,Zn,Zl,Zo,Zi,Zj,List.map_cons,List.map_nil,cond_true,cond_false,aop,Zv,Zq,Zp,ev,sput,Zt,Zy,Ya,unK,Zd,Zw,Nat.reduceBEq,Nat.reduceAdd,Int.reduceBEq,Int.reduceBNe,Int.reduceLT,Zu,Zz,tup,tyf]
   exact ⟨by rw [Wy,e1,hx]; rfl,hE⟩
 | false =>
   simp (maxSteps:=2000000) only [s43,↓Za,↓Zk,↓Zr,↓Ze,↓Zm,↓Zs,↓Zf,↓Zh,↓Zg,↓Zc,↓Zb,↓vdn,vup,Zn,Zl,Zo,Zi,Zj,List.map_cons,List.map_nil,cond_true,cond_false,aop,Zv,Zq,Zp,ev,sput,Zt,Zy,Ya,unK,Zd,Zw,Nat.reduceBEq,Nat.reduceAdd,Int.reduceBEq,Int.reduceBNe,Int.reduceLT,Zu,Zz,tup,tyf,pidx0,pidx1,pl0 c6,pl1 c6,pl0 c7,pl1 c7,hv1.idx el_70 Vb hi,ldi,hwi.idx Wp Xk hl',hwi.load Yw hl',hx,hv1.idx el_70 Vb hk,ldk,hwk.idx Wp Xk hj',hwk.load Yw hj']
   refine hN2 [(0,v),(1,Zx x),(2,pV ((i:Int),(j:Int))),(3,pV ((k:Int),(l:Int))),(6,pt b6),(7,pt b7),(8,.bool ((t.getD k []).getD j 0 != x))] _ _ ?_ (by simp (maxSteps:=2000000) only [↓Za,↓Zk,↓Zr,↓Ze,↓Zm,↓Zs,↓Zf,↓Zh,↓Zg,↓Zc,↓Zb,↓vdn,vup,Zn,Zl,Zo,Zi,Zj,List.map_cons,List.map_nil,cond_true,cond_false,aop,Zv,Zq,Zp,ev,sput,Zt,Zy,Ya,unK,Zd,Zw,Nat.reduceBEq,Nat.reduceAdd,Int.reduceBEq,Int.reduceBNe,Int.reduceLT,Zu,Zz,tup,tyf])
   clear hN2
   try clear N2
   refine Yd ?_
   simp (maxSteps:=2000000) only [s43,↓Za,↓Zk,↓Zr,↓Ze,↓Zm,↓Zs,↓Zf,↓Zh,↓Zg,↓Zc,↓Zb,↓vdn,vup,Zn,Zl,Zo,Zi,Zj,List.map_cons,List.map_nil,cond_true,cond_false,aop,Zv,Zq,Zp,ev,sput,Zt,Zy,Ya,unK,Zd,Zw,Nat.reduceBEq,Nat.reduceAdd,Int.reduceBEq,Int.reduceBNe,Int.reduceLT,Zu,Zz,tup,tyf]
   exact ⟨by rw [Wy,e1,e2,hx]; rfl,hE⟩
theorem s42_callW [Tabs Tryd.prog] {args:List Value} {h:Yc} {Q:Value→Yc→Prop} (hsz:args.length≤16) (hk:AWS Tryd.prog 16 s42 (Zu Tryd.prog [.tmp 6] Q) (Zp 0 args) h):ACall Tryd.prog 42 args h Q :=
 Xg Tryd.func42 rfl (enters_of Tryd.func42 (by kernel_rfl) rfl) rfl rfl (by decide) s42_strip s42_ok hsz hk
theorem lit_call [Tabs prog] {h:Yc} {v av:Value} {t:List (List Int)} {al:List (Int×Int)} {x:Int} {b3 b6 b7 bi i:Nat} {p:Int×Int} (hv:TabS h v t) (ht:Tab t) (ha:PairSl h av al) (hi:i<al.length) (hal : ∀ p∈al,InT t p)
  (c3:h[b3]? = some (Blk.cells [Zx x] 3 false)) (c6:h[b6]? = some (Blk.cells [v] 70 false)) (c7:h[b7]? = some (Blk.cells [av] 26 false)) (ci:h[bi]? = some (Blk.cells [Zx (i:Nat)] 3 false)) (hp:p∈al) :
  ACall prog 42 [pV p,pt b6,pt b3,pt b7,pt bi] h fun r h'=>r = .bool (!Wy t x p (al.getD i (0,0)))∧Ext (fun _=>False) h h':=by
 refine s42_callW (by simp) ?_
 simp only [s42]
 refine Yb fun N3 hN3=>?_
 simp (maxSteps:=2000000) only [s42,↓Za,↓Zk,↓Zr,↓Ze,↓Zm,↓Zs,↓Zf,↓Zh,↓Zg,↓Zc,↓Zb,↓vdn,vup,Zn,Zl,Zo,Zi,Zj,List.map_cons,List.map_nil,cond_true,cond_false,aop,Zv,Zq,Zp,ev,sput,Zt,Zy,Ya,unK,Zd,Zw,Nat.reduceBEq,Nat.reduceAdd,Int.reduceBEq,Int.reduceBNe,Int.reduceLT,Zu,Zz,tup,tyf,boxP,Xd]
 have hE:Ext (fun _=>False) h (h++[Blk.cells [Zx p.1,Zx p.2] 28 false]):=Ext.app _ _ _
 have c5:=Yj h (Blk.cells [Zx p.1,Zx p.2] 28 false)
 have d3:=Xi c3 [Blk.cells [Zx p.1,Zx p.2] 28 false]
 have d6:=Xi c6 [Blk.cells [Zx p.1,Zx p.2] 28 false]
 have d7:=Xi c7 [Blk.cells [Zx p.1,Zx p.2] 28 false]
 have di:=Xi ci [Blk.cells [Zx p.1,Zx p.2] 28 false]
 have hv1:=hv.ext hE
 have ha1:=ha.ext hE
 generalize h++[Blk.cells [Zx p.1,Zx p.2] 28 false]=h1 at hE c5 d3 d6 d7 di hv1 ha1 ⊢
 generalize h.length=b5 at c5 ⊢
 refine hN3 [(0,pV p),(1,pt b6),(2,pt b3),(3,pt b7),(4,pt bi),(5,pt b5),(6,.bool false)] _ _ ?_ (by simp (maxSteps:=2000000) only [↓Za,↓Zk,↓Zr,↓Ze,↓Zm,↓Zs,↓Zf,↓Zh,↓Zg,↓Zc,↓Zb,↓vdn,vup,Zn,Zl,Zo,Zi,Zj,List.map_cons,List.map_nil,cond_true,cond_false,aop,Zv,Zq,Zp,ev,sput,Zt,Zy,Ya,unK,Zd,Zw,Nat.reduceBEq,Nat.reduceAdd,Int.reduceBEq,Int.reduceBNe,Int.reduceLT,Zu,Zz,tup,tyf])
 clear hN3
 try clear N3
 have hq:al.getD i (0,0)∈al:=by rw [List.getD,List.getElem?_eq_getElem hi]; exact List.getElem_mem hi
 refine Yb fun N4 hN4=>?_
 simp only [q42_1]
 refine Xv [(7,4)] (by kernel_rfl) (by kernel_rfl) (by kernel_rfl) (by kernel_rfl) ?_
 simp (maxSteps:=2000000) only [s42,↓Za,↓Zk,↓Zr,↓Ze,↓Zm,↓Zs,↓Zf,↓Zh,↓Zg,↓Zc,↓Zb,↓vdn,vup,Zn,Zl,Zo,Zi,Zj,List.map_cons,List.map_nil,cond_true,cond_false,aop,Zv,Zq,Zp,ev,sput,Zt,Zy,Ya,unK,Zd,Zw,Nat.reduceBEq,Nat.reduceAdd,Int.reduceBEq,Int.reduceBNe,Int.reduceLT,Zu,Zz,tup,tyf,Yz,List.nil_append,List.append_nil,List.toList_toArray,List.cons_append,Xa d6 shp_70,Xa d3 Yw,loadP c5,Xa d7 Vj,Xa di Yw,ha1.idx el_26 Vk hi,ha1.load shp_28 hi]
 refine (fooled_call hv1 ht (hal p hp) (hal _ hq)).mono ?_
 rintro _ h2 ⟨rfl,hE2⟩
 simp (maxSteps:=2000000) only [s42,↓Za,↓Zk,↓Zr,↓Ze,↓Zm,↓Zs,↓Zf,↓Zh,↓Zg,↓Zc,↓Zb,↓vdn,vup,Zn,Zl,Zo,Zi,Zj,List.map_cons,List.map_nil,cond_true,cond_false,aop,Zv,Zq,Zp,ev,sput,Zt,Zy,Ya,unK,Zd,Zw,Nat.reduceBEq,Nat.reduceAdd,Int.reduceBEq,Int.reduceBNe,Int.reduceLT,Zu,Zz,tup,tyf]
 refine hN4 [(0,pV p),(1,pt b6),(2,pt b3),(3,pt b7),(4,pt bi),(5,pt b5),(6,.bool (!Wy t x p (al.getD i (0,0))))] _ _ ?_ (by simp (maxSteps:=2000000) only [↓Za,↓Zk,↓Zr,↓Ze,↓Zm,↓Zs,↓Zf,↓Zh,↓Zg,↓Zc,↓Zb,↓vdn,vup,Zn,Zl,Zo,Zi,Zj,List.map_cons,List.map_nil,cond_true,cond_false,aop,Zv,Zq,Zp,ev,sput,Zt,Zy,Ya,unK,Zd,Zw,Nat.reduceBEq,Nat.reduceAdd,Int.reduceBEq,Int.reduceBNe,Int.reduceLT,Zu,Zz,tup,tyf])
 clear hN4
 try clear N4
 refine Yd ?_
 simp (maxSteps:=2000000) only [s42,↓Za,↓Zk,↓Zr,↓Ze,↓Zm,↓Zs,↓Zf,↓Zh,↓Zg,↓Zc,↓Zb,↓vdn,vup,Zn,Zl,Zo,Zi,Zj,List.map_cons,List.map_nil,cond_true,cond_false,aop,Zv,Zq,Zp,ev,sput,Zt,Zy,Ya,unK,Zd,Zw,Nat.reduceBEq,Nat.reduceAdd,Int.reduceBEq,Int.reduceBNe,Int.reduceLT,Zu,Zz,tup,tyf]
 exact hE.trans hE2
theorem s41_callW [Tabs Tryd.prog] {args:List Value} {h:Yc} {Q:Value→Yc→Prop} (hsz:args.length≤9) (hk:AWS Tryd.prog 9 s41 (Zu Tryd.prog [.tmp 4] Q) (Zp 0 args) h):ACall Tryd.prog 41 args h Q :=
 Xg Tryd.func41 rfl (enters_of Tryd.func41 (by kernel_rfl) rfl) rfl rfl (by decide) s41_strip s41_ok hsz hk
theorem containsP_call [Tabs prog] {h:Yc} {v:Value} {ps:List (Int×Int)} {fn:FuncId} {cap:Array Value} (hl:ps.length<9223372036854775808) (f:Int×Int→Bool) (I:Yc→Prop) (hI : ∀ hp,I hp→PairSl hp v ps)
  (step : ∀ p∈ps,∀ hp,I hp→ACall prog fn (([]:List Value)++[pV p]++cap.toList) hp fun r h2=>r = .bool (f p)∧I h2) (h0:I h) :
  ACall prog 41 [v,.func (.func fn) #[] cap] h fun r h'=>r = .bool (ps.any f)∧I h':=by
 have hget : ∀ k,k<ps.length→ps.getD k (0,0)∈ps:=fun k hk=>by rw [List.getD,List.getElem?_eq_getElem hk]; exact List.getElem_mem hk
 refine s41_callW (by simp) ?_
 simp only [s41]
 refine Yb fun N5 hN5=>?_
 simp (maxSteps:=2000000) only [s41,↓Za,↓Zk,↓Zr,↓Ze,↓Zm,↓Zs,↓Zf,↓Zh,↓Zg,↓Zc,↓Zb,↓vdn,vup,Zn,Zl,Zo,Zi,Zj,List.map_cons,List.map_nil,cond_true,cond_false,aop,Zv,Zq,Zp,ev,sput,Zt,Zy,Ya,unK,Zd,Zw,Nat.reduceBEq,Nat.reduceAdd,Int.reduceBEq,Int.reduceBNe,Int.reduceLT,Zu,Zz,tup,tyf]
 refine hN5 [(0,v),(1,.func (.func fn) #[] cap),(4,.bool false)] _ _ ?_ (by simp (maxSteps:=2000000) only [↓Za,↓Zk,↓Zr,↓Ze,↓Zm,↓Zs,↓Zf,↓Zh,↓Zg,↓Zc,↓Zb,↓vdn,vup,Zn,Zl,Zo,Zi,Zj,List.map_cons,List.map_nil,cond_true,cond_false,aop,Zv,Zq,Zp,ev,sput,Zt,Zy,Ya,unK,Zd,Zw,Nat.reduceBEq,Nat.reduceAdd,Int.reduceBEq,Int.reduceBNe,Int.reduceLT,Zu,Zz,tup,tyf])
 clear hN5
 try clear N5
 refine Yd ?_
 have hs:=Or.indexP_call (h:=h) (v:=v) (fn:=fn) (cap:=cap) hl (fun k hp=>I hp∧∀ j,j<k→f (ps.getD j (0,0))=false) (fun k hp=>I hp∧f (ps.getD k (0,0))=true) (fun k hp hi=>hI hp hi.1) (fun k hk hp hi=>(step _ (hget k hk) hp hi.1).mono fun r h2 hh=>⟨_,hh.1,fun hb=>⟨hh.2,hb⟩,fun hb=>⟨hh.2,fun j hj=>if h1:j<k then hi.2 j h1 else (show k=j by omega)▸hb⟩⟩) ⟨h0,fun j hj=>absurd hj (Nat.not_lt_zero j)⟩
 simp (maxSteps:=2000000) only [s41,↓Za,↓Zk,↓Zr,↓Ze,↓Zm,↓Zs,↓Zf,↓Zh,↓Zg,↓Zc,↓Zb,↓vdn,vup,Zn,Zl,Zo,Zi,Zj,List.map_cons,List.map_nil,cond_true,cond_false,aop,Zv,Zq,Zp,ev,sput,Zt,Zy,Ya,unK,Zd,Zw,Nat.reduceBEq,Nat.reduceAdd,Int.reduceBEq,Int.reduceBNe,Int.reduceLT,Zu,Zz,tup,tyf,Yz,List.nil_append,List.append_nil,List.toList_toArray,List.cons_append]
 refine (hs).mono ?_
 rintro r h' hr
 rcases hr with ⟨k,hk,rfl,hI1,hf⟩ | ⟨rfl,hI1,hf⟩
 · simp (maxSteps:=2000000) only [s41,↓Za,↓Zk,↓Zr,↓Ze,↓Zm,↓Zs,↓Zf,↓Zh,↓Zg,↓Zc,↓Zb,↓vdn,vup,Zn,Zl,Zo,Zi,Zj,List.map_cons,List.map_nil,cond_true,cond_false,aop,Zv,Zq,Zp,ev,sput,Zt,Zy,Ya,unK,Zd,Zw,Nat.reduceBEq,Nat.reduceAdd,Int.reduceBEq,Int.reduceBNe,Int.reduceLT,Zu,Zz,tup,tyf,show decide (((k:Nat):Int)≥0)=true from decide_eq_true (by omega)]
   exact ⟨by rw [show ps.any f=true from List.any_eq_true.2 ⟨_,hget k hk,hf⟩],hI1⟩
 · simp (maxSteps:=2000000) only [s41,↓Za,↓Zk,↓Zr,↓Ze,↓Zm,↓Zs,↓Zf,↓Zh,↓Zg,↓Zc,↓Zb,↓vdn,vup,Zn,Zl,Zo,Zi,Zj,List.map_cons,List.map_nil,cond_true,cond_false,aop,Zv,Zq,Zp,ev,sput,Zt,Zy,Ya,unK,Zd,Zw,Nat.reduceBEq,Nat.reduceAdd,Int.reduceBEq,Int.reduceBNe,Int.reduceLT,Zu,Zz,tup,tyf,show decide ((-1:Int)≥0)=false from rfl]
   refine ⟨?_,hI1⟩
   rw [show ps.any f=false from ?_]
   rw [List.any_eq_false]
   intro p hp
   obtain ⟨j,hj,rfl⟩:=List.mem_iff_getElem.1 hp
   have:=hf j hj
   rw [List.getD,List.getElem?_eq_getElem hj,Option.getD_some] at this
   rw [this]; decide
theorem lit0P {h:Yc} {K:Value→Yc→Prop}:Yx prog h 26 0 [] K=K (.slice (some ⟨h.length,0,none⟩) 0 0) (h++[.ints [] 28 false]):=by
 simp only [Yx,el_26,zero_28,Vk,reps,fillL,mkb,Xf,List.length_cons,List.length_nil,Nat.mul_one,Nat.zero_mul]
 exact propext ⟨fun h=>h.2.2.2,fun h=>⟨trivial,by decide,by decide,h⟩⟩
theorem clone_call [Tabs prog] {h:Yc} {v:Value} {ps:List (Int×Int)} (hv:PairSl h v ps) (hx:ps≠[]) (hl:ps.length<1099511627776):ACall prog 40 [v] h fun r h'=>EN 28 h h' r ps:=by
 refine s40_call (by simp) ?_
 have hv':=hv
 rcases hv with ⟨rfl,rfl⟩ | ⟨b,o,sp,cap,c,e,ro,rfl,hc,hb,_⟩
 · exact absurd rfl hx
 · simp (maxSteps:=2000000) only [s40,↓Za,↓Zk,↓Zr,↓Ze,↓Zm,↓Zs,↓Zf,↓Zh,↓Zg,↓Zc,↓Zb,↓vdn,vup,Zn,Zl,Zo,Zi,Zj,List.map_cons,List.map_nil,cond_true,cond_false,aop,Zv,Zq,Zp,ev,sput,Zt,Zy,Ya,unK,Zd,Zw,Nat.reduceBEq,Nat.reduceAdd,Int.reduceBEq,Int.reduceBNe,Int.reduceLT,Zu,Zz,tup,tyf,Option.isSome_some,List.toList_toArray,lit0P]
   refine (hv'.grow [.ints [] 28 false]).copyO hx app_26_26 hl (Yj _ _) ?_
   intro r g hr hb
   exact ⟨hr,by rw [List.append_assoc]; exact Ext.app _ _ _,fun b' hb'=>by rw [hb] at hb'; cases hb'; rw [List.length_append]; omega⟩
theorem OwnP_cut {P:Program} {e:TypeId} {h:Yc} {v:Value} {ps:List (Int×Int)} {x:Int×Int} {t:TypeId} (ho:OwnP e h v (ps++[x])) (he:elemOf' P t=some e) (hs:esz P e=some 2) {K:Value→Prop} (hk : ∀ v',OwnP e h v' ps→Yk v' = Yk v→K v'):Xs P t v none (some (Zx ps.length)) none K:=by
 rcases ho with ⟨rfl,h2⟩ | ⟨b,ys,rfl,hb⟩
 · simp at h2
 · simp only [Xs,he,hs,bnd,List.length_append,List.length_singleton]
   refine ⟨by omega,by omega,by omega,fun h=>(by cases h),fun _=>.inl ⟨rfl,hk _ (.inr ⟨b,x::ys,by simp; omega,by rw [hb,flatP_app]; simp [Yn]⟩) rfl⟩⟩
end Go.Proofs.Tryd.Am.Tf
namespace Go.Proofs.Tryd.Am
open Go.Am
set_option maxRecDepth 100000
/-! 11: planchet talk.Cover -/
@[reducible] def q11_0:SCode:=.region [⟨some 4,.assign (.const (.slice none 0 0)),none⟩,
  ⟨some 5,.assign (.const (.int .i64 0)),none⟩]
@[reducible] def q11_1:SCode:=.region [⟨some 14,.move (.tmp 0),none⟩,
  ⟨some 6,.assign (.tmp 14),none⟩]
@[reducible] def q11_2:SCode:=.region [⟨some 15,.move (.tmp 6),none⟩,
  ⟨some 16,.move (.tmp 1),none⟩,
  ⟨some 17,.call { callee:=.value (.func 37),args:=#[.tmp 15,.tmp 16],argTypes:=#[70,3] },none⟩,
  ⟨some 18,.unOp .not 4 (.tmp 17),none⟩]
@[reducible] def q11_3:SCode:=.region [⟨some 4,.assign (.const (.slice none 0 0)),none⟩,
  ⟨some 5,.assign (.const (.int .i64 2)),none⟩]
@[reducible] def q11_4:SCode:=.region [⟨some 19,.move (.tmp 6),none⟩,
  ⟨some 20,.move (.tmp 1),none⟩,
  ⟨some 21,.call { callee:=.value (.func 44),args:=#[.tmp 19,.tmp 20],argTypes:=#[70,3] },none⟩,
  ⟨some 7,.alloc 77,none⟩,
  ⟨none,.store 77 (.tmp 7) (.tmp 21),none⟩]
@[reducible] def q11_5:SCode:=.region [⟨some 8,.alloc 77,none⟩]
@[reducible] def q11_6:SCode:=.region [⟨some 9,.alloc 79,none⟩]
@[reducible] def q11_7:SCode:=.region [⟨some 22,.makeFunc (.func 45) #[] #[.tmp 7,.tmp 8,.tmp 9],none⟩,
  ⟨none,.store 79 (.tmp 9) (.tmp 22),none⟩]
@[reducible] def q11_8:SCode:=.region [⟨some 10,.assign (.const (.int .i64 0)),none⟩]
def q11_9:SCode:=.draw [⟨some 23,.load 79 (.tmp 9),none⟩,
    ⟨some 24,.move (.tmp 6),none⟩,
    ⟨some 25,.move (.tmp 1),none⟩,
    ⟨some 26,.call { callee:=.value (.func 38),args:=#[.tmp 24,.tmp 25],argTypes:=#[70,3] },none⟩,
    ⟨some 27,.move (.tmp 10),none⟩,
    ⟨some 28,.call { callee:=.value (.tmp 23),args:=#[.tmp 26,.tmp 27],argTypes:=#[26,3] },none⟩,
    ⟨some 29,.unOp .not 4 (.tmp 28),none⟩]
  [[],[],[],[1,2],[],[0,3,4,3],[5]]
@[reducible] def q11_10:SCode:=.region [⟨some 30,.move (.tmp 10),none⟩,
  ⟨some 31,.binOp .add 3 (.tmp 30) (.const (.int .i64 1)) 3,none⟩,
  ⟨some 10,.assign (.tmp 31),none⟩]
def l11_0:SCode:=(.seq (.seq q11_9 (.cond (.tmp 29) .skip (.exit 0))) (.block 1 q11_10))
@[reducible] def q11_11:SCode:=.region [⟨some 11,.assign (.const (.slice none 0 0)),none⟩]
@[reducible] def q11_12:SCode:=.region [⟨some 32,.load 77 (.tmp 8),none⟩,
  ⟨some 33,.call { callee:=.builtin .len,args:=#[.tmp 32],argTypes:=#[77] },none⟩,
  ⟨some 34,.move (.const (.int .i64 0)),none⟩]
@[reducible] def q11_13:SCode:=.region [⟨some 35,.binOp .lss 3 (.tmp 34) (.tmp 33) 3,none⟩]
@[reducible] def q11_14:SCode:=.region [⟨some 36,.indexAddr 77 (.tmp 32) (.tmp 34),none⟩,
  ⟨some 37,.load 81 (.tmp 36),none⟩,
  ⟨some 13,.alloc 81,none⟩,
  ⟨none,.store 81 (.tmp 13) (.tmp 37),none⟩]
@[reducible] def q11_15:SCode:=.region [⟨some 38,.move (.tmp 11),none⟩,
  ⟨some 39,.fieldAddr 81 (.tmp 13) 0,none⟩,
  ⟨some 40,.load 3 (.tmp 39),none⟩,
  ⟨some 41,.fieldAddr 81 (.tmp 13) 1,none⟩,
  ⟨some 42,.load 3 (.tmp 41),none⟩,
  ⟨some 43,.build 28 #[(0,.tmp 40),(1,.tmp 42)],none⟩,
  ⟨some 44,.buildSlice 26 1 #[(0,.tmp 43)],none⟩,
  ⟨some 45,.call { callee:=.builtin .append,args:=#[.tmp 38,.tmp 44],argTypes:=#[26,26] },none⟩,
  ⟨some 11,.assign (.tmp 45),none⟩]
@[reducible] def q11_16:SCode:=.region [⟨some 46,.binOp .add 3 (.tmp 34) (.const (.int .i64 1)) 3,none⟩,
  ⟨some 34,.move (.tmp 46),none⟩]
def l11_1:SCode:=(.seq q11_13 (.seq (.cond (.tmp 35) .skip (.exit 2)) (.seq (.block 3 (.seq q11_14 q11_15)) q11_16)))
@[reducible] def q11_17:SCode:=.region [⟨some 47,.move (.tmp 11),none⟩,
  ⟨some 4,.assign (.tmp 47),none⟩,
  ⟨some 5,.assign (.const (.int .i64 0)),none⟩]
def s11:SCode:=(.seq q11_0 (.seq q11_1 (.seq (.seq q11_2 (.cond (.tmp 18) (.seq q11_3 .ret) .skip)) (.seq q11_4 (.seq q11_5 (.seq q11_6 (.seq q11_7 (.seq (.seq q11_8 (.block 0 (.loop l11_0))) (.seq q11_11 (.seq (.seq q11_12 (.block 2 (.loop l11_1))) (.seq q11_17 .ret)))))))))))
theorem s11_strip:Yi (Yg Tryd.f11)=s11:=by kernel_rfl
theorem s11_ok:Yu 48 (Yg Tryd.f11)=true:=by kernel_rfl
/-! 44: (planchet talk.table).greatest -/
@[reducible] def q44_0:SCode:=.region [⟨some 2,.box 70 (.tmp 0),none⟩,
  ⟨some 3,.box 3 (.tmp 1),none⟩,
  ⟨some 4,.assign (.const (.slice none 0 0)),none⟩]
@[reducible] def q44_1:SCode:=.region [⟨some 5,.alloc 77,none⟩,
  ⟨some 6,.assign (.const (.slice none 0 0)),none⟩]
@[reducible] def q44_2:SCode:=.region [⟨some 12,.load 70 (.tmp 2),none⟩,
  ⟨some 13,.makeFunc (.func 92) #[.tmp 12] #[],none⟩]
@[reducible] def q44_3:SCode:=.region [⟨some 7,.alloc 81,none⟩,
  ⟨none,.store 81 (.tmp 7) (.tmp 14),none⟩]
@[reducible] def q44_4:SCode:=.region [⟨some 16,.load 70 (.tmp 2),none⟩,
  ⟨some 17,.load 81 (.tmp 7),none⟩,
  ⟨some 18,.call { callee:=.value (.func 93),args:=#[.tmp 16,.tmp 17],argTypes:=#[70,81] },none⟩,
  ⟨some 15,.move (.tmp 18),none⟩,
  ⟨some 19,.extract (.tmp 15) 0,none⟩,
  ⟨some 20,.extract (.tmp 15) 1,none⟩,
  ⟨some 8,.assign (.tmp 19),none⟩,
  ⟨some 9,.assign (.tmp 20),none⟩]
@[reducible] def q44_5:SCode:=.region [⟨some 21,.move (.tmp 9),none⟩,
  ⟨some 22,.move (.tmp 21),none⟩,
  ⟨some 23,.move (.tmp 8),some (22,true)⟩,
  ⟨some 24,.load 3 (.tmp 3),some (22,true)⟩,
  ⟨some 25,.binOp .eql 3 (.tmp 23) (.tmp 24) 3,some (22,true)⟩,
  ⟨some 26,.pick (.tmp 22) (.tmp 25) (.const (.bool false)),none⟩]
@[reducible] def q44_6:SCode:=.region [⟨some 27,.load 77 (.tmp 5),none⟩,
  ⟨some 28,.load 81 (.tmp 7),none⟩,
  ⟨some 29,.buildSlice 77 1 #[(0,.tmp 28)],none⟩,
  ⟨some 30,.call { callee:=.builtin .append,args:=#[.tmp 27,.tmp 29],argTypes:=#[77,77] },none⟩,
  ⟨none,.store 77 (.tmp 5) (.tmp 30),none⟩]
def r44_0_a:SCode:=q44_3
def r44_0_b:SCode:=(.block 1 (.seq q44_4 (.seq q44_5 (.cond (.tmp 26) q44_6 .skip))))
@[reducible] def q44_7:SCode:=.region [⟨some 31,.load 77 (.tmp 5),none⟩,
  ⟨some 32,.call { callee:=.builtin .len,args:=#[.tmp 31],argTypes:=#[77] },none⟩,
  ⟨some 33,.move (.const (.int .i64 0)),none⟩]
@[reducible] def q44_8:SCode:=.region [⟨some 34,.binOp .lss 3 (.tmp 33) (.tmp 32) 3,none⟩]
@[reducible] def q44_9:SCode:=.region [⟨some 35,.indexAddr 77 (.tmp 31) (.tmp 33),none⟩,
  ⟨some 36,.load 81 (.tmp 35),none⟩,
  ⟨some 11,.alloc 81,none⟩,
  ⟨none,.store 81 (.tmp 11) (.tmp 36),none⟩]
@[reducible] def q44_10:SCode:=.region [⟨some 37,.load 77 (.tmp 5),none⟩,
  ⟨some 38,.makeFunc (.func 95) #[] #[.tmp 11],none⟩,
  ⟨some 39,.call { callee:=.value (.func 94),args:=#[.tmp 37,.tmp 38],argTypes:=#[77,141] },none⟩,
  ⟨some 40,.unOp .not 4 (.tmp 39),none⟩]
@[reducible] def q44_11:SCode:=.region [⟨some 41,.move (.tmp 6),none⟩,
  ⟨some 42,.load 81 (.tmp 11),none⟩,
  ⟨some 43,.buildSlice 77 1 #[(0,.tmp 42)],none⟩,
  ⟨some 44,.call { callee:=.builtin .append,args:=#[.tmp 41,.tmp 43],argTypes:=#[77,77] },none⟩,
  ⟨some 6,.assign (.tmp 44),none⟩]
@[reducible] def q44_12:SCode:=.region [⟨some 45,.binOp .add 3 (.tmp 33) (.const (.int .i64 1)) 3,none⟩,
  ⟨some 33,.move (.tmp 45),none⟩]
def l44_1:SCode:=(.seq q44_8 (.seq (.cond (.tmp 34) .skip (.exit 2)) (.seq (.block 3 (.seq q44_9 (.seq q44_10 (.cond (.tmp 40) q44_11 .skip)))) q44_12)))
@[reducible] def q44_13:SCode:=.region [⟨some 46,.move (.tmp 6),none⟩,
  ⟨some 4,.assign (.tmp 46),none⟩]
def s44:SCode:=(.seq q44_0 (.seq q44_1 (.seq (.seq q44_2 (.block 0 (.range (.tmp 13) [14] r44_0_a r44_0_b))) (.seq (.seq q44_7 (.block 2 (.loop l44_1))) (.seq q44_13 .ret)))))
theorem s44_strip:Yi (Yg Tryd.f44)=s44:=by kernel_rfl
theorem s44_ok:Yu 47 (Yg Tryd.f44)=true:=by kernel_rfl
/-! 45: planchet talk.Cover$1 -/
@[reducible] def q45_0:SCode:=.region [⟨some 7,.assign (.const (.bool false)),none⟩]
@[reducible] def q45_1:SCode:=.region [⟨some 10,.move (.tmp 0),none⟩,
  ⟨some 11,.call { callee:=.builtin .len,args:=#[.tmp 10],argTypes:=#[26] },none⟩,
  ⟨some 12,.binOp .eql 3 (.tmp 11) (.const (.int .i64 0)) 3,none⟩]
@[reducible] def q45_2:SCode:=.region [⟨some 7,.assign (.const (.bool true)),none⟩]
@[reducible] def q45_3:SCode:=.region [⟨some 13,.move (.tmp 1),none⟩,
  ⟨some 14,.binOp .eql 3 (.tmp 13) (.const (.int .i64 0)) 3,none⟩]
@[reducible] def q45_4:SCode:=.region [⟨some 7,.assign (.const (.bool false)),none⟩]
@[reducible] def q45_5:SCode:=.region [⟨some 15,.load 77 (.tmp 2),none⟩,
  ⟨some 16,.call { callee:=.builtin .len,args:=#[.tmp 15],argTypes:=#[77] },none⟩,
  ⟨some 17,.move (.const (.int .i64 0)),none⟩]
@[reducible] def q45_6:SCode:=.region [⟨some 18,.binOp .lss 3 (.tmp 17) (.tmp 16) 3,none⟩]
@[reducible] def q45_7:SCode:=.region [⟨some 19,.indexAddr 77 (.tmp 15) (.tmp 17),none⟩,
  ⟨some 20,.load 81 (.tmp 19),none⟩,
  ⟨some 9,.alloc 81,none⟩,
  ⟨none,.store 81 (.tmp 9) (.tmp 20),none⟩]
def q45_8:SCode:=.draw [⟨some 21,.load 81 (.tmp 9),none⟩,
    ⟨some 22,.move (.tmp 0),none⟩,
    ⟨some 23,.indexAddr 26 (.tmp 22) (.const (.int .i64 0)),none⟩,
    ⟨some 24,.indexAddr 28 (.tmp 23) (.const (.int .i64 0)),none⟩,
    ⟨some 25,.load 3 (.tmp 24),none⟩,
    ⟨some 26,.move (.tmp 0),none⟩,
    ⟨some 27,.indexAddr 26 (.tmp 26) (.const (.int .i64 0)),none⟩,
    ⟨some 28,.indexAddr 28 (.tmp 27) (.const (.int .i64 1)),none⟩,
    ⟨some 29,.load 3 (.tmp 28),none⟩,
    ⟨some 30,.call { callee:=.value (.func 46),args:=#[.tmp 21,.tmp 25,.tmp 29],argTypes:=#[81,3,3] },none⟩,
    ⟨some 31,.unOp .not 4 (.tmp 30),none⟩]
  [[],[],[1],[2],[3],[],[5],[6],[7],[0,4,8],[9]]
@[reducible] def q45_9:SCode:=.region [⟨some 32,.load 77 (.tmp 3),none⟩,
  ⟨some 33,.load 81 (.tmp 9),none⟩,
  ⟨some 34,.buildSlice 77 1 #[(0,.tmp 33)],none⟩,
  ⟨some 35,.call { callee:=.builtin .append,args:=#[.tmp 32,.tmp 34],argTypes:=#[77,77] },none⟩,
  ⟨none,.store 77 (.tmp 3) (.tmp 35),none⟩]
def q45_10:SCode:=.draw [⟨some 36,.load 79 (.tmp 4),none⟩,
    ⟨some 37,.move (.tmp 0),none⟩,
    ⟨some 38,.call { callee:=.value (.func 40),args:=#[.tmp 37],argTypes:=#[26] },none⟩,
    ⟨some 39,.makeFunc (.func 48) #[] #[.tmp 9],none⟩,
    ⟨some 40,.call { callee:=.value (.func 47),args:=#[.tmp 38,.tmp 39],argTypes:=#[26,76] },none⟩,
    ⟨some 41,.move (.tmp 1),none⟩,
    ⟨some 42,.binOp .sub 3 (.tmp 41) (.const (.int .i64 1)) 3,none⟩,
    ⟨some 43,.call { callee:=.value (.tmp 36),args:=#[.tmp 40,.tmp 42],argTypes:=#[26,3] },none⟩]
  [[],[],[1],[],[2,3,2],[],[5],[0,4,6,4]]
@[reducible] def q45_11:SCode:=.region [⟨some 7,.assign (.const (.bool true)),none⟩]
@[reducible] def q45_12:SCode:=.region [⟨some 44,.load 77 (.tmp 3),none⟩,
  ⟨some 45,.load 77 (.tmp 3),none⟩,
  ⟨some 46,.call { callee:=.builtin .len,args:=#[.tmp 45],argTypes:=#[77] },none⟩,
  ⟨some 47,.binOp .sub 3 (.tmp 46) (.const (.int .i64 1)) 3,none⟩,
  ⟨some 48,.slice 77 (.tmp 44) none (some (.tmp 47)) none,none⟩,
  ⟨none,.store 77 (.tmp 3) (.tmp 48),none⟩]
@[reducible] def q45_13:SCode:=.region [⟨some 49,.binOp .add 3 (.tmp 17) (.const (.int .i64 1)) 3,none⟩,
  ⟨some 17,.move (.tmp 49),none⟩]
def l45_0:SCode:=(.seq q45_6 (.seq (.cond (.tmp 18) .skip (.exit 0)) (.seq (.block 1 (.seq q45_7 (.seq (.seq q45_8 (.cond (.tmp 31) (.exit 1) .skip)) (.seq q45_9 (.seq (.seq q45_10 (.cond (.tmp 43) (.seq q45_11 .ret) .skip)) q45_12))))) q45_13)))
@[reducible] def q45_14:SCode:=.region [⟨some 7,.assign (.const (.bool false)),none⟩]
def s45:SCode:=(.seq q45_0 (.seq (.seq q45_1 (.cond (.tmp 12) (.seq q45_2 .ret) .skip)) (.seq (.seq q45_3 (.cond (.tmp 14) (.seq q45_4 .ret) .skip)) (.seq (.seq q45_5 (.block 0 (.loop l45_0))) (.seq q45_14 .ret)))))
theorem s45_strip:Yi (Yg Tryd.f45)=s45:=by kernel_rfl
theorem s45_ok:Yu 50 (Yg Tryd.f45)=true:=by kernel_rfl
/-! 46: (planchet talk.rectangle).has -/
@[reducible] def q46_0:SCode:=.region [⟨some 3,.box 81 (.tmp 0),none⟩,
  ⟨some 6,.assign (.const (.bool false)),none⟩]
@[reducible] def q46_1:SCode:=.region [⟨some 7,.fieldAddr 81 (.tmp 3) 0,none⟩,
  ⟨some 8,.load 3 (.tmp 7),none⟩,
  ⟨some 9,.move (.tmp 1),none⟩,
  ⟨some 10,.binOp .shr 3 (.tmp 8) (.tmp 9) 3,none⟩,
  ⟨some 11,.binOp .and 3 (.tmp 10) (.const (.int .i64 1)) 3,none⟩,
  ⟨some 12,.binOp .eql 3 (.tmp 11) (.const (.int .i64 1)) 3,none⟩,
  ⟨some 13,.move (.tmp 12),none⟩,
  ⟨some 14,.fieldAddr 81 (.tmp 3) 1,some (13,true)⟩,
  ⟨some 15,.load 3 (.tmp 14),some (13,true)⟩,
  ⟨some 16,.move (.tmp 2),some (13,true)⟩,
  ⟨some 17,.binOp .shr 3 (.tmp 15) (.tmp 16) 3,some (13,true)⟩,
  ⟨some 18,.binOp .and 3 (.tmp 17) (.const (.int .i64 1)) 3,some (13,true)⟩,
  ⟨some 19,.binOp .eql 3 (.tmp 18) (.const (.int .i64 1)) 3,some (13,true)⟩,
  ⟨some 20,.pick (.tmp 13) (.tmp 19) (.const (.bool false)),none⟩,
  ⟨some 6,.assign (.tmp 20),none⟩]
def s46:SCode:=(.seq q46_0 (.seq q46_1 .ret))
theorem s46_strip:Yi (Yg Tryd.f46)=s46:=by kernel_rfl
theorem s46_ok:Yu 21 (Yg Tryd.f46)=true:=by kernel_rfl
/-! 47: slices.DeleteFunc[[][2]int,[2]int] -/
@[reducible] def q47_0:SCode:=.region [⟨some 4,.assign (.const (.slice none 0 0)),none⟩]
@[reducible] def q47_1:SCode:=.region [⟨some 8,.move (.tmp 0),none⟩,
  ⟨some 9,.move (.tmp 1),none⟩,
  ⟨some 10,.call { callee:=.value (.func 91),args:=#[.tmp 8,.tmp 9],argTypes:=#[26,76] },none⟩,
  ⟨some 5,.assign (.tmp 10),none⟩]
@[reducible] def q47_2:SCode:=.region [⟨some 11,.move (.tmp 5),none⟩,
  ⟨some 12,.binOp .eql 3 (.tmp 11) (.const (.int .i64 (-1))) 3,none⟩]
@[reducible] def q47_3:SCode:=.region [⟨some 13,.move (.tmp 0),none⟩,
  ⟨some 4,.assign (.tmp 13),none⟩]
@[reducible] def q47_4:SCode:=.region [⟨some 14,.move (.tmp 5),none⟩,
  ⟨some 15,.binOp .add 3 (.tmp 14) (.const (.int .i64 1)) 3,none⟩,
  ⟨some 6,.assign (.tmp 15),none⟩]
@[reducible] def q47_5:SCode:=.region [⟨some 16,.move (.tmp 6),none⟩,
  ⟨some 17,.move (.tmp 0),none⟩,
  ⟨some 18,.call { callee:=.builtin .len,args:=#[.tmp 17],argTypes:=#[26] },none⟩,
  ⟨some 19,.binOp .lss 3 (.tmp 16) (.tmp 18) 3,none⟩]
@[reducible] def q47_7:SCode:=.region [⟨some 22,.move (.tmp 0),none⟩,
  ⟨some 23,.move (.tmp 6),none⟩,
  ⟨some 24,.indexAddr 26 (.tmp 22) (.tmp 23),none⟩,
  ⟨some 25,.load 28 (.tmp 24),none⟩,
  ⟨some 7,.alloc 28,none⟩,
  ⟨none,.store 28 (.tmp 7) (.tmp 25),none⟩]
@[reducible] def q47_8:SCode:=.region [⟨some 26,.move (.tmp 1),none⟩,
  ⟨some 27,.load 28 (.tmp 7),none⟩,
  ⟨some 28,.call { callee:=.value (.tmp 26),args:=#[.tmp 27],argTypes:=#[28] },none⟩,
  ⟨some 29,.unOp .not 4 (.tmp 28),none⟩]
@[reducible] def q47_9:SCode:=.region [⟨some 30,.move (.tmp 0),none⟩,
  ⟨some 31,.move (.tmp 5),none⟩,
  ⟨some 32,.load 28 (.tmp 7),none⟩,
  ⟨some 33,.indexAddr 26 (.tmp 30) (.tmp 31),none⟩,
  ⟨none,.store 28 (.tmp 33) (.tmp 32),none⟩]
@[reducible] def q47_10:SCode:=.region [⟨some 34,.move (.tmp 5),none⟩,
  ⟨some 35,.binOp .add 3 (.tmp 34) (.const (.int .i64 1)) 3,none⟩,
  ⟨some 5,.assign (.tmp 35),none⟩]
@[reducible] def q47_6:SCode:=.region [⟨some 20,.move (.tmp 6),none⟩,
  ⟨some 21,.binOp .add 3 (.tmp 20) (.const (.int .i64 1)) 3,none⟩,
  ⟨some 6,.assign (.tmp 21),none⟩]
def l47_0:SCode:=(.seq (.seq q47_5 (.cond (.tmp 19) .skip (.exit 0))) (.seq (.block 1 (.seq q47_7 (.seq q47_8 (.cond (.tmp 29) (.seq q47_9 q47_10) .skip)))) q47_6))
@[reducible] def q47_11:SCode:=.region [⟨some 36,.move (.tmp 0),none⟩,
  ⟨some 37,.move (.tmp 5),none⟩,
  ⟨some 38,.slice 26 (.tmp 36) (some (.tmp 37)) none none,none⟩,
  ⟨none,.call { callee:=.builtin .clear,args:=#[.tmp 38],argTypes:=#[26] },none⟩]
@[reducible] def q47_12:SCode:=.region [⟨some 39,.move (.tmp 0),none⟩,
  ⟨some 40,.move (.tmp 5),none⟩,
  ⟨some 41,.slice 26 (.tmp 39) none (some (.tmp 40)) none,none⟩,
  ⟨some 4,.assign (.tmp 41),none⟩]
def s47:SCode:=(.seq q47_0 (.seq q47_1 (.seq (.seq q47_2 (.cond (.tmp 12) (.seq q47_3 .ret) .skip)) (.seq (.seq q47_4 (.block 0 (.loop l47_0))) (.seq q47_11 (.seq q47_12 .ret))))))
theorem s47_strip:Yi (Yg Tryd.f47)=s47:=by kernel_rfl
theorem s47_ok:Yu 42 (Yg Tryd.f47)=true:=by kernel_rfl
/-! 48: planchet talk.Cover$1$1 -/
@[reducible] def q48_0:SCode:=.region [⟨some 2,.box 28 (.tmp 0),none⟩,
  ⟨some 3,.assign (.const (.bool false)),none⟩]
@[reducible] def q48_1:SCode:=.region [⟨some 4,.load 81 (.tmp 1),none⟩,
  ⟨some 5,.indexAddr 28 (.tmp 2) (.const (.int .i64 0)),none⟩,
  ⟨some 6,.load 3 (.tmp 5),none⟩,
  ⟨some 7,.indexAddr 28 (.tmp 2) (.const (.int .i64 1)),none⟩,
  ⟨some 8,.load 3 (.tmp 7),none⟩,
  ⟨some 9,.call { callee:=.value (.func 46),args:=#[.tmp 4,.tmp 6,.tmp 8],argTypes:=#[81,3,3] },none⟩,
  ⟨some 3,.assign (.tmp 9),none⟩]
def s48:SCode:=(.seq q48_0 (.seq q48_1 .ret))
theorem s48_strip:Yi (Yg Tryd.f48)=s48:=by kernel_rfl
theorem s48_ok:Yu 10 (Yg Tryd.f48)=true:=by kernel_rfl
/-! 93: (planchet talk.table).clear -/
@[reducible] def q93_0:SCode:=.region [⟨some 3,.box 81 (.tmp 1),none⟩,
  ⟨some 4,.assign (.const (.int .i64 0)),none⟩,
  ⟨some 5,.assign (.const (.bool false)),none⟩]
@[reducible] def q93_1:SCode:=.region [⟨some 4,.assign (.const (.int .i64 (-1))),none⟩]
@[reducible] def q93_2:SCode:=.region [⟨some 10,.move (.tmp 0),none⟩,
  ⟨some 11,.call { callee:=.builtin .len,args:=#[.tmp 10],argTypes:=#[70] },none⟩,
  ⟨some 12,.move (.const (.int .i64 0)),none⟩]
@[reducible] def q93_3:SCode:=.region [⟨some 13,.binOp .lss 3 (.tmp 12) (.tmp 11) 3,none⟩]
@[reducible] def q93_4:SCode:=.region [⟨some 14,.move (.tmp 12),none⟩,
  ⟨some 15,.indexAddr 70 (.tmp 10) (.tmp 12),none⟩,
  ⟨some 16,.load 27 (.tmp 15),none⟩,
  ⟨some 6,.assign (.tmp 14),none⟩,
  ⟨some 7,.assign (.tmp 16),none⟩]
@[reducible] def q93_5:SCode:=.region [⟨some 17,.move (.tmp 7),none⟩,
  ⟨some 18,.call { callee:=.builtin .len,args:=#[.tmp 17],argTypes:=#[27] },none⟩,
  ⟨some 19,.move (.const (.int .i64 0)),none⟩]
@[reducible] def q93_6:SCode:=.region [⟨some 20,.binOp .lss 3 (.tmp 19) (.tmp 18) 3,none⟩]
@[reducible] def q93_7:SCode:=.region [⟨some 21,.move (.tmp 19),none⟩,
  ⟨some 22,.indexAddr 27 (.tmp 17) (.tmp 19),none⟩,
  ⟨some 23,.load 3 (.tmp 22),none⟩,
  ⟨some 8,.assign (.tmp 21),none⟩,
  ⟨some 9,.assign (.tmp 23),none⟩]
@[reducible] def q93_8:SCode:=.region [⟨some 24,.load 81 (.tmp 3),none⟩,
  ⟨some 25,.move (.tmp 6),none⟩,
  ⟨some 26,.move (.tmp 8),none⟩,
  ⟨some 27,.call { callee:=.value (.func 46),args:=#[.tmp 24,.tmp 25,.tmp 26],argTypes:=#[81,3,3] },none⟩]
@[reducible] def q93_9:SCode:=.region [⟨some 28,.move (.tmp 4),none⟩,
  ⟨some 29,.binOp .geq 3 (.tmp 28) (.const (.int .i64 0)) 3,none⟩,
  ⟨some 30,.move (.tmp 29),none⟩,
  ⟨some 31,.move (.tmp 4),some (30,true)⟩,
  ⟨some 32,.move (.tmp 9),some (30,true)⟩,
  ⟨some 33,.binOp .neq 3 (.tmp 31) (.tmp 32) 3,some (30,true)⟩,
  ⟨some 34,.pick (.tmp 30) (.tmp 33) (.const (.bool false)),none⟩]
@[reducible] def q93_10:SCode:=.region [⟨some 4,.assign (.const (.int .i64 0)),none⟩,
  ⟨some 5,.assign (.const (.bool false)),none⟩]
@[reducible] def q93_11:SCode:=.region [⟨some 35,.move (.tmp 9),none⟩,
  ⟨some 4,.assign (.tmp 35),none⟩]
@[reducible] def q93_12:SCode:=.region [⟨some 36,.binOp .add 3 (.tmp 19) (.const (.int .i64 1)) 3,none⟩,
  ⟨some 19,.move (.tmp 36),none⟩]
def l93_0:SCode:=(.seq q93_6 (.seq (.cond (.tmp 20) .skip (.exit 2)) (.seq (.block 3 (.seq q93_7 (.seq q93_8 (.cond (.tmp 27) (.seq (.seq q93_9 (.cond (.tmp 34) (.seq q93_10 .ret) .skip)) q93_11) .skip)))) q93_12)))
@[reducible] def q93_13:SCode:=.region [⟨some 37,.binOp .add 3 (.tmp 12) (.const (.int .i64 1)) 3,none⟩,
  ⟨some 12,.move (.tmp 37),none⟩]
def l93_1:SCode:=(.seq q93_3 (.seq (.cond (.tmp 13) .skip (.exit 0)) (.seq (.block 1 (.seq q93_4 (.seq q93_5 (.block 2 (.loop l93_0))))) q93_13)))
@[reducible] def q93_14:SCode:=.region [⟨some 38,.move (.tmp 4),none⟩,
  ⟨some 4,.assign (.tmp 38),none⟩,
  ⟨some 5,.assign (.const (.bool true)),none⟩]
def s93:SCode:=(.seq q93_0 (.seq q93_1 (.seq (.seq q93_2 (.block 0 (.loop l93_1))) (.seq q93_14 .ret))))
theorem s93_strip:Yi (Yg Tryd.f93)=s93:=by kernel_rfl
theorem s93_ok:Yu 39 (Yg Tryd.f93)=true:=by kernel_rfl
/-! 94: slices.ContainsFunc[[]planchet talk.rectangle,planchet talk.rectangle] -/
@[reducible] def q94_0:SCode:=.region [⟨some 4,.assign (.const (.bool false)),none⟩]
@[reducible] def q94_1:SCode:=.region [⟨some 5,.move (.tmp 0),none⟩,
  ⟨some 6,.move (.tmp 1),none⟩,
  ⟨some 7,.call { callee:=.value (.func 135),args:=#[.tmp 5,.tmp 6],argTypes:=#[77,141] },none⟩,
  ⟨some 8,.binOp .geq 3 (.tmp 7) (.const (.int .i64 0)) 3,none⟩,
  ⟨some 4,.assign (.tmp 8),none⟩]
def s94:SCode:=(.seq q94_0 (.seq q94_1 .ret))
theorem s94_strip:Yi (Yg Tryd.f94)=s94:=by kernel_rfl
theorem s94_ok:Yu 9 (Yg Tryd.f94)=true:=by kernel_rfl
/-! 95: (planchet talk.table).greatest$1 -/
@[reducible] def q95_0:SCode:=.region [⟨some 2,.box 81 (.tmp 0),none⟩,
  ⟨some 3,.assign (.const (.bool false)),none⟩]
@[reducible] def q95_1:SCode:=.region [⟨some 4,.load 81 (.tmp 2),none⟩,
  ⟨some 5,.load 81 (.tmp 1),none⟩,
  ⟨some 6,.binOp .neq 81 (.tmp 4) (.tmp 5) 81,none⟩,
  ⟨some 7,.move (.tmp 6),none⟩,
  ⟨some 8,.load 81 (.tmp 1),some (7,true)⟩,
  ⟨some 9,.load 81 (.tmp 2),some (7,true)⟩,
  ⟨some 10,.call { callee:=.value (.func 96),args:=#[.tmp 8,.tmp 9],argTypes:=#[81,81] },some (7,true)⟩,
  ⟨some 11,.pick (.tmp 7) (.tmp 10) (.const (.bool false)),none⟩,
  ⟨some 3,.assign (.tmp 11),none⟩]
def s95:SCode:=(.seq q95_0 (.seq q95_1 .ret))
theorem s95_strip:Yi (Yg Tryd.f95)=s95:=by kernel_rfl
theorem s95_ok:Yu 12 (Yg Tryd.f95)=true:=by kernel_rfl
/-! 96: (planchet talk.rectangle).within -/
@[reducible] def q96_0:SCode:=.region [⟨some 2,.box 81 (.tmp 0),none⟩,
  ⟨some 3,.box 81 (.tmp 1),none⟩,
  ⟨some 4,.assign (.const (.bool false)),none⟩]
@[reducible] def q96_1:SCode:=.region [⟨some 5,.fieldAddr 81 (.tmp 2) 0,none⟩,
  ⟨some 6,.load 3 (.tmp 5),none⟩,
  ⟨some 7,.fieldAddr 81 (.tmp 3) 0,none⟩,
  ⟨some 8,.load 3 (.tmp 7),none⟩,
  ⟨some 9,.binOp .andNot 3 (.tmp 6) (.tmp 8) 3,none⟩,
  ⟨some 10,.binOp .eql 3 (.tmp 9) (.const (.int .i64 0)) 3,none⟩,
  ⟨some 11,.move (.tmp 10),none⟩,
  ⟨some 12,.fieldAddr 81 (.tmp 2) 1,some (11,true)⟩,
  ⟨some 13,.load 3 (.tmp 12),some (11,true)⟩,
  ⟨some 14,.fieldAddr 81 (.tmp 3) 1,some (11,true)⟩,
  ⟨some 15,.load 3 (.tmp 14),some (11,true)⟩,
  ⟨some 16,.binOp .andNot 3 (.tmp 13) (.tmp 15) 3,some (11,true)⟩,
  ⟨some 17,.binOp .eql 3 (.tmp 16) (.const (.int .i64 0)) 3,some (11,true)⟩,
  ⟨some 18,.pick (.tmp 11) (.tmp 17) (.const (.bool false)),none⟩,
  ⟨some 4,.assign (.tmp 18),none⟩]
def s96:SCode:=(.seq q96_0 (.seq q96_1 .ret))
theorem s96_strip:Yi (Yg Tryd.f96)=s96:=by kernel_rfl
theorem s96_ok:Yu 19 (Yg Tryd.f96)=true:=by kernel_rfl
/-! 135: slices.IndexFunc[[]planchet talk.rectangle,planchet talk.rectangle] -/
@[reducible] def q135_0:SCode:=.region [⟨some 4,.assign (.const (.int .i64 0)),none⟩]
@[reducible] def q135_1:SCode:=.region [⟨some 6,.move (.tmp 0),none⟩,
  ⟨some 7,.call { callee:=.builtin .len,args:=#[.tmp 6],argTypes:=#[77] },none⟩,
  ⟨some 8,.move (.const (.int .i64 0)),none⟩]
@[reducible] def q135_2:SCode:=.region [⟨some 9,.binOp .lss 3 (.tmp 8) (.tmp 7) 3,none⟩]
@[reducible] def q135_3:SCode:=.region [⟨some 10,.move (.tmp 8),none⟩,
  ⟨some 5,.assign (.tmp 10),none⟩]
@[reducible] def q135_4:SCode:=.region [⟨some 11,.move (.tmp 1),none⟩,
  ⟨some 12,.move (.tmp 0),none⟩,
  ⟨some 13,.move (.tmp 5),none⟩,
  ⟨some 14,.indexAddr 77 (.tmp 12) (.tmp 13),none⟩,
  ⟨some 15,.load 81 (.tmp 14),none⟩,
  ⟨some 16,.call { callee:=.value (.tmp 11),args:=#[.tmp 15],argTypes:=#[81] },none⟩]
@[reducible] def q135_5:SCode:=.region [⟨some 17,.move (.tmp 5),none⟩,
  ⟨some 4,.assign (.tmp 17),none⟩]
@[reducible] def q135_6:SCode:=.region [⟨some 18,.binOp .add 3 (.tmp 8) (.const (.int .i64 1)) 3,none⟩,
  ⟨some 8,.move (.tmp 18),none⟩]
def l135_0:SCode:=(.seq q135_2 (.seq (.cond (.tmp 9) .skip (.exit 0)) (.seq (.block 1 (.seq q135_3 (.seq q135_4 (.cond (.tmp 16) (.seq q135_5 .ret) .skip)))) q135_6)))
@[reducible] def q135_7:SCode:=.region [⟨some 4,.assign (.const (.int .i64 (-1))),none⟩]
def s135:SCode:=(.seq q135_0 (.seq (.seq q135_1 (.block 0 (.loop l135_0))) (.seq q135_7 .ret)))
theorem s135_strip:Yi (Yg Tryd.f135)=s135:=by kernel_rfl
theorem s135_ok:Yu 19 (Yg Tryd.f135)=true:=by kernel_rfl
end Go.Proofs.Tryd.Am
