/-
  order: reading an order: the two functions that say whether there is one.
  Plain theory: the least order with some pairs: built pair by pair, and by rounds.
  order: read.
  order: fractions.
  order: how many lines there are: by which sets can come first.
  order: copies, Count, add, slice, Add.
  order: slice, Add.
  Plain theory: in how many lines one element stands before another one; heights; fractions; the most even pair.
  order: the reference's lines.
  order: the reference's Add; how many lines have one element before another one; the most even pair.
  order: chances and heights.
  order: Chance and Height; the law OrderChances.
  order: the program's lines: the function literal that grows them.
  order: the function literal that grows the lines, walked.
  order: the law OrderMakes.
  order: Lines, EqualFunc; the law OrderLines.
  Plain theory: of an order of at most six elements that is no chain some pair stands in one order in a third to two thirds of the lines: decided, with the elements in the order of how many are below them.
  Plain theory: an order that is no chain has a pair whose chance is from a third to two thirds: the elements are renamed, those with fewer below them first.
  Plain theory: what OrderSums asks: chances that sum to one, heights that sum to half of n (n - 1), the most even pair.
  top: slices.Index, the closure of TopLines.
  top, plain: bets on which of two elements stands first.
-/
import Derived.Test.YtmjpngmoankpkaaDoorPk11
import Derived.Test.YtmjpngmoankpkaaDoorPk6
import Derived.Test.YtmjpngmoankpkaaDoorPk7
import Derived.Test.YtmjpngmoankpkaaDoorPk4
import Derived.KernelRfl
set_option linter.all false
namespace Go.Proofs.Tryd.Am.Or
open Go.Proofs.Tryd.Am
open Go.Am Ord
set_option maxRecDepth 100000
set_option maxHeartbeats 1000000
theorem testA {o:List Int} {i:Nat} (h0:0≤o.getD i 0) (h1:o.getD i 0<9223372036854775808) (j:Nat):Vl .and .i64 (shrV .i64 (o.getD i 0) j) 1=if ab o i j then 1 else 0:=by
 have:=testV (a:=bt o i) (y:=j) (by unfold bt; omega)
 rw [show ((bt o i:Nat):Int)=o.getD i 0 from Int.toNat_of_nonneg h0] at this
 exact this
theorem pow6I {n:Nat} (h:n≤6):(2:Int) ^ n≤64∧0<(2:Int) ^ n:=by
 have:=pow6 h
 rw [← Vm]; omega
theorem rorder_call [Tabs prog] {h:Zh} {v:Value} {o:List Int} (hv:IntSl h v o) (hl:o.length<9223372036854775808) (hx : ∀ x∈o,-9223372036854775808≤x∧x<9223372036854775808):Xj prog 16 [v] h (.bool (ord o)):=by
 refine s16_call (by simp) ?_
 simp (maxSteps:=2000000) only [s16,↓Za,↓Zl,↓Zb,↓Zc,vup,List.map_cons,List.map_nil,cond_true,cond_false,aop,Zf,Zp,ev,sput,Ze,Yf,Yi,Zi,Nat.reduceBEq,tyf,hv.len]
 by_cases h1:(o.length:Int)<1
 · have ht:ord o=false:=by simp [ord]; omega
   simp (maxSteps:=2000000) only [↓Za,↓Zl,↓Zu,↓Zb,↓Zc,↓vdn,vup,cond_true,cond_false,aop,Zf,ev,sput,Ze,Nat.reduceBEq,Zs,Xn,tup,h1,ht]
 by_cases h8:(6:Int)<o.length
 · have ht:ord o=false:=by simp [ord]; omega
   simp (maxSteps:=2000000) only [↓Za,↓Zl,↓Zu,↓Zb,↓Zc,↓vdn,vup,List.map_cons,List.map_nil,cond_true,cond_false,aop,Zf,ev,sput,Ze,Yf,Yi,Zi,Nat.reduceBEq,Zs,Xn,tup,tyf,h1,hv.len,h8,ht]
 have hp:=pow6I (n:=o.length) (by omega)
 simp (maxSteps:=2000000) only [↓Za,↓Zn,↓Zl,↓Yr,↓Zb,↓Zc,↓vdn,vup,List.map_cons,List.map_nil,cond_true,cond_false,aop,Zf,ev,sput,Ze,Yf,Yi,Zi,Nat.reduceBEq,tyf,h1,h8,hv.len,↓Ui]
 refine Zy fun Q hQ=>?_
 refine aw_loop (γ:=Nat) (fun i=>i≤o.length∧∀ k,k<i→okO o k=true)
  (fun i=>([(0,v),(2,.bool false),(14,v),(15,Zd o.length),(16,Zd i)],h)) (fun i=>o.length-i) 0 ⟨by omega,fun _ hk=>by omega⟩ (by simp (maxSteps:=2000000) only [vup,cond_true,cond_false,Nat.reduceBEq,Int.natCast_zero]) rfl ?_
 rintro i ⟨hi,hok⟩
 refine aw_hide fun Q2 hQ2=>?_
 by_cases hin:(i:Int)<o.length
 · have hin' : i<o.length:=by omega
   have hbad:okO o i=false→ord o=false:=fun hb=>by
    have:(List.range o.length).all (okO o)=false:=by
     rw [List.all_eq_false]; exact ⟨i,by simpa using hin',by simp [hb]⟩
    simp [ord,this]
   obtain ⟨hx1,hx2⟩:=hx (o.getD i 0) (by rw [List.getD,List.getElem?_eq_getElem hin']; exact List.getElem_mem hin')
   simp (maxSteps:=2000000) only [↓Za,↓Zn,↓Zl,↓Yr,↓Zb,↓Zc,↓vdn,vup,cond_true,cond_false,aop,Zf,ev,sput,Ze,Yf,Yi,Nat.reduceBEq,tyf,l16_1,hin,hv.idx Vy Wm hin',hv.load Yy hin']
   by_cases hneg:o.getD i 0<0
   · have hb:=hbad (by rw [okO,decide_eq_false (show ¬ 0≤o.getD i 0 by omega)]; rfl)
     simp (maxSteps:=2000000) only [↓Za,↓Zl,↓Zu,↓Zb,↓Zc,↓vdn,vup,cond_true,cond_false,aop,Zf,Zo,ev,sput,Ze,Nat.reduceBEq,hneg]
     refine hQ2 _ _ _ (hQ _ _ _ ?_)
     simp (maxSteps:=2000000) only [vup,cond_true,cond_false,Zf,Zo,Nat.reduceBEq,Zs,Xn,tup,hb]
   simp (maxSteps:=2000000) only [↓Zc,↓vdn,vup,List.map_cons,List.map_nil,cond_true,cond_false,aop,ev,sput,Ze,Yf,Yi,Zi,Nat.reduceBEq,tyf,hneg,hv.len,shl1 (show o.length≤62 by omega),Int.natCast_nonneg]
   by_cases hbig:2 ^ o.length≤o.getD i 0
   · have hb:=hbad (by rw [okO,decide_eq_false (show ¬ o.getD i 0<2 ^ o.length from Int.not_lt.2 hbig),Bool.and_false]; rfl)
     simp (maxSteps:=2000000) only [↓Za,↓Zl,↓Zu,↓Zb,↓Zc,↓vdn,vup,cond_true,cond_false,aop,Zf,Zo,ev,sput,Ze,Nat.reduceBEq,hbig]
     refine hQ2 _ _ _ (hQ _ _ _ ?_)
     simp (maxSteps:=2000000) only [vup,cond_true,cond_false,Zf,Zo,Nat.reduceBEq,Zs,Xn,tup,hb]
   have hs0:0≤o.getD i 0:=by omega
   have hs1:o.getD i 0<9223372036854775808:=by omega
   by_cases hbit:ab o i i=true
   · have hb:=hbad (by rw [okO,hbit,Bool.not_true,Bool.and_false]; rfl)
     simp (maxSteps:=2000000) only [↓Za,↓Zl,↓Zu,↓Zb,↓Zc,↓vdn,vup,cond_true,cond_false,aop,Zf,Zo,ev,sput,Ze,Yf,Yi,Nat.reduceBEq,Int.reduceBEq,hbig,Int.natCast_nonneg,testA hs0 hs1,hbit,if_true,Int.reduceBEq]
     refine hQ2 _ _ _ (hQ _ _ _ ?_)
     simp (maxSteps:=2000000) only [vup,cond_true,cond_false,Zf,Zo,Nat.reduceBEq,Zs,Xn,tup,hb]
   simp only [Bool.not_eq_true] at hbit
   simp (maxSteps:=2000000) only [↓Za,↓Zn,↓Zl,↓Yr,↓Zb,↓Zc,↓vdn,vup,List.map_cons,List.map_nil,cond_true,cond_false,aop,Zf,ev,sput,Ze,Yf,Yi,Zi,Nat.reduceBEq,Int.reduceBEq,tyf,hbig,Int.natCast_nonneg,testA hs0 hs1,hbit,if_false,Bool.false_eq_true,Int.reduceBEq,hv.len,↓Ui]
   refine Zy fun Q3 hQ3=>?_
   refine aw_loop (γ:=Nat) (fun j=>j≤o.length∧∀ k,k<j→(!ab o i k || (Vl .andNot .i64 (o.getD k 0) (o.getD i 0)==0))=true)
    (fun j=>([(0,v),(2,.bool false),(3,Zd i),(4,Zd (o.getD i 0)),(14,v),(15,Zd o.length),(16,Zd i),(38,Zd o.length),(39,Zd j)],h)) (fun j=>o.length-j) 0 ⟨by omega,fun _ hk=>by omega⟩ (by simp (maxSteps:=2000000) only [vup,cond_true,cond_false,Nat.reduceBEq,Int.natCast_zero]) rfl ?_
   rintro j ⟨hj,hokj⟩
   refine aw_hide fun Q4 hQ4=>?_
   by_cases hjn:(j:Int)<o.length
   · have hjn' : j<o.length:=by omega
     cases hbj:ab o i j with
     | false =>
       simp (maxSteps:=2000000) only [↓Za,↓Zn,↓Zl,↓Yr,↓Zb,↓Zc,↓vdn,vup,cond_true,cond_false,aop,Zf,Zo,ev,sput,Ze,Yf,Yi,Nat.reduceBEq,Int.reduceBEq,l16_0,hjn,Int.natCast_nonneg,testA hs0 hs1,hbj,if_false,Bool.false_eq_true,Int.reduceBEq,add1 (show j<9223372036854775807 by omega)]
       refine hQ4 _ _ _ ⟨j+1,⟨by omega,fun k hk=>?_⟩,by omega,by simp (maxSteps:=2000000) only [vup,cond_true,cond_false,Nat.reduceBEq],rfl⟩
       by_cases hkj:k=j
       · subst hkj; rw [hbj]; rfl
       · exact hokj k (by omega)
     | true =>
       cases hlz:(Vl .andNot .i64 (o.getD j 0) (o.getD i 0)==0) with
       | true =>
         have hlz' : (Vl .andNot .i64 (o.getD j 0) (o.getD i 0) != 0)=false:=by rw [bne,hlz]; rfl
         simp (maxSteps:=2000000) only [↓Za,↓Zn,↓Zl,↓Yr,↓Zb,↓Zc,↓vdn,vup,cond_true,cond_false,aop,Zf,Zo,ev,sput,Ze,Yf,Yi,Nat.reduceBEq,Int.reduceBEq,tyf,l16_0,hjn,Int.natCast_nonneg,testA hs0 hs1,hbj,if_true,Int.reduceBEq,hv.idx Vy Wm hjn',hv.load Yy hjn',hlz',add1 (show j<9223372036854775807 by omega)]
         refine hQ4 _ _ _ ⟨j+1,⟨by omega,fun k hk=>?_⟩,by omega,by simp (maxSteps:=2000000) only [vup,cond_true,cond_false,Nat.reduceBEq],rfl⟩
         by_cases hkj:k=j
         · subst hkj; rw [hlz,Bool.or_true]
         · exact hokj k (by omega)
       | false =>
         have hlz' : (Vl .andNot .i64 (o.getD j 0) (o.getD i 0) != 0)=true:=by rw [bne,hlz]; rfl
         have hb:=hbad (by
          have:((List.range o.length).all fun j=>!ab o i j || (Vl .andNot .i64 (o.getD j 0) (o.getD i 0)==0))=false:=by
           rw [List.all_eq_false]; exact ⟨j,List.mem_range.2 hjn',by rw [hbj,hlz]; decide⟩
          rw [okO,this,Bool.and_false])
         simp (maxSteps:=2000000) only [↓Za,↓Zn,↓Zl,↓Yr,↓Zu,↓Zb,↓Zc,↓vdn,vup,cond_true,cond_false,aop,Zf,Zo,ev,sput,Ze,Yf,Yi,Nat.reduceBEq,Int.reduceBEq,tyf,l16_0,hjn,Int.natCast_nonneg,testA hs0 hs1,hbj,if_true,Int.reduceBEq,hv.idx Vy Wm hjn',hv.load Yy hjn',hlz']
         refine hQ4 _ _ _ (hQ3 _ _ _ ?_)
         simp (maxSteps:=2000000) only [Zf,Zo]
         refine hQ2 _ _ _ (hQ _ _ _ ?_)
         simp (maxSteps:=2000000) only [vup,cond_true,cond_false,Zf,Zo,Nat.reduceBEq,Zs,Xn,tup,hb]
   · obtain rfl:j=o.length:=by omega
     simp (maxSteps:=2000000) only [↓Za,↓Zl,↓Yo,↓Zb,↓Zc,↓vdn,vup,cond_true,cond_false,aop,Zf,ev,sput,Ze,Yf,Yi,Nat.reduceBEq,l16_0,Int.lt_irrefl]
     refine hQ4 _ _ _ (hQ3 _ _ _ ?_)
     simp (maxSteps:=2000000) only [↓Za,↓Zb,↓Zc,vup,cond_true,cond_false,aop,Zf,Zo,ev,sput,Ze,Yf,Yi,Nat.reduceBEq,if_true,add1 (show i<9223372036854775807 by omega)]
     refine hQ2 _ _ _ ⟨i+1,⟨by omega,fun k hk=>?_⟩,by omega,by simp (maxSteps:=2000000) only [vup,cond_true,cond_false,Nat.reduceBEq],rfl⟩
     by_cases hkj:k=i
     · subst hkj
       have:((List.range o.length).all fun j=>!ab o k j || (Vl .andNot .i64 (o.getD j 0) (o.getD k 0)==0))=true:=by
        rw [List.all_eq_true]; exact fun j hj=>hokj j (List.mem_range.1 hj)
       rw [okO,decide_eq_true hs0,decide_eq_true (Int.not_le.1 hbig),hbit,this]; rfl
     · exact hok k (by omega)
 · obtain rfl:i=o.length:=by omega
   have ht:ord o=true:=by simp only [ord,Bool.and_eq_true,decide_eq_true_eq,List.all_eq_true,List.mem_range]; exact ⟨⟨by omega,by omega⟩,hok⟩
   simp (maxSteps:=2000000) only [↓Za,↓Zl,↓Yo,↓Zb,↓Zc,↓vdn,vup,cond_true,cond_false,aop,Zf,ev,sput,Ze,Yf,Yi,Nat.reduceBEq,l16_1,Int.lt_irrefl]
   refine hQ2 _ _ _ (hQ _ _ _ ?_)
   simp (maxSteps:=2000000) only [↓Za,↓Zl,↓Zu,↓Zb,↓Zc,vup,cond_true,cond_false,aop,Zf,Zo,ev,sput,Ze,Nat.reduceBEq,Zs,Xn,tup,if_true,ht]
end Go.Proofs.Tryd.Am.Or
namespace Ord
open Go.Am
inductive Reach (l:List (Nat×Nat)):Nat→Nat→Prop
 | one {a b:Nat} (h:(a,b)∈l):Reach l a b
 | tr {a b c:Nat} (h1:Reach l a b) (h2:Reach l b c):Reach l a c
theorem Reach.mono {l l' : List (Nat×Nat)} (h : ∀ p∈l,p∈l') {a b:Nat} (hr:Reach l a b):Reach l' a b:=by
 induction hr with
 | one h1=>exact .one (h _ h1)
 | tr _ _ i1 i2=>exact .tr i1 i2
def Path (l:List (Nat×Nat)):Nat→Nat→Nat→Prop
 | 0,_,_=>False
 | 1,a,b=>(a,b)∈l
 | m+2,a,b=>∃ c,(a,c)∈l∧Path l (m+1) c b
theorem Path.mono {l l' : List (Nat×Nat)} (h : ∀ p∈l,p∈l') : ∀ {m a b},Path l m a b→Path l' m a b
 | 0,_,_,hp=>hp.elim
 | 1,_,_,hp=>h _ hp
 | m+2,_,_,⟨c,h1,h2⟩=>⟨c,h _ h1,h2.mono h⟩
def Sets (n:Nat) (o:List Int):Prop:=o.length=n∧∀ i,i<n→o.getD i 0=(bt o i:Int)∧bt o i<2 ^ n
theorem Sets.bit {n:Nat} {o:List Int} (h:Sets n o) {i j:Nat} (hij:ab o i j=true):i<n∧j<n:=by
 have hi:i<n:=by
  rcases Nat.lt_or_ge i n with h' | h'
  · exact h'
  · rw [ab,bt_out (by rw [h.1]; exact h')] at hij; simp at hij
 refine ⟨hi,?_⟩
 rcases Nat.lt_or_ge j n with h' | h'
 · exact h'
 · have:=Nat.testBit_lt_two_pow (Nat.lt_of_lt_of_le (h.2 i hi).2 (Nat.pow_le_pow_right (by decide) h'))
   rw [ab,this] at hij; cases hij
theorem Sets.ext {n:Nat} {o o' : List Int} (h:Sets n o) (h' : Sets n o') (he : ∀ i j,ab o i j=ab o' i j):o=o':=by
 refine List.ext_getElem (h.1.trans h'.1.symm) fun i h1 h2=>?_
 have e1:o[i]=o.getD i 0:=by simp [List.getD,h1]
 have e2:o'[i]=o'.getD i 0:=by simp [List.getD,h2]
 rw [e1,e2,(h.2 i (h.1▸h1)).1,(h'.2 i (h'.1▸h2)).1]
 congr 1
 exact Nat.eq_of_testBit_eq fun j=>he i j
theorem Sets.ord {n:Nat} {o:List Int} (h:Sets n o) (hn:1≤n∧n≤6) (hp:Po (ab o)):Ord.ord o=true :=
 ord_of (by rw [h.1]; exact hn) (fun i hi=>⟨_,(h.2 i (by rw [← h.1]; exact hi)).1,by rw [h.1]; exact (h.2 i (by rw [← h.1]; exact hi)).2⟩) hp
structure Good (n:Nat) (l:List (Nat×Nat)) (o o' : List Int):Prop where
 sets:Sets n o'
 mono : ∀ a b,ab o a b=true→ab o' a b=true
 sound:(∀ a b,ab o a b=true→Reach l a b)→∀ a b,ab o' a b=true→Reach l a b
theorem Good.refl {n:Nat} {l:List (Nat×Nat)} {o:List Int} (h:Sets n o):Good n l o o:=⟨h,fun _ _ h=>h,fun h=>h⟩
theorem Good.trans {n:Nat} {l:List (Nat×Nat)} {o o' o'' : List Int} (h1:Good n l o o') (h2:Good n l o' o''):Good n l o o'' :=
 ⟨h2.sets,fun a b h=>h2.mono a b (h1.mono a b h),fun h=>h2.sound (h1.sound h)⟩
end Ord
namespace Go.Proofs.Tryd.Am.Or
open Go.Proofs.Tryd.Am
open Go.Am Ord
set_option maxRecDepth 100000
set_option maxHeartbeats 1000000
theorem Ux {h h' : Zh} {v:Value} {xs:List Int} (hv:IntSl h v xs) (he:Ext (fun _=>False) h h'):IntSl h' v xs:=hv.same fun b hb=>he.2 b (hv.lt hb) id
def ordN (n:Int):List Value:=[Zd n,.int .i64 0,.int .i64 0,.int .i64 0,.int .i64 0,.int .i64 0,.int .i64 0]
theorem bldN {n:Int} {K:Value→Prop}:Wv prog 97 [(0,Zd n)] K=K (.agg (ordN n).toArray):=by
 simp [Wv,zero_97,Vx,pl_97_0,Wk,cellsOf,Yk,ordN]
theorem zeroN:([.int .i64 0,.int .i64 0,.int .i64 0,.int .i64 0,.int .i64 0,.int .i64 0,.int .i64 0]:List Value)=ordN 0:=rfl
theorem copyO {h:Zh} {v:Value} {o:List Int} (hv:IntSl h v o) (h1:1≤o.length∧o.length≤6) {b:Nat} (hb:h[b]? = some (.cells (ordN o.length) 97 false)) {K:Value→Zh→Prop} (hk:K (Zd o.length) (h.set b (.cells (Vk o) 97 false))) :
  copyK prog h 27 (.slice (some ⟨b,1,none⟩) 6 6) v K:=by
 have hne:o≠[]:=by rintro rfl; simp at h1
 have hv':=hv
 rcases hv with ⟨rfl,hx⟩ | ⟨b2,o2,sp,cap,c,e,ro,rfl,hc,hw,hx⟩
 · exact absurd hx hne
 have e6:min (o.length:Int) ((6:Nat):Int)=o.length:=by omega
 simp only [copyK,Vy,Wm,Nat.min_eq_left h1.2,e6]
 refine hv'.cells hne b2 o2 sp o.length cap rfl ?_
 refine ⟨?_,?_⟩
 · rw [List.all_eq_true]; intro x hx
   obtain ⟨y,-,rfl⟩:=List.mem_map.1 hx; rfl
 · simp only [hb]
   refine ⟨by simp [ordN]; omega,?_⟩
   have e1:Yk (ordN o.length) 1 (o.map Zd)=Vk o:=by
    rw [Yk,Vk,ordN,sixs,List.map_append,List.length_map]
    show _::(_++_)=_
    congr 2
    rw [List.map_replicate]
    have:o.length=1∨o.length=2∨o.length=3∨o.length=4∨o.length=5∨o.length=6:=by omega
    rcases this with h | h | h | h | h | h <;> rw [h] <;> rfl
   rw [e1]; exact hk
def rdC (o:List Int):List Value:=if 1≤o.length∧o.length≤6 then Vk o else ordN o.length
def rdV (o:List Int):Value:=.agg (rdC o).toArray
theorem rdC_len (o:List Int):(rdC o).length=7:=by
 unfold rdC; split
 · next h=>exact Wb h.2
 · rfl
theorem rdC_one (o:List Int):(rdC o).all one=true:=by
 unfold rdC; split
 · exact ordC_one o
 · rfl
theorem low_rdV (o:List Int):Low (rdV o):=by
 unfold rdV rdC
 split
 · exact Low.ordV o
 · exact .agg fun x hx=>by
    simp only [ordN,List.mem_cons,List.not_mem_nil,or_false] at hx
    rcases hx with rfl | rfl | rfl | rfl | rfl | rfl | rfl <;> exact .int _ _
theorem read_call [BitTab prog 0] {h:Zh} {v:Value} {o:List Int} (hv:IntSl h v o) (hl:o.length<9223372036854775808) (hx : ∀ x∈o,-9223372036854775808≤x∧x<9223372036854775808):Xj prog 54 [v] h (.tuple #[rdV o,.bool (ord o)]):=by
 refine ACall.forget (.pair (low_rdV o) (.bool _)) ?_
 refine s54_call (by simp) ?_
 simp only [s54]
 obtain ⟨tp,tl,tc,rfl⟩ : ∃ p l c,v = .slice p l c:=by
  rcases hv with ⟨rfl,_⟩ | ⟨b,o,sp,cap,c,e,ro,rfl,_⟩
  · exact ⟨_,_,_,rfl⟩
  · exact ⟨_,_,_,rfl⟩
 refine Wt fun N hN=>?_
 simp (maxSteps:=2000000) only [↓Za,↓Zb,↓Zc,vup,cond_true,cond_false,aop,Zf,Zp,ev,sput,Ze,Nat.reduceBEq,tyf,boxK,cellsOf,Option.isSome_some,Yg,Xg,zeroN]
 refine hN _ _ ?_
 clear hN N
 generalize htv:Value.slice tp tl tc=tv at *
 obtain ⟨H,hH⟩ : ∃ H,H=h++[Blk.cells [tv] 27 false]++[Blk.cells (ordN 0) 97 false]++[Blk.cells [.bool false] 4 false]:=⟨_,rfl⟩
 rw [← hH]
 simp only [List.length_append,List.length_cons,List.length_nil,Nat.zero_add,Nat.add_assoc,Nat.reduceAdd]
 obtain ⟨n,hn⟩ : ∃ n,n=h.length:=⟨_,rfl⟩
 have hHl:H.length=n+3:=by rw [hH,hn]; simp
 have hE0:Ext (fun _=>False) h H:=by rw [hH,List.append_assoc,List.append_assoc]; exact Ext.app _ _ _
 have b1:H[n]? = some (.cells [tv] 27 false):=by rw [hH,hn]; exact Yp (Yp (Zr _ _) _) _
 have b2:H[n+1]? = some (.cells (ordN 0) 97 false):=by
  rw [hH,hn]; have:=Yp (Zr (h++[Blk.cells [tv] 27 false]) (Blk.cells (ordN 0) 97 false)) [Blk.cells [.bool false] 4 false]
  simpa using this
 have b3:H[n+2]? = some (.cells [.bool false] 4 false):=by
  rw [hH,hn]; have:=Zr (h++[Blk.cells [tv] 27 false]++[Blk.cells (ordN 0) 97 false]) (Blk.cells [.bool false] 4 false)
  simpa using this
 have hvH:IntSl H tv o:=Ux hv hE0
 rw [← hn]
 clear hH
 refine Wt fun N hN=>?_
 simp (maxSteps:=2000000) only [↓Za,↓Zb,↓Zc,vup,List.map_cons,List.map_nil,cond_true,cond_false,aop,Zf,ev,sput,Ze,Zi,Nat.reduceBEq,tyf,Xl b1 Xy,hvH.len,Xg,Yg,bldN,zeroN]
 rw [storeA (c:=ordN 0) (vs:=ordN o.length) (Zr _ _) (by rw [Xx]; rfl) rfl rfl]
 refine hN _ _ ?_
 clear hN N
 rw [hHl]
 obtain ⟨G,hG⟩ : ∃ G,G=(H++[Blk.cells (ordN 0) 97 false]).set (n+3) (.cells (ordN o.length) 97 false):=⟨_,rfl⟩
 rw [← hG]
 have hGl:G.length=n+4:=by rw [hG]; simp [hHl]
 have oldG : ∀ {k B},H[k]? = some B→G[k]? = some B:=fun {k B} hk=>by
  have:=Yb hk
  rw [hG,List.getElem?_set_ne (by omega)]; exact Yp hk _
 have b4:G[n+3]? = some (.cells (ordN o.length) 97 false):=by rw [hG]; exact Xf (by simp [hHl]) _
 have hEG:Ext (fun _=>False) h G:=⟨by omega,fun i hi _=>by
  rw [hG,List.getElem?_set_ne (by omega),List.getElem?_append_left (by omega)]; exact hE0.2 i hi id⟩
 replace b1:=oldG b1
 replace b2:=oldG b2
 replace b3:=oldG b3
 clear oldG hG
 have hvG:IntSl G tv o:=Ux hv hEG
 clear hvH hE0 hHl
 clear H
 -- what a return does
 have fin : ∀ (hp:Zh) (bb:Bool),Ext (fun i=>i=n+3) G hp→bb=ord o→Ext (fun _=>False) h ((hp.set (n+1) (.cells (rdC o) 97 false)).set (n+2) (.cells [.bool bb] 4 false)) ∧
   ((hp.set (n+1) (.cells (rdC o) 97 false)).set (n+2) (.cells [.bool bb] 4 false))[n+1]? = some (.cells (rdC o) 97 false) ∧
   ((hp.set (n+1) (.cells (rdC o) 97 false)).set (n+2) (.cells [.bool bb] 4 false))[n+2]? = some (.cells [.bool bb] 4 false) ∧
   hp[n+1]? = some (.cells (ordN 0) 97 false)∧(hp.set (n+1) (.cells (rdC o) 97 false))[n+2]? = some (.cells [.bool false] 4 false):=fun hp bb hE hb=>by
  have hl:=hE.1
  have g2:hp[n+1]? = some (.cells (ordN 0) 97 false):=(hE.2 _ (by omega) (by omega)).trans b2
  refine ⟨⟨by simp; omega,fun i hi _=>?_⟩,?_,?_,g2,?_⟩
  · rw [List.getElem?_set_ne (by omega),List.getElem?_set_ne (by omega),hE.2 i (by omega) (by omega)]; exact hEG.2 i hi id
  · rw [List.getElem?_set_ne (by omega)]; exact Xf (by omega) _
  · exact Xf (by simp; omega) _
  · rw [List.getElem?_set_ne (by omega),hE.2 _ (by omega) (by omega)]; exact b3
 refine Wt fun N hN=>?_
 by_cases hlen:1≤o.length∧o.length≤6
 rotate_left
 · have ht:ord o=false:=by
    cases e:ord o with
    | false=>rfl
    | true=>exact absurd (Wj e) hlen
   have hrd:rdC o=ordN o.length:=if_neg hlen
   obtain ⟨f1,f2,f3,f4,f5⟩:=fin G false (Ext.refl _ _) ht.symm
   rw [hrd] at f1 f2 f3 f5
   by_cases h1:(o.length:Int)<1
   · simp (maxSteps:=2000000) only [↓Za,↓Zl,↓Zu,↓Zb,↓Zc,↓vdn,vup,List.map_cons,List.map_nil,cond_true,cond_false,aop,Zf,ev,sput,Ze,Yf,Yi,Zi,Nat.reduceBEq,Zs,Xn,tup,tyf,Xl b1 Xy,hvG.len,h1,loadA b4 (t:=97) (by rw [Xx]; rfl),storeA (vs:=ordN o.length) b2 (t:=97) (by rw [Xx]; rfl) rfl rfl,storeB f5 shp_4,loadA f2 (t:=97) (by rw [Xx]; rfl),Xl f3 shp_4]
     exact ⟨by rw [rdV,hrd,ht],f1⟩
   · have h6:(6:Int)<o.length:=by omega
     simp (maxSteps:=2000000) only [↓Za,↓Zl,↓Zu,↓Zb,↓Zc,↓vdn,vup,List.map_cons,List.map_nil,cond_true,cond_false,aop,Zf,ev,sput,Ze,Yf,Yi,Zi,Nat.reduceBEq,Zs,Xn,tup,tyf,Xl b1 Xy,hvG.len,h1,h6,loadA b4 (t:=97) (by rw [Xx]; rfl),storeA (vs:=ordN o.length) b2 (t:=97) (by rw [Xx]; rfl) rfl rfl,storeB f5 shp_4,loadA f2 (t:=97) (by rw [Xx]; rfl),Xl f3 shp_4]
     exact ⟨by rw [rdV,hrd,ht],f1⟩
 have h1 : ¬ (o.length:Int)<1:=by omega
 have h6 : ¬ (6:Int)<o.length:=by omega
 have hrd:rdC o=Vk o:=if_pos hlen
 simp (maxSteps:=2000000) only [↓Za,↓Zn,↓Zl,↓Zb,↓Zc,↓vdn,vup,List.map_cons,List.map_nil,cond_true,cond_false,aop,Zf,ev,sput,Ze,Yf,Yi,Zi,Nat.reduceBEq,tyf,Xl b1 Xy,hvG.len,h1,h6]
 refine hN _ _ ?_
 clear hN N
 refine Wt fun N hN=>?_
 refine Yx [] (by kernel_rfl) (by kernel_rfl) (by kernel_rfl) (by kernel_rfl) ?_
 simp (maxSteps:=2000000) only [↓Zz,↓vdn,vup,List.map_cons,List.map_nil,cond_true,cond_false,aop,Zf,ev,sput,Ze,Zi,Nat.reduceBEq,Nat.reduceAdd,tyf,fldA Ua esz_95,Ur,Option.isSome_some,Xl b1 Xy]
 refine copyO hvG hlen b4 ?_
 refine hN _ _ ?_
 clear hN N
 obtain ⟨F,hF⟩ : ∃ F,F=G.set (n+3) (.cells (Vk o) 97 false):=⟨_,rfl⟩
 rw [← hF]
 have hEF:Ext (fun i=>i=n+3) G F:=by rw [hF]; exact Ext.set _ rfl
 have hvF:IntSl F tv o:=by
  refine Ux hv ⟨by rw [hF]; simp; omega,fun i hi _=>?_⟩
  rw [hF,List.getElem?_set_ne (by omega)]; exact hEG.2 i hi id
 have c1:F[n]? = some (.cells [tv] 27 false):=(hEF.2 _ (by omega) (by omega)).trans b1
 have c4:F[n+3]? = some (.cells (Vk o) 97 false):=by rw [hF]; exact Xf (by omega) _
 clear hF
 have hp:=pow6I hlen.2
 simp (maxSteps:=2000000) only [↓Za,↓Zl,↓Yr,↓Zb,↓Zc,vup,List.map_cons,List.map_nil,cond_true,cond_false,aop,Zf,ev,sput,Ze,Zi,Nat.reduceBEq,tyf,Xl c1 Xy,hvF.len,↓Ui]
 refine Zy fun Q hQ=>?_
 refine aw_loop (γ:=Nat×Zh) (fun s=>s.1≤o.length∧Ext (fun _=>False) F s.2∧∀ k,k<s.1→okO o k=true)
  (fun s=>([(0,tv),(1,.pointer (some ⟨n,0,none⟩)),(2,.pointer (some ⟨n+1,0,none⟩)),(3,.pointer (some ⟨n+2,0,none⟩)),(4,.pointer (some ⟨n+3,0,none⟩)),(24,tv),(25,Zd o.length),(26,Zd s.1)],s.2)) (fun s=>o.length-s.1) (0,F) ⟨by omega,Ext.refl _ _,fun _ hk=>by simp at hk⟩ (by simp (maxSteps:=2000000) only [vup,cond_true,cond_false,Nat.reduceBEq,Int.natCast_zero]) rfl ?_
 rintro ⟨i,hp0⟩ ⟨hi,hE,hok⟩
 simp only at hi hE hok
 have e1:hp0[n]? = some (.cells [tv] 27 false):=(hE.2 _ (Yb c1) id).trans c1
 have e4:hp0[n+3]? = some (.cells (Vk o) 97 false):=(hE.2 _ (Yb c4) id).trans c4
 have hvE:IntSl hp0 tv o:=Ux hvF hE
 have hGl':=hEF.1
 have hl0:=hE.1
 refine aw_hide fun Q2 hQ2=>?_
 by_cases hin:(i:Int)<o.length
 · have hin' : i<o.length:=by omega
   have hbad:okO o i=false→ord o=false:=fun hb=>by
    have:(List.range o.length).all (okO o)=false:=by
     rw [List.all_eq_false]; exact ⟨i,by simpa using hin',by simp [hb]⟩
    simp [ord,this]
   obtain ⟨hx1,hx2⟩:=hx (o.getD i 0) (by rw [List.getD,List.getElem?_eq_getElem hin']; exact List.getElem_mem hin')
   obtain ⟨m,hm⟩ : ∃ m,m=hp0.length:=⟨_,rfl⟩
   obtain ⟨X,hX⟩ : ∃ X,X=(hp0++[Blk.cells [Value.int .i64 0] 3 false]).set hp0.length (Blk.cells [.int .i64 (o.getD i 0)] 3 false):=⟨_,rfl⟩
   have hlX:X.length=m+1:=by rw [hX,hm]; simp
   have hEX:Ext (fun _=>False) hp0 X:=⟨by omega,fun j hj _=>by rw [hX,List.getElem?_set_ne (by omega),List.getElem?_append_left hj]⟩
   have bX:X[m]? = some (.cells [.int .i64 (o.getD i 0)] 3 false):=by rw [hX,hm]; exact Xf (by simp) _
   have x1:X[n]? = some (.cells [tv] 27 false):=(hEX.2 _ (Yb e1) id).trans e1
   have x4:X[n+3]? = some (.cells (Vk o) 97 false):=(hEX.2 _ (Yb e4) id).trans e4
   have hvX:IntSl X tv o:=Ux hvE hEX
   have hGX:Ext (fun i=>i=n+3) G X:=⟨by omega,fun j hj hjn=>by rw [hEX.2 j (by omega) id,hE.2 j (by omega) id]; exact hEF.2 j hj hjn⟩
   simp only [l54_1]
   refine Wt fun N hN=>?_
   simp (maxSteps:=2000000) only [↓Za,↓Zb,↓Zc,vup,cond_true,cond_false,aop,Zf,ev,sput,Ze,Yf,Yi,Nat.reduceBEq]
   refine hN _ _ ?_
   clear hN N
   refine Wt fun N hN=>?_
   simp (maxSteps:=2000000) only [↓Zn,↓vdn,vup,cond_true,cond_false,Zf,ev,Nat.reduceBEq,hin]
   refine hN _ _ ?_
   clear hN N
   refine Wt fun N hN=>?_
   simp only [↓Yr]
   refine Wt fun N2 hN2=>?_
   simp (maxSteps:=2000000) only [↓Za,↓Zb,↓Zc,vup,cond_true,cond_false,aop,Zf,ev,sput,Ze,Nat.reduceBEq,tyf,hvE.idx Vy Wm hin',hvE.load Yy hin',Xg,Yg]
   rw [storeI (v:=.int .i64 0) (e:=3) (Zr _ _) Yy,← hX,← hm]
   refine hN2 _ _ ?_
   clear hN2 N2
   -- what a return inside does
   have back : ∀ (hq:Zh),Ext (fun i=>i=n+3) G hq→hq[n+3]? = some (.cells (Vk o) 97 false)→ord o=false→∀ (e:Env),sget e 2 = .pointer (some ⟨n+1,0,none⟩)→sget e 3 = .pointer (some ⟨n+2,0,none⟩) →
     Q2 .ret e ((hq.set (n+1) (.cells (Vk o) 97 false)).set (n+2) (.cells [.bool false] 4 false)):=fun hq hEq _ ht e g2 g3=>by
    obtain ⟨f1,f2,f3,f4,f5⟩:=fin hq false hEq ht.symm
    rw [hrd] at f1 f2 f3 f5
    refine hQ2 _ _ _ (hQ _ _ _ ?_)
    simp only [Zo,Zf,Zs,Xn,g2,g3]
    rw [loadA f2 (t:=97) (by rw [Xx,Wb hlen.2]),Xl f3 shp_4]
    exact ⟨by rw [rdV,hrd,ht]; rfl,f1⟩
   obtain ⟨f1,f2,f3,f4,f5⟩:_:=fin X (ord o) hGX rfl
   rw [hrd] at f1 f2 f3 f5
   refine Wt fun N2 hN2=>?_
   simp (maxSteps:=2000000) only [↓Zl]
   refine Yx [] (by kernel_rfl) (by kernel_rfl) (by kernel_rfl) (by kernel_rfl) ?_
   by_cases hneg:o.getD i 0<0
   · have hb:=hbad (by rw [okO,decide_eq_false (show ¬ 0≤o.getD i 0 by omega)]; rfl)
     simp (maxSteps:=2000000) only [↓Za,↓Zl,↓Zu,↓Zb,↓Zc,↓Zz,↓vdn,vup,cond_true,cond_false,aop,Zf,Zo,ev,sput,Ze,Yf,Yi,Vs,Nat.reduceBEq,Nat.reduceAdd,tyf,Xl bX Yy,hneg,loadA x4 (t:=97) (by rw [Xx,Wb hlen.2]),storeA (vs:=Vk o) f4 (t:=97) (by rw [Xx,Wb hlen.2]) (ordC_one o) (by rw [Wb hlen.2]; rfl),storeB f5 shp_4]
     exact back X hGX x4 hb _ rfl rfl
   by_cases hbig:2 ^ o.length≤o.getD i 0
   · have hb:=hbad (by rw [okO,decide_eq_false (show ¬ o.getD i 0<2 ^ o.length from Int.not_lt.2 hbig),Bool.and_false]; rfl)
     simp (maxSteps:=2000000) only [↓Za,↓Zl,↓Zu,↓Zb,↓Zc,↓Zz,↓vdn,vup,List.map_cons,List.map_nil,cond_true,cond_false,aop,Zf,Zo,ev,sput,Ze,Yf,Yi,Zi,Vs,Nat.reduceBEq,Nat.reduceAdd,tyf,Xl bX Yy,hneg,Xl x1 Xy,hvX.len,shl1 (show o.length≤62 by omega),hbig,loadA x4 (t:=97) (by rw [Xx,Wb hlen.2]),storeA (vs:=Vk o) f4 (t:=97) (by rw [Xx,Wb hlen.2]) (ordC_one o) (by rw [Wb hlen.2]; rfl),storeB f5 shp_4]
     exact back X hGX x4 hb _ rfl rfl
   have hs0:0≤o.getD i 0:=by omega
   have hs1:o.getD i 0<9223372036854775808:=by omega
   by_cases hbit:ab o i i=true
   · have hb:=hbad (by rw [okO,hbit,Bool.not_true,Bool.and_false]; rfl)
     simp (maxSteps:=2000000) only [↓Za,↓Zl,↓Zu,↓Zb,↓Zc,↓Zz,↓vdn,vup,List.map_cons,List.map_nil,cond_true,cond_false,aop,Zf,Zo,ev,sput,Ze,Yf,Yi,Zi,Vs,Nat.reduceBEq,Nat.reduceAdd,Int.reduceBEq,tyf,Xl bX Yy,hneg,Xl x1 Xy,hvX.len,shl1 (show o.length≤62 by omega),hbig,testA hs0 hs1,hbit,if_true,Int.reduceBEq,loadA x4 (t:=97) (by rw [Xx,Wb hlen.2]),storeA (vs:=Vk o) f4 (t:=97) (by rw [Xx,Wb hlen.2]) (ordC_one o) (by rw [Wb hlen.2]; rfl),storeB f5 shp_4]
     exact back X hGX x4 hb _ rfl rfl
   simp only [Bool.not_eq_true] at hbit
   simp (maxSteps:=2000000) only [↓Zn,↓Zz,↓vdn,vup,List.map_cons,List.map_nil,cond_true,cond_false,aop,Zf,ev,sput,Ze,Yf,Yi,Zi,Vs,Nat.reduceBEq,Nat.reduceAdd,Int.reduceBEq,tyf,Xl bX Yy,hneg,Xl x1 Xy,hvX.len,shl1 (show o.length≤62 by omega),hbig,testA hs0 hs1,hbit,if_false,Bool.false_eq_true,Int.reduceBEq]
   refine hN2 _ _ ?_
   clear hN2 N2
   have hset:o.getD i 0=((bt o i:Nat):Int):=(Int.toNat_of_nonneg hs0).symm
   have hsl:bt o i<64:=by have h1:=hp.1; have:o.getD i 0<64:=by omega
                          omega
   simp (maxSteps:=2000000) only [↓Za,↓Zl,↓Yr,↓Zb,↓Zc,vup,List.map_cons,List.map_nil,cond_true,cond_false,aop,Zf,ev,sput,Ze,Nat.reduceBEq,Xl bX Yy,Yn,List.nil_append,List.append_nil]
   refine elements_call.mono ?_
   rintro _ _ ⟨rfl,rfl⟩
   rw [hset] at bX ⊢
   refine aw_range Ob.bitIter (bx:=X.length) (s:=bt o i) (et:=3) rfl (Zr _ _) (by omega) (fun pre hk=>Ext (fun _=>False) X hk∧∀ k∈pre,(Vl .andNot .i64 (o.getD k 0) (o.getD i 0)==0)=true) ⟨?_,fun _ hk=>by cases hk⟩ ?_ ?_
   · refine ⟨by simp,fun j hj _=>?_⟩
     rw [List.getElem?_set_ne (by omega),List.getElem?_append_left hj]
   · rintro pre x hk hpre ⟨hEk,hall⟩
     obtain ⟨hx64,hxb⟩:=Vd.1 (mem_pre hpre)
     have hxn:x<o.length:=by
      rcases Nat.lt_or_ge x o.length with h | h
      · exact h
      · have h2:bt o i<2 ^ o.length:=by
         have h3 : ¬ (2:Int) ^ o.length≤((bt o i:Nat):Int):=by rw [← hset]; exact hbig
         rw [← Vm] at h3
         omega
        rw [Nat.testBit_lt_two_pow (Nat.lt_of_lt_of_le h2 (Nat.pow_le_pow_right (by decide) h))] at hxb; cases hxb
     have k1:hk[n]? = some (.cells [tv] 27 false):=(hEk.2 _ (Yb x1) id).trans x1
     have k4:hk[n+3]? = some (.cells (Vk o) 97 false):=(hEk.2 _ (Yb x4) id).trans x4
     have kX:hk[m]? = some (.cells [.int .i64 ((bt o i:Nat):Int)] 3 false):=(hEk.2 _ (Yb bX) id).trans bX
     have hvk:IntSl hk tv o:=Ux hvX hEk
     have hlk:=hEk.1
     have hGk:Ext (fun i=>i=n+3) G hk:=⟨by omega,fun j hj hjn=>by rw [hEk.2 j (by omega) id]; exact hGX.2 j hj hjn⟩
     simp (maxSteps:=2000000) only [↓Za,↓Zl,↓Yr,↓Zb,↓Zc,vup,cond_true,cond_false,aop,Zf,ev,sput,Ze,Nat.reduceBEq,r54_0_a,r54_0_b]
     refine Yx [] (by kernel_rfl) (by kernel_rfl) (by kernel_rfl) (by kernel_rfl) ?_
     cases hlz:(Vl .andNot .i64 (o.getD x 0) ((bt o i:Nat):Int)==0) with
     | true =>
       have hlz' : (Vl .andNot .i64 (o.getD x 0) ((bt o i:Nat):Int) != 0)=false:=by rw [bne,hlz]; rfl
       simp (maxSteps:=2000000) only [↓Zn,↓Zz,↓vdn,vup,cond_true,cond_false,aop,Zf,Zo,ev,sput,Ze,Yf,Yi,Nat.reduceBEq,Nat.reduceAdd,tyf,Xl k1 Xy,hvk.idx Vy Wm hxn,hvk.load Yy hxn,Xl kX Yy,hlz']
       refine ⟨hEk,fun k hk'=>?_⟩
       rcases List.mem_append.1 hk' with h | h
       · exact hall k h
       · rw [List.mem_singleton.1 h,hset]; exact hlz
     | false =>
       have hlz' : (Vl .andNot .i64 (o.getD x 0) ((bt o i:Nat):Int) != 0)=true:=by rw [bne,hlz]; rfl
       have hb:=hbad (by
        have:((List.range o.length).all fun j=>!ab o i j || (Vl .andNot .i64 (o.getD j 0) (o.getD i 0)==0))=false:=by
         rw [List.all_eq_false]; exact ⟨x,List.mem_range.2 hxn,by rw [show ab o i x=true from hxb,hset,hlz]; decide⟩
        rw [okO,this,Bool.and_false])
       obtain ⟨g1,g2,g3,g4,g5⟩:=fin hk (ord o) hGk rfl
       rw [hrd] at g1 g2 g3 g5
       simp (maxSteps:=2000000) only [↓Za,↓Zl,↓Zu,↓Zb,↓Zc,↓Zz,↓vdn,vup,cond_true,cond_false,aop,Zf,Zo,ev,sput,Ze,Yf,Yi,Nat.reduceBEq,Nat.reduceAdd,tyf,Xl k1 Xy,hvk.idx Vy Wm hxn,hvk.load Yy hxn,Xl kX Yy,hlz',loadA k4 (t:=97) (by rw [Xx,Wb hlen.2]),storeA (vs:=Vk o) g4 (t:=97) (by rw [Xx,Wb hlen.2]) (ordC_one o) (by rw [Wb hlen.2]; rfl),storeB g5 shp_4,rangeQ]
       exact back hk hGk k4 hb _ rfl rfl
   · rintro hk ⟨hEk,hall⟩
     simp (maxSteps:=2000000) only [Zf,Zo]
     refine hN _ _ ?_
     simp (maxSteps:=2000000) only [↓Za,↓Zb,↓Zc,vup,cond_true,cond_false,aop,ev,sput,Ze,Yf,Yi,Nat.reduceBEq,add1 (show i<9223372036854775807 by omega)]
     have hlk:=hEk.1
     refine hQ2 _ _ _ ⟨(i+1,hk),⟨by simp only; omega,⟨by simp only; omega,fun j hj _=>?_⟩,fun k hk'=>?_⟩,by simp only; omega,by simp (maxSteps:=2000000) only [vup,cond_true,cond_false,Nat.reduceBEq],rfl⟩
     · show hk[j]? = F[j]?
       rw [hEk.2 j (by omega) id,hEX.2 j (by omega) id]; exact hE.2 j hj id
     · simp only at hk'
       by_cases hki:k=i
       · subst hki
         have hle:bt o k<2 ^ o.length:=by
          have h3 : ¬ (2:Int) ^ o.length≤((bt o k:Nat):Int):=by rw [← hset]; exact hbig
          rw [← Vm] at h3
          omega
         have:((List.range o.length).all fun j=>!ab o k j || (Vl .andNot .i64 (o.getD j 0) (o.getD k 0)==0))=true:=by
          rw [List.all_eq_true]
          intro j hj
          cases hkj:ab o k j with
          | false=>rfl
          | true=>rw [hall j (Vd.2 ⟨by have:=List.mem_range.1 hj; omega,hkj⟩)]; rfl
         rw [okO,decide_eq_true hs0,decide_eq_true (Int.not_le.1 hbig),hbit,this]; rfl
       · exact hok k (by omega)
 · obtain rfl:i=o.length:=by omega
   have ht:ord o=true:=by simp only [ord,Bool.and_eq_true,decide_eq_true_eq,List.all_eq_true,List.mem_range]; exact ⟨hlen,hok⟩
   obtain ⟨f1,f2,f3,f4,f5⟩:=fin hp0 true ⟨by omega,fun j hj hjn=>by rw [hE.2 j (by omega) id]; exact hEF.2 j hj hjn⟩ ht.symm
   rw [hrd] at f1 f2 f3 f5
   simp (maxSteps:=2000000) only [↓Za,↓Zl,↓Yo,↓Zb,↓Zc,↓vdn,vup,cond_true,cond_false,aop,Zf,ev,sput,Ze,Yf,Yi,Nat.reduceBEq,l54_1,Int.lt_irrefl]
   refine hQ2 _ _ _ (hQ _ _ _ ?_)
   simp (maxSteps:=2000000) only [↓Za,↓Zl,↓Zu,↓Zb,↓Zc,vup,cond_true,cond_false,aop,Zf,Zo,ev,sput,Ze,Nat.reduceBEq,Zs,Xn,tup,if_true,loadA e4 (t:=97) (by rw [Xx,Wb hlen.2]),storeA (vs:=Vk o) f4 (t:=97) (by rw [Xx,Wb hlen.2]) (ordC_one o) (by rw [Wb hlen.2]; rfl),storeB f5 shp_4,loadA f2 (t:=97) (by rw [Xx,Wb hlen.2]),Xl f3 shp_4]
   exact ⟨by rw [rdV,hrd,ht],f1⟩
end Go.Proofs.Tryd.Am.Or
namespace Go.Proofs.Tryd.Am.Or
open Go.Proofs.Tryd.Am
open Go.Am Ord
set_option maxRecDepth 100000
set_option maxHeartbeats 1000000
def frV (x y:Int):Value:=.agg #[Zd x,Zd y]
theorem low_frV (x y:Int):Low (frV x y):=.agg fun w hw=>by
 simp at hw; rcases hw with rfl | rfl <;> exact .int _ _
theorem loadF {h:Zh} {b:Nat} {x y:Int} {e:TypeId} {ro:Bool} {K:Value→Prop} (hb:h[b]? = some (.cells [Zd x,Zd y] e ro)):Xs prog h 45 (.pointer (some ⟨b,0,none⟩)) K=K (.agg #[Zd x,Zd y]) :=
 loadA hb (by rw [Je]; rfl)
theorem storeF {h:Zh} {b:Nat} {x y:Int} {e:TypeId} {c:List Value} {K:Zh→Prop} (hb:h[b]? = some (.cells c e false)) (hc:c.length=2):Xq prog h 45 (.pointer (some ⟨b,0,none⟩)) (.agg #[Zd x,Zd y]) K=K (h.set b (.cells [Zd x,Zd y] e false)) :=
 storeA (vs:=[Zd x,Zd y]) hb (by rw [Je]; rfl) rfl (by rw [hc]; rfl)
theorem bldF {x y:Int} {K:Value→Prop}:Wv prog 45 [(0,Zd x),(1,Zd y)] K=K (.agg #[Zd x,Zd y]):=by
 simp [Wv,zero_45,Vx,pl_45_0,pl_45_1,Wk,cellsOf,Yk]
theorem bldF0 {K:Value→Prop}:Wv prog 45 [] K=K (.agg #[Zd 0,Zd 0]):=by
 simp [Wv,zero_45,Vx,pl_45_0]
theorem tmodN (x y:Nat):((x:Nat):Int).tmod ((y:Nat):Int)=((x % y:Nat):Int):=by
 rw [Int.tmod_eq_emod_of_nonneg (by omega)]; rfl
theorem quoN {x y:Nat} (hx:x<9223372036854775808):quoV .i64 ((x:Nat):Int) ((y:Nat):Int)=((x / y:Nat):Int):=by
 have e:((x:Nat):Int).tdiv ((y:Nat):Int)=((x / y:Nat):Int):=by
  rw [Int.tdiv_eq_ediv_of_nonneg (by omega)]; rfl
 have h1:=Nat.div_le_self x y
 rw [quoV,e]
 generalize x / y=z at h1
 exact Uh (by omega) (by omega)
def fracV (a b:Nat):Value:=frV ((a / Nat.gcd a b:Nat):Int) ((b / Nat.gcd a b:Nat):Int)
theorem Us [Tabs prog] {h:Zh} {a b:Nat} (hb:0<b) (ha:a<9223372036854775808) (hb2:b<9223372036854775808):Xj prog 62 [Zd a,Zd b] h (fracV a b):=by
 have hg:0<Nat.gcd a b:=Nat.gcd_pos_of_pos_right a hb
 refine ACall.forget (low_frV _ _) ?_
 refine s62_call (by simp) ?_
 simp only [s62]
 have c0:=Zr h (Blk.cells [.int .i64 0,.int .i64 0] 45 false)
 have hE0:Ext (fun _=>False) h (h++[Blk.cells [.int .i64 0,.int .i64 0] 45 false]):=Ext.app _ _ _
 simp (maxSteps:=2000000) only [↓Za,↓Zl,↓Yr,↓Zb,↓Zc,vup,cond_true,cond_false,aop,Zf,Zp,ev,sput,Ze,Nat.reduceBEq,Nat.reduceAdd,tyf,Xg,Yg,↓Ui]
 refine Zy fun Q hQ=>?_
 refine aw_loop (γ:=Nat×Nat) (fun s=>Nat.gcd s.1 s.2=Nat.gcd a b∧s.1<9223372036854775808∧s.2<9223372036854775808)
  (fun s=>([(0,Zd a),(1,Zd b),(4,.pointer (some ⟨h.length,0,none⟩)),(5,Zd s.1),(6,Zd s.2)],h++[Blk.cells [.int .i64 0,.int .i64 0] 45 false])) (fun s=>s.2) (a,b) ⟨rfl,ha,hb2⟩ (by simp (maxSteps:=2000000) only [vup,cond_true,cond_false,Nat.reduceBEq]) rfl ?_
 rintro ⟨x,y⟩ ⟨hxy,hx,hy⟩
 simp only at hxy hx hy
 refine aw_hide fun Q2 hQ2=>?_
 by_cases hy0:y=0
 · subst hy0
   have e0:(((0:Nat):Int) != 0)=false:=rfl
   rw [Nat.gcd_zero_right] at hxy
   subst hxy
   simp (maxSteps:=2000000) only [↓Za,↓Zl,↓Yo,↓Zb,↓Zc,↓vdn,vup,cond_true,cond_false,aop,Zf,ev,sput,Ze,Yf,Yi,Nat.reduceBEq,l62_0,e0]
   refine hQ2 _ _ _ (hQ _ _ _ ?_)
   have hg0 : ¬ ((Nat.gcd a b:Nat):Int)=0:=by omega
   simp only [Zo,if_true,Zf]
   refine Yx [] (by kernel_rfl) (by kernel_rfl) (by kernel_rfl) (by kernel_rfl) ?_
   have c1 : ∀ {x y:Int} {K:Value→Prop},Xs prog ((h++[Blk.cells [.int .i64 0,.int .i64 0] 45 false]).set h.length (.cells [Zd x,Zd y] 45 false)) 45 (.pointer (some ⟨h.length,0,none⟩)) K=K (.agg #[Zd x,Zd y]):=fun {x y K}=>loadF (Xf (by simp) _)
   simp (maxSteps:=2000000) only [↓Zu,↓Zz,↓vdn,vup,List.map_cons,List.map_nil,cond_true,cond_false,aop,Zf,ev,sput,Ze,Yf,Yi,Nat.reduceBEq,Zs,Xn,tup,ne_eq,hg0,not_false_eq_true,quoN ha,quoN hb2,bldF,storeF c0 rfl,c1]
   exact ⟨rfl,by simp,fun i hi _=>by rw [List.getElem?_set_ne (by omega),List.getElem?_append_left hi]⟩
 · have e0:(((y:Nat):Int) != 0)=true:=by
    have:((y:Nat):Int)≠0:=by omega
    simpa using this
   have e1 : ¬ ((y:Nat):Int)=0:=by omega
   simp (maxSteps:=2000000) only [↓Za,↓Zn,↓Zl,↓Yr,↓Zb,↓Zc,↓vdn,vup,cond_true,cond_false,aop,Zf,ev,sput,Ze,Yf,Yi,Nat.reduceBEq,l62_0,e0]
   refine Yx [] (by kernel_rfl) (by kernel_rfl) (by kernel_rfl) (by kernel_rfl) ?_
   simp (maxSteps:=2000000) only [↓Zz,↓vdn,vup,cond_true,cond_false,aop,Zo,ev,sput,Ze,Yf,Yi,Nat.reduceBEq,ne_eq,e1,not_false_eq_true,tmodN]
   have hlt:=Nat.mod_lt x (show y > 0 by omega)
   refine hQ2 _ _ _ ⟨(y,x % y),⟨?_,hy,by simp only; omega⟩,hlt,by simp (maxSteps:=2000000) only [vup,cond_true,cond_false,Nat.reduceBEq],rfl⟩
   simp only
   rw [← hxy,Nat.gcd_comm x y,Nat.gcd_rec y x,Nat.gcd_comm]
end Go.Proofs.Tryd.Am.Or
namespace Go.Proofs.Tryd.Am.Or
open Go.Proofs.Tryd.Am
open Go.Am Ord
set_option maxRecDepth 100000
set_option maxHeartbeats 1000000
section
variable {P:Program} {h:Zh} {t e:TypeId} {b o n c k:Nat} {xs:List Int} {ro:Bool}
theorem idxS {K:Value→Prop} (he:elemOf' P t=some e) (hs:esz P e=some 1) (hk:k<n):Xb P t (.slice (some ⟨b,0,none⟩) n c) (Zd (k:Nat)) K=K (.pointer (some ⟨b,k,none⟩)):=by
 simp only [Xb,he,hs,Int.natCast_nonneg,Int.toNat_natCast,Nat.mul_one,Nat.zero_add,true_and,Int.ofNat_lt.2 hk]
theorem loadX {K:Value→Prop} (hb:h[b]? = some (.ints xs e ro)) (hs:shp P t=some none) (ho:o<xs.length):Xs P h t (.pointer (some ⟨b,o,none⟩)) K=K (Zd (xs.getD o 0)):=by
 simp only [Xs,hs,cellK,hb,ho,true_and]
theorem storeX {K:Zh→Prop} {x:Int} (hb:h[b]? = some (.ints xs e false)) (hs:shp P t=some none) (ho:o<xs.length):Xq P h t (.pointer (some ⟨b,o,none⟩)) (Zd x) K=K (h.set b (.ints (xs.set o x) e false)):=by
 simp only [Xq,hs,hb,ho,true_and]
end
def WS (o:List Int) (s:Nat):List Int:=(List.range (2 ^ o.length)).map fun k=>if k<s then ((W o k:Nat):Int) else 0
theorem WS_len {o:List Int} {s:Nat}:(WS o s).length=2 ^ o.length:=by simp [WS]
theorem WS_get {o:List Int} {s k:Nat} (hk:k<s) (hs:s≤2 ^ o.length):(WS o s).getD k 0=((W o k:Nat):Int):=by
 rw [WS,getD_map,if_pos (by omega),if_pos hk]
theorem WS_one {o:List Int}:(List.replicate (2 ^ o.length) (0:Int)).set 0 1=WS o 1:=by
 have hp:=Nat.two_pow_pos o.length
 refine List.ext_getElem (by simp [WS_len]) fun i h1 h2=>?_
 rw [List.getElem_set]
 by_cases hi:0=i
 · subst hi; simp [WS,W_zero]
 · rw [if_neg hi]; simp [WS]; omega
theorem WS_set {o:List Int} {s:Nat}:(WS o s).set s ((W o s:Nat):Int)=WS o (s+1):=by
 refine List.ext_getElem (by simp [WS_len]) fun i h1 h2=>?_
 rw [List.getElem_set]
 by_cases hi:s=i
 · subst hi; simp [WS]
 · rw [if_neg hi]
   simp only [WS,List.getElem_map,List.getElem_range]
   by_cases hlt:i<s
   · rw [if_pos hlt,if_pos (by omega)]
   · rw [if_neg hlt,if_neg (by omega)]
theorem WS_zero {o:List Int} {s:Nat} (hs:s<2 ^ o.length):(WS o s).set s 0=WS o s:=by
 refine List.ext_getElem (by simp) fun i h1 h2=>?_
 rw [List.getElem_set]
 by_cases hi:s=i
 · subst hi; simp [WS]
 · rw [if_neg hi]
def ps (o:List Int) (s:Nat) (pre:List Nat):Nat:=((pre.filter (okLast o s)).map fun i=>W o (less s (2 ^ i))).sum
theorem ps_snoc {o:List Int} {s:Nat} {pre:List Nat} {x:Nat}:ps o s (pre++[x])=if okLast o s x=true then ps o s pre+W o (less s (2 ^ x)) else ps o s pre:=by
 unfold ps
 rw [List.filter_append,List.map_append,List.sum_append,List.filter_cons]
 split <;> simp
theorem ps_le {o:List Int} {s:Nat} (hs:s<64) : ∀ pre:List Nat,ps o s pre≤pre.length*46656:=by
 intro pre
 unfold ps
 induction pre with
 | nil=>simp
 | cons x pre ih =>
   rw [List.filter_cons,List.length_cons,Nat.succ_mul]
   split
   · rw [List.map_cons,List.sum_cons]
     have:=W_le (o:=o) (s:=less s (2 ^ x)) (less_lt (n:=6) hs)
     omega
   · omega
theorem eq0 (n:Nat):(((n:Nat):Int)==0)=decide (n=0):=by
 by_cases h:n=0
 · subst h; rfl
 · rw [decide_eq_false h]
   have:((n:Nat):Int)≠0:=by omega
   simpa using this
theorem counted_call [BitTab prog 0] {h:Zh} {o:List Int} (ho:ord o=true):Xj prog 56 [ordV o] h (Zd (cn o:Nat)):=by
 have hlen:=Wj ho
 have hpw:=pow6 hlen.2
 refine ACall.forget (Low.int _ _) ?_
 refine s56_call (by simp) ?_
 simp only [s56]
 refine Wt fun N hN=>?_
 simp (maxSteps:=2000000) only [↓Za,↓Zb,↓Zc,vup,cond_true,cond_false,aop,Zf,Zp,ev,sput,Ze,Nat.reduceBEq,boxO esz_97,Yg]
 refine hN _ _ ?_
 clear hN N
 obtain ⟨n,hn⟩ : ∃ n,n=h.length:=⟨_,rfl⟩
 rw [← hn]
 have hadd:addV .i64 ((2 ^ o.length-1:Nat):Int) 1=((2 ^ o.length:Nat):Int):=by rw [addV_id (by omega) (by omega)]; omega
 have hm0:(0:Int)≤((2 ^ o.length:Nat):Int):=Int.natCast_nonneg _
 have hm1:((2 ^ o.length:Nat):Int)≤35184372088832:=by omega
 have c0:(h++[Blk.cells (Vk o) 97 false])[n]? = some (.cells (Vk o) 97 false):=by rw [hn]; exact Zr _ _
 refine Wt fun N hN=>?_
 simp (maxSteps:=2000000) only [↓Za,↓Zb,↓Zc,vup,List.map_cons,List.map_nil,cond_true,cond_false,aop,Zf,ev,sput,Ze,Yf,Yi,Nat.reduceBEq,tyf,loadO c0 Xx hlen.2,Yn,List.nil_append,List.append_nil]
 refine (all_call hlen.2).mono ?_
 rintro _ _ ⟨rfl,rfl⟩
 simp (maxSteps:=2000000) only [vup,tyf,hadd,makeI Vy zero_3 info_3 hm0 hm1,Int.toNat_natCast,Xg,Yg]
 obtain ⟨N0,hN0⟩ : ∃ N0,N0=2 ^ o.length:=⟨_,rfl⟩
 obtain ⟨S,hS⟩ : ∃ S:Value,S = .slice (some ⟨n+1,0,none⟩) N0 N0:=⟨_,rfl⟩
 simp only [List.length_append,List.length_cons,List.length_nil,Nat.zero_add,Nat.add_assoc,Nat.reduceAdd,← hn,← hN0,← hS]
 have hone:one S=true:=by rw [hS]; rfl
 have c2:(h++[Blk.cells (Vk o) 97 false]++[Blk.ints (List.replicate N0 0) 3 false]++[Blk.cells [.slice none 0 0] 27 false])[n+2]? = some (.cells [.slice none 0 0] 27 false):=by
  have:=Zr (h++[Blk.cells (Vk o) 97 false]++[Blk.ints (List.replicate N0 0) 3 false]) (Blk.cells [.slice none 0 0] 27 false)
  simpa [hn] using this
 rw [store1 c2 Xy hone]
 obtain ⟨H,hH⟩ : ∃ H,H=(h++[Blk.cells (Vk o) 97 false]++[Blk.ints (List.replicate N0 0) 3 false]++[Blk.cells [.slice none 0 0] 27 false]).set (n+2) (.cells [S] 27 false):=⟨_,rfl⟩
 rw [← hH]
 have hHl:H.length=n+3:=by rw [hH,hn]; simp
 have b0:H[n]? = some (.cells (Vk o) 97 false):=by rw [hH,List.getElem?_set_ne (by omega)]; exact Yp (Yp c0 _) _
 have b1:H[n+1]? = some (.ints (List.replicate N0 0) 3 false):=by
  rw [hH,List.getElem?_set_ne (by omega)]
  have:=Zr (h++[Blk.cells (Vk o) 97 false]) (Blk.ints (List.replicate N0 0) 3 false)
  simp only [List.length_append,List.length_singleton,← hn] at this
  exact Yp this _
 have b2:H[n+2]? = some (.cells [S] 27 false):=by rw [hH]; exact Xf (by rw [hn]; simp) _
 have hE0:Ext (fun _=>False) h H:=⟨by omega,fun i hi _=>by
  rw [hH,List.getElem?_set_ne (by omega),List.append_assoc,List.append_assoc,List.getElem?_append_left hi]⟩
 clear c2 hH
 refine hN _ _ ?_
 clear hN N
 -- ways[0] = 1
 refine Wt fun N hN=>?_
 have hidx : ∀ {k:Nat} {K:Value→Prop},k<N0→Xb prog 27 S (Zd (k:Nat)) K=K (.pointer (some ⟨n+1,k,none⟩)):=fun {k K} hk=>by rw [hS]; exact idxS Vy Wm hk
 have hidx0 : ∀ {K:Value→Prop},Xb prog 27 S (.int .i64 0) K=K (.pointer (some ⟨n+1,0,none⟩)):=fun {K}=>hidx (k:=0) (by omega)
 simp (maxSteps:=2000000) only [↓Za,↓Zb,↓Zc,vup,cond_true,cond_false,aop,Zf,ev,sput,Ze,Nat.reduceBEq,Xl b2 Xy,hidx0]
 rw [storeX (x:=1) b1 Yy (by simp; omega)]
 refine hN _ _ ?_
 clear hN N
 obtain ⟨G,hG⟩ : ∃ G,G=H.set (n+1) (.ints ((List.replicate N0 0).set 0 1) 3 false):=⟨_,rfl⟩
 rw [← hG]
 rw [hN0,WS_one] at hG
 have hGl:G.length=n+3:=by rw [hG]; simp [hHl]
 have g0:G[n]? = some (.cells (Vk o) 97 false):=by rw [hG,List.getElem?_set_ne (by omega)]; exact b0
 have g1:G[n+1]? = some (.ints (WS o 1) 3 false):=by rw [hG]; exact Xf (by omega) _
 have g2:G[n+2]? = some (.cells [S] 27 false):=by rw [hG,List.getElem?_set_ne (by omega)]; exact b2
 have hEG:Ext (fun _=>False) h G:=⟨by omega,fun i hi _=>by rw [hG,List.getElem?_set_ne (by omega)]; exact hE0.2 i hi id⟩
 clear b0 b1 b2 hG hE0 hHl
 clear H
 -- the sets
 simp (maxSteps:=2000000) only [↓Za,↓Zl,↓Yr,↓Zb,↓Zc,vup,cond_true,cond_false,aop,Zf,ev,sput,Ze,Nat.reduceBEq,tyf,Xg,Yg]
 rw [storeI (v:=.int .i64 0) (e:=3) (Zr _ _) Yy,hGl]
 obtain ⟨F,hF⟩ : ∃ F,F=(G++[Blk.cells [.int .i64 0] 3 false]).set (n+3) (.cells [.int .i64 1] 3 false):=⟨_,rfl⟩
 rw [← hF]
 have hFl:F.length=n+4:=by rw [hF]; simp [hGl]
 have oldF : ∀ {k B},G[k]? = some B→F[k]? = some B:=fun {k B} hk=>by
  have:=Yb hk
  rw [hF,List.getElem?_set_ne (by omega)]; exact Yp hk _
 have f3:F[n+3]? = some (.cells [.int .i64 1] 3 false):=by rw [hF]; exact Xf (by simp [hGl]) _
 have hEF:Ext (fun _=>False) h F:=⟨by omega,fun i hi _=>by rw [hF,List.getElem?_set_ne (by omega),List.getElem?_append_left (by omega)]; exact hEG.2 i hi id⟩
 have f0:=oldF g0
 have f1:=oldF g1
 have f2:=oldF g2
 clear g0 g1 g2 oldF hEG hF hGl
 clear G
 simp only [↓Ui]
 refine Zy fun Q hQ=>?_
 refine aw_loop (γ:=Nat×Nat×Zh) (fun s=>1≤s.1∧s.1≤N0∧n+3≤s.2.1∧s.2.2[n]? = some (.cells (Vk o) 97 false)∧s.2.2[n+1]? = some (.ints (WS o s.1) 3 false)∧s.2.2[n+2]? = some (.cells [S] 27 false)∧s.2.2[s.2.1]? = some (.cells [Zd (s.1:Nat)] 3 false)∧Ext (fun _=>False) h s.2.2)
  (fun s=>([(0,ordV o),(1,.pointer (some ⟨n,0,none⟩)),(2,.int .i64 0),(3,.pointer (some ⟨n+2,0,none⟩)),(4,.pointer (some ⟨s.2.1,0,none⟩))],s.2.2)) (fun s=>N0-s.1) (1,n+3,F) ⟨Nat.le_refl _,by omega,Nat.le_refl _,f0,f1,f2,f3,hEF⟩ (by simp (maxSteps:=2000000) only [vup,cond_true,cond_false,Nat.reduceBEq]) rfl ?_
 rintro ⟨s,b,hp⟩ ⟨hs1,hsN,hb,e0,e1,e2,e3,hE⟩
 simp only at hs1 hsN hb e0 e1 e2 e3 hE
 refine aw_hide fun Q2 hQ2=>?_
 have hbl:=Yb e3
 have hlE:=hE.1
 simp only [l56_1]
 simp (maxSteps:=2000000) only [↓Zl]
 refine Yx [(2,1)] (by kernel_rfl) (by kernel_rfl) (by kernel_rfl) (by kernel_rfl) ?_
 simp (maxSteps:=2000000) only [↓Zz,↓vdn,vup,List.map_cons,List.map_nil,cond_true,cond_false,aop,Zf,ev,sput,Ze,Yf,Yi,Nat.reduceBEq,Nat.reduceAdd,tyf,Xl e3 Yy,loadO e0 Xx hlen.2,Yn,List.nil_append,List.append_nil]
 refine ⟨_,_,all_call hlen.2,rfl,?_⟩
 by_cases hlast:s=N0
 · have hle : ¬ (s:Int)≤((2 ^ o.length-1:Nat):Int):=by omega
   simp (maxSteps:=2000000) only [↓Yo,↓vdn,vup,cond_true,cond_false,Zf,ev,Nat.reduceBEq,hle]
   refine hQ2 _ _ _ (hQ _ _ _ ?_)
   simp (maxSteps:=2000000) only [↓Zl,Zf,Zo,Zs]
   refine Yx [(2,1)] (by kernel_rfl) (by kernel_rfl) (by kernel_rfl) (by kernel_rfl) ?_
   simp (maxSteps:=2000000) only [↓Zu,↓Zz,↓vdn,vup,List.map_cons,List.map_nil,cond_true,cond_false,aop,Zf,ev,sput,Ze,Nat.reduceBEq,Nat.reduceAdd,Zs,Xn,tup,Xl e2 Xy,loadO e0 Xx hlen.2,Yn,List.nil_append,List.append_nil]
   refine ⟨_,_,all_call hlen.2,rfl,?_⟩
   have hk:2 ^ o.length-1<N0:=by omega
   have hk2:2 ^ o.length-1<(WS o s).length:=by rw [WS_len]; omega
   have hget:(WS o s).getD (2 ^ o.length-1) 0=((cn o:Nat):Int):=by rw [WS_get (by omega) (by omega),cn_len ho]
   simp (maxSteps:=2000000) only [vup,hidx hk,loadX e1 Yy hk2,hget]
   exact hE
 have hs:s<64:=by omega
 have hle:(s:Int)≤((2 ^ o.length-1:Nat):Int):=by omega
 simp (maxSteps:=2000000) only [↓Za,↓Zn,↓Zl,↓Yr,↓Zb,↓Zc,↓vdn,vup,List.map_cons,List.map_nil,cond_true,cond_false,aop,Zf,ev,sput,Ze,Nat.reduceBEq,hle,Xl e3 Yy,Yn,List.nil_append,List.append_nil]
 refine elements_call.mono ?_
 rintro _ _ ⟨rfl,rfl⟩
 have hWl:(WS o s).length=N0:=by rw [WS_len,hN0]
 refine aw_range Ob.bitIter (bx:=hp.length) (s:=s) (et:=3) rfl (Zr _ _) (by omega) (fun pre hk=>hk[n]? = some (.cells (Vk o) 97 false)∧hk[n+1]? = some (.ints ((WS o s).set s ((ps o s pre:Nat):Int)) 3 false)∧hk[n+2]? = some (.cells [S] 27 false)∧hk[b]? = some (.cells [Zd (s:Nat)] 3 false)∧Ext (fun i=>i=n+1) hp hk∧Ext (fun _=>False) h hk) ?_ ?_ ?_
 · have old : ∀ {k B},hp[k]? = some B→((hp++[Blk.cells [Zd (s:Nat)] 3 false]).set hp.length .dead)[k]? = some B:=fun {k B} hk=>by
    have:=Yb hk
    rw [List.getElem?_set_ne (by omega)]; exact Yp hk _
   refine ⟨old e0,?_,old e2,old e3,⟨by simp,fun j hj _=>?_⟩,⟨by simp; omega,fun j hj _=>?_⟩⟩
   · rw [show ps o s []=0 from rfl,Int.natCast_zero,WS_zero (by omega)]; exact old e1
   · rw [List.getElem?_set_ne (by omega),List.getElem?_append_left hj]
   · rw [List.getElem?_set_ne (by omega),List.getElem?_append_left (by omega)]; exact hE.2 j hj id
 · rintro pre x hk hpre ⟨k0,k1,k2,k3,hEk,hEh⟩
   obtain ⟨hx64,hxb⟩:=Vd.1 (mem_pre hpre)
   have hx6:x<o.length:=by
    rcases Nat.lt_or_ge x o.length with h | h
    · exact h
    · rw [Nat.testBit_lt_two_pow (Nat.lt_of_lt_of_le (show s<2 ^ o.length by omega) (Nat.pow_le_pow_right (by decide) h))] at hxb; cases hxb
   have hpl:pre.length≤64:=by
    obtain ⟨t,ht⟩:=hpre
    have h1:=bits_len6 hs
    have h2:=congrArg List.length ht
    simp only [List.length_append,List.length_singleton] at h2
    omega
   have hps:=ps_le (o:=o) hs pre
   have hdl:=dn_lt (o:=o) (i:=x)
   have hxn:=ord_nat ho hx6
   have hand1:=Uv (a:=dn o x) (b:=s) (by omega) (by omega)
   have hand2:Vl .and .i64 (o.getD x 0) (s:Int)=((bt o x &&& s:Nat):Int):=by rw [hxn.1]; exact bitsV_and (by omega) (by omega)
   simp (maxSteps:=2000000) only [↓Za,↓Zl,↓Yr,↓Zb,↓Zc,vup,cond_true,cond_false,aop,Zf,ev,sput,Ze,Nat.reduceBEq,r56_0_a,r56_0_b]
   refine Yx [(2,1)] (by kernel_rfl) (by kernel_rfl) (by kernel_rfl) (by kernel_rfl) ?_
   simp (maxSteps:=2000000) only [↓vdn,vup,List.map_cons,List.map_nil,cond_true,cond_false,aop,ev,sput,Ze,Yf,Yi,Nat.reduceBEq,Nat.reduceAdd,tyf,loadO k0 Xx hlen.2,Yn,List.nil_append,List.append_nil]
   refine ⟨_,_,below_call ho,rfl,?_⟩
   by_cases hd1:less (dn o x) s=0
   · by_cases hd2:bt o x &&& s=0
     · have hok:okLast o s x=true:=by simp [okLast,hd1,hd2]
       have hlt:=less_bit_lt hxb
       have h2x:2 ^ x≤32:=Nat.pow_le_pow_right (n:=2) (j:=5) (by decide) (by omega)
       have hshl:shlV .i64 1 x=2 ^ x:=shl1 (by omega)
       have hand3:Vl .andNot .i64 (s:Int) (2 ^ x)=((less s (2 ^ x):Nat):Int):=by
        have:=Uv (a:=s) (b:=2 ^ x) (by omega) (by omega)
        rw [Vm] at this; exact this
       have hi1:s<N0:=by omega
       have hi2:less s (2 ^ x)<N0:=by omega
       have hsl:s<((WS o s).set s ((ps o s pre:Nat):Int)).length:=by rw [List.length_set]; omega
       have hsl2:less s (2 ^ x)<((WS o s).set s ((ps o s pre:Nat):Int)).length:=by rw [List.length_set]; omega
       have hg1:((WS o s).set s ((ps o s pre:Nat):Int)).getD s 0=((ps o s pre:Nat):Int):=by
        rw [List.getD,List.getElem?_set_self (by omega)]; rfl
       have hg2:((WS o s).set s ((ps o s pre:Nat):Int)).getD (less s (2 ^ x)) 0=((W o (less s (2 ^ x)):Nat):Int):=by
        rw [List.getD,List.getElem?_set_ne (by omega)]; exact WS_get hlt (by omega)
       have hW:=W_le (o:=o) (s:=less s (2 ^ x)) (by omega)
       have hsum:addV .i64 ((ps o s pre:Nat):Int) ((W o (less s (2 ^ x)):Nat):Int)=((ps o s (pre++[x]):Nat):Int):=by
        rw [ps_snoc,if_pos hok,addV_id (by omega) (by omega)]; omega
       have hone2:(0:Nat)<1:=by decide
       simp (maxSteps:=2000000) only [↓Zz,↓vdn,vup,cond_true,cond_false,aop,Zf,ev,sput,Ze,Yf,Yi,Vs,Nat.reduceBEq,Nat.reduceAdd,Int.reduceBEq,tyf,Xl k3 Yy,hand1,hd1,Int.natCast_zero,fldA Ua esz_95,idxA und_95 Wm (show x<6 by omega),loadI k0 Yy hlen.2 (show x<6 by omega),hand2,hd2]
       refine Yx [] (by kernel_rfl) (by kernel_rfl) (by kernel_rfl) (by kernel_rfl) ?_
       simp (maxSteps:=2000000) only [↓Zz,↓vdn,vup,cond_true,cond_false,aop,Zo,ev,sput,Ze,Yf,Yi,Nat.reduceBEq,Nat.reduceAdd,tyf,Xl k2 Xy,Xl k3 Yy,hidx hi1,loadX k1 Yy hsl,hg1,hshl,hand3,hidx hi2,loadX k1 Yy hsl2,hg2,hsum,storeX k1 Yy hsl,List.set_set,rangeQ]
       have hlk:=Yb k1
       refine ⟨?_,Xf hlk _,?_,?_,?_,?_⟩
       · rw [List.getElem?_set_ne (by omega)]; exact k0
       · rw [List.getElem?_set_ne (by omega)]; exact k2
       · rw [List.getElem?_set_ne (by omega)]; exact k3
       · exact hEk.trans (Ext.set _ rfl)
       · exact ⟨by simp; exact hEh.1,fun j hj _=>by rw [List.getElem?_set_ne (by omega)]; exact hEh.2 j hj id⟩
     · have hok:okLast o s x=false:=by simp [okLast,hd2]
       have hne:(((bt o x &&& s:Nat):Int)==0)=false:=by rw [eq0,decide_eq_false hd2]
       simp (maxSteps:=2000000) only [↓Zn,↓Zz,↓vdn,vup,cond_true,cond_false,aop,Zf,Zo,ev,sput,Ze,Yf,Yi,Vs,Nat.reduceBEq,Nat.reduceAdd,Int.reduceBEq,tyf,Xl k3 Yy,hand1,hd1,Int.natCast_zero,fldA Ua esz_95,idxA und_95 Wm (show x<6 by omega),loadI k0 Yy hlen.2 (show x<6 by omega),hand2,hne,rangeQ]
       refine ⟨k0,?_,k2,k3,hEk,hEh⟩
       rw [ps_snoc,if_neg (by rw [hok]; decide)]; exact k1
   · have hok:okLast o s x=false:=by simp [okLast,hd1]
     have hne:(((less (dn o x) s:Nat):Int)==0)=false:=by rw [eq0,decide_eq_false hd1]
     simp (maxSteps:=2000000) only [↓Zn,↓Zz,↓vdn,vup,cond_true,cond_false,aop,Zf,Zo,ev,sput,Ze,Vs,Nat.reduceBEq,Xl k3 Yy,hand1,hne,rangeQ]
     refine ⟨k0,?_,k2,k3,hEk,hEh⟩
     rw [ps_snoc,if_neg (by rw [hok]; decide)]; exact k1
 · rintro hk ⟨k0,k1,k2,k3,hEk,hEh⟩
   have hW:ps o s (Am.bits s)=W o s:=by rw [W_step (by omega) (by omega)]; rfl
   rw [hW,WS_set] at k1
   have hlk:=hEk.1
   simp (maxSteps:=2000000) only [↓Za,↓Zl,↓Zb,↓Zc,vup,cond_true,cond_false,aop,Zf,Zo,ev,sput,Ze,Yf,Yi,Nat.reduceBEq,tyf,Xl k3 Yy,Xg,Yg]
   rw [storeI (v:=.int .i64 0) (e:=3) (Zr _ _) Yy]
   have j3:((hk++[Blk.cells [Value.int .i64 0] 3 false]).set hk.length (Blk.cells [.int .i64 (s:Int)] 3 false))[hk.length]? = some (Blk.cells [.int .i64 (s:Int)] 3 false):=Xf (by simp) _
   simp (maxSteps:=2000000) only [vup,Xl j3 Yy,add1 (show s<9223372036854775807 by omega),storeI j3 Yy,List.set_set]
   have old : ∀ {k B},hk[k]? = some B→((hk++[Blk.cells [Value.int .i64 0] 3 false]).set hk.length (Blk.cells [.int .i64 ((s+1:Nat):Int)] 3 false))[k]? = some B:=fun {k B} hk'=>by
    have:=Yb hk'
    rw [List.getElem?_set_ne (by omega)]; exact Yp hk' _
   refine hQ2 _ _ _ ⟨(s+1,hk.length,_),⟨by simp only; omega,by simp only; omega,by simp only; omega,old k0,old k1,old k2,Xf (by simp) _,⟨by simp; omega,fun j hj _=>?_⟩⟩,by simp only; omega,by simp (maxSteps:=2000000) only [vup,cond_true,cond_false,Nat.reduceBEq],rfl⟩
   have hEl:=hEh.1
   rw [List.getElem?_set_ne (by omega),List.getElem?_append_left (by omega)]; exact hEh.2 j hj id
end Go.Proofs.Tryd.Am.Or
namespace Go.Proofs.Tryd.Am.Or
open Go.Proofs.Tryd.Am
open Go.Am Ord
set_option maxRecDepth 100000
set_option maxHeartbeats 1000000
theorem clone_call [Tabs prog] {h:Zh} {v:Value} {xs:List Int} (hv:IntSl h v xs) (hl:xs.length<1099511627776):ACall prog 13 [v] h fun r h'=>IntSl h' r xs∧∃ g,h' = h++g:=by
 refine s13_call (by simp) ?_
 have hv':=hv
 rcases hv with ⟨rfl,rfl⟩ | ⟨b,o,sp,cap,c,e,ro,rfl,hc,hb,hx⟩
 · simp (maxSteps:=2000000) only [s13,↓Za,↓Zl,↓Zu,↓Zb,↓Zc,↓vdn,vup,cond_true,cond_false,aop,Zf,Zp,ev,sput,Ze,Yf,Nat.reduceBEq,Zs,Xn,tup,tyf,Option.isSome_some]
   exact ⟨.inl ⟨rfl,rfl⟩,[],by rw [List.append_nil]⟩
 · simp (maxSteps:=2000000) only [s13,↓Za,↓Zn,↓Zl,↓Zu,↓Zb,↓Zc,↓vdn,vup,List.map_cons,List.map_nil,cond_true,cond_false,aop,Zf,Zp,ev,sput,Ze,Yf,Zi,Nat.reduceBEq,Zs,Xn,tup,tyf,Option.isSome_some]
   simp only [Yj,Vy,zero_3,Wm,reps,Vx,mkb,Yv]
   refine And.intro rfl (And.intro Nat.zero_lt_one (And.intro (Nat.zero_le _) ?_))
   refine (hv'.grow [.ints [] 3 false]).copy app_27_27 hl (by rw [List.getElem?_append_right (Nat.le_refl _)]; simp) ?_
   intro r g hr _
   exact ⟨hr,_,List.append_assoc _ _ _⟩
theorem storeRd {h:Zh} {o:List Int} {K:Zh→Prop}:Xq prog (h++[Blk.cells (ordN 0) 97 false]) 97 (.pointer (some ⟨h.length,0,none⟩)) (rdV o) K=K ((h++[Blk.cells (ordN 0) 97 false]).set h.length (.cells (rdC o) 97 false)) :=
 storeA (c:=ordN 0) (Zr _ _) (by rw [Xx,rdC_len]) (rdC_one o) (by rw [rdC_len]; rfl)
theorem rdBox (h:Zh) (o:List Int):Ext (fun _=>False) h ((h++[Blk.cells (ordN 0) 97 false]).set h.length (.cells (rdC o) 97 false))∧((h++[Blk.cells (ordN 0) 97 false]).set h.length (.cells (rdC o) 97 false))[h.length]? = some (.cells (rdC o) 97 false) :=
 ⟨⟨by simp,fun i hi _=>by rw [List.getElem?_set_ne (by omega),List.getElem?_append_left hi]⟩,Xf (by simp) _⟩
def countV (o:List Int):Value:=if ord o=true then .tuple #[Zd (cn o:Nat),.int .i64 0] else .tuple #[.int .i64 0,.int .i64 2]
theorem count_call [BitTab prog 0] {h:Zh} {v:Value} {o:List Int} (hv:IntSl h v o) (hl:o.length<9223372036854775808) (hx : ∀ x∈o,-9223372036854775808≤x∧x<9223372036854775808):Xj prog 18 [v] h (countV o):=by
 have hlow:Low (countV o):=by unfold countV; split <;> exact .pair (.int _ _) (.int _ _)
 refine ACall.forget hlow ?_
 refine s18_call (by simp) ?_
 simp only [s18]
 simp (maxSteps:=2000000) only [↓Za,↓Zl,↓Zb,↓Zc,vup,List.map_cons,List.map_nil,cond_true,cond_false,aop,Zf,Zp,ev,sput,Ze,unK,Nat.reduceBEq,Yn,List.nil_append,List.append_nil]
 refine (read_call hv hl hx).mono ?_
 rintro _ g ⟨rfl,rfl⟩
 simp (maxSteps:=2000000) only [Wh,Wi,tyf,Xg,Yg,zeroN]
 rw [storeRd]
 obtain ⟨hE,hb⟩:=rdBox g o
 generalize hgl:g.length=gl at hE hb ⊢
 generalize (g++[Blk.cells (ordN 0) 97 false]).set gl (.cells (rdC o) 97 false)=G at hE hb ⊢
 cases ho:ord o with
 | false =>
   simp (maxSteps:=2000000) only [↓Za,↓Zl,↓Zu,↓Zb,↓Zc,↓vdn,vup,cond_true,cond_false,aop,Zf,ev,sput,Ze,Nat.reduceBEq,Zs,Xn,tup]
   rw [countV,ho]
   exact ⟨rfl,hE⟩
 | true =>
   have hrd:rdC o=Vk o:=if_pos (Wj ho)
   rw [hrd] at hb
   simp (maxSteps:=2000000) only [↓Za,↓Zn,↓Zl,↓Zu,↓Zb,↓Zc,↓vdn,vup,List.map_cons,List.map_nil,cond_true,cond_false,aop,Zf,ev,sput,Ze,Nat.reduceBEq,Zs,Xn,tup,loadO hb Xx (Wj ho).2,Yn,List.nil_append,List.append_nil]
   refine (counted_call ho).mono ?_
   rintro _ _ ⟨rfl,rfl⟩
   rw [countV,ho]
   exact ⟨rfl,hE⟩
theorem lit2 {h:Zh} {x y:Int} (K:Value→Zh→Prop):Yj prog h 27 2 [(0,Zd x),(1,Zd y)] K=K (.slice (some ⟨h.length,0,none⟩) 2 2) (h++[.ints [x,y] 3 false]):=by
 simp only [Yj,Vy,zero_3,Wm,reps,Vx,mkb,Wk,cellsOf,List.length_singleton,Nat.mul_one,Nat.zero_add]
 exact propext ⟨fun h=>h.2.2.2,fun h=>⟨trivial,Nat.zero_lt_one,by decide,h⟩⟩
theorem litSl {h:Zh} {xs:List Int}:IntSl (h++[.ints xs 3 false]) (.slice (some ⟨h.length,0,none⟩) xs.length xs.length) xs :=
 .inr ⟨h.length,0,none,xs.length,xs.map Zd,3,false,rfl,Nat.le_refl _,by simp [view,Blk.view],fun i hi=>by simp [List.getD,hi]⟩
theorem awake_call [BitTab prog 0] {h:Zh}:Xj prog 17 [] h (.bool true):=by
 have hc:countV [0,0] = .tuple #[Zd 2,.int .i64 0]:=by
  have h1:ord [0,0]=true:=by decide
  have h2:cn [0,0]=2:=by decide
  rw [countV,h1,if_pos rfl,h2]; rfl
 refine ACall.forget (Low.bool _) ?_
 refine s17_call (by simp) ?_
 simp (maxSteps:=2000000) only [s17,↓Za,↓Zl,↓Zu,↓Zb,↓Zc,↓vdn,vup,List.map_cons,List.map_nil,cond_true,cond_false,aop,Zf,Zp,ev,sput,Ze,Yf,Yi,Nat.reduceBEq,Zs,Xn,tup,tyf,lit2,Yn,List.nil_append,List.append_nil]
 refine (count_call (o:=[0,0]) litSl (by decide) (by decide)).mono ?_
 rintro _ _ ⟨rfl,rfl⟩
 rw [hc]
 simp (maxSteps:=2000000) only [↓Zu,↓Zb,↓Zc,↓vdn,vup,Wh,Wi,cond_true,cond_false,aop,Zf,ev,sput,Ze,Yf,Yi,Nat.reduceBEq,Int.reduceBEq,Zs,Xn,tup]
 exact Ext.app _ _ _
def growL (o:List Int) (u:Nat) (pre:List Nat):List Int:=(List.range o.length).map fun k=>if k∈pre then ((bt o k ||| u:Nat):Int) else o.getD k 0
theorem growL_len {o:List Int} {u:Nat} {pre:List Nat}:(growL o u pre).length=o.length:=by simp [growL]
theorem growL_nil {o:List Int} {u:Nat}:growL o u []=o:=by
 refine List.ext_getElem (by simp [growL]) fun i h1 h2=>?_
 simp [growL,List.getD,h2]
theorem growL_snoc {o:List Int} {u x:Nat} {pre:List Nat} (hx:x<o.length):(growL o u pre).set x ((bt o x ||| u:Nat):Int)=growL o u (pre++[x]):=by
 refine List.ext_getElem (by simp [growL]) fun i h1 h2=>?_
 rw [List.getElem_set]
 by_cases hi:x=i
 · subst hi; simp [growL]
 · rw [if_neg hi]
   simp [growL,Ne.symm hi]
theorem growL_get {o:List Int} {u x:Nat} {pre:List Nat} (hx:x<o.length) (hn:x ∉ pre):(growL o u pre).getD x 0=o.getD x 0:=by
 rw [growL,getD_map,if_pos hx,if_neg hn]
theorem growL_add {o:List Int} (ho:ord o=true) {i j:Nat} (hi:i<o.length):growL o (bt o j ||| 2 ^ j) (Am.bits (dn o i ||| 2 ^ i))=addL o i j:=by
 rw [growL,addL]
 refine List.map_congr_left fun k hk=>?_
 have hk':=List.mem_range.1 hk
 have hl:=Wj ho
 have:k∈Am.bits (dn o i ||| 2 ^ i)↔(k=i∨ab o k i=true):=by
  rw [Vd,Nat.testBit_or,Nat.testBit_two_pow,dn_bit' ho,Bool.or_eq_true,decide_eq_true_eq]
  constructor
  · rintro ⟨_,h | h⟩
    · exact .inr h
    · exact .inl h.symm
  · rintro (h | h)
    · exact ⟨by omega,.inr h.symm⟩
    · exact ⟨by omega,.inl h⟩
 by_cases h:k=i∨ab o k i=true
 · rw [if_pos h,if_pos (this.2 h)]
 · rw [if_neg h,if_neg (fun h'=>h (this.1 h'))]
theorem add_call [BitTab prog 0] {h:Zh} {o:List Int} (ho:ord o=true) {i j:Nat} (hi:i<o.length) (hj:j<o.length):Xj prog 110 [ordV o,Zd i,Zd j] h (ordV (addL o i j)):=by
 have hl:=Wj ho
 have hpw:=pow6 hl.2
 obtain ⟨hjn,hjl⟩:=ord_nat ho hj
 have h2j:2 ^ j<2 ^ o.length:=Nat.pow_lt_pow_right (by decide) hj
 have h2i:2 ^ i<2 ^ o.length:=Nat.pow_lt_pow_right (by decide) hi
 have hul:=Nat.or_lt_two_pow hjl h2j
 obtain ⟨u,hu⟩ : ∃ u,u=bt o j ||| 2 ^ j:=⟨_,rfl⟩
 rw [← hu] at hul
 have hor:Vl .or .i64 (o.getD j 0) (2 ^ j)=((u:Nat):Int):=by
  have:=bitsV_or (a:=bt o j) (b:=2 ^ j) (by omega) (by omega)
  rw [← hjn,Vm,← hu] at this; exact this
 refine ACall.forget (Low.ordV _) ?_
 refine s110_call (by simp) ?_
 simp only [s110]
 refine Wt fun N hN=>?_
 simp (maxSteps:=2000000) only [↓Za,↓Zb,↓Zc,vup,cond_true,cond_false,aop,Zf,Zp,ev,sput,Ze,Nat.reduceBEq,Nat.reduceAdd,tyf,boxO esz_97,Yg,Xg,zeroN]
 refine hN _ _ ?_
 clear hN N
 obtain ⟨n,hn⟩ : ∃ n,n=h.length:=⟨_,rfl⟩
 obtain ⟨H,hH⟩ : ∃ H,H=h++[Blk.cells (Vk o) 97 false]++[Blk.cells (ordN 0) 97 false]:=⟨_,rfl⟩
 rw [← hH]
 simp only [List.length_append,List.length_cons,List.length_nil,Nat.zero_add,← hn]
 have hHl:H.length=n+2:=by rw [hH,hn]; simp
 have b0:H[n]? = some (.cells (Vk o) 97 false):=by rw [hH,hn]; exact Yp (Zr _ _) _
 have b1:H[n+1]? = some (.cells (ordN 0) 97 false):=by
  rw [hH,hn]; have:=Zr (h++[Blk.cells (Vk o) 97 false]) (Blk.cells (ordN 0) 97 false)
  simpa using this
 have hE0:Ext (fun _=>False) h H:=by rw [hH,List.append_assoc]; exact Ext.app _ _ _
 clear hH
 refine Wt fun N hN=>?_
 refine aw_drawR (fun hp=>hp[n]? = some (.cells (Vk o) 97 false)) [(3,5)] (by kernel_rfl) (by kernel_rfl) (by kernel_rfl) (by kernel_rfl) b0 ?_
 simp (maxSteps:=2000000) only [↓Wa,↓vdn,vup,cond_true,cond_false,aop,Zf,ev,sput,Ze,Yf,Yi,Nat.reduceBEq,Nat.reduceAdd,tyf,fldA Ua esz_95,idxA und_95 Wm (show j<6 by omega),shl1 (show j≤62 by omega),Xg,Yg]
 refine ⟨Zd (o.getD j 0),fun h0 hk=>?_,?_⟩
 · rw [loadI hk Yy hl.2 (show j<6 by omega)]
 simp (maxSteps:=2000000) only [vup,hor]
 refine ⟨Yp b0 _,?_⟩
 rw [storeI (v:=.int .i64 0) (e:=3) (Zr _ _) Yy,hHl]
 obtain ⟨G,hG⟩ : ∃ G,G=(H++[Blk.cells [Value.int .i64 0] 3 false]).set (n+2) (.cells [.int .i64 ((u:Nat):Int)] 3 false):=⟨_,rfl⟩
 rw [← hG]
 have hGl:G.length=n+3:=by rw [hG]; simp [hHl]
 have g0:G[n]? = some (.cells (Vk o) 97 false):=by rw [hG,List.getElem?_set_ne (by omega)]; exact Yp b0 _
 have g1:G[n+1]? = some (.cells (ordN 0) 97 false):=by rw [hG,List.getElem?_set_ne (by omega)]; exact Yp b1 _
 have g2:G[n+2]? = some (.cells [Zd (u:Nat)] 3 false):=by rw [hG]; exact Xf (by simp [hHl]) _
 have hEG:Ext (fun _=>False) h G:=⟨by omega,fun k hk _=>by rw [hG,List.getElem?_set_ne (by omega),List.getElem?_append_left (by omega)]; exact hE0.2 k hk id⟩
 clear hG b0 b1 hE0 hHl
 clear H
 refine ⟨g0,?_⟩
 refine hN _ _ ?_
 clear hN N
 have hdl:=dn_lt (o:=o) (i:=i)
 have hor2:Vl .or .i64 ((dn o i:Nat):Int) (2 ^ i)=((dn o i ||| 2 ^ i:Nat):Int):=by
  rw [← Vm]; exact bitsV_or (by omega) (by omega)
 simp (maxSteps:=2000000) only [↓Zl]
 refine Yx [(2,1)] (by kernel_rfl) (by kernel_rfl) (by kernel_rfl) (by kernel_rfl) ?_
 simp (maxSteps:=2000000) only [↓Yr,↓Zz,↓vdn,vup,List.map_cons,List.map_nil,cond_true,cond_false,aop,Zf,ev,sput,Ze,Yf,Yi,Nat.reduceBEq,Nat.reduceAdd,tyf,loadO g0 Xx hl.2,Yn,List.nil_append,List.append_nil]
 refine ⟨_,_,below_call ho,rfl,?_⟩
 simp (maxSteps:=2000000) only [vup,shl1 (show i≤62 by omega),hor2]
 refine ⟨_,_,elements_call,?_⟩
 have hsl:=Nat.or_lt_two_pow hdl h2i
 refine aw_range Ob.bitIter (bx:=G.length) (s:=dn o i ||| 2 ^ i) (et:=3) rfl (Zr _ _) (by omega) (fun pre hk=>hk[n]? = some (.cells (Vk (growL o u pre)) 97 false)∧hk[n+1]? = some (.cells (ordN 0) 97 false)∧hk[n+2]? = some (.cells [Zd (u:Nat)] 3 false)∧Ext (fun _=>False) h hk) ?_ ?_ ?_
 · have old : ∀ {k B},G[k]? = some B→((G++[Blk.cells [Zd ((dn o i ||| 2 ^ i:Nat):Int)] 3 false]).set G.length .dead)[k]? = some B:=fun {k B} hk=>by
    have:=Yb hk
    rw [List.getElem?_set_ne (by omega)]; exact Yp hk _
   refine ⟨by rw [growL_nil]; exact old g0,old g1,old g2,⟨by simp; omega,fun k hk _=>?_⟩⟩
   rw [List.getElem?_set_ne (by omega),List.getElem?_append_left (by omega)]; exact hEG.2 k hk id
 · rintro pre x hk hpre ⟨k0,k1,k2,hEk⟩
   obtain ⟨hx64,hxb⟩:=Vd.1 (mem_pre hpre)
   have hxn:x<o.length:=by
    rcases Nat.lt_or_ge x o.length with h | h
    · exact h
    · rw [Nat.testBit_lt_two_pow (Nat.lt_of_lt_of_le hsl (Nat.pow_le_pow_right (by decide) h))] at hxb; cases hxb
   have hnp:x ∉ pre:=fun hx=>by
    obtain ⟨t,ht⟩:=hpre
    have hnd:=bits_nodup (dn o i ||| 2 ^ i)
    rw [← ht] at hnd
    have:=(List.nodup_append.1 (List.nodup_append.1 hnd).1).2.2 x hx x (by simp)
    exact this rfl
   have hgl:(growL o u pre).length≤6:=by rw [growL_len]; exact hl.2
   obtain ⟨hxv,hxl⟩:=ord_nat ho hxn
   have hor3:Vl .or .i64 ((growL o u pre).getD x 0) ((u:Nat):Int)=((bt o x ||| u:Nat):Int):=by
    rw [growL_get hxn hnp,hxv]; exact bitsV_or (by omega) (by omega)
   simp (maxSteps:=2000000) only [↓Za,↓Yr,↓Zb,↓Zc,vup,cond_true,cond_false,aop,Zf,ev,sput,Ze,Nat.reduceBEq,r110_0_a,r110_0_b]
   refine Yx [] (by kernel_rfl) (by kernel_rfl) (by kernel_rfl) (by kernel_rfl) ?_
   simp (maxSteps:=2000000) only [↓Zz,↓vdn,vup,cond_true,cond_false,aop,Zo,ev,sput,Ze,Yf,Yi,Nat.reduceBEq,Nat.reduceAdd,tyf,fldA Ua esz_95,idxA und_95 Wm (show x<6 by omega),loadI k0 Yy hgl (show x<6 by omega),Xl k2 Yy,hor3]
   rw [storeN k0 Yy hgl (by rw [growL_len]; exact hxn),growL_snoc hxn]
   have hlk:=Yb k0
   refine ⟨Xf hlk _,?_,?_,⟨by simp; exact hEk.1,fun k hk' _=>?_⟩⟩
   · rw [List.getElem?_set_ne (by omega)]; exact k1
   · rw [List.getElem?_set_ne (by omega)]; exact k2
   · rw [List.getElem?_set_ne (by omega)]; exact hEk.2 k hk' id
 · rintro hk ⟨k0,k1,k2,hEk⟩
   rw [hu,growL_add ho hi] at k0
   have hal:(addL o i j).length≤6:=by rw [addL_len]; exact hl.2
   have hlk:=Yb k1
   have k1' : (hk.set (n+1) (.cells (Vk (addL o i j)) 97 false))[n+1]? = some (.cells (Vk (addL o i j)) 97 false):=Xf hlk _
   simp (maxSteps:=2000000) only [↓Za,↓Zl,↓Zu,↓Zb,↓Zc,vup,cond_true,cond_false,aop,Zf,Zo,ev,sput,Ze,Nat.reduceBEq,Zs,Xn,tup,loadO k0 Xx hal]
   rw [storeO k1 rfl Xx hal]
   simp (maxSteps:=2000000) only [vup,loadO k1' Xx hal]
   exact ⟨by simp; exact hEk.1,fun k hk' _=>by rw [List.getElem?_set_ne (by omega)]; exact hEk.2 k hk' id⟩
end Go.Proofs.Tryd.Am.Or
namespace Go.Proofs.Tryd.Am.Or
open Go.Proofs.Tryd.Am
open Go.Am Ord
set_option maxRecDepth 100000
set_option maxHeartbeats 1000000
def elI (o:List Int) (i:Int):Bool:=decide (0≤i)&&decide (i<o.length)
def AddR (o:List Int) (i j:Int) (s:Value) (e:Int) (h:Zh):Prop :=
 if ord o=true∧elI o i=true∧elI o j=true then (if fr o i.toNat j.toNat=true then e=0∧IntSl h s (addL o i.toNat j.toNat) else e=5∧s = .slice none 0 0) else e=2∧s = .slice none 0 0
end Go.Proofs.Tryd.Am.Or
namespace Ord
open Go.Am
def befN (o:List Int) (i j:Nat):Nat:=if ab o i j=true then cn o else if fr o i j=true then cn (addL o i j) else 0
def Wg (o:List Int):List (List Nat):=lines (ab o) o.length (List.range o.length)
theorem Vj (o:List Int):(Wg o).length=cn o:=by rw [Wg,cnt_len]; rfl
theorem mem_all {o:List Int} (h:ord o=true) {l:List Nat}:l∈Wg o↔l.Perm (List.range o.length)∧l.Pairwise fun a b=>ab o b a=false:=by
 rw [Wg,Up (ord_po h).irr (by simp)]
theorem befN_eq {o:List Int} (h:ord o=true) {i j:Nat} (hi:i<o.length) (hj:j<o.length) (hn:i≠j):befN o i j=((Wg o).filter fun l=>bef l i j).length:=by
 have hmem : ∀ l,l∈Wg o→l.Nodup∧i∈l∧j∈l∧∀ a∈l,∀ b∈l,bef l a b=true→ab o b a=false:=fun l hl=>by
  obtain ⟨hp,hw⟩:=(mem_all h).1 hl
  have hnd:l.Nodup:=hp.nodup_iff.2 List.nodup_range
  exact ⟨hnd,hp.mem_iff.2 (List.mem_range.2 hi),hp.mem_iff.2 (List.mem_range.2 hj),(bef_pw hnd).1 hw⟩
 rw [befN]
 split
 · next hij =>
   rw [List.filter_eq_self.2,Vj]
   intro l hl
   obtain ⟨h1,h2,h3,h4⟩:=hmem l hl
   cases e:bef l i j with
   | true=>rfl
   | false =>
     have:=h4 j h3 i h2 (by rw [bef_not h2 h3 hn,e]; rfl)
     rw [hij] at this; cases this
 · next hij =>
   split
   · next hf =>
     simp only [fr,Bool.and_eq_true,decide_eq_true_eq,Bool.not_eq_true'] at hf
     rw [cn,addL_len,addL_ab hi h]
     have:=cnt_add (ord_po h) hn hf.2 (S:=List.range o.length) List.nodup_range (List.mem_range.2 hi) (List.mem_range.2 hj)
     rw [List.length_range] at this
     exact this
   · next hf =>
     have hji:ab o j i=true:=by
      cases e:ab o j i with
      | true=>rfl
      | false =>
        simp only [Bool.not_eq_true] at hij
        exact absurd (by simp [fr,hn,hij,e]) hf
     rw [eq_comm,List.length_eq_zero_iff,List.filter_eq_nil_iff]
     intro l hl hb
     obtain ⟨h1,h2,h3,h4⟩:=hmem l hl
     have:=h4 i h2 j h3 hb
     rw [hji] at this; cases this
theorem befN_le {o:List Int} (h:ord o=true) {i j:Nat} (hi:i<o.length) (hj:j<o.length) (hn:i≠j):befN o i j≤cn o:=by
 rw [befN_eq h hi hj hn,← Vj]; exact List.length_filter_le _ _
theorem befN_two {o:List Int} (h:ord o=true) {i j:Nat} (hi:i<o.length) (hj:j<o.length) (hn:i≠j):befN o i j+befN o j i=cn o:=by
 rw [befN_eq h hi hj hn,befN_eq h hj hi (Ne.symm hn),← Vj]
 have e:((Wg o).filter fun l=>bef l j i)=(Wg o).filter fun l=>!bef l i j:=by
  refine List.filter_congr fun l hl=>?_
  obtain ⟨hp,-⟩:=(mem_all h).1 hl
  exact bef_not (hp.mem_iff.2 (List.mem_range.2 hi)) (hp.mem_iff.2 (List.mem_range.2 hj)) hn
 rw [e]
 generalize Wg o=L
 clear e
 induction L with
 | nil=>rfl
 | cons x L ih =>
   simp only [List.filter_cons,List.length_cons]
   cases bef x i j <;> simp <;> omega
def hsum (o:List Int) (i:Nat):Nat:=(((List.range o.length).filter fun j=>decide (j≠i)).map fun j=>befN o j i).sum
end Ord
namespace Go.Proofs.Tryd.Am.Or
open Go.Proofs.Tryd.Am
open Go.Am Ord
set_option maxRecDepth 100000
set_option maxHeartbeats 1000000
def castN (l:List Nat):List Int:=l.map fun (i:Nat)=>(i:Int)
def behind (xs:List Int) (Ls:List (List Nat)):List (List Int):=Ls.map fun l=>xs++castN l
theorem litI1 {h:Zh} {x:Int} (K:Value→Zh→Prop):Yj prog h 27 1 [(0,Zd x)] K=K (.slice (some ⟨h.length,0,none⟩) 1 1) (h++[.ints [x] 3 false]):=by
 simp only [Yj,Vy,zero_3,Wm,reps,Vx,mkb,Wk,cellsOf,List.length_singleton,Nat.mul_one,Nat.zero_add]
 exact propext ⟨fun h=>h.2.2.2,fun h=>⟨trivial,by decide,by decide,h⟩⟩
def linesI (o:List Int):List (List Int):=behind [] (Wg o)
end Go.Proofs.Tryd.Am.Or
namespace Go.Proofs.Tryd.Am.Or
open Go.Proofs.Tryd.Am
open Go.Am Ord
set_option maxRecDepth 100000
set_option maxHeartbeats 1000000
theorem before_call [BitTab prog 0] {h:Zh} {o:List Int} (ho:ord o=true) {i j:Nat} (hi:i<o.length) (hj:j<o.length):Xj prog 63 [ordV o,Zd i,Zd j] h (Zd (befN o i j:Nat)):=by
 have hl:=Wj ho
 refine ACall.forget (Low.int _ _) ?_
 refine s63_call (by simp) ?_
 simp only [s63]
 refine Wt fun N hN=>?_
 simp (maxSteps:=2000000) only [↓Za,↓Zb,↓Zc,vup,cond_true,cond_false,aop,Zf,Zp,ev,sput,Ze,Nat.reduceBEq,Nat.reduceAdd,boxO esz_97,Yg]
 refine hN _ _ ?_
 clear hN N
 have b0:=Zr h (Blk.cells (Vk o) 97 false)
 have hE:Ext (fun _=>False) h (h++[Blk.cells (Vk o) 97 false]):=Ext.app _ _ _
 generalize h++[Blk.cells (Vk o) 97 false]=H at b0 hE ⊢
 cases hab:ab o i j with
 | true =>
   have hb:befN o i j=cn o:=by rw [befN,if_pos hab]
   simp (maxSteps:=2000000) only [↓Za,↓Zl,↓Yr,↓Zu,↓Zb,↓Zc,↓vdn,vup,List.map_cons,List.map_nil,cond_true,cond_false,aop,Zf,Zo,ev,sput,Ze,Yf,Yi,Nat.reduceBEq,Int.reduceBEq,Zs,Xn,tup,tyf,fldA Ua esz_95,idxA und_95 Wm (show i<6 by omega),loadI b0 Yy hl.2 (show i<6 by omega),testO ho hi,hab,if_true,Int.reduceBEq,loadO b0 Xx hl.2,Yn,List.nil_append,List.append_nil]
   refine (counted_call ho).mono ?_
   rintro _ _ ⟨rfl,rfl⟩
   exact ⟨by rw [hb],hE⟩
 | false =>
   simp (maxSteps:=2000000) only [↓Za,↓Zl,↓Yr,↓Zb,↓Zc,↓vdn,vup,List.map_cons,List.map_nil,cond_true,cond_false,aop,Zf,ev,sput,Ze,Yf,Yi,unK,Nat.reduceBEq,Int.reduceBEq,tyf,fldA Ua esz_95,idxA und_95 Wm (show i<6 by omega),loadI b0 Yy hl.2 (show i<6 by omega),testO ho hi,hab,if_false,Bool.false_eq_true,Int.reduceBEq,loadO b0 Xx hl.2,Yn,List.nil_append,List.append_nil]
   refine (free_call ho hi hj).mono ?_
   rintro _ _ ⟨rfl,rfl⟩
   cases hf:fr o i j with
   | false =>
     have hb:befN o i j=0:=by rw [befN,if_neg (by rw [hab]; decide),if_neg (by rw [hf]; decide)]
     simp (maxSteps:=2000000) only [↓Za,↓Zl,↓Zu,↓Zb,↓Zc,↓vdn,vup,cond_true,cond_false,aop,Zf,Zo,ev,sput,Ze,Nat.reduceBEq,Zs,Xn,tup,hb,Int.natCast_zero]
     exact hE
   | true =>
     have hb:befN o i j=cn (addL o i j):=by rw [befN,if_neg (by rw [hab]; decide),if_pos hf]
     have hff:=hf
     simp only [fr,Bool.and_eq_true,decide_eq_true_eq,Bool.not_eq_true'] at hff
     simp (maxSteps:=2000000) only [↓Za,↓Zn,↓Zl,↓Zu,↓Zb,↓Zc,↓vdn,vup,List.map_cons,List.map_nil,cond_true,cond_false,aop,Zf,Zo,ev,sput,Ze,Nat.reduceBEq,Zs,Xn,tup,loadO b0 Xx hl.2,Yn,List.nil_append,List.append_nil]
     refine (add_call ho hi hj).mono ?_
     rintro _ _ ⟨rfl,rfl⟩
     refine (counted_call (addL_ord ho hi hj hff.1.1 hff.2)).mono ?_
     rintro _ _ ⟨rfl,rfl⟩
     exact ⟨by rw [hb],hE⟩
end Go.Proofs.Tryd.Am.Or
namespace Go.Proofs.Tryd.Am.Or
open Go.Proofs.Tryd.Am
open Go.Am Ord
set_option maxRecDepth 100000
set_option maxHeartbeats 1000000
def hTo (o:List Int) (i:Nat):Nat→Nat
 | 0=>0
 | k+1=>hTo o i k+((Wg o).getD k []).idxOf i
theorem frac_form (a b:Nat) : ∃ p q,fracV a b = .agg #[Zd p,Zd q]:=⟨_,_,rfl⟩
end Go.Proofs.Tryd.Am.Or
namespace Go.Proofs.Tryd.Am.Or
open Go.Proofs.Tryd.Am
open Go.Am Ord
set_option maxRecDepth 100000
set_option maxHeartbeats 1000000
def chanceV (o:List Int) (i j:Int):Value:=if ord o=true∧elI o i=true∧elI o j=true∧i≠j then .tuple #[fracV (befN o i.toNat j.toNat) (cn o),.int .i64 0] else .tuple #[frV 0 0,.int .i64 2]
theorem low_chance (o:List Int) (i j:Int):Low (chanceV o i j):=by
 unfold chanceV; split <;> exact .pair (low_frV _ _) (.int _ _)
theorem chance_call [BitTab prog 0] {h:Zh} {v:Value} {o:List Int} {i j:Int} (hv:IntSl h v o) (hl:o.length<9223372036854775808) (hx : ∀ x∈o,-9223372036854775808≤x∧x<9223372036854775808):Xj prog 24 [v,Zd i,Zd j] h (chanceV o i j):=by
 refine ACall.forget (low_chance o i j) ?_
 refine s24_call (by simp) ?_
 simp only [s24]
 refine Wt fun N hN=>?_
 simp (maxSteps:=2000000) only [↓Za,↓Zb,↓Zc,vup,cond_false,aop,Zf,Zp,ev,sput,Ze,Nat.reduceBEq,Nat.reduceAdd,tyf,Xg,Yg]
 refine hN _ _ ?_
 clear hN N
 obtain ⟨n,hn⟩ : ∃ n,n=h.length:=⟨_,rfl⟩
 have c0:=Zr h (Blk.cells [.int .i64 0,.int .i64 0] 45 false)
 have hE0:Ext (fun _=>False) h (h++[Blk.cells [.int .i64 0,.int .i64 0] 45 false]):=Ext.app _ _ _
 have hnl:n<(h++[Blk.cells [.int .i64 0,.int .i64 0] 45 false]).length:=by rw [hn]; simp
 rw [← hn] at c0 ⊢
 generalize h++[Blk.cells [.int .i64 0,.int .i64 0] 45 false]=h1 at c0 hE0 hnl ⊢
 have hv1:=Ux hv hE0
 simp (maxSteps:=2000000) only [↓Za,↓Zl,↓Zb,↓Zc,vup,List.map_cons,List.map_nil,cond_true,cond_false,aop,Zf,ev,sput,Ze,unK,Nat.reduceBEq,Yn,List.nil_append,List.append_nil]
 refine (read_call hv1 hl hx).mono ?_
 rintro _ g ⟨rfl,rfl⟩
 simp (maxSteps:=2000000) only [Wh,Wi,tyf,Xg,Yg,zeroN]
 rw [storeRd]
 obtain ⟨hE,hb⟩:=rdBox g o
 generalize hgl:g.length=gl at hE hb hnl ⊢
 generalize (g++[Blk.cells (ordN 0) 97 false]).set gl (.cells (rdC o) 97 false)=G at hE hb ⊢
 have c1:G[n]? = some (.cells [.int .i64 0,.int .i64 0] 45 false):=(hE.2 n (by omega) id).trans c0
 have hE1:=hE0.trans hE
 have cS : ∀ {x y:Int} {K:Value→Prop},Xs prog (G.set n (.cells [Zd x,Zd y] 45 false)) 45 (.pointer (some ⟨n,0,none⟩)) K=K (.agg #[Zd x,Zd y]):=fun {x y K}=>loadF (Xf (Yb c1) _)
 have hES : ∀ B:Blk,Ext (fun _=>False) h (G.set n B):=fun B=>⟨by have:=hE1.1; simp; exact this,fun q hq _=>by rw [List.getElem?_set_ne (by omega)]; exact hE1.2 q hq id⟩
 by_cases hall:ord o=true∧elI o i=true∧elI o j=true∧i≠j
 · obtain ⟨ho,hi,hj,hij⟩:=hall
   have hlen:=Wj ho
   have hcl:=cn_le ho
   have hcp:=cn_pos ho
   have hrd:rdC o=Vk o:=if_pos hlen
   rw [chanceV,if_pos ⟨ho,hi,hj,hij⟩]
   rw [hrd] at hb
   have hi':=hi
   have hj':=hj
   simp only [elI,Bool.and_eq_true,decide_eq_true_eq] at hi' hj'
   have hine:(i==j)=false:=by simpa using hij
   obtain ⟨i,rfl⟩ : ∃ k:Nat,i=k:=⟨i.toNat,by omega⟩
   obtain ⟨j,rfl⟩ : ∃ k:Nat,j=k:=⟨j.toNat,by omega⟩
   have hi2:((i:Nat):Int)<o.length:=hi'.2
   have hj2:((j:Nat):Int)<o.length:=hj'.2
   simp (maxSteps:=2000000) only [↓Zc,↓vdn,vup,List.map_cons,List.map_nil,cond_true,cond_false,aop,ev,sput,Ze,unK,Nat.reduceBEq,ho,loadO hb Xx hlen.2,Yn,List.nil_append,List.append_nil]
   refine element_call.mono ?_
   rintro _ _ ⟨rfl,rfl⟩
   simp (maxSteps:=2000000) only [↓Zc,↓vdn,vup,List.map_cons,List.map_nil,cond_true,cond_false,aop,ev,sput,Ze,unK,Nat.reduceBEq,hi2,Bool.true_and,loadO hb Xx hlen.2,Yn,List.nil_append,List.append_nil]
   refine element_call.mono ?_
   rintro _ _ ⟨rfl,rfl⟩
   simp (maxSteps:=2000000) only [↓Zn,↓Zl,↓Zb,↓Zc,↓vdn,vup,cond_true,cond_false,aop,Zf,ev,sput,Ze,Yf,Yi,Nat.reduceBEq,hj2,Bool.true_and,hine]
   refine Yx [(3,1),(5,1),(6,1)] (by kernel_rfl) (by kernel_rfl) (by kernel_rfl) (by kernel_rfl) ?_
   simp (maxSteps:=2000000) only [↓Zu,↓Zz,↓vdn,vup,List.map_cons,List.map_nil,cond_true,cond_false,aop,Zf,ev,sput,Ze,Nat.reduceBEq,Nat.reduceAdd,Zs,Xn,tup,loadO hb Xx hlen.2,Yn,List.nil_append,List.append_nil]
   have hbl:=befN_le ho (show i<o.length by omega) (show j<o.length by omega) (by omega)
   refine ⟨_,_,before_call ho (show i<o.length by omega) (show j<o.length by omega),rfl,_,_,counted_call ho,rfl,_,_,Us hcp (by omega) (by omega),rfl,?_⟩
   rw [Int.toNat_natCast,Int.toNat_natCast]
   obtain ⟨p,q,hpq⟩:=frac_form (befN o i j) (cn o)
   rw [hpq]
   simp (maxSteps:=2000000) only [vup,storeF c1 rfl,cS]
   exact hES _
 · rw [chanceV,if_neg hall]
   have fin : ∀ {N:Env→Zh→Prop},True:=fun {N}=>trivial
   cases ho:ord o with
   | false =>
     simp (maxSteps:=2000000) only [↓Za,↓Zl,↓Zu,↓Zb,↓Zc,↓vdn,vup,List.map_nil,cond_true,cond_false,aop,Zf,ev,sput,Ze,Nat.reduceBEq,Zs,Xn,tup,List.map_nil,bldF0,storeF c1 rfl,cS]
     exact ⟨rfl,hES _⟩
   | true =>
     have hlen:=Wj ho
     have hrd:rdC o=Vk o:=if_pos hlen
     rw [hrd] at hb
     simp (maxSteps:=2000000) only [↓Zc,↓vdn,vup,List.map_cons,List.map_nil,cond_true,cond_false,aop,ev,sput,Ze,unK,Nat.reduceBEq,loadO hb Xx hlen.2,Yn,List.nil_append,List.append_nil]
     refine element_call.mono ?_
     rintro _ _ ⟨rfl,rfl⟩
     cases hi:(decide (0≤i)&&decide (i<o.length)) with
     | false =>
       simp (maxSteps:=2000000) only [↓Za,↓Zl,↓Zu,↓Zb,↓Zc,↓vdn,vup,List.map_nil,cond_true,cond_false,aop,Zf,ev,sput,Ze,Nat.reduceBEq,Zs,Xn,tup,List.map_nil,bldF0,storeF c1 rfl,cS]
       exact ⟨rfl,hES _⟩
     | true =>
       simp (maxSteps:=2000000) only [↓Zc,↓vdn,vup,List.map_cons,List.map_nil,cond_true,cond_false,aop,ev,sput,Ze,unK,Nat.reduceBEq,loadO hb Xx hlen.2,Yn,List.nil_append,List.append_nil]
       refine element_call.mono ?_
       rintro _ _ ⟨rfl,rfl⟩
       cases hj:(decide (0≤j)&&decide (j<o.length)) with
       | false =>
         simp (maxSteps:=2000000) only [↓Za,↓Zl,↓Zu,↓Zb,↓Zc,↓vdn,vup,List.map_nil,cond_true,cond_false,aop,Zf,ev,sput,Ze,Nat.reduceBEq,Zs,Xn,tup,List.map_nil,bldF0,storeF c1 rfl,cS]
         exact ⟨rfl,hES _⟩
       | true =>
         have hij:i=j:=Classical.not_not.1 fun h=>hall ⟨ho,hi,hj,h⟩
         have hine:(i==j)=true:=by rw [hij]; exact beq_self_eq_true _
         simp (maxSteps:=2000000) only [↓Za,↓Zl,↓Zu,↓Zb,↓Zc,↓vdn,vup,List.map_nil,cond_true,cond_false,aop,Zf,ev,sput,Ze,Yf,Yi,Nat.reduceBEq,Zs,Xn,tup,hine,List.map_nil,bldF0,storeF c1 rfl,cS]
         exact ⟨rfl,hES _⟩
end Go.Proofs.Tryd.Am.Or
namespace Go.Proofs.Tryd.Am.Or
open Go.Proofs.Tryd.Am
open Go.Am Ord
set_option maxRecDepth 100000
set_option maxHeartbeats 1000000
def gF (o:List Int) (n left:Nat) (cur:List Int) (x:Nat):List (List Int) :=
 if dn o x &&& left=0 then behind (cur++[(x:Int)]) (lines (ab o) n (Am.bits (less left (2 ^ x)))) else []
theorem bits_nodup (s:Nat):(Am.bits s).Nodup:=List.nodup_range.filter _
theorem bits_erase {s x:Nat}:(Am.bits s).erase x=Am.bits (less s (2 ^ x)):=by
 rw [List.Nodup.erase_eq_filter (bits_nodup s),Am.bits,Am.bits,List.filter_filter]
 refine List.filter_congr fun j _=>?_
 rw [Wy,Nat.testBit_two_pow]
 by_cases h:j=x
 · subst h; simp
 · simp [h,Ne.symm h]
theorem firsts_bits {o:List Int} (ho:ord o=true) {left:Nat} (hl:left<2 ^ 63):Jf (ab o) (Am.bits left)=(Am.bits left).filter fun x=>decide (dn o x &&& left=0):=by
 rw [Jf]
 refine List.filter_congr fun x hx=>?_
 rw [Bool.eq_iff_iff,List.all_eq_true,decide_eq_true_eq]
 constructor
 · intro h
   apply Nat.eq_of_testBit_eq
   intro j
   rw [Nat.testBit_and,Nat.zero_testBit,dn_bit' ho]
   cases hj:left.testBit j with
   | false=>rw [Bool.and_false]
   | true =>
     have hj64:j<64:=by
      rcases Nat.lt_or_ge j 64 with h1 | h1
      · exact h1
      · rw [Nat.testBit_lt_two_pow (Nat.lt_of_lt_of_le hl (Nat.pow_le_pow_right (by decide) (by omega)))] at hj; cases hj
     have:=h j (Vd.2 ⟨hj64,hj⟩)
     rw [Bool.not_eq_true'] at this
     rw [this]; rfl
 · intro h j hj
   have h1:(dn o x &&& left).testBit j=false:=by rw [h,Nat.zero_testBit]
   rw [Nat.testBit_and,dn_bit' ho,(Vd.1 hj).2,Bool.and_true] at h1
   rw [h1]; rfl
theorem gF_all {o:List Int} (ho:ord o=true) {n left:Nat} (hl:left<2 ^ 63) (cur:List Int):(Am.bits left).flatMap (gF o n left cur)=behind cur (lines (ab o) (n+1) (Am.bits left)):=by
 have h1 : ∀ l:List Nat,l.flatMap (gF o n left cur)=(l.filter fun x=>decide (dn o x &&& left=0)).flatMap fun (x:Nat)=>behind (cur++[(x:Int)]) (lines (ab o) n (Am.bits (less left (2 ^ x)))):=by
  intro l
  induction l with
  | nil=>rfl
  | cons x l ih =>
    rw [List.flatMap_cons,ih,List.filter_cons,gF]
    by_cases hx:dn o x &&& left=0
    · rw [if_pos hx,if_pos (by simpa using hx),List.flatMap_cons]
    · rw [if_neg hx,if_neg (by simpa using hx),List.nil_append]
 rw [h1,lines,firsts_bits ho hl,behind,List.map_flatMap]
 congr 1
 funext x
 rw [behind,List.map_map,bits_erase]
 exact List.map_congr_left fun l _=>by simp [castN]
theorem clone_det [Tabs prog] {h:Zh} {v:Value} {xs:List Int} (hv:IntSl h v xs) (hx:xs≠[]) (hl:xs.length<1099511627776):ADet prog 13 [v] h (.slice (some ⟨h.length+1,0,some 0⟩) xs.length xs.length) (h++[.ints [] 3 false]++[.ints xs 3 false]):=by
 refine s13_call (by simp) ?_
 have hv':=hv
 rcases hv with ⟨rfl,rfl⟩ | ⟨b,o,sp,cap,c,e,ro,rfl,hc,hb,_⟩
 · exact absurd rfl hx
 · simp (maxSteps:=2000000) only [s13,↓Za,↓Zn,↓Zl,↓Zu,↓Zb,↓Zc,↓vdn,vup,List.map_cons,List.map_nil,cond_true,cond_false,aop,Zf,Zp,ev,sput,Ze,Yf,Zi,Nat.reduceBEq,Zs,Xn,tup,tyf,Option.isSome_some]
   simp only [Yj,Vy,zero_3,Wm,reps,Vx,mkb,Yv]
   refine And.intro rfl (And.intro Nat.zero_lt_one (And.intro (Nat.zero_le _) ?_))
   refine (hv'.grow [.ints [] 3 false]).copyOwn hx app_27_27 hl (by rw [List.getElem?_append_right (Nat.le_refl _)]; simp) ?_
   exact ⟨by simp,rfl⟩
structure LS (I:Nat→Prop) (h0:Zh) (bo bl:Nat) (h:Zh) (ov lv:Value) (Ls:List (List Int)) (cur:List Int):Prop where
 len:h0.length≤h.length
 keep : ∀ i,I i→h[i]? = h0[i]?
 low : ∀ i,I i→i<h0.length
 o:h[bo]? = some (.cells [ov] 22 false)
 l:h[bl]? = some (.cells [lv] 27 false)
 ne:bo≠bl
 no : ¬ I bo
 nl : ¬ I bl
 own:OwnSl 3 h lv cur
 out : ∃ ws,OwnV 27 h ov ws∧Each (OwnSl 3 h) ws Ls∧∀ w∈ws,∀ b,Yc w=some b→Yc lv≠some b
 apo : ∀ b,Yc ov=some b→¬ I b∧b≠bo∧b≠bl
 apl : ∀ b,Yc lv=some b→¬ I b
def gS (bo bl:Nat) (ov lv:Value) (i:Nat):Prop:=i=bo∨i=bl∨Yc ov=some i∨Yc lv=some i
theorem own_ints {e:TypeId} {h:Zh} {v:Value} {xs:List Int} (ho:OwnSl e h v xs) {b:Nat} (hb:Yc v=some b) : ∃ ys e,h[b]? = some (.ints ys e false):=by
 obtain ⟨ys,hy⟩:=ho.ints hb; exact ⟨ys,e,hy⟩
section
variable {I:Nat→Prop} {h0 h h' h1:Zh} {bo bl:Nat} {ov lv ov' lv' : Value} {Ls:List (List Int)} {cur cur' : List Int}
theorem LS.ext {S:Nat→Prop} (s:LS I h0 bo bl h ov lv Ls cur) (hx:Ext S h h') (h1 : ∀ i,I i→¬ S i) (h2 : ¬ S bo) (h3 : ¬ S bl) (h4 : ∀ b,Yc ov=some b→¬ S b) (h5 : ∀ b ys e,h[b]? = some (.ints ys e false)→¬ S b):LS I h0 bo bl h' ov lv Ls cur where
 len:=Nat.le_trans s.len hx.1
 keep i hi:=(hx.2 i (Nat.lt_of_lt_of_le (s.low i hi) s.len) (h1 i hi)).trans (s.keep i hi)
 low:=s.low
 o:=(hx.2 bo (Yb s.o) h2).trans s.o
 l:=(hx.2 bl (Yb s.l) h3).trans s.l
 ne:=s.ne
 no:=s.no
 nl:=s.nl
 own:=s.own.same fun b hb=>by
  obtain ⟨ys,e,hy⟩:=own_ints s.own hb
  exact hx.2 b (Yb hy) (h5 b ys e hy)
 out:=by
  obtain ⟨ws,g1,g2,g3⟩:=s.out
  exact ⟨ws,g1.same fun b hb=>hx.2 b (g1.lt hb) (h4 b hb),g2.imp fun w l hw=>hw.same fun b hb=>by
   obtain ⟨ys,e,hy⟩:=own_ints hw hb
   exact hx.2 b (Yb hy) (h5 b ys e hy),g3⟩
 apo:=s.apo
 apl:=s.apl
theorem LS.app (s:LS I h0 bo bl h ov lv Ls cur) (g:Zh):LS I h0 bo bl (h++g) ov lv Ls cur :=
 s.ext (S:=fun _=>False) (Ext.app _ _ _) (fun _ _ h=>h) (fun h=>h) (fun h=>h) (fun _ _ h=>h) (fun _ _ _ _ h=>h)
theorem LS.storeL (s:LS I h0 bo bl h ov lv Ls cur) (hx:Ext (fun i=>Yc lv=some i) h h1) (ho:OwnSl 3 h1 lv' cur') (hb:Yc lv' = Yc lv∨∃ b,Yc lv' = some b∧h.length≤b) :
  LS I h0 bo bl (h1.set bl (.cells [lv'] 27 false)) ov lv' Ls cur' where
 len:=by have:=s.len; have:=hx.1; simp; omega
 keep i hi:=by
  have hl:=Nat.lt_of_lt_of_le (s.low i hi) s.len
  rw [List.getElem?_set_ne (fun h=>s.nl (by rw [h]; exact hi)),hx.2 i hl (fun h=>s.apl i h hi)]
  exact s.keep i hi
 low:=s.low
 o:=by
  rw [List.getElem?_set_ne (Ne.symm s.ne),hx.2 _ (Yb s.o) (s.own.notCells s.o)]; exact s.o
 l:=Xf (Nat.lt_of_lt_of_le (Yb s.l) hx.1) _
 ne:=s.ne
 no:=s.no
 nl:=s.nl
 own:=ho.ext (S:=fun i=>i=bl) (Ext.set _ rfl) fun b hbb=>by
  rintro rfl
  rcases hb with h | ⟨b',h,hl⟩
  · exact s.own.notCells s.l (h▸hbb)
  · rw [h] at hbb; cases hbb; have:=Yb s.l; omega
 out:=by
  obtain ⟨ws,g1,g2,g3⟩:=s.out
  refine ⟨ws,g1.same fun b hbb=>?_,?_,fun w hw b hbw hbl=>?_⟩
  · obtain ⟨c,hc⟩:=g1.blk hbb
    rw [List.getElem?_set_ne (Ne.symm (s.apo b hbb).2.2),hx.2 b (Yb hc) (s.own.notCells hc)]
  · have key : ∀ {ws:List Value} {Ls:List (List Int)},Each (OwnSl 3 h) ws Ls→(∀ w∈ws,∀ b,Yc w=some b→Yc lv≠some b)→Each (OwnSl 3 (h1.set bl (.cells [lv'] 27 false))) ws Ls:=by
     intro ws
     induction ws with
     | nil=>intro Ls hE _; cases Ls <;> first | exact hE | exact hE.elim
     | cons w ws ih =>
       intro Ls hE hd
       cases Ls with
       | nil=>exact hE.elim
       | cons l Ls =>
         refine ⟨hE.1.same fun b hbb=>?_,ih hE.2 fun w hw=>hd w (by simp [hw])⟩
         obtain ⟨ys,hy⟩:=hE.1.ints hbb
         have hne:bl≠b:=fun he=>by subst he; rw [s.l] at hy; cases hy
         rw [List.getElem?_set_ne hne,hx.2 b (Yb hy) (hd w (by simp) b hbb)]
    exact key g2 g3
  · rcases hb with h | ⟨b',h,hl⟩
    · exact g3 w hw b hbw (h▸hbl)
    · rw [h] at hbl; cases hbl
      obtain ⟨l,hwl⟩:=g2.mem w hw
      have:=hwl.lt hbw; omega
 apo:=s.apo
 apl b hbb:=by
  rcases hb with h | ⟨b',h,hl⟩
  · exact s.apl b (h▸hbb)
  · rw [h] at hbb; cases hbb
    exact fun hi=>by have:=s.low _ hi; have:=s.len; omega
theorem LS.storeO {l:List Int} {w:Value} {ws:List Value} (s:LS I h0 bo bl h ov lv Ls cur) (g1:OwnV 27 h ov ws) (g2:Each (OwnSl 3 h) ws Ls) (g3 : ∀ w∈ws,∀ b,Yc w=some b→Yc lv≠some b)
  (hw:OwnSl 3 h w l) (hwl : ∀ b,Yc w=some b→Yc lv≠some b)
  (hx:Ext (fun i=>Yc ov=some i) h h1) (ho:OwnV 27 h1 ov' (ws++[w])) (hb:Yc ov' = Yc ov∨∃ b,Yc ov' = some b∧h.length≤b) :
  LS I h0 bo bl (h1.set bo (.cells [ov'] 22 false)) ov' lv (Ls++[l]) cur:=by
 have ints : ∀ {v:Value} {xs:List Int},OwnSl 3 h v xs→OwnSl 3 (h1.set bo (.cells [ov'] 22 false)) v xs:=fun {v xs} hv=>hv.same fun b hbb=>by
  obtain ⟨ys,hy⟩:=hv.ints hbb
  have hne:bo≠b:=fun he=>by subst he; rw [s.o] at hy; cases hy
  rw [List.getElem?_set_ne hne,hx.2 b (Yb hy) fun h2=>by
   obtain ⟨c,hc⟩:=g1.blk h2
   rw [hc] at hy; cases hy]
 refine ⟨by have:=s.len; have:=hx.1; simp; omega,fun i hi=>?_,s.low,Xf (Nat.lt_of_lt_of_le (Yb s.o) hx.1) _,?_,s.ne,s.no,s.nl,ints s.own,⟨ws++[w],?_,?_,?_⟩,fun b hbb=>?_,s.apl⟩
 · have hl:=Nat.lt_of_lt_of_le (s.low i hi) s.len
   rw [List.getElem?_set_ne (fun h=>s.no (by rw [h]; exact hi)),hx.2 i hl (fun h=>(s.apo i h).1 hi)]
   exact s.keep i hi
 · rw [List.getElem?_set_ne s.ne,hx.2 _ (Yb s.l) (fun h=>(s.apo _ h).2.2 rfl)]; exact s.l
 · refine ho.same fun b hbb=>List.getElem?_set_ne fun he=>?_
   rcases hb with h | ⟨b',h,hl⟩
   · exact (s.apo b (h▸hbb)).2.1 he.symm
   · rw [h] at hbb; cases hbb; have:=Yb s.o; omega
 · exact (g2.imp fun w l hw=>ints hw).app ⟨ints hw,trivial⟩
 · intro w' hw' b hbw
   rcases List.mem_append.1 hw' with h | h
   · exact g3 w' h b hbw
   · rw [List.mem_singleton.1 h] at hbw; exact hwl b hbw
 · rcases hb with h | ⟨b',h,hl⟩
   · exact s.apo b (h▸hbb)
   · rw [h] at hbb; cases hbb
     have h1:=Yb s.o
     have h2:=Yb s.l
     exact ⟨fun hi=>by have:=s.low _ hi; have:=s.len; omega,by omega,by omega⟩
end
structure LR (I:Nat→Prop) (h0:Zh) (bo bl:Nat) (h:Zh) (ov0 lv0:Value) (left:Nat) (h' : Zh) (ov lv:Value) (Ls:List (List Int)) (cur:List Int):Prop where
 gs:LS I h0 bo bl h' ov lv Ls cur
 low:h0.length≤h.length
 lto:bo<h.length
 ltl:bl<h.length
 bx:h'[h.length]? = some (.cells [Zd left] 3 false)
 nbx : ∀ b,Yc ov=some b→b≠h.length
 ext:Ext (gS bo bl ov0 lv0) h h'
 blko:Yc ov=Yc ov0∨∃ b,Yc ov=some b∧h.length≤b
 blkl:Yc lv=Yc lv0∨∃ b,Yc lv=some b∧h.length≤b
section
variable {I:Nat→Prop} {h0 h h' h1:Zh} {bo bl left:Nat} {ov0 lv0 ov lv ov' lv' : Value} {Ls Ls' : List (List Int)} {cur cur' : List Int}
theorem LR.of (s:LS I h0 bo bl h ov lv Ls cur):LR I h0 bo bl h ov lv left (h++[.cells [Zd left] 3 false]) ov lv Ls cur where
 gs:=s.app _
 low:=s.len
 lto:=Yb s.o
 ltl:=Yb s.l
 bx:=by simp
 nbx b hb:=by
  obtain ⟨ws,g1,_⟩:=s.out
  have:=g1.lt hb; omega
 ext:=Ext.app _ _ _
 blko:=.inl rfl
 blkl:=.inl rfl
theorem LR.go (s:LR I h0 bo bl h ov0 lv0 left h' ov lv Ls cur) (g:LS I h0 bo bl h1 ov' lv' Ls' cur') (hx:Ext (gS bo bl ov lv) h' h1) (hbo:Yc ov' = Yc ov∨∃ b,Yc ov' = some b∧h'.length≤b) (hbl:Yc lv' = Yc lv∨∃ b,Yc lv' = some b∧h'.length≤b) :
  LR I h0 bo bl h ov0 lv0 left h1 ov' lv' Ls' cur' where
 gs:=g
 low:=s.low
 lto:=s.lto
 ltl:=s.ltl
 bx:=by
  rw [hx.2 _ (Yb s.bx) ?_]
  · exact s.bx
  · rintro (h | h | h | h)
    · have:=s.lto; omega
    · have:=s.ltl; omega
    · exact s.nbx _ h rfl
    · exact s.gs.own.notCells s.bx h
 nbx b hb:=by
  rcases hbo with h | ⟨b',h,h2⟩
  · exact s.nbx b (h▸hb)
  · rw [h] at hb; cases hb; have:=Yb s.bx; omega
 ext:=⟨Nat.le_trans s.ext.1 hx.1,fun i hi hs=>by
  rw [hx.2 i (Nat.lt_of_lt_of_le hi s.ext.1),s.ext.2 i hi hs]
  rintro (h | h | h | h)
  · exact hs (.inl h)
  · exact hs (.inr (.inl h))
  · rcases s.blko with h2 | ⟨b,h2,h3⟩
    · exact hs (.inr (.inr (.inl (h2▸h))))
    · rw [h2] at h; cases h; omega
  · rcases s.blkl with h2 | ⟨b,h2,h3⟩
    · exact hs (.inr (.inr (.inr (h2▸h))))
    · rw [h2] at h; cases h; omega⟩
 blko:=by
  have:=s.ext.1
  rcases hbo with h | ⟨b,h,h2⟩
  · rw [h]; exact s.blko
  · exact .inr ⟨b,h,by omega⟩
 blkl:=by
  have:=s.ext.1
  rcases hbl with h | ⟨b,h,h2⟩
  · rw [h]; exact s.blkl
  · exact .inr ⟨b,h,by omega⟩
theorem LR.app (s:LR I h0 bo bl h ov0 lv0 left h' ov lv Ls cur) (g:Zh):LR I h0 bo bl h ov0 lv0 left (h'++g) ov lv Ls cur:=s.go (s.gs.app g) (Ext.app _ _ _) (.inl rfl) (.inl rfl)
theorem LR.else (s:LR I h0 bo bl h ov0 lv0 left h' ov lv Ls cur) {j:Nat} {B:Blk} (hj:h.length<j) (ho:Yc ov≠some j) (hc : ∀ ys e,h'[j]?≠some (.ints ys e false)):LR I h0 bo bl h ov0 lv0 left (h'.set j B) ov lv Ls cur:=by
 have hlen:=s.low
 have hext:=s.ext.1
 have hx:Ext (fun i=>i=j) h' (h'.set j B):=Ext.set _ rfl
 have hbo:=s.lto
 have hbl:=s.ltl
 refine ⟨s.gs.ext hx (fun i hi he=>by have:=s.gs.low i hi; omega) (by omega) (by omega) (fun b hb he=>ho (he▸hb)) (fun b ys e hy he=>hc ys e (he▸hy)),s.low,s.lto,s.ltl,by rw [List.getElem?_set_ne (by omega)]; exact s.bx,s.nbx,?_,s.blko,s.blkl⟩
 exact ⟨by simp; exact hext,fun i hi hs=>by rw [List.getElem?_set_ne (by omega)]; exact s.ext.2 i hi hs⟩
theorem LR.box (s:LR I h0 bo bl h ov0 lv0 left h' ov lv Ls cur) {i:Nat} {B:Blk} (hi:I i) (hb:h0[i]? = some B):h'[i]? = some B:=(s.gs.keep i hi).trans hb
end
end Go.Proofs.Tryd.Am.Or
namespace Go.Proofs.Tryd.Am.Or
open Go.Proofs.Tryd.Am
open Go.Am Ord
set_option maxRecDepth 100000
set_option maxHeartbeats 1000000
theorem flat_pre {α β:Type} {f:α→List β} {pre l:List α} {x:α} (h:pre++[x] <+: l):(pre.flatMap f).length+(f x).length≤(l.flatMap f).length:=by
 obtain ⟨t,rfl⟩:=h
 rw [List.flatMap_append,List.flatMap_append,List.length_append,List.length_append,List.flatMap_singleton]
 omega
def gV (bo bl bd bg:Nat):Value:=.func (.func 108) #[] #[.pointer (some ⟨bo,0,none⟩),.pointer (some ⟨bl,0,none⟩),.pointer (some ⟨bd,0,none⟩),.pointer (some ⟨bg,0,none⟩)]
theorem grow_call [BitTab prog 0] {I:Nat→Prop} {h0:Zh} {bo bl bd bg:Nat} {o:List Int} (ho:ord o=true) (hI:I bd∧I bg) (hd:h0[bd]? = some (.cells (Vk o) 97 false)) (hg:h0[bg]? = some (.cells [gV bo bl bd bg] 72 false)) :
  ∀ (n left:Nat) (cur:List Int) (Ls:List (List Int)) (h:Zh) (ov lv:Value),LS I h0 bo bl h ov lv Ls cur→(Am.bits left).length=n→left<2 ^ o.length→cur.length+n=o.length→Ls.length+(lines (ab o) n (Am.bits left)).length≤46656 →
    ACall prog 108 [Zd left,.pointer (some ⟨bo,0,none⟩),.pointer (some ⟨bl,0,none⟩),.pointer (some ⟨bd,0,none⟩),.pointer (some ⟨bg,0,none⟩)] h fun _ h' =>
     ∃ ov' lv',LS I h0 bo bl h' ov' lv' (Ls++behind cur (lines (ab o) n (Am.bits left))) cur∧Ext (gS bo bl ov lv) h h'∧(Yc ov' = Yc ov∨∃ b,Yc ov' = some b∧h.length≤b)∧(Yc lv' = Yc lv∨∃ b,Yc lv' = some b∧h.length≤b):=by
 have hlen:=Wj ho
 have hpw:=pow6 hlen.2
 intro n
 induction n with
 | zero =>
   intro left cur Ls h ov lv gs hn hlt hcl hLs
   have hz:left=0:=by
    rcases Nat.eq_zero_or_pos left with h | h
    · exact h
    · exact absurd (List.length_eq_zero_iff.1 hn) (Ord.bits_ne (by omega) (by omega))
   subst hz
   have hcne:cur≠[]:=by rintro rfl; simp at hcl; omega
   refine s108_call (by simp) ?_
   simp only [s108]
   refine Wt fun N hN=>?_
   simp (maxSteps:=2000000) only [↓Za,↓Zb,↓Zc,vup,cond_true,cond_false,aop,Zf,Zp,ev,sput,Ze,Nat.reduceBEq,Nat.reduceAdd,tyf,boxK,cellsOf,Option.isSome_some,Yg]
   refine hN _ _ ?_
   clear hN N
   have rs0:=LR.of (left:=0) gs
   have e0:Zd ((0:Nat):Int) = .int .i64 0:=rfl
   rw [e0] at rs0
   generalize h++[.cells [.int .i64 0] 3 false]=h2 at rs0 ⊢
   have hb0:h2[h.length]? = some (.cells [.int .i64 0] 3 false):=rs0.bx
   refine Wt fun N hN=>?_
   simp (maxSteps:=2000000) only [↓Za,↓Zn,↓Zl,↓Zb,↓Zc,↓vdn,vup,cond_true,cond_false,aop,Zf,ev,sput,Ze,Yf,Yi,Nat.reduceBEq,tyf,Xl hb0 Yy,beq_self_eq_true]
   refine aw_drawR (fun hp=>hp[bo]? = some (.cells [ov] 22 false)) [(0,5),(5,6)] (by kernel_rfl) (by kernel_rfl) (by kernel_rfl) (by kernel_rfl) rs0.gs.o ?_
   simp (maxSteps:=2000000) only [↓Wa,↓vdn,vup,List.map_cons,List.map_nil,cond_true,cond_false,aop,Zf,ev,sput,Ze,Zi,Nat.reduceBEq,Nat.reduceAdd,Nat.reduceLT,Bool.false_or,Bool.true_or,Xl rs0.gs.l Xy,Yn,List.nil_append,List.append_nil]
   refine ⟨ov,fun hp hhp=>by simp only [Xl hhp shp_22],?_⟩
   refine ⟨_,_,clone_det rs0.gs.own.int hcne (by omega),Yp (Yp rs0.gs.o _) _,?_⟩
   obtain ⟨w,hw⟩ : ∃ w:Value,w = .slice (some ⟨h2.length+1,0,some 0⟩) cur.length cur.length:=⟨_,rfl⟩
   rw [← hw]
   obtain ⟨H1,hH1⟩ : ∃ H1,H1=h2++[Blk.ints [] 3 false]++[Blk.ints cur 3 false]:=⟨_,rfl⟩
   rw [← hH1]
   have how:OwnSl 3 H1 w cur:=.inr ⟨h2.length+1,[],by rw [hw]; simp,by rw [hH1,List.getElem?_append_right (by simp)]; simp⟩
   have hl1:H1.length=h2.length+2:=by rw [hH1]; simp
   have rs1:=(rs0.app [Blk.ints [] 3 false]).app [Blk.ints cur 3 false]
   rw [← hH1] at rs1
   clear hH1
   simp (maxSteps:=2000000) only [buildSl1 el_22 zero_27 esz_27 how]
   have rs2:=rs1.app [Blk.cells [w] 27 false]
   have how2:OwnSl 3 (H1++[Blk.cells [w] 27 false]) w cur:=how.ext (S:=fun _=>False) (Ext.app _ _ _) (fun _ _ h=>h)
   have hval:ValSl (H1++[Blk.cells [w] 27 false]) (.slice (some ⟨H1.length,0,none⟩) 1 1) [w]:=.inr ⟨H1.length,0,none,1,[w],27,false,rfl,Nat.le_refl _,by simp [view,Blk.view],rfl⟩
   refine ⟨rs2.gs.o,?_⟩
   obtain ⟨ws,g1,g2,g3⟩:=rs2.gs.out
   have hall:=g2.app (show Each (OwnSl 3 (H1++[Blk.cells [w] 27 false])) [w] [cur] from ⟨how2,trivial⟩)
   refine g1.app app_22_22 hval (fun y hy=>by obtain ⟨l,hl⟩:=hall.mem y hy; exact hl.notI) ?_ fun ov' h' hov hE hb=>⟨?_,?_⟩
   · rw [g2.len]
     have:(lines (ab o) 0 (Am.bits 0)).length=1:=rfl
     simp only [List.length_singleton]; omega
   · exact (hE.2 bo (Yb rs2.gs.o) (fun h=>(rs2.gs.apo _ h).2.1 rfl)).trans rs2.gs.o
   have ho':=(hE.2 bo (Yb rs2.gs.o) (fun h=>(rs2.gs.apo _ h).2.1 rfl)).trans rs2.gs.o
   have hone:one ov' = true:=by rcases hov with ⟨rfl,_⟩ | ⟨b,ys,rfl,_⟩ <;> rfl
   simp (maxSteps:=2000000) only [store1 ho' shp_22 hone]
   have hwl : ∀ b,Yc w=some b→Yc lv≠some b:=fun b hbw hbl=>by
    rw [hw] at hbw; cases hbw
    have:=rs0.gs.own.lt hbl; omega
   have gs3:=rs2.gs.storeO g1 g2 g3 how2 hwl hE hov hb
   have rs3:=rs2.go gs3 ((hE.mono fun _ h=>.inr (.inr (.inl h))).trans (Ext.set _ (.inl rfl))) hb (.inl rfl)
   refine hN _ _ ?_
   clear hN N gs3 hone ho' hwl hb hE hov
   generalize h'.set bo (.cells [ov'] 22 false)=h3 at rs3 ⊢
   have hb3:h3[h.length]? = some (.cells [.int .i64 0] 3 false):=rs3.bx
   simp (maxSteps:=2000000) only [↓Za,↓Zl,↓Yr,↓Zb,↓Zc,vup,List.map_cons,List.map_nil,cond_true,cond_false,aop,Zf,ev,sput,Ze,Nat.reduceBEq,Xl hb3 Yy,Yn,List.nil_append,List.append_nil]
   refine elements_call.mono ?_
   rintro _ _ ⟨rfl,rfl⟩
   simp (maxSteps:=2000000) only [Yg]
   have hb4:=Yb rs3.bx
   have rs4:LR I h0 bo bl h ov lv 0 ((h3++[Blk.cells [.int .i64 0] 3 false]).set h3.length Blk.dead) ov' lv (Ls++[cur]) cur :=
    (rs3.app _).else hb4 (fun hb=>by obtain ⟨ws,g1,_⟩:=rs3.gs.out; have:=g1.lt hb; omega) (fun ys e=>by rw [Zr]; intro h; cases h)
   refine aw_range Ob.bitIter (bx:=h3.length) (s:=0) (et:=3) rfl (Zr _ _) (by decide) (fun pre hk=>LR I h0 bo bl h ov lv 0 hk ov' lv (Ls++[cur]) cur) rs4 ?_ ?_
   · rintro pre x hk hpre _
     have:=mem_pre hpre
     exact absurd this (by simp [Am.bits])
   · rintro hk rs
     simp (maxSteps:=2000000) only [Zo,Zs,Xn]
     have e1:behind cur (lines (ab o) 0 (Am.bits 0))=[cur]:=by simp [behind,lines,castN]
     rw [e1]
     exact ⟨ov',lv,rs.gs,rs.ext,rs.blko,rs.blkl⟩
 | succ k ih =>
   intro left cur Ls h ov lv gs hn hlt hcl hLs
   have hz:left≠0:=by
    rintro rfl
    have:Am.bits 0=[]:=by simp [Am.bits]
    rw [this] at hn; cases hn
   have hz2:(((left:Nat):Int)==0)=false:=by rw [eq0,decide_eq_false hz]
   have hall:=gF_all ho (n:=k) (left:=left) (by omega) cur
   refine s108_call (by simp) ?_
   simp only [s108]
   refine Wt fun N hN=>?_
   simp (maxSteps:=2000000) only [↓Za,↓Zb,↓Zc,vup,cond_true,cond_false,aop,Zf,Zp,ev,sput,Ze,Nat.reduceBEq,Nat.reduceAdd,tyf,boxK,cellsOf,Option.isSome_some,Yg]
   refine hN _ _ ?_
   clear hN N
   have rs0:=LR.of (left:=left) gs
   generalize h++[.cells [Zd left] 3 false]=h2 at rs0 ⊢
   simp (maxSteps:=2000000) only [↓Za,↓Zn,↓Zl,↓Yr,↓Zb,↓Zc,↓vdn,vup,List.map_cons,List.map_nil,cond_true,cond_false,aop,Zf,ev,sput,Ze,Yf,Yi,Nat.reduceBEq,tyf,Xl rs0.bx Yy,hz2,Yn,List.nil_append,List.append_nil]
   refine elements_call.mono ?_
   rintro _ _ ⟨rfl,rfl⟩
   simp (maxSteps:=2000000) only [Yg]
   have hb4:=Yb rs0.bx
   have rs4:LR I h0 bo bl h ov lv left ((h2++[Blk.cells [Zd left] 3 false]).set h2.length Blk.dead) ov lv Ls cur :=
    (rs0.app _).else hb4 (fun hb=>by obtain ⟨ws,g1,_⟩:=rs0.gs.out; have:=g1.lt hb; omega) (fun ys e=>by rw [Zr]; intro h; cases h)
   refine aw_range Ob.bitIter (bx:=h2.length) (s:=left) (et:=3) rfl (Zr _ _) (by omega) (fun pre hk=>∃ ov' lv',LR I h0 bo bl h ov lv left hk ov' lv' (Ls++pre.flatMap (gF o k left cur)) cur) ⟨ov,lv,by simpa using rs4⟩ ?_ ?_
   · rintro pre x hk hpre ⟨ov1,lv1,rs⟩
     obtain ⟨hx64,hxb⟩:=Vd.1 (mem_pre hpre)
     have hx6:x<o.length:=by
      rcases Nat.lt_or_ge x o.length with h | h
      · exact h
      · rw [Nat.testBit_lt_two_pow (Nat.lt_of_lt_of_le hlt (Nat.pow_le_pow_right (by decide) h))] at hxb; cases hxb
     have hdl:=dn_lt (o:=o) (i:=x)
     have hand:Vl .and .i64 ((dn o x:Nat):Int) (left:Int)=((dn o x &&& left:Nat):Int):=bitsV_and (by omega) (by omega)
     have hcnt:=flat_pre (f:=gF o k left cur) hpre
     rw [hall,behind,List.length_map] at hcnt
     simp (maxSteps:=2000000) only [↓Za,↓Zl,↓Yr,↓Zb,↓Zc,vup,cond_true,cond_false,aop,Zf,ev,sput,Ze,Nat.reduceBEq,r108_0_a,r108_0_b]
     refine Yx [(2,1)] (by kernel_rfl) (by kernel_rfl) (by kernel_rfl) (by kernel_rfl) ?_
     simp (maxSteps:=2000000) only [↓Zz,↓vdn,vup,List.map_cons,List.map_nil,cond_true,cond_false,aop,Zf,ev,sput,Ze,Yf,Yi,Nat.reduceBEq,Nat.reduceAdd,tyf,loadO (rs.box hI.1 hd) Xx hlen.2,Yn,List.nil_append,List.append_nil]
     refine ⟨_,_,below_call ho,rfl,?_⟩
     by_cases hd1:dn o x &&& left=0
     · have hd2:(((dn o x &&& left:Nat):Int)==0)=true:=by rw [hd1]; rfl
       have hF:gF o k left cur x=behind (cur++[(x:Int)]) (lines (ab o) k (Am.bits (less left (2 ^ x)))):=by rw [gF,if_pos hd1]
       have hl1:(Am.bits (less left (2 ^ x))).length=k:=by
        rw [← Ord.bits_erase hx64,List.length_erase_of_mem (Vd.2 ⟨hx64,hxb⟩),hn]; rfl
       rw [hF,behind,List.length_map] at hcnt
       simp (maxSteps:=2000000) only [↓Za,↓Zl,↓Zb,↓Zc,↓vdn,vup,List.map_cons,List.map_nil,cond_true,cond_false,aop,Zf,ev,sput,Ze,Zi,Nat.reduceBEq,Xl rs.bx Yy,hand,hd2,Xl rs.gs.l Xy,litI1]
       have hx1:Ext (fun _=>False) hk (hk++[.ints [(x:Int)] 3 false]):=Ext.app _ _ _
       refine (rs.gs.own.ext hx1 fun _ _ h=>h).append app_27_27 (by omega) (Zr _ _) ?_
       intro lv3 h4 ho4 hx4 hb4
       have hx5:Ext (fun i=>Yc lv1=some i) hk h4:=(hx1.mono fun _ h=>h.elim).trans hx4
       have hb5:Yc lv3=Yc lv1∨∃ b,Yc lv3=some b∧hk.length≤b:=by
        rcases hb4 with h | ⟨b,h,hl⟩
        · exact .inl h
        · exact .inr ⟨b,h,by simp at hl; omega⟩
       have hbl4:h4[bl]? = some (.cells [lv1] 27 false):=(hx5.2 bl (Yb rs.gs.l) (rs.gs.own.notCells rs.gs.l)).trans rs.gs.l
       have rs3:=rs.go (rs.gs.storeL hx5 ho4 hb5) ((hx5.mono fun _ h=>.inr (.inr (.inr h))).trans (Ext.set _ (.inr (.inl rfl)))) (.inl rfl) hb5
       have hshl:shlV .i64 1 x=2 ^ x:=shl1 (by omega)
       have h2x:2 ^ x<2 ^ o.length:=Nat.pow_lt_pow_right (by decide) hx6
       have hand3:Vl .andNot .i64 (left:Int) (2 ^ x)=((less left (2 ^ x):Nat):Int):=by
        have:=Uv (a:=left) (b:=2 ^ x) (by omega) (by omega)
        rw [Vm] at this; exact this
       simp (maxSteps:=2000000) only [store1 hbl4 Xy ho4.one]
       refine Yx [(5,4)] (by kernel_rfl) (by kernel_rfl) (by kernel_rfl) (by kernel_rfl) ?_
       simp (maxSteps:=2000000) only [↓Za,↓Zb,↓Zc,↓Zz,↓vdn,vup,List.map_cons,List.map_nil,cond_true,cond_false,aop,Zf,Zo,ev,sput,Ze,Yf,Yi,Zi,Nat.reduceBEq,Nat.reduceAdd,tyf,Xl (rs3.box hI.2 hg) shp_72,gV,Xl rs3.bx Yy,hshl,hand3,Yn,List.nil_append,List.cons_append]
       refine (ih (less left (2 ^ x)) (cur++[(x:Int)]) _ _ ov1 lv3 rs3.gs hl1 (less_lt hlt) (by simp; omega) (by rw [List.length_append]; omega)).mono ?_
       rintro _ h6 ⟨ov4,lv4,gs6,hx6,hbo6,hbl6⟩
       have rs6:=rs3.go gs6 hx6 hbo6 hbl6
       have hsub6:subV .i64 ((cur++[(x:Int)]).length:Nat) 1=(cur.length:Int):=by
        rw [List.length_append,List.length_singleton,subV_id (by omega) (by omega)]; omega
       simp (maxSteps:=2000000) only [vup,Xl rs6.gs.l Xy,rs6.gs.own.int.len,hsub6]
       refine rs6.gs.own.cut Vy Wm ?_
       intro lv5 ho5 hb7
       simp (maxSteps:=2000000) only [store1 rs6.gs.l Xy ho5.one,rangeQ]
       refine ⟨ov4,lv5,?_⟩
       have e1:Ls++(pre++[x]).flatMap (gF o k left cur)=Ls++pre.flatMap (gF o k left cur)++behind (cur++[(x:Int)]) (lines (ab o) k (Am.bits (less left (2 ^ x)))):=by
        rw [List.flatMap_append,List.flatMap_singleton,hF,List.append_assoc]
       rw [e1]
       exact rs6.go (rs6.gs.storeL (Ext.refl _ _) ho5 (.inl hb7)) (Ext.set _ (.inr (.inl rfl))) (.inl rfl) (.inl hb7)
     · have hd2:(((dn o x &&& left:Nat):Int)==0)=false:=by rw [eq0,decide_eq_false hd1]
       have hF:gF o k left cur x=[]:=by rw [gF,if_neg hd1]
       simp (maxSteps:=2000000) only [↓Zn,↓vdn,vup,cond_true,cond_false,Zo,ev,Nat.reduceBEq,Xl rs.bx Yy,hand,hd2,rangeQ]
       refine ⟨ov1,lv1,?_⟩
       rw [List.flatMap_append,List.flatMap_singleton,hF,List.append_nil]
       exact rs
   · rintro hk ⟨ov1,lv1,rs⟩
     rw [hall] at rs
     simp (maxSteps:=2000000) only [Zo,Zs,Xn]
     exact ⟨ov1,lv1,rs.gs,rs.ext,rs.blko,rs.blkl⟩
end Go.Proofs.Tryd.Am.Or
namespace Go.Proofs.Tryd.Am.Or
open Go.Proofs.Tryd.Am
open Go.Am Ord
set_option maxRecDepth 100000
set_option maxHeartbeats 1000000
theorem AddR.ext {o:List Int} {i j:Int} {s:Value} {e:Int} {h h' : Zh} (ha:AddR o i j s e h) (hE:Ext (fun _=>False) h h'):AddR o i j s e h':=by
 by_cases h1:ord o=true∧elI o i=true∧elI o j=true
 · rw [AddR,if_pos h1] at ha ⊢
   by_cases h2:fr o i.toNat j.toNat=true
   · rw [if_pos h2] at ha ⊢; exact ⟨ha.1,Ux ha.2 hE⟩
   · rw [if_neg h2] at ha ⊢; exact ha
 · rw [AddR,if_neg h1] at ha ⊢; exact ha
end Go.Proofs.Tryd.Am.Or
namespace Go.Proofs.Tryd.Am.Or
open Go.Proofs.Tryd.Am
open Go.Am Ord
set_option maxRecDepth 100000
set_option maxHeartbeats 1000000
theorem lines75_call [BitTab prog 0] {h:Zh} {o:List Int} (ho:ord o=true):ACall prog 60 [ordV o] h fun r h'=>RdL 3 h' r (linesI o)∧Ext (fun _=>False) h h':=by
 have hlen:=Wj ho
 have hpw:=pow6 hlen.2
 have hcn:=cn_le ho
 refine s60_call (by simp) ?_
 simp only [s60]
 refine Wt fun N hN=>?_
 simp (maxSteps:=2000000) only [s60,↓Za,↓Zn,↓Zl,↓Yr,↓Yo,↓Zu,↓Zb,↓Zc,↓Vu,↓Zz,↓Wa,↓vdn,vup,Wh,Wi,Uz,Ja,Jc,List.map_cons,List.map_nil,cond_true,cond_false,aop,Zf,Zo,Zp,ev,sput,Ze,Yf,Yi,unK,Zi,Vs,Nat.reduceBEq,Nat.reduceAdd,Int.reduceBEq,Int.reduceBNe,Int.reduceLT,Zs,Xn,tup,tyf,boxO esz_97,Yg]
 refine hN _ _ ?_
 clear hN N
 refine Wt fun N hN=>?_
 simp (maxSteps:=2000000) only [s60,↓Za,↓Zn,↓Zl,↓Yr,↓Yo,↓Zu,↓Zb,↓Zc,↓Vu,↓Zz,↓Wa,↓vdn,vup,Wh,Wi,Uz,Ja,Jc,List.map_cons,List.map_nil,cond_true,cond_false,aop,Zf,Zo,Zp,ev,sput,Ze,Yf,Yi,unK,Zi,Vs,Nat.reduceBEq,Nat.reduceAdd,Int.reduceBEq,Int.reduceBNe,Int.reduceLT,Zs,Xn,tup,tyf,Xg,Yg,zero_22]
 refine hN _ _ ?_
 clear hN N
 refine Wt fun N hN=>?_
 simp (maxSteps:=2000000) only [s60,↓Za,↓Zn,↓Zl,↓Yr,↓Yo,↓Zu,↓Zb,↓Zc,↓Vu,↓Zz,↓Wa,↓vdn,vup,Wh,Wi,Uz,Ja,Jc,List.map_cons,List.map_nil,cond_true,cond_false,aop,Zf,Zo,Zp,ev,sput,Ze,Yf,Yi,unK,Zi,Vs,Nat.reduceBEq,Nat.reduceAdd,Int.reduceBEq,Int.reduceBNe,Int.reduceLT,Zs,Xn,tup,tyf,Xg,Yg,zero_27]
 refine hN _ _ ?_
 clear hN N
 refine Wt fun N hN=>?_
 simp (maxSteps:=2000000) only [s60,↓Za,↓Zn,↓Zl,↓Yr,↓Yo,↓Zu,↓Zb,↓Zc,↓Vu,↓Zz,↓Wa,↓vdn,vup,Wh,Wi,Uz,Ja,Jc,List.map_cons,List.map_nil,cond_true,cond_false,aop,Zf,Zo,Zp,ev,sput,Ze,Yf,Yi,unK,Zi,Vs,Nat.reduceBEq,Nat.reduceAdd,Int.reduceBEq,Int.reduceBNe,Int.reduceLT,Zs,Xn,tup,tyf,Xg,Yg,zero_72]
 refine hN _ _ ?_
 clear hN N
 obtain ⟨n,hn⟩ : ∃ n,n=h.length:=⟨_,rfl⟩
 simp only [List.length_append,List.length_cons,List.length_nil,Nat.zero_add,Nat.add_assoc,Nat.reduceAdd,← hn]
 obtain ⟨F,hF⟩ : ∃ F,F=h++[Blk.cells (Vk o) 97 false]++[Blk.cells [.slice none 0 0] 22 false]++[Blk.cells [.slice none 0 0] 27 false]++[Blk.cells [.nilFunc] 72 false]:=⟨_,rfl⟩
 rw [← hF]
 have hFl:F.length=n+4:=by rw [hF,hn]; simp
 have f0:F[n]? = some (.cells (Vk o) 97 false):=by rw [hF,hn]; exact Yp (Yp (Yp (Zr _ _) _) _) _
 have f1:F[n+1]? = some (.cells [.slice none 0 0] 22 false):=by
  have:=Zr (h++[Blk.cells (Vk o) 97 false]) (Blk.cells [.slice none 0 0] 22 false)
  simp only [List.length_append,List.length_singleton,← hn] at this
  rw [hF]; exact Yp (Yp this _) _
 have f2:F[n+2]? = some (.cells [.slice none 0 0] 27 false):=by
  have:=Zr (h++[Blk.cells (Vk o) 97 false]++[Blk.cells [.slice none 0 0] 22 false]) (Blk.cells [.slice none 0 0] 27 false)
  simp only [List.length_append,List.length_singleton,← hn,Nat.add_assoc,Nat.reduceAdd] at this
  rw [hF]; exact Yp this _
 have f3:F[n+3]? = some (.cells [.nilFunc] 72 false):=by
  have:=Zr (h++[Blk.cells (Vk o) 97 false]++[Blk.cells [.slice none 0 0] 22 false]++[Blk.cells [.slice none 0 0] 27 false]) (Blk.cells [.nilFunc] 72 false)
  simp only [List.length_append,List.length_singleton,← hn,Nat.add_assoc,Nat.reduceAdd] at this
  rw [hF]; exact this
 have hEF:Ext (fun _=>False) h F:=by rw [hF]; simp only [List.append_assoc]; exact Ext.app _ _ _
 clear hF
 refine Wt fun N hN=>?_
 simp (maxSteps:=2000000) only [s60,↓Za,↓Zn,↓Zl,↓Yr,↓Yo,↓Zu,↓Zb,↓Zc,↓Vu,↓Zz,↓Wa,↓vdn,vup,Wh,Wi,Uz,Ja,Jc,List.map_cons,List.map_nil,cond_true,cond_false,aop,Zf,Zo,Zp,ev,sput,Ze,Yf,Yi,unK,Zi,Vs,Nat.reduceBEq,Nat.reduceAdd,Int.reduceBEq,Int.reduceBNe,Int.reduceLT,Zs,Xn,tup,tyf,List.map_toArray,Go.Am.storeF f3 shp_72]
 refine hN _ _ ?_
 clear hN N
 obtain ⟨G,hG⟩ : ∃ G,G=F.set (n+3) (.cells [gV (n+1) (n+2) n (n+3)] 72 false):=⟨_,rfl⟩
 have hG':=hG
 rw [gV] at hG'
 rw [← hG']
 have g0:G[n]? = some (.cells (Vk o) 97 false):=by rw [hG,List.getElem?_set_ne (by omega)]; exact f0
 have g1:G[n+1]? = some (.cells [.slice none 0 0] 22 false):=by rw [hG,List.getElem?_set_ne (by omega)]; exact f1
 have g2:G[n+2]? = some (.cells [.slice none 0 0] 27 false):=by rw [hG,List.getElem?_set_ne (by omega)]; exact f2
 have g3:G[n+3]? = some (.cells [gV (n+1) (n+2) n (n+3)] 72 false):=by rw [hG]; exact Xf (by omega) _
 have hGl:G.length=n+4:=by rw [hG]; simp [hFl]
 have hEG:Ext (fun _=>False) h G:=⟨by omega,fun i hi _=>by rw [hG,List.getElem?_set_ne (by omega)]; exact hEF.2 i hi id⟩
 clear hG hG' hEF f0 f1 f2 f3 hFl
 clear F
 have ls:LS (fun i=>i=n∨i=n+3) G (n+1) (n+2) G (.slice none 0 0) (.slice none 0 0) [] [] :=
  ⟨Nat.le_refl _,fun _ _=>rfl,fun i hi=>by omega,g1,g2,by omega,by omega,by omega,.inl ⟨rfl,rfl⟩,⟨[],.inl ⟨rfl,rfl⟩,trivial,fun _ h=>by cases h⟩,fun _ h=>(by cases h),fun _ h=>(by cases h)⟩
 have hba:Am.bits (2 ^ o.length-1)=List.range o.length:=Ord.bits_all (by omega)
 have hgr:=grow_call (I:=fun i=>i=n∨i=n+3) ho ⟨.inl rfl,.inr rfl⟩ g0 g3 o.length (2 ^ o.length-1) [] [] G _ _ ls (by rw [hba,List.length_range]) (by have:=Nat.two_pow_pos o.length; omega) (by simp) (by
  rw [hba]
  have:=Vj o
  rw [Wg] at this
  rw [this,List.length_nil]; omega)
 rw [hba] at hgr
 simp (maxSteps:=2000000) only [s60,↓Za,↓Zn,↓Zl,↓Yr,↓Yo,↓Zu,↓Zb,↓Zc,↓Vu,↓Zz,↓Wa,↓vdn,vup,Wh,Wi,Uz,Ja,Jc,List.map_cons,List.map_nil,cond_true,cond_false,aop,Zf,Zo,Zp,ev,sput,Ze,Yf,Yi,unK,Zi,Vs,Nat.reduceBEq,Nat.reduceAdd,Int.reduceBEq,Int.reduceBNe,Int.reduceLT,Zs,Xn,tup,tyf]
 refine Yx [(2,1),(3,4)] (by kernel_rfl) (by kernel_rfl) (by kernel_rfl) (by kernel_rfl) ?_
 simp (maxSteps:=2000000) only [s60,↓Za,↓Zn,↓Zl,↓Yr,↓Yo,↓Zu,↓Zb,↓Zc,↓Vu,↓Zz,↓Wa,↓vdn,vup,Wh,Wi,Uz,Ja,Jc,List.map_cons,List.map_nil,cond_true,cond_false,aop,Zf,Zo,Zp,ev,sput,Ze,Yf,Yi,unK,Zi,Vs,Nat.reduceBEq,Nat.reduceAdd,Int.reduceBEq,Int.reduceBNe,Int.reduceLT,Zs,Xn,tup,tyf,Xl g3 shp_72,gV,loadO g0 Xx hlen.2,Yn,List.nil_append,List.append_nil,List.toList_toArray,List.cons_append]
 refine ⟨_,_,all_call hlen.2,rfl,?_⟩
 refine hgr.mono ?_
 rintro _ h' ⟨ov,lv,gs,hE,_,_⟩
 simp (maxSteps:=2000000) only [s60,↓Za,↓Zn,↓Zl,↓Yr,↓Yo,↓Zu,↓Zb,↓Zc,↓Vu,↓Zz,↓Wa,↓vdn,vup,Wh,Wi,Uz,Ja,Jc,List.map_cons,List.map_nil,cond_true,cond_false,aop,Zf,Zo,Zp,ev,sput,Ze,Yf,Yi,unK,Zi,Vs,Nat.reduceBEq,Nat.reduceAdd,Int.reduceBEq,Int.reduceBNe,Int.reduceLT,Zs,Xn,tup,tyf,Xl gs.o shp_22]
 obtain ⟨ws,k1,k2,_⟩:=gs.out
 refine ⟨⟨ws,k1.val,?_⟩,⟨by have:=hE.1; omega,fun i hi _=>?_⟩⟩
 · rw [List.nil_append] at k2; exact k2
 · rw [hE.2 i (by omega) ?_,hEG.2 i hi id]
   rintro (h | h | h | h)
   · omega
   · omega
   · cases h
   · cases h
def LinesR (o:List Int) (r:Value) (h:Zh):Prop:=if ord o=true then ∃ w,r = .tuple #[w,.int .i64 0]∧RdL 3 h w (linesI o) else r = .tuple #[.slice none 0 0,.int .i64 2]
theorem lines31_call [BitTab prog 0] {h:Zh} {v:Value} {o:List Int} (hv:IntSl h v o) (hl:o.length<9223372036854775808) (hx : ∀ x∈o,-9223372036854775808≤x∧x<9223372036854775808) :
  ACall prog 22 [v] h fun r h'=>LinesR o r h'∧Ext (fun _=>False) h h':=by
 refine s22_call (by simp) ?_
 simp only [s22]
 simp (maxSteps:=2000000) only [s22,↓Za,↓Zn,↓Zl,↓Yr,↓Yo,↓Zu,↓Zb,↓Zc,↓Vu,↓Zz,↓Wa,↓vdn,vup,Wh,Wi,Uz,Ja,Jc,List.map_cons,List.map_nil,cond_true,cond_false,aop,Zf,Zo,Zp,ev,sput,Ze,Yf,Yi,unK,Zi,Vs,Nat.reduceBEq,Nat.reduceAdd,Int.reduceBEq,Int.reduceBNe,Int.reduceLT,Zs,Xn,tup,tyf,Yn,List.nil_append,List.append_nil,List.toList_toArray,List.cons_append]
 refine (read_call hv hl hx).mono ?_
 rintro _ g ⟨rfl,rfl⟩
 simp (maxSteps:=2000000) only [s22,↓Za,↓Zn,↓Zl,↓Yr,↓Yo,↓Zu,↓Zb,↓Zc,↓Vu,↓Zz,↓Wa,↓vdn,vup,Wh,Wi,Uz,Ja,Jc,List.map_cons,List.map_nil,cond_true,cond_false,aop,Zf,Zo,Zp,ev,sput,Ze,Yf,Yi,unK,Zi,Vs,Nat.reduceBEq,Nat.reduceAdd,Int.reduceBEq,Int.reduceBNe,Int.reduceLT,Zs,Xn,tup,tyf,Xg,Yg,zeroN,zero_97]
 rw [storeRd]
 obtain ⟨hE,hb⟩:=rdBox g o
 generalize hgl:g.length=gl at hE hb ⊢
 generalize (g++[Blk.cells (ordN 0) 97 false]).set gl (.cells (rdC o) 97 false)=G at hE hb ⊢
 cases ho:ord o with
 | false =>
   simp (maxSteps:=2000000) only [s22,↓Za,↓Zn,↓Zl,↓Yr,↓Yo,↓Zu,↓Zb,↓Zc,↓Vu,↓Zz,↓Wa,↓vdn,vup,Wh,Wi,Uz,Ja,Jc,List.map_cons,List.map_nil,cond_true,cond_false,aop,Zf,Zo,Zp,ev,sput,Ze,Yf,Yi,unK,Zi,Vs,Nat.reduceBEq,Nat.reduceAdd,Int.reduceBEq,Int.reduceBNe,Int.reduceLT,Zs,Xn,tup,tyf,ho]
   rw [LinesR,ho]
   exact ⟨rfl,hE⟩
 | true =>
   have hrd:rdC o=Vk o:=if_pos (Wj ho)
   rw [hrd] at hb
   simp (maxSteps:=2000000) only [s22,↓Za,↓Zn,↓Zl,↓Yr,↓Yo,↓Zu,↓Zb,↓Zc,↓Vu,↓Zz,↓Wa,↓vdn,vup,Wh,Wi,Uz,Ja,Jc,List.map_cons,List.map_nil,cond_true,cond_false,aop,Zf,Zo,Zp,ev,sput,Ze,Yf,Yi,unK,Zi,Vs,Nat.reduceBEq,Nat.reduceAdd,Int.reduceBEq,Int.reduceBNe,Int.reduceLT,Zs,Xn,tup,tyf,ho,loadO hb Xx (Wj ho).2,Yn,List.nil_append,List.append_nil,List.toList_toArray,List.cons_append]
   refine (lines75_call ho).mono ?_
   rintro r h' ⟨hr,hE2⟩
   rw [LinesR,ho]
   exact ⟨⟨r,rfl,hr⟩,hE.trans hE2⟩
end Go.Proofs.Tryd.Am.Or
namespace Ord
open Go.Am
noncomputable def force (n:Nat) (f:Nat→Nat):Nat:=Nat.rec (f 0) (fun k _=>f (Nat.succ k)) n
end Ord
namespace Ord
open Go.Am
end Ord
namespace Ord
open Go.Am
def hTo (o:List Int):Nat→Nat
 | 0=>0
 | k+1=>hTo o k+hsum o k
def Zv (f:Nat→Nat):Nat→Nat
 | 0=>0
 | k+1=>Zv f k+f k
theorem sumTo_range (f:Nat→Nat) : ∀ n,((List.range n).map f).sum=Zv f n
 | 0=>rfl
 | n+1=>by rw [List.range_succ,List.map_append,List.sum_append,sumTo_range f n,Zv]; simp
theorem Xw (f g:Nat→Nat) : ∀ n,Zv (fun i=>f i+g i) n=Zv f n+Zv g n
 | 0=>rfl
 | n+1=>by rw [Zv,Zv,Zv,Xw f g n]; omega
theorem Zk {f g:Nat→Nat} : ∀ n,(∀ i,i<n→f i=g i)→Zv f n=Zv g n
 | 0,_=>rfl
 | n+1,h=>by rw [Zv,Zv,Zk n fun i hi=>h i (by omega),h n (by omega)]
theorem sumTo_swap (F:Nat→Nat→Nat) : ∀ n m,Zv (fun i=>Zv (F i) m) n=Zv (fun j=>Zv (fun i=>F i j) n) m
 | 0,m=>by
   induction m with
   | zero=>rfl
   | succ m ih=>exact ih
 | n+1,m=>by
   rw [Zv,sumTo_swap F n m,← Xw]; rfl
theorem sumTo_const (c:Nat) : ∀ n,Zv (fun _=>c) n=n*c
 | 0=>by simp [Zv]
 | n+1=>by rw [Zv,sumTo_const c n,Nat.succ_mul]
theorem hTo_sum (o:List Int) : ∀ k,hTo o k=Zv (hsum o) k
 | 0=>rfl
 | k+1=>by rw [hTo,Zv,hTo_sum o k]
theorem hsum_sumTo (o:List Int) (i:Nat):hsum o i=Zv (fun j=>if j=i then 0 else befN o j i) o.length:=by
 rw [hsum,← sumTo_range]
 generalize List.range o.length=J
 induction J with
 | nil=>rfl
 | cons j J ih =>
   rw [List.filter_cons]
   by_cases h:j=i
   · rw [if_neg (by simpa using h),ih,List.map_cons,List.sum_cons,if_pos h,Nat.zero_add]
   · rw [if_pos (by simpa using h),List.map_cons,List.sum_cons,ih,List.map_cons,List.sum_cons,if_neg h]
theorem sumTo_but (c:Nat) {i:Nat} : ∀ n,Zv (fun j=>if j=i then 0 else c) n+(if i<n then c else 0)=n*c
 | 0=>by simp [Zv]
 | n+1=>by
   have ih:=sumTo_but c (i:=i) n
   rw [Zv,Nat.succ_mul,← ih]
   by_cases h1:n=i
   · subst h1; simp
   · rw [if_neg h1]
     by_cases h2:i<n
     · rw [if_pos h2,if_pos (by omega)]
     · rw [if_neg h2,if_neg (by omega)]; omega
theorem heights {o:List Int} (ho:ord o=true):2*hTo o o.length=o.length*(o.length-1)*cn o:=by
 obtain ⟨n,hn⟩ : ∃ n,n=o.length:=⟨_,rfl⟩
 have h1:hTo o o.length=Zv (fun i=>Zv (fun j=>if j=i then 0 else befN o j i) o.length) o.length:=by
  rw [hTo_sum]; exact Zk _ fun i _=>hsum_sumTo o i
 have h2:hTo o o.length=Zv (fun i=>Zv (fun j=>if j=i then 0 else befN o i j) o.length) o.length:=by
  rw [h1,sumTo_swap]
  refine Zk _ fun i _=>Zk _ fun j _=>?_
  by_cases h:i=j
  · rw [if_pos h,if_pos h.symm]
  · rw [if_neg h,if_neg (Ne.symm h)]
 have h3:2*hTo o o.length=Zv (fun i=>Zv (fun j=>if j=i then 0 else cn o) o.length) o.length:=by
  rw [Nat.two_mul]
  conv=>lhs; lhs; rw [h1]
  conv=>lhs; rhs; rw [h2]
  rw [← Xw]
  refine Zk _ fun i hi=>?_
  rw [← Xw]
  refine Zk _ fun j hj=>?_
  by_cases h:j=i
  · rw [if_pos h,if_pos h,if_pos h]
  · rw [if_neg h,if_neg h,if_neg h,befN_two ho hj hi h]
 rw [h3,← hn]
 have h4 : ∀ i,i<n→Zv (fun j=>if j=i then 0 else cn o) n=(n-1)*cn o:=fun i hi=>by
  have:=sumTo_but (cn o) (i:=i) n
  rw [if_pos hi] at this
  rw [Nat.sub_mul,Nat.one_mul]; omega
 rw [Zk n h4,sumTo_const,Nat.mul_assoc]
end Ord
namespace Go.Proofs.Tryd.Am.Tl
open Go.Proofs.Tryd.Am
open Go.Am
set_option maxRecDepth 100000
set_option maxHeartbeats 4000000
theorem s23_callW [Tabs Tryd.prog] {args:List Value} {h:Zh} {Q:Value→Zh→Prop} (hsz:args.length≤19) (hk:AWS Tryd.prog 19 s23 (Zs Tryd.prog [.tmp 4] Q) (Zp 0 args) h):ACall Tryd.prog 23 args h Q :=
 Yz Tryd.func23 rfl (enters_of Tryd.func23 (by kernel_rfl) rfl) rfl rfl (by decide) s23_strip s23_ok hsz hk
theorem index_call [Tabs prog] {h:Zh} {v:Value} {xs:List Int} {a:Int} (hv:IntSl h v xs) (hl:xs.length<9223372036854775807) (ha:a∈xs) :
  Xj prog 23 [v,Zd a] h (Zd (xs.idxOf a:Nat)):=by
 refine s23_callW (by simp) ?_
 simp only [s23]
 refine Zg fun N1 hN1=>?_
 simp (maxSteps:=2000000) only [↓Za,↓Zb,↓Zc,vup,cond_false,aop,Zf,Zp,ev,sput,Ze,Nat.reduceBEq,Nat.reduceAdd]
 refine hN1 [(0,v),(1,Zd a),(4,.int .i64 0)] _ _ ?_ (by simp (maxSteps:=2000000) only [vup,cond_true,cond_false,Nat.reduceBEq])
 clear hN1
 try clear N1
 refine Zt fun Z hZ=>?_
 refine Zg fun N2 hN2=>?_
 simp (maxSteps:=2000000) only [↓Za,↓Zb,↓Zc,vup,List.map_cons,List.map_nil,cond_true,cond_false,aop,Zf,ev,sput,Ze,Zi,Nat.reduceBEq,tyf,hv.len]
 refine hN2 [(0,v),(1,Zd a),(4,.int .i64 0),(6,v),(7,Zd xs.length),(8,.int .i64 0)] _ _ ?_ (by simp (maxSteps:=2000000) only [vup,cond_true,cond_false,Nat.reduceBEq])
 clear hN2
 try clear N2
 refine Zx ?_
 refine Zy fun Q hQ=>?_
 refine Xa (γ:=Nat) (fun i=>i≤xs.length∧∀ j,j<i→xs.getD j 0≠a) (fun i=>([(0,v),(1,Zd a),(4,.int .i64 0),(6,v),(7,Zd xs.length),(8,Zd (i:Nat))],h)) (fun i=>xs.length-i) 0 ⟨Nat.zero_le _,fun j hj=>absurd hj (Nat.not_lt_zero j)⟩ (by simp (maxSteps:=2000000) only [vup,cond_true,cond_false,Nat.reduceBEq,Int.natCast_zero]) rfl ?_
 rintro i ⟨hi,hno⟩
 refine Zy fun Q2 hQ2=>?_
 simp only [l23_0]
 by_cases hin:(i:Int)<xs.length
 · have hi' : i<xs.length:=by omega
   have hxe:xs.getD i 0=xs[i]:=by rw [List.getD,List.getElem?_eq_getElem hi']; rfl
   refine Zg fun N3 hN3=>?_
   simp (maxSteps:=2000000) only [↓Za,↓Zb,↓Zc,vup,cond_true,cond_false,aop,Zf,ev,sput,Ze,Yf,Yi,Nat.reduceBEq,hin]
   refine hN3 [(0,v),(1,Zd a),(4,.int .i64 0),(6,v),(7,Zd xs.length),(8,Zd (i:Nat)),(9,.bool true)] _ _ ?_ (by simp (maxSteps:=2000000) only [vup,cond_true,cond_false,Nat.reduceBEq])
   clear hN3
   try clear N3
   refine Zg fun N4 hN4=>?_
   simp (maxSteps:=2000000) only [↓Zn,↓vdn,vup,cond_true,cond_false,Zf,ev,Nat.reduceBEq]
   refine hN4 [(0,v),(1,Zd a),(4,.int .i64 0),(6,v),(7,Zd xs.length),(8,Zd (i:Nat))] _ _ ?_ (by simp (maxSteps:=2000000) only [vup,cond_true,cond_false,Nat.reduceBEq])
   clear hN4
   try clear N4
   refine Zt fun B hB=>?_
   refine Zx ?_
   refine Zg fun N5 hN5=>?_
   simp (maxSteps:=2000000) only [↓Za,↓Zb,↓Zc,vup,cond_true,cond_false,aop,Zf,ev,sput,Ze,Nat.reduceBEq]
   refine hN5 [(0,v),(1,Zd a),(4,.int .i64 0),(5,Zd (i:Nat)),(6,v),(7,Zd xs.length),(8,Zd (i:Nat))] _ _ ?_ (by simp (maxSteps:=2000000) only [vup,cond_true,cond_false,Nat.reduceBEq])
   clear hN5
   try clear N5
   refine Zg fun N6 hN6=>?_
   simp (maxSteps:=2000000) only [↓Za,↓Zb,↓Zc,vup,cond_true,cond_false,aop,Zf,ev,sput,Ze,Yf,Yi,Nat.reduceBEq,tyf,hv.idx Vy Wm hi',hv.load Yy hi']
   refine hN6 [(0,v),(1,Zd a),(4,.int .i64 0),(5,Zd (i:Nat)),(6,v),(7,Zd xs.length),(8,Zd (i:Nat)),(16,.bool (a==xs.getD i 0))] _ _ ?_ (by simp (maxSteps:=2000000) only [vup,cond_true,cond_false,Nat.reduceBEq])
   clear hN6
   try clear N6
   cases hpx:(a==xs.getD i 0) with
   | false =>
     refine Xh rfl ?_
     refine Zm ?_
     simp (maxSteps:=2000000) only [↓Zn,Zf,Zo]
     refine hB [(0,v),(1,Zd a),(4,.int .i64 0),(6,v),(7,Zd xs.length),(8,Zd (i:Nat))] _ _ ?_ (by simp (maxSteps:=2000000) only [vup,cond_true,cond_false,Nat.reduceBEq])
     clear hB
     try clear B
     refine Zm ?_
     simp (maxSteps:=2000000) only [↓Za,↓Zb,↓Zc,vup,cond_true,cond_false,aop,ev,sput,Ze,Yf,Yi,Nat.reduceBEq,add1 (show i<9223372036854775807 by omega)]
     exact hQ2 _ _ _ ⟨i+1,⟨hi',fun j hj=>by
      by_cases hji:j=i
      · rw [hji]; intro hc; rw [hc,beq_self_eq_true] at hpx; cases hpx
      · exact hno j (by omega)⟩,by omega,by simp (maxSteps:=2000000) only [vup,cond_true,cond_false,Nat.reduceBEq],rfl⟩
   | true =>
     refine Xu rfl ?_
     refine Zm ?_
     simp (maxSteps:=2000000) only [↓Za,↓Zl,↓Zu,↓Zb,↓Zc,vup,cond_true,cond_false,aop,Zf,Zo,ev,sput,Ze,Nat.reduceBEq]
     refine hQ2 _ _ _ (hQ _ _ _ ?_)
     simp (maxSteps:=2000000) only [vup,cond_true,cond_false,Zf,Zo,Nat.reduceBEq,Zs,Xn,tup]
     have hai:xs[i]=a:=by rw [← hxe]; exact (eq_of_beq hpx).symm
     have hfi:xs.idxOf a=i:=by
      rw [List.idxOf,List.findIdx_eq (by simpa using hi')]
      refine ⟨by rw [hai]; exact beq_self_eq_true a,fun j hj=>?_⟩
      have:=hno j hj
      rw [List.getD,List.getElem?_eq_getElem (by omega)] at this
      simpa using this
     rw [hfi]
 · exfalso
   obtain ⟨j,hj,e⟩:=List.mem_iff_getElem.1 ha
   refine hno j (by omega) ?_
   rw [List.getD,List.getElem?_eq_getElem hj]; exact e
theorem same26_call [Tabs prog] {h:Zh} {b:Nat} {x y e:Int} (hb:h[b]? = some (.cells [Zd e] 3 false)):Xj prog 26 [.agg #[Zd x,Zd y],.pointer (some ⟨b,0,none⟩)] h (.bool (x==e)):=by
 refine ACall.forget (Low.bool _) ?_
 refine s26_call (by simp) ?_
 have l1 : ∀ {K:Value→Prop},Xs prog (h++[Be.bB x y]) 3 (.pointer (some ⟨b,0,none⟩)) K=K (Zd e):=fun {K}=>loadC (o:=0) (Yp hb _) Yy rfl
 simp (maxSteps:=2000000) only [s26,↓Za,↓Zl,↓Zu,↓Zb,↓Zc,vup,cond_true,cond_false,aop,Zf,Zp,ev,sput,Ze,Yf,Yi,Nat.reduceBEq,Nat.reduceAdd,Zs,Xn,tup,tyf,Be.boxB,Yg,Be.bA0,Be.loadB0 (Zr h _),l1]
 exact Ext.app _ _ _
end Go.Proofs.Tryd.Am.Tl
namespace Go.Proofs.Tryd.Am.Tl
open Go.Proofs.Tryd.Am
open Go.Am Ord Bq
set_option maxRecDepth 100000
set_option maxHeartbeats 4000000
theorem len_le1 {α:Type} {l:List α} (hn:l.Nodup) (h : ∀ a∈l,∀ b∈l,a=b):l.length≤1:=by
 match l,hn,h with
 | [],_,_=>exact Nat.zero_le _
 | [a],_,_=>exact Nat.le_refl _
 | a::b::l,hn,h =>
   rw [List.nodup_cons] at hn
   exact absurd (by rw [h a (by simp) b (by simp)]; simp) hn.1
theorem cnt_le1 {r:Nat→Nat→Bool} : ∀ (k:Nat) (S:List Nat),S.Nodup→(∀ i∈S,∀ j∈S,i≠j→r i j=true∨r j i=true)→cnt r k S≤1
 | 0,_,_,_=>Nat.le_refl _
 | k+1,S,hn,h=>by
   rw [cnt]
   have hf:(Jf r S).length≤1:=len_le1 (List.nodup_iff_pairwise_ne.2 ((List.nodup_iff_pairwise_ne.1 hn).filter _)) fun a ha b hb=>by
    apply Classical.byContradiction
    intro hne
    obtain ⟨a1,a2⟩:=Un.1 ha
    obtain ⟨b1,b2⟩:=Un.1 hb
    rcases h a a1 b b1 hne with g | g
    · rw [b2 a a1] at g; cases g
    · rw [a2 b b1] at g; cases g
   match hF:Jf r S,hf with
   | [],_=>simp
   | [x],_ =>
     have hx:x∈S:=(Un.1 (by rw [hF]; simp:x∈Jf r S)).1
     have:=cnt_le1 k (S.erase x) (hn.erase x) fun i hi j hj=>h i (List.mem_of_mem_erase hi) j (List.mem_of_mem_erase hj)
     simpa using this
   | _::_::_,hf=>simp at hf
theorem free_ex {o:List Int} (h1:1<cn o) : ∃ i j,i<o.length∧j<o.length∧fr o i j=true:=by
 apply Classical.byContradiction
 intro hno
 have:=cnt_le1 (r:=ab o) o.length (List.range o.length) List.nodup_range fun i hi j hj hne=>by
  apply Classical.byContradiction
  intro hc
  refine hno ⟨i,j,List.mem_range.1 hi,List.mem_range.1 hj,?_⟩
  cases g1:ab o i j <;> cases g2:ab o j i <;> simp_all [fr]
 have:cn o≤1:=this
 omega
def evN (L:List (List Nat)) (a b:Nat):Nat→Nat
 | 0=>0
 | k+1=>if bef (L.getD k []) a b=true then evN L a b k ||| 2 ^ k else evN L a b k
theorem evN_lt (L:List (List Nat)) (a b:Nat) : ∀ k,evN L a b k<2 ^ k
 | 0=>by show 0<1; decide
 | k+1=>by
   have h:=evN_lt L a b k
   have h2:2 ^ k<2 ^ (k+1):=Nat.pow_lt_pow_right (by decide) (by omega)
   rw [evN]; split
   · exact Nat.or_lt_two_pow (Nat.lt_trans h h2) h2
   · exact Nat.lt_trans h h2
theorem evN_bit (L:List (List Nat)) (a b i:Nat) : ∀ k,(evN L a b k).testBit i=(decide (i<k)&&bef (L.getD i []) a b)
 | 0=>by simp [evN]
 | k+1=>by
   have h:=evN_bit L a b i k
   rw [evN]
   by_cases hik:i=k
   · subst hik
     cases hb:bef (L.getD i []) a b with
     | true=>rw [if_pos rfl,Nat.testBit_or,Nat.testBit_two_pow]; simp
     | false=>rw [if_neg (by simp),h]; simp
   · have e:decide (i<k+1)=decide (i<k):=by
      by_cases h2:i<k
      · rw [decide_eq_true h2,decide_eq_true (by omega)]
      · rw [decide_eq_false h2,decide_eq_false (by omega)]
     split
     · rw [Nat.testBit_or,h,Nat.testBit_two_pow,decide_eq_false (Ne.symm hik),Bool.or_false,e]
     · rw [h,e]
def pop (N e:Nat):Nat:=((List.range N).filter fun i=>e.testBit i).length
theorem range_getD (L:List (List Nat)):(List.range L.length).map (fun i=>L.getD i [])=L:=by
 apply List.ext_getElem (by simp)
 intro i h1 h2
 simp [List.getD,List.getElem?_eq_getElem h2]
theorem evN_pop (L:List (List Nat)) (a b:Nat):pop L.length (evN L a b L.length)=(L.filter fun l=>bef l a b).length:=by
 have e:(List.range L.length).filter (fun i=>(evN L a b L.length).testBit i)=(List.range L.length).filter fun i=>bef (L.getD i []) a b:=by
  refine List.filter_congr fun i hi=>?_
  rw [evN_bit,decide_eq_true (List.mem_range.1 hi),Bool.true_and]
 rw [pop,e]
 conv=>rhs; rw [← range_getD L]
 rw [List.filter_map,List.length_map]; rfl
def nuF (q N:Nat):Int:=((q / Nat.gcd q N:Nat):Int)
def deF (q N:Nat):Int:=((N / Nat.gcd q N:Nat):Int)
def cenF (q N:Nat):Int:=(12:Int).tdiv (deF q N)*nuF q N
def evenP (N:Nat):List (Int×Int):=List.replicate N (1,(N:Int))
set_option synthInstance.maxHeartbeats 1000000 in
set_option synthInstance.maxSize 100000 in
theorem price_all : ∀ N,N<5→2≤N→∀ e,e<16→e<2 ^ N→deF (pop N e) N≥1∧(12:Int).tmod (deF (pop N e) N)=0∧0≤cenF (pop N e) N∧cenF (pop N e) N≤12∧(12:Int).tdiv (deF (pop N e) N)≤12∧0≤(12:Int).tdiv (deF (pop N e) N)∧nuF (pop N e) N≤12∧deF (pop N e) N≤12∧Zv (Be.inEv (fq (evenP N)) e) N=Rat.divInt (cenF (pop N e) N) 12:=by
 decide +kernel
theorem even_one : ∀ N,N<5→2≤N→Zv (fq (evenP N)) N=1∧Be.chances (N:Int) (evenP N)=true:=by
 decide +kernel
def BOK (N:Nat) (p:Int×Int):Prop:=∃ e:Nat,e<2 ^ N∧p=((e:Int),cenF (pop N e) N)
theorem BOK.ok {N:Nat} {p:Int×Int} (h2:2≤N) (h4:N≤4) (h:BOK N p):Be.okB N p=true:=by
 obtain ⟨e,he,rfl⟩:=h
 have h16:(2:Nat) ^ N≤2 ^ 4:=Nat.pow_le_pow_right (by decide) h4
 obtain ⟨_,_,g1,g2,_⟩:=price_all N (by omega) h2 e (by omega) he
 have he2:(e:Int)<2 ^ N:=by have:((2 ^ N:Nat):Int)=2 ^ N:=by simp
                            omega
 simp only [Be.okB,Bool.and_eq_true,decide_eq_true_eq]
 exact ⟨by omega,he2,g1,g2⟩
theorem valid_of {N:Nat} {l:List (Int×Int)} (h2:2≤N) (h4:N≤4) (h1:1≤l.length) (h6:l.length≤6) (hok : ∀ p∈l,Be.okB N p=true) (hn:(l.map (·.1)).Nodup):Be.validB N l=true:=by
 have:Be.validTo N l l.length=true:=by
  rw [Be.validTo,List.all_eq_true]
  intro i hi
  have hi':=List.mem_range.1 hi
  have hg:l.getD i (0,0)=l[i]:=by rw [List.getD,List.getElem?_eq_getElem hi']; rfl
  rw [Bool.and_eq_true,hg]
  refine ⟨hok _ (List.getElem_mem hi'),?_⟩
  rw [Bool.not_eq_true',List.any_eq_false]
  intro x hx hc
  obtain ⟨j,hj,rfl⟩:=List.mem_iff_getElem.1 hx
  rw [List.length_take] at hj
  rw [List.getElem_take] at hc
  have:=(List.pairwise_iff_getElem.1 (List.nodup_iff_pairwise_ne.1 hn)) j i (by simp; omega) (by simpa using hi') (by omega)
  rw [List.getElem_map,List.getElem_map] at this
  exact this (eq_of_beq hc)
 simp only [Be.validB,Bool.and_eq_true,decide_eq_true_eq,Int.toNat_natCast]
 exact ⟨by omega,by omega,h1,h6,this⟩
theorem agree_of {N:Nat} {l:List (Int×Int)} (h2:2≤N) (h4:N≤4) (hok : ∀ p∈l,BOK N p):Be.agB l (evenP N)=true:=by
 have hlen:(evenP N).length=N:=by simp [evenP]
 rw [Be.agB,Bool.and_eq_true,hlen,List.all_eq_true]
 refine ⟨decide_eq_true (even_one N (by omega) h2).1,fun p hp=>?_⟩
 obtain ⟨e,he,rfl⟩:=hok p hp
 have h16:(2:Nat) ^ N≤2 ^ 4:=Nat.pow_le_pow_right (by decide) h4
 exact decide_eq_true (price_all N (by omega) h2 e (by omega) he).2.2.2.2.2.2.2.2
theorem nodup_set {l:List (Int×Int)} {k:Nat} {c:Int} (hk:k<l.length):((l.set k ((l.getD k (0,0)).1,c)).map (·.1))=l.map (·.1):=by
 apply List.ext_getElem (by simp)
 intro i h1 h2
 rw [List.getElem_map,List.getElem_map]
 by_cases hik:k=i
 · subst hik; simp [List.getD,List.getElem?_eq_getElem hk]
 · rw [List.getElem_set_ne hik]
end Go.Proofs.Tryd.Am.Tl
