/-
  order: an order as the program holds it; the small functions.
  The seat's bits: TrailingZeros64 and TrailingZeros of math/bits, on the model's own worlds.
  order: reading an order: the two functions that say whether there is one.
  Plain theory: the least order with some pairs: built pair by pair, and by rounds.
  order: read.
  order: how many lines there are: by which sets can come first.
  order: copies, Count, add, slice, Add.
  order: slice, Add.
  Plain theory: in how many lines one element stands before another one; heights; fractions; the most even pair.
  order: the reference's Add; how many lines have one element before another one; the most even pair.
-/
import Derived.Test.YtmjpngmoankpkaaDoorPk4
import Derived.Test.YtmjpngmoankpkaaDoorPk6
import Derived.Test.YtmjpngmoankpkaaDoorProg
import Derived.Test.YtmjpngmoankpkaaDoorPk3
import Derived.Shelf.Spec.TrailingZeros
import Derived.Shelf.Abstract
import Derived.TacticsInMore
import Derived.LoopNIn
import Derived.LoopIn
set_option linter.all false
namespace Go.Proofs.Tryd.Am.Or
open Go.Proofs.Tryd.Am
open Go.Am Ord
set_option maxRecDepth 100000
set_option maxHeartbeats 1000000
def sixs (o:List Int):List Int:=o++List.replicate (6-o.length) 0
def We (o:List Int):List Value:=Zx o.length::(sixs o).map Zx
def ordV (o:List Int):Value:=.agg (We o).toArray
theorem sixs_len {o:List Int} (h:o.length≤6):(sixs o).length=6:=by simp [sixs]; omega
theorem Xk {o:List Int} (h:o.length≤6):(We o).length=7:=by simp [We,sixs_len h]
theorem ordC_0 {o:List Int}:(We o)[0]? = some (Zx o.length):=rfl
theorem ordC_get {o:List Int} (h:o.length≤6) {i:Nat} (hi:i<6):(We o)[1+i]? = some (Zx (o.getD i 0)):=by
 rw [We,Nat.add_comm,List.getElem?_cons_succ,List.getElem?_map,sixs,List.getElem?_append]
 by_cases hl:i<o.length
 · simp [hl,List.getD]
 · rw [if_neg hl,List.getElem?_replicate,if_pos (by omega)]
   simp [List.getD,List.getElem?_eq_none (show o.length≤i by omega)]
theorem ordC_set {o:List Int} {i:Nat} (hi:i<o.length) (x:Int):(We o).set (1+i) (Zx x)=We (o.set i x):=by
 rw [We,Nat.add_comm,List.set_cons_succ,We,sixs,sixs,List.length_set,List.map_append,List.set_append_left _ _ (by simpa using hi),List.map_append,List.map_set]
theorem ordC_one (o:List Int):(We o).all one=true:=by
 rw [List.all_eq_true]
 intro x hx
 rcases List.mem_cons.1 hx with rfl | hx
 · rfl
 · obtain ⟨y,-,rfl⟩:=List.mem_map.1 hx; rfl
theorem Low.ordV (o:List Int):Low (ordV o):=.agg fun x hx=>by
 rcases List.mem_cons.1 hx with rfl | hx
 · exact .int _ _
 · obtain ⟨y,-,rfl⟩:=List.mem_map.1 hx; exact .int _ _
section
variable {P:Program} {h:Yb} {t:TypeId} {o o' : List Int} {b n:Nat} {ro:Bool} {e:TypeId}
theorem boxO {K:Value→Yb→Prop} (hs:esz P t=some n):boxK P h t (ordV o) K=K (Xh h) (h++[.cells (We o) t false]):=by
 have e1:cellsOf (ordV o)=We o:=rfl
 simp only [boxK,ordV,hs,Option.isSome_some,true_and]
 rw [show cellsOf (.agg (We o).toArray)=We o from rfl]
theorem loadO {K:Value→Prop} (hb:h[b]? = some (.cells (We o) e ro)) (hs:shp P t=some (some 7)) (hl:o.length≤6):Xu P h t (.pointer (some ⟨b,0,none⟩)) K=K (ordV o) :=
 loadA hb (by rw [hs,Xk hl])
theorem loadN {K:Value→Prop} (hb:h[b]? = some (.cells (We o) e ro)) (hs:shp P t=some none):Xu P h t (.pointer (some ⟨b,0,none⟩)) K=K (Zx o.length):=loadC hb hs ordC_0
theorem loadI {K:Value→Prop} (hb:h[b]? = some (.cells (We o) e ro)) (hs:shp P t=some none) (hl:o.length≤6) {i:Nat} (hi:i<6):Xu P h t (.pointer (some ⟨b,1+i,none⟩)) K=K (Zx (o.getD i 0)):=loadC hb hs (ordC_get hl hi)
theorem storeN {K:Yb→Prop} (hb:h[b]? = some (.cells (We o) e false)) (hs:shp P t=some none) (hl:o.length≤6) {i:Nat} (hi:i<o.length) (x:Int) :
  Xt P h t (.pointer (some ⟨b,1+i,none⟩)) (Zx x) K=K (h.set b (.cells (We (o.set i x)) e false)):=by
 rw [storeC hb hs rfl (by rw [Xk hl]; omega),ordC_set hi]
theorem storeO {K:Yb→Prop} {c:List Value} (hb:h[b]? = some (.cells c e false)) (hc:c.length=7) (hs:shp P t=some (some 7)) (hl:o.length≤6):Xt P h t (.pointer (some ⟨b,0,none⟩)) (ordV o) K=K (h.set b (.cells (We o) e false)) :=
 storeA hb (by rw [hs,Xk hl]) (ordC_one o) (by rw [hc,Xk hl])
end
theorem shl1 {n:Nat} (h:n≤62):shlV .i64 1 n=2 ^ n:=by
 have h2:2 ^ n≤2 ^ 62:=Nat.pow_le_pow_right (by decide) h
 have:=shlV_nat (a:=1) (y:=n) (by omega) (by omega)
 simpa using this
theorem pow_cast (n:Nat):((2 ^ n:Nat):Int)=2 ^ n:=by simp
theorem testO {o:List Int} (h:ord o=true) {i:Nat} (hi:i<o.length) (j:Nat):Vb .and .i64 (shrV .i64 (o.getD i 0) j) 1=if ab o i j then 1 else 0:=by
 have hl:=Xq h
 have:=pow6 hl.2
 obtain ⟨h1,h2⟩:=ord_nat h hi
 rw [h1]
 exact testV (by omega)
theorem beq1 (b:Bool):((if b then (1:Int) else 0)==1)=b:=by cases b <;> rfl
theorem beq0 (b:Bool):((if b then (1:Int) else 0)==0) = !b:=by cases b <;> rfl
theorem all_call [Tabs prog] {h:Yb} {o:List Int} (hl:o.length≤6):APure prog 103 [ordV o] h (Zx ((2 ^ o.length-1:Nat):Int)):=by
 have hp:=pow6 hl
 have hs:subV .i64 (2 ^ o.length) 1=((2 ^ o.length-1:Nat):Int):=by rw [← pow_cast,subV_id (by omega) (by omega)]; omega
 refine ACall.forget (Low.int _ _) ?_
 refine s103_call (by simp) ?_
 simp (maxSteps:=2000000) only [s103,↓Za,↓Zj,↓Zr,↓Ze,↓Zi,↓Zs,↓Zf,↓Zo,↓Zg,↓Zb,↓Zc,↓vdn,vup,Zh,Zn,Zl,Zm,Zk,List.map_cons,List.map_nil,cond_true,cond_false,aop,Zv,Zq,Zp,ev,sput,Zt,Zy,Ya,unK,Zd,Zw,Nat.reduceBEq,Nat.reduceAdd,Int.reduceBEq,Int.reduceBNe,Int.reduceLT,Zu,Zz,tup,tyf,boxO esz_97,fldA fld_97_0 Wc,loadN (Yt _ _) Xc,shl1 (show o.length≤62 by omega),hs]
 exact Ext.app _ _ _
theorem free_call [Tabs prog] {h:Yb} {o:List Int} (ho:ord o=true) {i j:Nat} (hi:i<o.length) (hj:j<o.length):APure prog 109 [ordV o,Zx i,Zx j] h (.bool (fr o i j)):=by
 have hl:=Xq ho
 refine ACall.forget (Low.bool _) ?_
 refine s109_call (by simp) ?_
 simp (maxSteps:=2000000) only [s109,↓Za,↓Zj,↓Zr,↓Ze,↓Zi,↓Zs,↓Zf,↓Zo,↓Zg,↓Zb,↓Zc,↓vdn,vup,Zh,Zn,Zl,Zm,Zk,List.map_cons,List.map_nil,cond_true,cond_false,aop,Zv,Zq,Zp,ev,sput,Zt,Zy,Ya,unK,Zd,Zw,Nat.reduceBEq,Nat.reduceAdd,Int.reduceBEq,Int.reduceBNe,Int.reduceLT,Zu,Zz,tup,tyf,boxO esz_97]
 by_cases hij:i=j
 · have h1:((i:Int) != j)=false:=by simp [hij]
   have h2:fr o i j=false:=by simp [fr,hij]
   simp (maxSteps:=2000000) only [s109,↓Za,↓Zj,↓Zr,↓Ze,↓Zi,↓Zs,↓Zf,↓Zo,↓Zg,↓Zb,↓Zc,↓vdn,vup,Zh,Zn,Zl,Zm,Zk,List.map_cons,List.map_nil,cond_true,cond_false,aop,Zv,Zq,Zp,ev,sput,Zt,Zy,Ya,unK,Zd,Zw,Nat.reduceBEq,Nat.reduceAdd,Int.reduceBEq,Int.reduceBNe,Int.reduceLT,Zu,Zz,tup,tyf,h1,h2]
   exact Ext.app _ _ _
 · have h1:((i:Int) != j)=true:=by simp [bne]; omega
   have h2:fr o i j=(!ab o i j && !ab o j i):=by simp [fr,hij]
   simp (maxSteps:=2000000) only [s109,↓Za,↓Zj,↓Zr,↓Ze,↓Zi,↓Zs,↓Zf,↓Zo,↓Zg,↓Zb,↓Zc,↓vdn,vup,Zh,Zn,Zl,Zm,Zk,List.map_cons,List.map_nil,cond_true,cond_false,aop,Zv,Zq,Zp,ev,sput,Zt,Zy,Ya,unK,Zd,Zw,Nat.reduceBEq,Nat.reduceAdd,Int.reduceBEq,Int.reduceBNe,Int.reduceLT,Zu,Zz,tup,tyf,h1,h2,fldA Ve esz_95,idxA und_95 Wc (show i<6 by omega),loadI (Yt _ _) Xc hl.2 (show i<6 by omega),testO ho hi,beq0]
   cases hb:ab o i j with
   | true =>
     simp (maxSteps:=2000000) only [s109,↓Za,↓Zj,↓Zr,↓Ze,↓Zi,↓Zs,↓Zf,↓Zo,↓Zg,↓Zb,↓Zc,↓vdn,vup,Zh,Zn,Zl,Zm,Zk,List.map_cons,List.map_nil,cond_true,cond_false,aop,Zv,Zq,Zp,ev,sput,Zt,Zy,Ya,unK,Zd,Zw,Nat.reduceBEq,Nat.reduceAdd,Int.reduceBEq,Int.reduceBNe,Int.reduceLT,Zu,Zz,tup,tyf,Bool.false_and]
     exact Ext.app _ _ _
   | false =>
     simp (maxSteps:=2000000) only [s109,↓Za,↓Zj,↓Zr,↓Ze,↓Zi,↓Zs,↓Zf,↓Zo,↓Zg,↓Zb,↓Zc,↓vdn,vup,Zh,Zn,Zl,Zm,Zk,List.map_cons,List.map_nil,cond_true,cond_false,aop,Zv,Zq,Zp,ev,sput,Zt,Zy,Ya,unK,Zd,Zw,Nat.reduceBEq,Nat.reduceAdd,Int.reduceBEq,Int.reduceBNe,Int.reduceLT,Zu,Zz,tup,tyf,Bool.true_and,fldA Ve esz_95,idxA und_95 Wc (show j<6 by omega),loadI (Yt _ _) Xc hl.2 (show j<6 by omega),testO ho hj,beq0]
     exact Ext.app _ _ _
theorem above_call [Tabs prog] {h:Yb} {v:Value} {o:List Int} (hv:IntSl h v o) (ho:ord o=true) {i j:Nat} (hi:i<o.length):APure prog 57 [v,Zx i,Zx j] h (.bool (ab o i j)):=by
 refine s57_call (by simp) ?_
 simp (maxSteps:=2000000) only [s57,↓Za,↓Zj,↓Zr,↓Ze,↓Zi,↓Zs,↓Zf,↓Zo,↓Zg,↓Zb,↓Zc,↓vdn,vup,Zh,Zn,Zl,Zm,Zk,List.map_cons,List.map_nil,cond_true,cond_false,aop,Zv,Zq,Zp,ev,sput,Zt,Zy,Ya,unK,Zd,Zw,Nat.reduceBEq,Nat.reduceAdd,Int.reduceBEq,Int.reduceBNe,Int.reduceLT,Zu,Zz,tup,tyf,hv.idx el_27 Wc hi,hv.load Xc hi,Int.natCast_nonneg,testO ho hi,beq1]
theorem rfree_call [Tabs prog] {h:Yb} {v:Value} {o:List Int} (hv:IntSl h v o) (ho:ord o=true) {i j:Nat} (hi:i<o.length) (hj:j<o.length):APure prog 19 [v,Zx i,Zx j] h (.bool (fr o i j)):=by
 refine s19_call (by simp) ?_
 by_cases hij:i=j
 · have h1:((i:Int) != j)=false:=by simp [hij]
   have h2:fr o i j=false:=by simp [fr,hij]
   simp (maxSteps:=2000000) only [s19,↓Za,↓Zj,↓Zr,↓Ze,↓Zi,↓Zs,↓Zf,↓Zo,↓Zg,↓Zb,↓Zc,↓vdn,vup,Zh,Zn,Zl,Zm,Zk,List.map_cons,List.map_nil,cond_true,cond_false,aop,Zv,Zq,Zp,ev,sput,Zt,Zy,Ya,unK,Zd,Zw,Nat.reduceBEq,Nat.reduceAdd,Int.reduceBEq,Int.reduceBNe,Int.reduceLT,Zu,Zz,tup,tyf,h1,h2]
 · have h1:((i:Int) != j)=true:=by simp [bne]; omega
   have h2:fr o i j=(!ab o i j && !ab o j i):=by simp [fr,hij]
   simp (maxSteps:=2000000) only [s19,↓Za,↓Zj,↓Zr,↓Ze,↓Zi,↓Zs,↓Zf,↓Zo,↓Zg,↓Zb,↓Zc,↓vdn,vup,Zh,Zn,Zl,Zm,Zk,List.map_cons,List.map_nil,cond_true,cond_false,aop,Zv,Zq,Zp,ev,sput,Zt,Zy,Ya,unK,Zd,Zw,Nat.reduceBEq,Nat.reduceAdd,Int.reduceBEq,Int.reduceBNe,Int.reduceLT,Zu,Zz,tup,tyf,h1,h2,Yz,List.nil_append,List.append_nil,List.toList_toArray,List.cons_append]
   refine (above_call hv ho hi).mono ?_
   rintro _ _ ⟨rfl,rfl⟩
   cases hb:ab o i j with
   | true=>simp (maxSteps:=2000000) only [s19,↓Za,↓Zj,↓Zr,↓Ze,↓Zi,↓Zs,↓Zf,↓Zo,↓Zg,↓Zb,↓Zc,↓vdn,vup,Zh,Zn,Zl,Zm,Zk,List.map_cons,List.map_nil,cond_true,cond_false,aop,Zv,Zq,Zp,ev,sput,Zt,Zy,Ya,unK,Zd,Zw,Nat.reduceBEq,Nat.reduceAdd,Int.reduceBEq,Int.reduceBNe,Int.reduceLT,Zu,Zz,tup,tyf,Bool.false_and]
   | false =>
     simp (maxSteps:=2000000) only [s19,↓Za,↓Zj,↓Zr,↓Ze,↓Zi,↓Zs,↓Zf,↓Zo,↓Zg,↓Zb,↓Zc,↓vdn,vup,Zh,Zn,Zl,Zm,Zk,List.map_cons,List.map_nil,cond_true,cond_false,aop,Zv,Zq,Zp,ev,sput,Zt,Zy,Ya,unK,Zd,Zw,Nat.reduceBEq,Nat.reduceAdd,Int.reduceBEq,Int.reduceBNe,Int.reduceLT,Zu,Zz,tup,tyf,Bool.true_and,Yz,List.nil_append,List.append_nil,List.toList_toArray,List.cons_append]
     refine (above_call hv ho hj).mono ?_
     rintro _ _ ⟨rfl,rfl⟩
     simp (maxSteps:=2000000) only [s19,↓Za,↓Zj,↓Zr,↓Ze,↓Zi,↓Zs,↓Zf,↓Zo,↓Zg,↓Zb,↓Zc,↓vdn,vup,Zh,Zn,Zl,Zm,Zk,List.map_cons,List.map_nil,cond_true,cond_false,aop,Zv,Zq,Zp,ev,sput,Zt,Zy,Ya,unK,Zd,Zw,Nat.reduceBEq,Nat.reduceAdd,Int.reduceBEq,Int.reduceBNe,Int.reduceLT,Zu,Zz,tup,tyf]
theorem elements_call [Tabs prog] {h:Yb} {s:Int}:ACall prog 100 [Zx s] h fun r h'=>r = .func (.func 136) #[] #[Xh h]∧h' = h++[.cells [Zx s] 3 false]:=by
 refine s100_call (by simp) ?_
 simp (maxSteps:=2000000) only [s100,↓Za,↓Zj,↓Zr,↓Ze,↓Zi,↓Zs,↓Zf,↓Zo,↓Zg,↓Zb,↓Zc,↓vdn,vup,Zh,Zn,Zl,Zm,Zk,List.map_cons,List.map_nil,cond_true,cond_false,aop,Zv,Zq,Zp,ev,sput,Zt,Zy,Ya,unK,Zd,Zw,Nat.reduceBEq,Nat.reduceAdd,Int.reduceBEq,Int.reduceBNe,Int.reduceLT,Zu,Zz,tup,tyf,boxK,cellsOf,Option.isSome_some,List.map_toArray]
def dnTo (o:List Int) (i:Nat):Nat→Nat
 | 0=>0
 | k+1=>dnTo o i k ||| (if ab o k i then 2 ^ k else 0)
theorem dnTo_all (o:List Int) (i:Nat):dnTo o i o.length=dn o i:=by
 have key : ∀ n,dnTo o i n=(List.range n).foldl (fun s j=>s ||| (if ab o j i then 2 ^ j else 0)) 0:=by
  intro n
  induction n with
  | zero=>rfl
  | succ n ih=>rw [dnTo,ih,List.range_succ,List.foldl_append]; rfl
 exact key _
theorem dnTo_lt (o:List Int) (i:Nat) : ∀ k,dnTo o i k<2 ^ k
 | 0=>by simp [dnTo]
 | k+1=>by
   have:=dnTo_lt o i k
   rw [dnTo]
   refine Nat.or_lt_two_pow (Nat.lt_of_lt_of_le this (Nat.pow_le_pow_right (by decide) (Nat.le_succ k))) ?_
   split
   · exact Nat.pow_lt_pow_right (by decide) (Nat.lt_succ_self k)
   · exact Nat.two_pow_pos _
theorem below_call [Tabs prog] {h:Yb} {o:List Int} (ho:ord o=true) {i:Nat}:APure prog 104 [ordV o,Zx i] h (Zx (dn o i:Nat)):=by
 have hl:=Xq ho
 refine ACall.forget (Low.int _ _) ?_
 refine s104_call (by simp) ?_
 simp (maxSteps:=2000000) only [s104,↓Za,↓Zj,↓Zr,↓Ze,↓Zi,↓Zs,↓Zf,↓Zo,↓Zg,↓Zb,↓Zc,↓vdn,vup,Zh,Zn,Zl,Zm,Zk,List.map_cons,List.map_nil,cond_true,cond_false,aop,Zv,Zq,Zp,ev,sput,Zt,Zy,Ya,unK,Zd,Zw,Nat.reduceBEq,Nat.reduceAdd,Int.reduceBEq,Int.reduceBNe,Int.reduceLT,Zu,Zz,tup,tyf,boxO esz_97,fldA fld_97_0 Wc,loadN (Yt _ _) Xc,↓aw_loop_eq]
 refine Yn fun Q hQ=>?_
 refine aw_loop (γ:=Nat) (fun k=>k≤o.length)
  (fun k=>([(0,ordV o),(1,Zx i),(2,Xh h),(4,.int .i64 0),(5,Zx (dnTo o i k:Nat)),(8,Zx o.length),(9,Zx k)],h++[.cells (We o) 97 false])) (fun k=>o.length-k) 0 (Nat.zero_le _) (by simp (maxSteps:=2000000) only [↓Za,↓Zj,↓Zr,↓Ze,↓Zi,↓Zs,↓Zf,↓Zo,↓Zg,↓Zb,↓Zc,↓vdn,vup,Zh,Zn,Zl,Zm,Zk,List.map_cons,List.map_nil,cond_true,cond_false,aop,Zv,Zq,Zp,ev,sput,Zt,Zy,Ya,unK,Zd,Zw,Nat.reduceBEq,Nat.reduceAdd,Int.reduceBEq,Int.reduceBNe,Int.reduceLT,Zu,Zz,tup,tyf,Int.natCast_zero,dnTo]) rfl ?_
 intro k hk
 refine aw_hide fun Q2 hQ2=>?_
 by_cases hin:(k:Int)<o.length
 · have hin' : k<o.length:=by omega
   have hdl:=dnTo_lt o i k
   have hpk:2 ^ k≤64:=Nat.pow_le_pow_right (n:=2) (j:=6) (by decide) (by omega)
   have hsh:shlV .i64 (if ab o k i=true then (1:Int) else 0) k=((if ab o k i then 2 ^ k else 0:Nat):Int):=by
    split
    · rw [shl1 (by omega),pow_cast]
    · have:=shlV_nat (a:=0) (y:=k) (by omega) (by omega)
      simpa using this
   have hor:Vb .or .i64 ((dnTo o i k:Nat):Int) ((if ab o k i then 2 ^ k else 0:Nat):Int)=((dnTo o i (k+1):Nat):Int):=by
    rw [dnTo]; exact bitsV_or (by omega) (by split <;> omega)
   simp (maxSteps:=2000000) only [s104,↓Za,↓Zj,↓Zr,↓Ze,↓Zi,↓Zs,↓Zf,↓Zo,↓Zg,↓Zb,↓Zc,↓vdn,vup,Zh,Zn,Zl,Zm,Zk,List.map_cons,List.map_nil,cond_true,cond_false,aop,Zv,Zq,Zp,ev,sput,Zt,Zy,Ya,unK,Zd,Zw,Nat.reduceBEq,Nat.reduceAdd,Int.reduceBEq,Int.reduceBNe,Int.reduceLT,Zu,Zz,tup,tyf,l104_0,hin,fldA Ve esz_95,idxA und_95 Wc (show k<6 by omega),loadI (Yt _ _) Xc hl.2 (show k<6 by omega),testO ho hin',hsh,hor,add1 (show k<9223372036854775807 by omega)]
   exact hQ2 _ _ _ ⟨k+1,by omega,by omega,by simp (maxSteps:=2000000) only [↓Za,↓Zj,↓Zr,↓Ze,↓Zi,↓Zs,↓Zf,↓Zo,↓Zg,↓Zb,↓Zc,↓vdn,vup,Zh,Zn,Zl,Zm,Zk,List.map_cons,List.map_nil,cond_true,cond_false,aop,Zv,Zq,Zp,ev,sput,Zt,Zy,Ya,unK,Zd,Zw,Nat.reduceBEq,Nat.reduceAdd,Int.reduceBEq,Int.reduceBNe,Int.reduceLT,Zu,Zz,tup,tyf],rfl⟩
 · obtain rfl:k=o.length:=by omega
   simp (maxSteps:=2000000) only [s104,↓Za,↓Zj,↓Zr,↓Ze,↓Zi,↓Zs,↓Zf,↓Zo,↓Zg,↓Zb,↓Zc,↓vdn,vup,Zh,Zn,Zl,Zm,Zk,List.map_cons,List.map_nil,cond_true,cond_false,aop,Zv,Zq,Zp,ev,sput,Zt,Zy,Ya,unK,Zd,Zw,Nat.reduceBEq,Nat.reduceAdd,Int.reduceBEq,Int.reduceBNe,Int.reduceLT,Zu,Zz,tup,tyf,l104_0,Int.lt_irrefl]
   refine hQ2 _ _ _ (hQ _ _ _ ?_)
   simp (maxSteps:=2000000) only [s104,↓Za,↓Zj,↓Zr,↓Ze,↓Zi,↓Zs,↓Zf,↓Zo,↓Zg,↓Zb,↓Zc,↓vdn,vup,Zh,Zn,Zl,Zm,Zk,List.map_cons,List.map_nil,cond_true,cond_false,aop,Zv,Zq,Zp,ev,sput,Zt,Zy,Ya,unK,Zd,Zw,Nat.reduceBEq,Nat.reduceAdd,Int.reduceBEq,Int.reduceBNe,Int.reduceLT,Zu,Zz,tup,tyf,if_true,dnTo_all]
   exact Ext.app _ _ _
end Go.Proofs.Tryd.Am.Or
namespace Go.Proofs.Tryd.Ob
open Go.Proofs.Tryd
open Go.RowKit Go.Am
set_option maxHeartbeats 1000000 in
theorem tz64_core (x k idx:Nat) (w:World) (hx0:((x:Int)==0)=false)
  (key:IntKind.u64.wrap (bits BinOp.and IntKind.u64 (x:Int) (IntKind.u64.wrap (-(x:Int)))*285870213051353865) / 288230376151711744=(idx:Int))
  (hi:idx<64) (hk:k<64) (hcell:w.cell? ⟨0,idx,none⟩=some (.int .u8 k)) :
  Calls prog 98 #[.int .u64 x] w fun e w'=>e = .returned (.int .i64 k)∧w' = w:=by
 go_enter func98,ntmps98
 go_wp2_with (simp only [key])
 go_ret
 exact ⟨rfl,rfl⟩
theorem tz64_zero (w:World):Calls prog 98 #[.int .u64 0] w fun e w'=>e = .returned (.int .i64 64)∧w' = w:=by
 go_enter func98,ntmps98
 go_wp2
 go_ret
 exact ⟨rfl,rfl⟩
theorem tz64 (x:Nat) (hx:x<18446744073709551616) (w:World) (hT:x≠0→TabAt 0 Lib.deBruijn64tab w) :
  Calls prog 98 #[.int .u64 x] w fun e w'=>e = .returned (.int .i64 (Lib.ctz 64 x))∧w' = w:=by
 by_cases hx0:x=0
 · subst hx0; exact tz64_zero w
 · obtain ⟨hlow,hk⟩:=Lib.lowest_bit 64 x hx0 hx
   obtain ⟨hi,htab⟩:=Lib.deBruijn64_at _ hk
   have hcell:=hT hx0 _ hi
   rw [htab] at hcell
   exact tz64_core x _ _ w (by simp; omega) (tz64_key x _ hx hx0 hlow) hi hk hcell
theorem tz (x:Nat) (hx:x<18446744073709551616) (w:World) (hT:x≠0→TabAt 0 Lib.deBruijn64tab w) :
  Calls prog 137 #[.int .u64 x] w fun e w'=>e = .returned (.int .i64 (Lib.ctz 64 x))∧w' = w:=by
 have c64:=tz64 x hx w hT
 have e29 : ∀ args w,(callFunc 98 args).run prog w = .ok (.enter 98 args) w:=enters_of func98 (by kernel_rfl) rfl
 have hw:IntKind.u64.wrap (x:Int)=(x:Int):=by rw [IntKind.wrap_u64]; omega
 go_enter func137,ntmps137
 go_wp2_with (go_at_fn 98; refine c64.mono ?_; rintro e w' ⟨rfl,hw'⟩; rw [hw'])
 go_ret
 exact ⟨rfl,rfl⟩
theorem and_pred_lt (s:Nat) (h:s≠0):s &&& (s-1)<s:=Nat.lt_of_le_of_lt Nat.and_le_right (by omega)
def boxLeft (B:Nat) (w:World):Nat:=match w.cell? ⟨B,0,none⟩ with | some (.int _ n)=>n.toNat | _=>0
theorem boxLeft_eq {B s:Nat} {w:World} (h:w.cell? ⟨B,0,none⟩=some (.int .i64 s)):boxLeft B w=s:=by simp [boxLeft,h]
attribute [local go_sem] Oper.semAt_some
set_option maxRecDepth 100000 in
set_option maxHeartbeats 2000000 in
theorem elements1 (l B s:Nat) (J Jx:List Nat→World→Prop) (W:World) (hs:s<9223372036854775808) (hB:W.cell? ⟨B,0,none⟩=some (.int .i64 s)) (hfz:W.frozen? ⟨B,0,none⟩=false)
  (hT : ∀ pre W,J pre W→TabAt 0 Lib.deBruijn64tab W)
  (hst : ∀ pre W v,J pre W→J pre (W.setCell ⟨B,0,none⟩ v))
  (hY : ∀ pre (x:Nat) W,J pre W→pre++[x] <+: Am.bits s→YieldAt Fence.wide 0 prog l #[.int .i64 x] W fun en W' =>
   (en = .returned (.bool true)∧J (pre++[x]) W'∧W'.cell? ⟨B,0,none⟩=W.cell? ⟨B,0,none⟩∧W'.frozen? ⟨B,0,none⟩=W.frozen? ⟨B,0,none⟩)∨(en = .returned (.bool false)∧Jx (pre++[x]) W'))
  (h0:J [] W) :
  CallsIn Fence.wide 1 prog 136 #[.func (.yield l) #[] #[],.pointer (some ⟨B,0,none⟩)] W fun en W'=>(∃ v,en = .returned v)∧(J (Am.bits s) W'∨∃ pre,Jx pre W'):=by
 refine callsIn_of_wp func136 rfl trivial ?_ rfl
 simp only [ntmps136,List.size_toArray,List.length_cons,List.length_nil,Nat.reduceAdd,Nat.reduceSub,Array.replicate_succ,Array.replicate_zero,List.push_toArray,List.append_toArray,List.nil_append,List.cons_append]
 have e115 : ∀ args w,(callFunc 137 args).run prog w = .ok (.enter 137 args) w:=enters_of func137 (by kernel_rfl) rfl
 gi_wp2
 gi_loopw [3] (fun _ wr=>∃ (pre:List Nat) (t:Nat),t<9223372036854775808∧Am.bits s=pre++Am.bits t∧wr.cell? ⟨B,0,none⟩=some (.int .i64 t)∧wr.frozen? ⟨B,0,none⟩=false∧J pre wr)
  (fun _ wr=>boxLeft B wr)
 case atStart=>exact ⟨[],s,hs,rfl,hB,hfz,h0⟩
 case round =>
  obtain ⟨pre,t,ht,hx,hc,hf,hJ⟩:=hrel
  by_cases ht0:t=0
  · subst ht0
    gi_wp2
    go_end0
    exact ⟨⟨_,rfl⟩,.inl (by rw [hx,show Am.bits 0=[] from rfl,List.append_nil]; exact hJ)⟩
  · have hw:IntKind.u64.wrap (t:Int)=(t:Int):=by rw [IntKind.wrap_u64]; omega
    have htz:=tz t (by omega) wr (fun _=>hT _ _ hJ)
    have hy:=hY pre (Lib.ctz 64 t) wr hJ (by rw [hx,Am.bits_step t ht ht0]; simp)
    have hne:((t:Int)==0)=false:=by simpa using ht0
    have htz' : CallsIn Fence.wide 0 prog 137 #[.int .u64 t] wr fun e w'=>e = .returned (.int .i64 (Lib.ctz 64 t))∧w' = wr:=callsIn_wide.2 htz
    obtain ⟨fn,tmps,assign,body,hy1,hR⟩:=hy
    gi_wp2
    refine ⟨trivial,htz'.mono ?_⟩
    rintro e w2 ⟨rfl,rfl⟩
    gi_wp2
    refine hR.mono ?_
    rintro e W3 (⟨rfl,hJ3,hc3,hf3⟩ | ⟨rfl,hJx3⟩)
    · rw [hc] at hc3
      rw [hf] at hf3
      gi_wp2
      have hand:bits BinOp.and IntKind.i64 (t:Int) ((t:Int)-1)=((t &&& (t-1):Nat):Int):=by
       have:=bitsV_and (a:=t) (b:=t-1) ht (by omega)
       rw [← this,show ((t-1:Nat):Int)=(t:Int)-1 by omega]; rfl
      have hlt:=and_pred_lt t ht0
      rw [hand]
      have hcell:(W3.setCell ⟨B,0,none⟩ (.int .i64 ((t &&& (t-1):Nat):Int))).cell? ⟨B,0,none⟩=some (.int .i64 ((t &&& (t-1):Nat):Int)):=World.cell?_setCell_same' _ _ _ (by rw [hc3]; rfl)
      refine ⟨⟨_,_,_,_,_,_,_,_,_,_,_,_,⟨pre++[Lib.ctz 64 t],t &&& (t-1),by omega,by rw [hx,Am.bits_step t ht ht0]; simp,hcell,by rw [World.frozen?_setCell]; exact hf3,hst _ _ _ hJ3⟩,rfl⟩,?_⟩
      rw [boxLeft_eq hcell,boxLeft_eq hc]
      exact hlt
    · gi_wp2
      refine bodyPost_ret (results_none rfl _ _ _) rfl ?_
      exact ⟨⟨_,rfl⟩,.inr ⟨_,hJx3⟩⟩
theorem tabAt_of [T:BitTab prog 0] {w:World} (h : ∀ p∈Tabs.tabs prog,w.heap[p.1]? = some p.2):TabAt 0 Lib.deBruijn64tab w:=by
 intro j hj
 have:=h (0,_) (by rw [T.eq]; exact List.mem_singleton.2 rfl)
 simp only [World.cell?,this]
 simp [hj]
theorem bitIter [BitTab prog 0]:BitIter prog 136:=by
 refine ⟨enters_of func136 (by kernel_rfl) rfl,?_⟩
 intro r l B s J Jx W hs hB hfz hT hst hY h0
 cases r with
 | none=>exact elements1 l B s J Jx W hs hB hfz (fun pre W hJ=>tabAt_of (hT pre W hJ)) hst hY h0
 | some l0=>exact CallsIn.inRound l0 (elements1 l B s J Jx W hs hB hfz (fun pre W hJ=>tabAt_of (hT pre W hJ)) hst hY h0)
#print axioms bitIter
end Go.Proofs.Tryd.Ob
namespace Go.Proofs.Tryd.Am.Or
open Go.Proofs.Tryd.Am
open Go.Am Ord
set_option maxRecDepth 100000
set_option maxHeartbeats 1000000
theorem testA {o:List Int} {i:Nat} (h0:0≤o.getD i 0) (h1:o.getD i 0<9223372036854775808) (j:Nat):Vb .and .i64 (shrV .i64 (o.getD i 0) j) 1=if ab o i j then 1 else 0:=by
 have:=testV (a:=bt o i) (y:=j) (by unfold bt; omega)
 rw [show ((bt o i:Nat):Int)=o.getD i 0 from Int.toNat_of_nonneg h0] at this
 exact this
theorem pow6I {n:Nat} (h:n≤6):(2:Int) ^ n≤64∧0<(2:Int) ^ n:=by
 have:=pow6 h
 rw [← pow_cast]; omega
theorem rorder_call [Tabs prog] {h:Yb} {v:Value} {o:List Int} (hv:IntSl h v o) (hl:o.length<9223372036854775808) (hx : ∀ x∈o,-9223372036854775808≤x∧x<9223372036854775808):APure prog 16 [v] h (.bool (ord o)):=by
 refine s16_call (by simp) ?_
 simp (maxSteps:=2000000) only [s16,↓Za,↓Zj,↓Zr,↓Ze,↓Zi,↓Zs,↓Zf,↓Zo,↓Zg,↓Zb,↓Zc,↓vdn,vup,Zh,Zn,Zl,Zm,Zk,List.map_cons,List.map_nil,cond_true,cond_false,aop,Zv,Zq,Zp,ev,sput,Zt,Zy,Ya,unK,Zd,Zw,Nat.reduceBEq,Nat.reduceAdd,Int.reduceBEq,Int.reduceBNe,Int.reduceLT,Zu,Zz,tup,tyf,hv.len]
 by_cases h1:(o.length:Int)<1
 · have ht:ord o=false:=by simp [ord]; omega
   simp (maxSteps:=2000000) only [s16,↓Za,↓Zj,↓Zr,↓Ze,↓Zi,↓Zs,↓Zf,↓Zo,↓Zg,↓Zb,↓Zc,↓vdn,vup,Zh,Zn,Zl,Zm,Zk,List.map_cons,List.map_nil,cond_true,cond_false,aop,Zv,Zq,Zp,ev,sput,Zt,Zy,Ya,unK,Zd,Zw,Nat.reduceBEq,Nat.reduceAdd,Int.reduceBEq,Int.reduceBNe,Int.reduceLT,Zu,Zz,tup,tyf,h1,ht]
 by_cases h8:(6:Int)<o.length
 · have ht:ord o=false:=by simp [ord]; omega
   simp (maxSteps:=2000000) only [s16,↓Za,↓Zj,↓Zr,↓Ze,↓Zi,↓Zs,↓Zf,↓Zo,↓Zg,↓Zb,↓Zc,↓vdn,vup,Zh,Zn,Zl,Zm,Zk,List.map_cons,List.map_nil,cond_true,cond_false,aop,Zv,Zq,Zp,ev,sput,Zt,Zy,Ya,unK,Zd,Zw,Nat.reduceBEq,Nat.reduceAdd,Int.reduceBEq,Int.reduceBNe,Int.reduceLT,Zu,Zz,tup,tyf,h1,hv.len,gt_iff_lt,h8,ht]
 have hp:=pow6I (n:=o.length) (by omega)
 simp (maxSteps:=2000000) only [s16,↓Za,↓Zj,↓Zr,↓Ze,↓Zi,↓Zs,↓Zf,↓Zo,↓Zg,↓Zb,↓Zc,↓vdn,vup,Zh,Zn,Zl,Zm,Zk,List.map_cons,List.map_nil,cond_true,cond_false,aop,Zv,Zq,Zp,ev,sput,Zt,Zy,Ya,unK,Zd,Zw,Nat.reduceBEq,Nat.reduceAdd,Int.reduceBEq,Int.reduceBNe,Int.reduceLT,Zu,Zz,tup,tyf,h1,gt_iff_lt,h8,hv.len,↓aw_loop_eq]
 refine Yn fun Q hQ=>?_
 refine aw_loop (γ:=Nat) (fun i=>i≤o.length∧∀ k,k<i→okO o k=true)
  (fun i=>([(0,v),(2,.bool false),(14,v),(15,Zx o.length),(16,Zx i)],h)) (fun i=>o.length-i) 0 ⟨by omega,fun _ hk=>by omega⟩ (by simp (maxSteps:=2000000) only [↓Za,↓Zj,↓Zr,↓Ze,↓Zi,↓Zs,↓Zf,↓Zo,↓Zg,↓Zb,↓Zc,↓vdn,vup,Zh,Zn,Zl,Zm,Zk,List.map_cons,List.map_nil,cond_true,cond_false,aop,Zv,Zq,Zp,ev,sput,Zt,Zy,Ya,unK,Zd,Zw,Nat.reduceBEq,Nat.reduceAdd,Int.reduceBEq,Int.reduceBNe,Int.reduceLT,Zu,Zz,tup,tyf,Int.natCast_zero]) rfl ?_
 rintro i ⟨hi,hok⟩
 refine aw_hide fun Q2 hQ2=>?_
 by_cases hin:(i:Int)<o.length
 · have hin' : i<o.length:=by omega
   have hbad:okO o i=false→ord o=false:=fun hb=>by
    have:(List.range o.length).all (okO o)=false:=by
     rw [List.all_eq_false]; exact ⟨i,by simpa using hin',by simp [hb]⟩
    simp [ord,this]
   obtain ⟨hx1,hx2⟩:=hx (o.getD i 0) (by rw [List.getD,List.getElem?_eq_getElem hin']; exact List.getElem_mem hin')
   simp (maxSteps:=2000000) only [s16,↓Za,↓Zj,↓Zr,↓Ze,↓Zi,↓Zs,↓Zf,↓Zo,↓Zg,↓Zb,↓Zc,↓vdn,vup,Zh,Zn,Zl,Zm,Zk,List.map_cons,List.map_nil,cond_true,cond_false,aop,Zv,Zq,Zp,ev,sput,Zt,Zy,Ya,unK,Zd,Zw,Nat.reduceBEq,Nat.reduceAdd,Int.reduceBEq,Int.reduceBNe,Int.reduceLT,Zu,Zz,tup,tyf,l16_1,hin,hv.idx el_27 Wc hin',hv.load Xc hin']
   by_cases hneg:o.getD i 0<0
   · have hb:=hbad (by rw [okO,decide_eq_false (show ¬ 0≤o.getD i 0 by omega)]; rfl)
     simp (maxSteps:=2000000) only [s16,↓Za,↓Zj,↓Zr,↓Ze,↓Zi,↓Zs,↓Zf,↓Zo,↓Zg,↓Zb,↓Zc,↓vdn,vup,Zh,Zn,Zl,Zm,Zk,List.map_cons,List.map_nil,cond_true,cond_false,aop,Zv,Zq,Zp,ev,sput,Zt,Zy,Ya,unK,Zd,Zw,Nat.reduceBEq,Nat.reduceAdd,Int.reduceBEq,Int.reduceBNe,Int.reduceLT,Zu,Zz,tup,tyf,hneg]
     refine hQ2 _ _ _ (hQ _ _ _ ?_)
     simp (maxSteps:=2000000) only [↓Za,↓Zj,↓Zr,↓Ze,↓Zi,↓Zs,↓Zf,↓Zo,↓Zg,↓Zb,↓Zc,↓vdn,vup,Zh,Zn,Zl,Zm,Zk,List.map_cons,List.map_nil,cond_true,cond_false,aop,Zv,Zq,Zp,ev,sput,Zt,Zy,Ya,unK,Zd,Zw,Nat.reduceBEq,Nat.reduceAdd,Int.reduceBEq,Int.reduceBNe,Int.reduceLT,Zu,Zz,tup,tyf,hb]
   simp (maxSteps:=2000000) only [s16,↓Za,↓Zj,↓Zr,↓Ze,↓Zi,↓Zs,↓Zf,↓Zo,↓Zg,↓Zb,↓Zc,↓vdn,vup,Zh,Zn,Zl,Zm,Zk,List.map_cons,List.map_nil,cond_true,cond_false,aop,Zv,Zq,Zp,ev,sput,Zt,Zy,Ya,unK,Zd,Zw,Nat.reduceBEq,Nat.reduceAdd,Int.reduceBEq,Int.reduceBNe,Int.reduceLT,Zu,Zz,tup,tyf,hneg,hv.len,shl1 (show o.length≤62 by omega),Int.natCast_nonneg,ge_iff_le]
   by_cases hbig:2 ^ o.length≤o.getD i 0
   · have hb:=hbad (by rw [okO,decide_eq_false (show ¬ o.getD i 0<2 ^ o.length from Int.not_lt.2 hbig),Bool.and_false]; rfl)
     simp (maxSteps:=2000000) only [s16,↓Za,↓Zj,↓Zr,↓Ze,↓Zi,↓Zs,↓Zf,↓Zo,↓Zg,↓Zb,↓Zc,↓vdn,vup,Zh,Zn,Zl,Zm,Zk,List.map_cons,List.map_nil,cond_true,cond_false,aop,Zv,Zq,Zp,ev,sput,Zt,Zy,Ya,unK,Zd,Zw,Nat.reduceBEq,Nat.reduceAdd,Int.reduceBEq,Int.reduceBNe,Int.reduceLT,Zu,Zz,tup,tyf,hbig]
     refine hQ2 _ _ _ (hQ _ _ _ ?_)
     simp (maxSteps:=2000000) only [↓Za,↓Zj,↓Zr,↓Ze,↓Zi,↓Zs,↓Zf,↓Zo,↓Zg,↓Zb,↓Zc,↓vdn,vup,Zh,Zn,Zl,Zm,Zk,List.map_cons,List.map_nil,cond_true,cond_false,aop,Zv,Zq,Zp,ev,sput,Zt,Zy,Ya,unK,Zd,Zw,Nat.reduceBEq,Nat.reduceAdd,Int.reduceBEq,Int.reduceBNe,Int.reduceLT,Zu,Zz,tup,tyf,hb]
   have hs0:0≤o.getD i 0:=by omega
   have hs1:o.getD i 0<9223372036854775808:=by omega
   by_cases hbit:ab o i i=true
   · have hb:=hbad (by rw [okO,hbit,Bool.not_true,Bool.and_false]; rfl)
     simp (maxSteps:=2000000) only [s16,↓Za,↓Zj,↓Zr,↓Ze,↓Zi,↓Zs,↓Zf,↓Zo,↓Zg,↓Zb,↓Zc,↓vdn,vup,Zh,Zn,Zl,Zm,Zk,List.map_cons,List.map_nil,cond_true,cond_false,aop,Zv,Zq,Zp,ev,sput,Zt,Zy,Ya,unK,Zd,Zw,Nat.reduceBEq,Nat.reduceAdd,Int.reduceBEq,Int.reduceBNe,Int.reduceLT,Zu,Zz,tup,tyf,hbig,Int.natCast_nonneg,testA hs0 hs1,hbit,if_true,Int.reduceBEq]
     refine hQ2 _ _ _ (hQ _ _ _ ?_)
     simp (maxSteps:=2000000) only [↓Za,↓Zj,↓Zr,↓Ze,↓Zi,↓Zs,↓Zf,↓Zo,↓Zg,↓Zb,↓Zc,↓vdn,vup,Zh,Zn,Zl,Zm,Zk,List.map_cons,List.map_nil,cond_true,cond_false,aop,Zv,Zq,Zp,ev,sput,Zt,Zy,Ya,unK,Zd,Zw,Nat.reduceBEq,Nat.reduceAdd,Int.reduceBEq,Int.reduceBNe,Int.reduceLT,Zu,Zz,tup,tyf,hb]
   simp only [Bool.not_eq_true] at hbit
   simp (maxSteps:=2000000) only [s16,↓Za,↓Zj,↓Zr,↓Ze,↓Zi,↓Zs,↓Zf,↓Zo,↓Zg,↓Zb,↓Zc,↓vdn,vup,Zh,Zn,Zl,Zm,Zk,List.map_cons,List.map_nil,cond_true,cond_false,aop,Zv,Zq,Zp,ev,sput,Zt,Zy,Ya,unK,Zd,Zw,Nat.reduceBEq,Nat.reduceAdd,Int.reduceBEq,Int.reduceBNe,Int.reduceLT,Zu,Zz,tup,tyf,hbig,Int.natCast_nonneg,testA hs0 hs1,hbit,if_false,Bool.false_eq_true,Int.reduceBEq,hv.len,↓aw_loop_eq]
   refine Yn fun Q3 hQ3=>?_
   refine aw_loop (γ:=Nat) (fun j=>j≤o.length∧∀ k,k<j→(!ab o i k || (Vb .andNot .i64 (o.getD k 0) (o.getD i 0)==0))=true)
    (fun j=>([(0,v),(2,.bool false),(3,Zx i),(4,Zx (o.getD i 0)),(14,v),(15,Zx o.length),(16,Zx i),(38,Zx o.length),(39,Zx j)],h)) (fun j=>o.length-j) 0 ⟨by omega,fun _ hk=>by omega⟩ (by simp (maxSteps:=2000000) only [↓Za,↓Zj,↓Zr,↓Ze,↓Zi,↓Zs,↓Zf,↓Zo,↓Zg,↓Zb,↓Zc,↓vdn,vup,Zh,Zn,Zl,Zm,Zk,List.map_cons,List.map_nil,cond_true,cond_false,aop,Zv,Zq,Zp,ev,sput,Zt,Zy,Ya,unK,Zd,Zw,Nat.reduceBEq,Nat.reduceAdd,Int.reduceBEq,Int.reduceBNe,Int.reduceLT,Zu,Zz,tup,tyf,Int.natCast_zero]) rfl ?_
   rintro j ⟨hj,hokj⟩
   refine aw_hide fun Q4 hQ4=>?_
   by_cases hjn:(j:Int)<o.length
   · have hjn' : j<o.length:=by omega
     cases hbj:ab o i j with
     | false =>
       simp (maxSteps:=2000000) only [s16,↓Za,↓Zj,↓Zr,↓Ze,↓Zi,↓Zs,↓Zf,↓Zo,↓Zg,↓Zb,↓Zc,↓vdn,vup,Zh,Zn,Zl,Zm,Zk,List.map_cons,List.map_nil,cond_true,cond_false,aop,Zv,Zq,Zp,ev,sput,Zt,Zy,Ya,unK,Zd,Zw,Nat.reduceBEq,Nat.reduceAdd,Int.reduceBEq,Int.reduceBNe,Int.reduceLT,Zu,Zz,tup,tyf,l16_0,hjn,Int.natCast_nonneg,testA hs0 hs1,hbj,if_false,Bool.false_eq_true,Int.reduceBEq,add1 (show j<9223372036854775807 by omega)]
       refine hQ4 _ _ _ ⟨j+1,⟨by omega,fun k hk=>?_⟩,by omega,by simp (maxSteps:=2000000) only [↓Za,↓Zj,↓Zr,↓Ze,↓Zi,↓Zs,↓Zf,↓Zo,↓Zg,↓Zb,↓Zc,↓vdn,vup,Zh,Zn,Zl,Zm,Zk,List.map_cons,List.map_nil,cond_true,cond_false,aop,Zv,Zq,Zp,ev,sput,Zt,Zy,Ya,unK,Zd,Zw,Nat.reduceBEq,Nat.reduceAdd,Int.reduceBEq,Int.reduceBNe,Int.reduceLT,Zu,Zz,tup,tyf],rfl⟩
       by_cases hkj:k=j
       · subst hkj; rw [hbj]; rfl
       · exact hokj k (by omega)
     | true =>
       cases hlz:(Vb .andNot .i64 (o.getD j 0) (o.getD i 0)==0) with
       | true =>
         have hlz' : (Vb .andNot .i64 (o.getD j 0) (o.getD i 0) != 0)=false:=by rw [bne,hlz]; rfl
         simp (maxSteps:=2000000) only [s16,↓Za,↓Zj,↓Zr,↓Ze,↓Zi,↓Zs,↓Zf,↓Zo,↓Zg,↓Zb,↓Zc,↓vdn,vup,Zh,Zn,Zl,Zm,Zk,List.map_cons,List.map_nil,cond_true,cond_false,aop,Zv,Zq,Zp,ev,sput,Zt,Zy,Ya,unK,Zd,Zw,Nat.reduceBEq,Nat.reduceAdd,Int.reduceBEq,Int.reduceBNe,Int.reduceLT,Zu,Zz,tup,tyf,l16_0,hjn,Int.natCast_nonneg,testA hs0 hs1,hbj,if_true,Int.reduceBEq,hv.idx el_27 Wc hjn',hv.load Xc hjn',hlz',add1 (show j<9223372036854775807 by omega)]
         refine hQ4 _ _ _ ⟨j+1,⟨by omega,fun k hk=>?_⟩,by omega,by simp (maxSteps:=2000000) only [↓Za,↓Zj,↓Zr,↓Ze,↓Zi,↓Zs,↓Zf,↓Zo,↓Zg,↓Zb,↓Zc,↓vdn,vup,Zh,Zn,Zl,Zm,Zk,List.map_cons,List.map_nil,cond_true,cond_false,aop,Zv,Zq,Zp,ev,sput,Zt,Zy,Ya,unK,Zd,Zw,Nat.reduceBEq,Nat.reduceAdd,Int.reduceBEq,Int.reduceBNe,Int.reduceLT,Zu,Zz,tup,tyf],rfl⟩
         by_cases hkj:k=j
         · subst hkj; rw [hlz,Bool.or_true]
         · exact hokj k (by omega)
       | false =>
         have hlz' : (Vb .andNot .i64 (o.getD j 0) (o.getD i 0) != 0)=true:=by rw [bne,hlz]; rfl
         have hb:=hbad (by
          have:((List.range o.length).all fun j=>!ab o i j || (Vb .andNot .i64 (o.getD j 0) (o.getD i 0)==0))=false:=by
           rw [List.all_eq_false]; exact ⟨j,List.mem_range.2 hjn',by rw [hbj,hlz]; decide⟩
          rw [okO,this,Bool.and_false])
         simp (maxSteps:=2000000) only [s16,↓Za,↓Zj,↓Zr,↓Ze,↓Zi,↓Zs,↓Zf,↓Zo,↓Zg,↓Zb,↓Zc,↓vdn,vup,Zh,Zn,Zl,Zm,Zk,List.map_cons,List.map_nil,cond_true,cond_false,aop,Zv,Zq,Zp,ev,sput,Zt,Zy,Ya,unK,Zd,Zw,Nat.reduceBEq,Nat.reduceAdd,Int.reduceBEq,Int.reduceBNe,Int.reduceLT,Zu,Zz,tup,tyf,l16_0,hjn,Int.natCast_nonneg,testA hs0 hs1,hbj,if_true,Int.reduceBEq,hv.idx el_27 Wc hjn',hv.load Xc hjn',hlz']
         refine hQ4 _ _ _ (hQ3 _ _ _ ?_)
         simp (maxSteps:=2000000) only [s16,↓Za,↓Zj,↓Zr,↓Ze,↓Zi,↓Zs,↓Zf,↓Zo,↓Zg,↓Zb,↓Zc,↓vdn,vup,Zh,Zn,Zl,Zm,Zk,List.map_cons,List.map_nil,cond_true,cond_false,aop,Zv,Zq,Zp,ev,sput,Zt,Zy,Ya,unK,Zd,Zw,Nat.reduceBEq,Nat.reduceAdd,Int.reduceBEq,Int.reduceBNe,Int.reduceLT,Zu,Zz,tup,tyf]
         refine hQ2 _ _ _ (hQ _ _ _ ?_)
         simp (maxSteps:=2000000) only [↓Za,↓Zj,↓Zr,↓Ze,↓Zi,↓Zs,↓Zf,↓Zo,↓Zg,↓Zb,↓Zc,↓vdn,vup,Zh,Zn,Zl,Zm,Zk,List.map_cons,List.map_nil,cond_true,cond_false,aop,Zv,Zq,Zp,ev,sput,Zt,Zy,Ya,unK,Zd,Zw,Nat.reduceBEq,Nat.reduceAdd,Int.reduceBEq,Int.reduceBNe,Int.reduceLT,Zu,Zz,tup,tyf,hb]
   · obtain rfl:j=o.length:=by omega
     simp (maxSteps:=2000000) only [s16,↓Za,↓Zj,↓Zr,↓Ze,↓Zi,↓Zs,↓Zf,↓Zo,↓Zg,↓Zb,↓Zc,↓vdn,vup,Zh,Zn,Zl,Zm,Zk,List.map_cons,List.map_nil,cond_true,cond_false,aop,Zv,Zq,Zp,ev,sput,Zt,Zy,Ya,unK,Zd,Zw,Nat.reduceBEq,Nat.reduceAdd,Int.reduceBEq,Int.reduceBNe,Int.reduceLT,Zu,Zz,tup,tyf,l16_0,Int.lt_irrefl]
     refine hQ4 _ _ _ (hQ3 _ _ _ ?_)
     simp (maxSteps:=2000000) only [s16,↓Za,↓Zj,↓Zr,↓Ze,↓Zi,↓Zs,↓Zf,↓Zo,↓Zg,↓Zb,↓Zc,↓vdn,vup,Zh,Zn,Zl,Zm,Zk,List.map_cons,List.map_nil,cond_true,cond_false,aop,Zv,Zq,Zp,ev,sput,Zt,Zy,Ya,unK,Zd,Zw,Nat.reduceBEq,Nat.reduceAdd,Int.reduceBEq,Int.reduceBNe,Int.reduceLT,Zu,Zz,tup,tyf,if_true,add1 (show i<9223372036854775807 by omega)]
     refine hQ2 _ _ _ ⟨i+1,⟨by omega,fun k hk=>?_⟩,by omega,by simp (maxSteps:=2000000) only [↓Za,↓Zj,↓Zr,↓Ze,↓Zi,↓Zs,↓Zf,↓Zo,↓Zg,↓Zb,↓Zc,↓vdn,vup,Zh,Zn,Zl,Zm,Zk,List.map_cons,List.map_nil,cond_true,cond_false,aop,Zv,Zq,Zp,ev,sput,Zt,Zy,Ya,unK,Zd,Zw,Nat.reduceBEq,Nat.reduceAdd,Int.reduceBEq,Int.reduceBNe,Int.reduceLT,Zu,Zz,tup,tyf],rfl⟩
     by_cases hkj:k=i
     · subst hkj
       have:((List.range o.length).all fun j=>!ab o k j || (Vb .andNot .i64 (o.getD j 0) (o.getD k 0)==0))=true:=by
        rw [List.all_eq_true]; exact fun j hj=>hokj j (List.mem_range.1 hj)
       rw [okO,decide_eq_true hs0,decide_eq_true (Int.not_le.1 hbig),hbit,this]; rfl
     · exact hok k (by omega)
 · obtain rfl:i=o.length:=by omega
   have ht:ord o=true:=by simp only [ord,Bool.and_eq_true,decide_eq_true_eq,List.all_eq_true,List.mem_range]; exact ⟨⟨by omega,by omega⟩,hok⟩
   simp (maxSteps:=2000000) only [s16,↓Za,↓Zj,↓Zr,↓Ze,↓Zi,↓Zs,↓Zf,↓Zo,↓Zg,↓Zb,↓Zc,↓vdn,vup,Zh,Zn,Zl,Zm,Zk,List.map_cons,List.map_nil,cond_true,cond_false,aop,Zv,Zq,Zp,ev,sput,Zt,Zy,Ya,unK,Zd,Zw,Nat.reduceBEq,Nat.reduceAdd,Int.reduceBEq,Int.reduceBNe,Int.reduceLT,Zu,Zz,tup,tyf,l16_1,Int.lt_irrefl]
   refine hQ2 _ _ _ (hQ _ _ _ ?_)
   simp (maxSteps:=2000000) only [s16,↓Za,↓Zj,↓Zr,↓Ze,↓Zi,↓Zs,↓Zf,↓Zo,↓Zg,↓Zb,↓Zc,↓vdn,vup,Zh,Zn,Zl,Zm,Zk,List.map_cons,List.map_nil,cond_true,cond_false,aop,Zv,Zq,Zp,ev,sput,Zt,Zy,Ya,unK,Zd,Zw,Nat.reduceBEq,Nat.reduceAdd,Int.reduceBEq,Int.reduceBNe,Int.reduceLT,Zu,Zz,tup,tyf,if_true,ht]
end Go.Proofs.Tryd.Am.Or
namespace Ord
open Go.Am
inductive Reach (l:List (Nat×Nat)):Nat→Nat→Prop
 | one {a b:Nat} (h:(a,b)∈l):Reach l a b
 | tr {a b c:Nat} (h1:Reach l a b) (h2:Reach l b c):Reach l a c
theorem Reach.mono {l l' : List (Nat×Nat)} (h : ∀ p∈l,p∈l') {a b:Nat} (hr:Reach l a b):Reach l' a b:=by
 induction hr with
 | one h1=>exact .one (h _ h1)
 | tr _ _ i1 i2=>exact .tr i1 i2
def Path (l:List (Nat×Nat)):Nat→Nat→Nat→Prop
 | 0,_,_=>False
 | 1,a,b=>(a,b)∈l
 | m+2,a,b=>∃ c,(a,c)∈l∧Path l (m+1) c b
theorem Path.mono {l l' : List (Nat×Nat)} (h : ∀ p∈l,p∈l') : ∀ {m a b},Path l m a b→Path l' m a b
 | 0,_,_,hp=>hp.elim
 | 1,_,_,hp=>h _ hp
 | m+2,_,_,⟨c,h1,h2⟩=>⟨c,h _ h1,h2.mono h⟩
def Sets (n:Nat) (o:List Int):Prop:=o.length=n∧∀ i,i<n→o.getD i 0=(bt o i:Int)∧bt o i<2 ^ n
theorem Sets.ext {n:Nat} {o o' : List Int} (h:Sets n o) (h' : Sets n o') (he : ∀ i j,ab o i j=ab o' i j):o=o':=by
 refine List.ext_getElem (h.1.trans h'.1.symm) fun i h1 h2=>?_
 have e1:o[i]=o.getD i 0:=by simp [List.getD,h1]
 have e2:o'[i]=o'.getD i 0:=by simp [List.getD,h2]
 rw [e1,e2,(h.2 i (h.1▸h1)).1,(h'.2 i (h'.1▸h2)).1]
 congr 1
 exact Nat.eq_of_testBit_eq fun j=>he i j
theorem Sets.ord {n:Nat} {o:List Int} (h:Sets n o) (hn:1≤n∧n≤6) (hp:Po (ab o)):Ord.ord o=true :=
 ord_of (by rw [h.1]; exact hn) (fun i hi=>⟨_,(h.2 i (by rw [← h.1]; exact hi)).1,by rw [h.1]; exact (h.2 i (by rw [← h.1]; exact hi)).2⟩) hp
structure Good (n:Nat) (l:List (Nat×Nat)) (o o' : List Int):Prop where
 sets:Sets n o'
 mono : ∀ a b,ab o a b=true→ab o' a b=true
 sound:(∀ a b,ab o a b=true→Reach l a b)→∀ a b,ab o' a b=true→Reach l a b
theorem Good.refl {n:Nat} {l:List (Nat×Nat)} {o:List Int} (h:Sets n o):Good n l o o:=⟨h,fun _ _ h=>h,fun h=>h⟩
theorem Good.trans {n:Nat} {l:List (Nat×Nat)} {o o' o'' : List Int} (h1:Good n l o o') (h2:Good n l o' o''):Good n l o o'' :=
 ⟨h2.sets,fun a b h=>h2.mono a b (h1.mono a b h),fun h=>h2.sound (h1.sound h)⟩
end Ord
namespace Go.Proofs.Tryd.Am.Or
open Go.Proofs.Tryd.Am
open Go.Am Ord
set_option maxRecDepth 100000
set_option maxHeartbeats 1000000
theorem IntSl_ext {h h' : Yb} {v:Value} {xs:List Int} (hv:IntSl h v xs) (he:Ext (fun _=>False) h h'):IntSl h' v xs:=hv.same fun b hb=>he.2 b (hv.lt hb) id
def ordN (n:Int):List Value:=[Zx n,.int .i64 0,.int .i64 0,.int .i64 0,.int .i64 0,.int .i64 0,.int .i64 0]
theorem bldN {n:Int} {K:Value→Prop}:Wt prog 97 [(0,Zx n)] K=K (.agg (ordN n).toArray):=by
 simp [Wt,zero_97,fillL,pl_97_0,Ww,cellsOf,Yk,ordN]
theorem zeroN:([.int .i64 0,.int .i64 0,.int .i64 0,.int .i64 0,.int .i64 0,.int .i64 0,.int .i64 0]:List Value)=ordN 0:=rfl
theorem copyO {h:Yb} {v:Value} {o:List Int} (hv:IntSl h v o) (h1:1≤o.length∧o.length≤6) {b:Nat} (hb:h[b]? = some (.cells (ordN o.length) 97 false)) {K:Value→Yb→Prop} (hk:K (Zx o.length) (h.set b (.cells (We o) 97 false))) :
  copyK prog h 27 (.slice (some ⟨b,1,none⟩) 6 6) v K:=by
 have hne:o≠[]:=by rintro rfl; simp at h1
 have hv':=hv
 rcases hv with ⟨rfl,hx⟩ | ⟨b2,o2,sp,cap,c,e,ro,rfl,hc,hw,hx⟩
 · exact absurd hx hne
 have e6:min (o.length:Int) ((6:Nat):Int)=o.length:=by omega
 simp only [copyK,el_27,Wc,Nat.min_eq_left h1.2,e6]
 refine hv'.cells hne b2 o2 sp o.length cap rfl ?_
 refine ⟨?_,?_⟩
 · rw [List.all_eq_true]; intro x hx
   obtain ⟨y,-,rfl⟩:=List.mem_map.1 hx; rfl
 · simp only [hb]
   refine ⟨by simp [ordN]; omega,?_⟩
   have e1:Yk (ordN o.length) 1 (o.map Zx)=We o:=by
    rw [Yk,We,ordN,sixs,List.map_append,List.length_map]
    show _::(_++_)=_
    congr 2
    rw [List.map_replicate]
    have:o.length=1∨o.length=2∨o.length=3∨o.length=4∨o.length=5∨o.length=6:=by omega
    rcases this with h | h | h | h | h | h <;> rw [h] <;> rfl
   rw [e1]; exact hk
def rdC (o:List Int):List Value:=if 1≤o.length∧o.length≤6 then We o else ordN o.length
def rdV (o:List Int):Value:=.agg (rdC o).toArray
theorem rdC_len (o:List Int):(rdC o).length=7:=by
 unfold rdC; split
 · next h=>exact Xk h.2
 · rfl
theorem rdC_one (o:List Int):(rdC o).all one=true:=by
 unfold rdC; split
 · exact ordC_one o
 · rfl
theorem low_rdV (o:List Int):Low (rdV o):=by
 unfold rdV rdC
 split
 · exact Low.ordV o
 · exact .agg fun x hx=>by
    simp only [ordN,List.mem_cons,List.not_mem_nil,or_false] at hx
    rcases hx with rfl | rfl | rfl | rfl | rfl | rfl | rfl <;> exact .int _ _
theorem read_call [BitTab prog 0] {h:Yb} {v:Value} {o:List Int} (hv:IntSl h v o) (hl:o.length<9223372036854775808) (hx : ∀ x∈o,-9223372036854775808≤x∧x<9223372036854775808):APure prog 54 [v] h (.tuple #[rdV o,.bool (ord o)]):=by
 refine ACall.forget (.pair (low_rdV o) (.bool _)) ?_
 refine s54_call (by simp) ?_
 simp only [s54]
 obtain ⟨tp,tl,tc,rfl⟩ : ∃ p l c,v = .slice p l c:=by
  rcases hv with ⟨rfl,_⟩ | ⟨b,o,sp,cap,c,e,ro,rfl,_⟩
  · exact ⟨_,_,_,rfl⟩
  · exact ⟨_,_,_,rfl⟩
 refine aw_cut fun N hN=>?_
 simp (maxSteps:=2000000) only [s54,↓Za,↓Zj,↓Zr,↓Ze,↓Zi,↓Zs,↓Zf,↓Zo,↓Zg,↓Zb,↓Zc,↓vdn,vup,Zh,Zn,Zl,Zm,Zk,List.map_cons,List.map_nil,cond_true,cond_false,aop,Zv,Zq,Zp,ev,sput,Zt,Zy,Ya,unK,Zd,Zw,Nat.reduceBEq,Nat.reduceAdd,Int.reduceBEq,Int.reduceBNe,Int.reduceLT,Zu,Zz,tup,tyf,boxK,cellsOf,Option.isSome_some,Xh,Wi,zeroN]
 refine hN _ _ ?_
 clear hN N
 generalize htv:Value.slice tp tl tc=tv at *
 obtain ⟨H,hH⟩ : ∃ H,H=h++[Blk.cells [tv] 27 false]++[Blk.cells (ordN 0) 97 false]++[Blk.cells [.bool false] 4 false]:=⟨_,rfl⟩
 rw [← hH]
 simp only [List.length_append,List.length_cons,List.length_nil,Nat.zero_add,Nat.add_assoc,Nat.reduceAdd]
 obtain ⟨n,hn⟩ : ∃ n,n=h.length:=⟨_,rfl⟩
 have hHl:H.length=n+3:=by rw [hH,hn]; simp
 have hE0:Ext (fun _=>False) h H:=by rw [hH,List.append_assoc,List.append_assoc]; exact Ext.app _ _ _
 have b1:H[n]? = some (.cells [tv] 27 false):=by rw [hH,hn]; exact Yp (Yp (Yt _ _) _) _
 have b2:H[n+1]? = some (.cells (ordN 0) 97 false):=by
  rw [hH,hn]; have:=Yp (Yt (h++[Blk.cells [tv] 27 false]) (Blk.cells (ordN 0) 97 false)) [Blk.cells [.bool false] 4 false]
  simpa using this
 have b3:H[n+2]? = some (.cells [.bool false] 4 false):=by
  rw [hH,hn]; have:=Yt (h++[Blk.cells [tv] 27 false]++[Blk.cells (ordN 0) 97 false]) (Blk.cells [.bool false] 4 false)
  simpa using this
 have hvH:IntSl H tv o:=IntSl_ext hv hE0
 rw [← hn]
 clear hH
 refine aw_cut fun N hN=>?_
 simp (maxSteps:=2000000) only [s54,↓Za,↓Zj,↓Zr,↓Ze,↓Zi,↓Zs,↓Zf,↓Zo,↓Zg,↓Zb,↓Zc,↓vdn,vup,Zh,Zn,Zl,Zm,Zk,List.map_cons,List.map_nil,cond_true,cond_false,aop,Zv,Zq,Zp,ev,sput,Zt,Zy,Ya,unK,Zd,Zw,Nat.reduceBEq,Nat.reduceAdd,Int.reduceBEq,Int.reduceBNe,Int.reduceLT,Zu,Zz,tup,tyf,Xb b1 Vq,hvH.len,Wi,Xh,bldN,zeroN]
 rw [storeA (c:=ordN 0) (vs:=ordN o.length) (Yt _ _) (by rw [Xd]; rfl) rfl rfl]
 refine hN _ _ ?_
 clear hN N
 rw [hHl]
 obtain ⟨G,hG⟩ : ∃ G,G=(H++[Blk.cells (ordN 0) 97 false]).set (n+3) (.cells (ordN o.length) 97 false):=⟨_,rfl⟩
 rw [← hG]
 have hGl:G.length=n+4:=by rw [hG]; simp [hHl]
 have oldG : ∀ {k B},H[k]? = some B→G[k]? = some B:=fun {k B} hk=>by
  have:=Yu hk
  rw [hG,List.getElem?_set_ne (by omega)]; exact Yp hk _
 have b4:G[n+3]? = some (.cells (ordN o.length) 97 false):=by rw [hG]; exact Xf (by simp [hHl]) _
 have hEG:Ext (fun _=>False) h G:=⟨by omega,fun i hi _=>by
  rw [hG,List.getElem?_set_ne (by omega),List.getElem?_append_left (by omega)]; exact hE0.2 i hi id⟩
 replace b1:=oldG b1
 replace b2:=oldG b2
 replace b3:=oldG b3
 clear oldG hG
 have hvG:IntSl G tv o:=IntSl_ext hv hEG
 clear hvH hE0 hHl
 clear H
 -- what a return does
 have fin : ∀ (hp:Yb) (bb:Bool),Ext (fun i=>i=n+3) G hp→bb=ord o→Ext (fun _=>False) h ((hp.set (n+1) (.cells (rdC o) 97 false)).set (n+2) (.cells [.bool bb] 4 false)) ∧
   ((hp.set (n+1) (.cells (rdC o) 97 false)).set (n+2) (.cells [.bool bb] 4 false))[n+1]? = some (.cells (rdC o) 97 false) ∧
   ((hp.set (n+1) (.cells (rdC o) 97 false)).set (n+2) (.cells [.bool bb] 4 false))[n+2]? = some (.cells [.bool bb] 4 false) ∧
   hp[n+1]? = some (.cells (ordN 0) 97 false)∧(hp.set (n+1) (.cells (rdC o) 97 false))[n+2]? = some (.cells [.bool false] 4 false):=fun hp bb hE hb=>by
  have hl:=hE.1
  have g2:hp[n+1]? = some (.cells (ordN 0) 97 false):=(hE.2 _ (by omega) (by omega)).trans b2
  refine ⟨⟨by simp; omega,fun i hi _=>?_⟩,?_,?_,g2,?_⟩
  · rw [List.getElem?_set_ne (by omega),List.getElem?_set_ne (by omega),hE.2 i (by omega) (by omega)]; exact hEG.2 i hi id
  · rw [List.getElem?_set_ne (by omega)]; exact Xf (by omega) _
  · exact Xf (by simp; omega) _
  · rw [List.getElem?_set_ne (by omega),hE.2 _ (by omega) (by omega)]; exact b3
 refine aw_cut fun N hN=>?_
 by_cases hlen:1≤o.length∧o.length≤6
 rotate_left
 · have ht:ord o=false:=by
    cases e:ord o with
    | false=>rfl
    | true=>exact absurd (Xq e) hlen
   have hrd:rdC o=ordN o.length:=if_neg hlen
   obtain ⟨f1,f2,f3,f4,f5⟩:=fin G false (Ext.refl _ _) ht.symm
   rw [hrd] at f1 f2 f3 f5
   by_cases h1:(o.length:Int)<1
   · simp (maxSteps:=2000000) only [s54,↓Za,↓Zj,↓Zr,↓Ze,↓Zi,↓Zs,↓Zf,↓Zo,↓Zg,↓Zb,↓Zc,↓vdn,vup,Zh,Zn,Zl,Zm,Zk,List.map_cons,List.map_nil,cond_true,cond_false,aop,Zv,Zq,Zp,ev,sput,Zt,Zy,Ya,unK,Zd,Zw,Nat.reduceBEq,Nat.reduceAdd,Int.reduceBEq,Int.reduceBNe,Int.reduceLT,Zu,Zz,tup,tyf,Xb b1 Vq,hvG.len,h1,loadA b4 (t:=97) (by rw [Xd]; rfl),storeA (vs:=ordN o.length) b2 (t:=97) (by rw [Xd]; rfl) rfl rfl,storeB f5 shp_4,loadA f2 (t:=97) (by rw [Xd]; rfl),Xb f3 shp_4]
     exact ⟨by rw [rdV,hrd,ht],f1⟩
   · have h6:(6:Int)<o.length:=by omega
     simp (maxSteps:=2000000) only [s54,↓Za,↓Zj,↓Zr,↓Ze,↓Zi,↓Zs,↓Zf,↓Zo,↓Zg,↓Zb,↓Zc,↓vdn,vup,Zh,Zn,Zl,Zm,Zk,List.map_cons,List.map_nil,cond_true,cond_false,aop,Zv,Zq,Zp,ev,sput,Zt,Zy,Ya,unK,Zd,Zw,Nat.reduceBEq,Nat.reduceAdd,Int.reduceBEq,Int.reduceBNe,Int.reduceLT,Zu,Zz,tup,tyf,Xb b1 Vq,hvG.len,h1,gt_iff_lt,h6,loadA b4 (t:=97) (by rw [Xd]; rfl),storeA (vs:=ordN o.length) b2 (t:=97) (by rw [Xd]; rfl) rfl rfl,storeB f5 shp_4,loadA f2 (t:=97) (by rw [Xd]; rfl),Xb f3 shp_4]
     exact ⟨by rw [rdV,hrd,ht],f1⟩
 have h1 : ¬ (o.length:Int)<1:=by omega
 have h6 : ¬ (6:Int)<o.length:=by omega
 have hrd:rdC o=We o:=if_pos hlen
 simp (maxSteps:=2000000) only [s54,↓Za,↓Zj,↓Zr,↓Ze,↓Zi,↓Zs,↓Zf,↓Zo,↓Zg,↓Zb,↓Zc,↓vdn,vup,Zh,Zn,Zl,Zm,Zk,List.map_cons,List.map_nil,cond_true,cond_false,aop,Zv,Zq,Zp,ev,sput,Zt,Zy,Ya,unK,Zd,Zw,Nat.reduceBEq,Nat.reduceAdd,Int.reduceBEq,Int.reduceBNe,Int.reduceLT,Zu,Zz,tup,tyf,Xb b1 Vq,hvG.len,h1,gt_iff_lt,h6]
 refine hN _ _ ?_
 clear hN N
 refine aw_cut fun N hN=>?_
 refine Xi [] (by kernel_rfl) (by kernel_rfl) (by kernel_rfl) (by kernel_rfl) ?_
 simp (maxSteps:=2000000) only [s54,↓Za,↓Zj,↓Zr,↓Ze,↓Zi,↓Zs,↓Zf,↓Zo,↓Zg,↓Zb,↓Zc,↓vdn,vup,Zh,Zn,Zl,Zm,Zk,List.map_cons,List.map_nil,cond_true,cond_false,aop,Zv,Zq,Zp,ev,sput,Zt,Zy,Ya,unK,Zd,Zw,Nat.reduceBEq,Nat.reduceAdd,Int.reduceBEq,Int.reduceBNe,Int.reduceLT,Zu,Zz,tup,tyf,fldA Ve esz_95,Wu,Option.isSome_some,Xb b1 Vq]
 refine copyO hvG hlen b4 ?_
 refine hN _ _ ?_
 clear hN N
 obtain ⟨F,hF⟩ : ∃ F,F=G.set (n+3) (.cells (We o) 97 false):=⟨_,rfl⟩
 rw [← hF]
 have hEF:Ext (fun i=>i=n+3) G F:=by rw [hF]; exact Ext.set _ rfl
 have hvF:IntSl F tv o:=by
  refine IntSl_ext hv ⟨by rw [hF]; simp; omega,fun i hi _=>?_⟩
  rw [hF,List.getElem?_set_ne (by omega)]; exact hEG.2 i hi id
 have c1:F[n]? = some (.cells [tv] 27 false):=(hEF.2 _ (by omega) (by omega)).trans b1
 have c4:F[n+3]? = some (.cells (We o) 97 false):=by rw [hF]; exact Xf (by omega) _
 clear hF
 have hp:=pow6I hlen.2
 simp (maxSteps:=2000000) only [s54,↓Za,↓Zj,↓Zr,↓Ze,↓Zi,↓Zs,↓Zf,↓Zo,↓Zg,↓Zb,↓Zc,↓vdn,vup,Zh,Zn,Zl,Zm,Zk,List.map_cons,List.map_nil,cond_true,cond_false,aop,Zv,Zq,Zp,ev,sput,Zt,Zy,Ya,unK,Zd,Zw,Nat.reduceBEq,Nat.reduceAdd,Int.reduceBEq,Int.reduceBNe,Int.reduceLT,Zu,Zz,tup,tyf,Xb c1 Vq,hvF.len,↓aw_loop_eq]
 refine Yn fun Q hQ=>?_
 refine aw_loop (γ:=Nat×Yb) (fun s=>s.1≤o.length∧Ext (fun _=>False) F s.2∧∀ k,k<s.1→okO o k=true)
  (fun s=>([(0,tv),(1,.pointer (some ⟨n,0,none⟩)),(2,.pointer (some ⟨n+1,0,none⟩)),(3,.pointer (some ⟨n+2,0,none⟩)),(4,.pointer (some ⟨n+3,0,none⟩)),(24,tv),(25,Zx o.length),(26,Zx s.1)],s.2)) (fun s=>o.length-s.1) (0,F) ⟨by omega,Ext.refl _ _,fun _ hk=>by simp at hk⟩ (by simp (maxSteps:=2000000) only [↓Za,↓Zj,↓Zr,↓Ze,↓Zi,↓Zs,↓Zf,↓Zo,↓Zg,↓Zb,↓Zc,↓vdn,vup,Zh,Zn,Zl,Zm,Zk,List.map_cons,List.map_nil,cond_true,cond_false,aop,Zv,Zq,Zp,ev,sput,Zt,Zy,Ya,unK,Zd,Zw,Nat.reduceBEq,Nat.reduceAdd,Int.reduceBEq,Int.reduceBNe,Int.reduceLT,Zu,Zz,tup,tyf,Int.natCast_zero]) rfl ?_
 rintro ⟨i,hp0⟩ ⟨hi,hE,hok⟩
 simp only at hi hE hok
 have e1:hp0[n]? = some (.cells [tv] 27 false):=(hE.2 _ (Yu c1) id).trans c1
 have e4:hp0[n+3]? = some (.cells (We o) 97 false):=(hE.2 _ (Yu c4) id).trans c4
 have hvE:IntSl hp0 tv o:=IntSl_ext hvF hE
 have hGl':=hEF.1
 have hl0:=hE.1
 refine aw_hide fun Q2 hQ2=>?_
 by_cases hin:(i:Int)<o.length
 · have hin' : i<o.length:=by omega
   have hbad:okO o i=false→ord o=false:=fun hb=>by
    have:(List.range o.length).all (okO o)=false:=by
     rw [List.all_eq_false]; exact ⟨i,by simpa using hin',by simp [hb]⟩
    simp [ord,this]
   obtain ⟨hx1,hx2⟩:=hx (o.getD i 0) (by rw [List.getD,List.getElem?_eq_getElem hin']; exact List.getElem_mem hin')
   obtain ⟨m,hm⟩ : ∃ m,m=hp0.length:=⟨_,rfl⟩
   obtain ⟨X,hX⟩ : ∃ X,X=(hp0++[Blk.cells [Value.int .i64 0] 3 false]).set hp0.length (Blk.cells [.int .i64 (o.getD i 0)] 3 false):=⟨_,rfl⟩
   have hlX:X.length=m+1:=by rw [hX,hm]; simp
   have hEX:Ext (fun _=>False) hp0 X:=⟨by omega,fun j hj _=>by rw [hX,List.getElem?_set_ne (by omega),List.getElem?_append_left hj]⟩
   have bX:X[m]? = some (.cells [.int .i64 (o.getD i 0)] 3 false):=by rw [hX,hm]; exact Xf (by simp) _
   have x1:X[n]? = some (.cells [tv] 27 false):=(hEX.2 _ (Yu e1) id).trans e1
   have x4:X[n+3]? = some (.cells (We o) 97 false):=(hEX.2 _ (Yu e4) id).trans e4
   have hvX:IntSl X tv o:=IntSl_ext hvE hEX
   have hGX:Ext (fun i=>i=n+3) G X:=⟨by omega,fun j hj hjn=>by rw [hEX.2 j (by omega) id,hE.2 j (by omega) id]; exact hEF.2 j hj hjn⟩
   simp only [l54_1]
   refine aw_cut fun N hN=>?_
   simp (maxSteps:=2000000) only [s54,↓Za,↓Zj,↓Zr,↓Ze,↓Zi,↓Zs,↓Zf,↓Zo,↓Zg,↓Zb,↓Zc,↓vdn,vup,Zh,Zn,Zl,Zm,Zk,List.map_cons,List.map_nil,cond_true,cond_false,aop,Zv,Zq,Zp,ev,sput,Zt,Zy,Ya,unK,Zd,Zw,Nat.reduceBEq,Nat.reduceAdd,Int.reduceBEq,Int.reduceBNe,Int.reduceLT,Zu,Zz,tup,tyf]
   refine hN _ _ ?_
   clear hN N
   refine aw_cut fun N hN=>?_
   simp (maxSteps:=2000000) only [s54,↓Za,↓Zj,↓Zr,↓Ze,↓Zi,↓Zs,↓Zf,↓Zo,↓Zg,↓Zb,↓Zc,↓vdn,vup,Zh,Zn,Zl,Zm,Zk,List.map_cons,List.map_nil,cond_true,cond_false,aop,Zv,Zq,Zp,ev,sput,Zt,Zy,Ya,unK,Zd,Zw,Nat.reduceBEq,Nat.reduceAdd,Int.reduceBEq,Int.reduceBNe,Int.reduceLT,Zu,Zz,tup,tyf,hin]
   refine hN _ _ ?_
   clear hN N
   refine aw_cut fun N hN=>?_
   simp only [↓Ze]
   refine aw_cut fun N2 hN2=>?_
   simp (maxSteps:=2000000) only [s54,↓Za,↓Zj,↓Zr,↓Ze,↓Zi,↓Zs,↓Zf,↓Zo,↓Zg,↓Zb,↓Zc,↓vdn,vup,Zh,Zn,Zl,Zm,Zk,List.map_cons,List.map_nil,cond_true,cond_false,aop,Zv,Zq,Zp,ev,sput,Zt,Zy,Ya,unK,Zd,Zw,Nat.reduceBEq,Nat.reduceAdd,Int.reduceBEq,Int.reduceBNe,Int.reduceLT,Zu,Zz,tup,tyf,hvE.idx el_27 Wc hin',hvE.load Xc hin',Wi,Xh]
   rw [storeI (v:=.int .i64 0) (e:=3) (Yt _ _) Xc,← hX,← hm]
   refine hN2 _ _ ?_
   clear hN2 N2
   -- what a return inside does
   have back : ∀ (hq:Yb),Ext (fun i=>i=n+3) G hq→hq[n+3]? = some (.cells (We o) 97 false)→ord o=false→∀ (e:Env),sget e 2 = .pointer (some ⟨n+1,0,none⟩)→sget e 3 = .pointer (some ⟨n+2,0,none⟩) →
     Q2 .ret e ((hq.set (n+1) (.cells (We o) 97 false)).set (n+2) (.cells [.bool false] 4 false)):=fun hq hEq _ ht e g2 g3=>by
    obtain ⟨f1,f2,f3,f4,f5⟩:=fin hq false hEq ht.symm
    rw [hrd] at f1 f2 f3 f5
    refine hQ2 _ _ _ (hQ _ _ _ ?_)
    simp only [Zq,Zv,Zu,Zz,g2,g3]
    rw [loadA f2 (t:=97) (by rw [Xd,Xk hlen.2]),Xb f3 shp_4]
    exact ⟨by rw [rdV,hrd,ht]; rfl,f1⟩
   obtain ⟨f1,f2,f3,f4,f5⟩:_:=fin X (ord o) hGX rfl
   rw [hrd] at f1 f2 f3 f5
   refine aw_cut fun N2 hN2=>?_
   simp (maxSteps:=2000000) only [s54,↓Za,↓Zj,↓Zr,↓Ze,↓Zi,↓Zs,↓Zf,↓Zo,↓Zg,↓Zb,↓Zc,↓vdn,vup,Zh,Zn,Zl,Zm,Zk,List.map_cons,List.map_nil,cond_true,cond_false,aop,Zv,Zq,Zp,ev,sput,Zt,Zy,Ya,unK,Zd,Zw,Nat.reduceBEq,Nat.reduceAdd,Int.reduceBEq,Int.reduceBNe,Int.reduceLT,Zu,Zz,tup,tyf]
   refine Xi [] (by kernel_rfl) (by kernel_rfl) (by kernel_rfl) (by kernel_rfl) ?_
   by_cases hneg:o.getD i 0<0
   · have hb:=hbad (by rw [okO,decide_eq_false (show ¬ 0≤o.getD i 0 by omega)]; rfl)
     simp (maxSteps:=2000000) only [s54,↓Za,↓Zj,↓Zr,↓Ze,↓Zi,↓Zs,↓Zf,↓Zo,↓Zg,↓Zb,↓Zc,↓vdn,vup,Zh,Zn,Zl,Zm,Zk,List.map_cons,List.map_nil,cond_true,cond_false,aop,Zv,Zq,Zp,ev,sput,Zt,Zy,Ya,unK,Zd,Zw,Nat.reduceBEq,Nat.reduceAdd,Int.reduceBEq,Int.reduceBNe,Int.reduceLT,Zu,Zz,tup,tyf,Xb bX Xc,hneg,loadA x4 (t:=97) (by rw [Xd,Xk hlen.2]),storeA (vs:=We o) f4 (t:=97) (by rw [Xd,Xk hlen.2]) (ordC_one o) (by rw [Xk hlen.2]; rfl),storeB f5 shp_4]
     exact back X hGX x4 hb _ rfl rfl
   by_cases hbig:2 ^ o.length≤o.getD i 0
   · have hb:=hbad (by rw [okO,decide_eq_false (show ¬ o.getD i 0<2 ^ o.length from Int.not_lt.2 hbig),Bool.and_false]; rfl)
     simp (maxSteps:=2000000) only [s54,↓Za,↓Zj,↓Zr,↓Ze,↓Zi,↓Zs,↓Zf,↓Zo,↓Zg,↓Zb,↓Zc,↓vdn,vup,Zh,Zn,Zl,Zm,Zk,List.map_cons,List.map_nil,cond_true,cond_false,aop,Zv,Zq,Zp,ev,sput,Zt,Zy,Ya,unK,Zd,Zw,Nat.reduceBEq,Nat.reduceAdd,Int.reduceBEq,Int.reduceBNe,Int.reduceLT,Zu,Zz,tup,tyf,Xb bX Xc,hneg,Xb x1 Vq,hvX.len,shl1 (show o.length≤62 by omega),ge_iff_le,hbig,loadA x4 (t:=97) (by rw [Xd,Xk hlen.2]),storeA (vs:=We o) f4 (t:=97) (by rw [Xd,Xk hlen.2]) (ordC_one o) (by rw [Xk hlen.2]; rfl),storeB f5 shp_4]
     exact back X hGX x4 hb _ rfl rfl
   have hs0:0≤o.getD i 0:=by omega
   have hs1:o.getD i 0<9223372036854775808:=by omega
   by_cases hbit:ab o i i=true
   · have hb:=hbad (by rw [okO,hbit,Bool.not_true,Bool.and_false]; rfl)
     simp (maxSteps:=2000000) only [s54,↓Za,↓Zj,↓Zr,↓Ze,↓Zi,↓Zs,↓Zf,↓Zo,↓Zg,↓Zb,↓Zc,↓vdn,vup,Zh,Zn,Zl,Zm,Zk,List.map_cons,List.map_nil,cond_true,cond_false,aop,Zv,Zq,Zp,ev,sput,Zt,Zy,Ya,unK,Zd,Zw,Nat.reduceBEq,Nat.reduceAdd,Int.reduceBEq,Int.reduceBNe,Int.reduceLT,Zu,Zz,tup,tyf,Xb bX Xc,hneg,Xb x1 Vq,hvX.len,shl1 (show o.length≤62 by omega),ge_iff_le,hbig,testA hs0 hs1,hbit,if_true,Int.reduceBEq,loadA x4 (t:=97) (by rw [Xd,Xk hlen.2]),storeA (vs:=We o) f4 (t:=97) (by rw [Xd,Xk hlen.2]) (ordC_one o) (by rw [Xk hlen.2]; rfl),storeB f5 shp_4]
     exact back X hGX x4 hb _ rfl rfl
   simp only [Bool.not_eq_true] at hbit
   simp (maxSteps:=2000000) only [s54,↓Za,↓Zj,↓Zr,↓Ze,↓Zi,↓Zs,↓Zf,↓Zo,↓Zg,↓Zb,↓Zc,↓vdn,vup,Zh,Zn,Zl,Zm,Zk,List.map_cons,List.map_nil,cond_true,cond_false,aop,Zv,Zq,Zp,ev,sput,Zt,Zy,Ya,unK,Zd,Zw,Nat.reduceBEq,Nat.reduceAdd,Int.reduceBEq,Int.reduceBNe,Int.reduceLT,Zu,Zz,tup,tyf,Xb bX Xc,hneg,Xb x1 Vq,hvX.len,shl1 (show o.length≤62 by omega),ge_iff_le,hbig,testA hs0 hs1,hbit,if_false,Bool.false_eq_true,Int.reduceBEq]
   refine hN2 _ _ ?_
   clear hN2 N2
   have hset:o.getD i 0=((bt o i:Nat):Int):=(Int.toNat_of_nonneg hs0).symm
   have hsl:bt o i<64:=by have h1:=hp.1; have:o.getD i 0<64:=by omega
                          omega
   simp (maxSteps:=2000000) only [s54,↓Za,↓Zj,↓Zr,↓Ze,↓Zi,↓Zs,↓Zf,↓Zo,↓Zg,↓Zb,↓Zc,↓vdn,vup,Zh,Zn,Zl,Zm,Zk,List.map_cons,List.map_nil,cond_true,cond_false,aop,Zv,Zq,Zp,ev,sput,Zt,Zy,Ya,unK,Zd,Zw,Nat.reduceBEq,Nat.reduceAdd,Int.reduceBEq,Int.reduceBNe,Int.reduceLT,Zu,Zz,tup,tyf,Xb bX Xc,Yz,List.nil_append,List.append_nil,List.toList_toArray,List.cons_append]
   refine elements_call.mono ?_
   rintro _ _ ⟨rfl,rfl⟩
   rw [hset] at bX ⊢
   refine aw_range Ob.bitIter (bx:=X.length) (s:=bt o i) (et:=3) rfl (Yt _ _) (by omega) (fun pre hk=>Ext (fun _=>False) X hk∧∀ k∈pre,(Vb .andNot .i64 (o.getD k 0) (o.getD i 0)==0)=true) ⟨?_,fun _ hk=>by cases hk⟩ ?_ ?_
   · refine ⟨by simp,fun j hj _=>?_⟩
     rw [List.getElem?_set_ne (by omega),List.getElem?_append_left hj]
   · rintro pre x hk hpre ⟨hEk,hall⟩
     obtain ⟨hx64,hxb⟩:=Vg.1 (mem_pre hpre)
     have hxn:x<o.length:=by
      rcases Nat.lt_or_ge x o.length with h | h
      · exact h
      · have h2:bt o i<2 ^ o.length:=by
         have h3 : ¬ (2:Int) ^ o.length≤((bt o i:Nat):Int):=by rw [← hset]; exact hbig
         rw [← pow_cast] at h3
         omega
        rw [Nat.testBit_lt_two_pow (Nat.lt_of_lt_of_le h2 (Nat.pow_le_pow_right (by decide) h))] at hxb; cases hxb
     have k1:hk[n]? = some (.cells [tv] 27 false):=(hEk.2 _ (Yu x1) id).trans x1
     have k4:hk[n+3]? = some (.cells (We o) 97 false):=(hEk.2 _ (Yu x4) id).trans x4
     have kX:hk[m]? = some (.cells [.int .i64 ((bt o i:Nat):Int)] 3 false):=(hEk.2 _ (Yu bX) id).trans bX
     have hvk:IntSl hk tv o:=IntSl_ext hvX hEk
     have hlk:=hEk.1
     have hGk:Ext (fun i=>i=n+3) G hk:=⟨by omega,fun j hj hjn=>by rw [hEk.2 j (by omega) id]; exact hGX.2 j hj hjn⟩
     simp (maxSteps:=2000000) only [s54,↓Za,↓Zj,↓Zr,↓Ze,↓Zi,↓Zs,↓Zf,↓Zo,↓Zg,↓Zb,↓Zc,↓vdn,vup,Zh,Zn,Zl,Zm,Zk,List.map_cons,List.map_nil,cond_true,cond_false,aop,Zv,Zq,Zp,ev,sput,Zt,Zy,Ya,unK,Zd,Zw,Nat.reduceBEq,Nat.reduceAdd,Int.reduceBEq,Int.reduceBNe,Int.reduceLT,Zu,Zz,tup,tyf,r54_0_a,r54_0_b]
     refine Xi [] (by kernel_rfl) (by kernel_rfl) (by kernel_rfl) (by kernel_rfl) ?_
     cases hlz:(Vb .andNot .i64 (o.getD x 0) ((bt o i:Nat):Int)==0) with
     | true =>
       have hlz' : (Vb .andNot .i64 (o.getD x 0) ((bt o i:Nat):Int) != 0)=false:=by rw [bne,hlz]; rfl
       simp (maxSteps:=2000000) only [s54,↓Za,↓Zj,↓Zr,↓Ze,↓Zi,↓Zs,↓Zf,↓Zo,↓Zg,↓Zb,↓Zc,↓vdn,vup,Zh,Zn,Zl,Zm,Zk,List.map_cons,List.map_nil,cond_true,cond_false,aop,Zv,Zq,Zp,ev,sput,Zt,Zy,Ya,unK,Zd,Zw,Nat.reduceBEq,Nat.reduceAdd,Int.reduceBEq,Int.reduceBNe,Int.reduceLT,Zu,Zz,tup,tyf,Xb k1 Vq,hvk.idx el_27 Wc hxn,hvk.load Xc hxn,Xb kX Xc,hlz']
       refine ⟨hEk,fun k hk'=>?_⟩
       rcases List.mem_append.1 hk' with h | h
       · exact hall k h
       · rw [List.mem_singleton.1 h,hset]; exact hlz
     | false =>
       have hlz' : (Vb .andNot .i64 (o.getD x 0) ((bt o i:Nat):Int) != 0)=true:=by rw [bne,hlz]; rfl
       have hb:=hbad (by
        have:((List.range o.length).all fun j=>!ab o i j || (Vb .andNot .i64 (o.getD j 0) (o.getD i 0)==0))=false:=by
         rw [List.all_eq_false]; exact ⟨x,List.mem_range.2 hxn,by rw [show ab o i x=true from hxb,hset,hlz]; decide⟩
        rw [okO,this,Bool.and_false])
       obtain ⟨g1,g2,g3,g4,g5⟩:=fin hk (ord o) hGk rfl
       rw [hrd] at g1 g2 g3 g5
       simp (maxSteps:=2000000) only [s54,↓Za,↓Zj,↓Zr,↓Ze,↓Zi,↓Zs,↓Zf,↓Zo,↓Zg,↓Zb,↓Zc,↓vdn,vup,Zh,Zn,Zl,Zm,Zk,List.map_cons,List.map_nil,cond_true,cond_false,aop,Zv,Zq,Zp,ev,sput,Zt,Zy,Ya,unK,Zd,Zw,Nat.reduceBEq,Nat.reduceAdd,Int.reduceBEq,Int.reduceBNe,Int.reduceLT,Zu,Zz,tup,tyf,Xb k1 Vq,hvk.idx el_27 Wc hxn,hvk.load Xc hxn,Xb kX Xc,hlz',loadA k4 (t:=97) (by rw [Xd,Xk hlen.2]),storeA (vs:=We o) g4 (t:=97) (by rw [Xd,Xk hlen.2]) (ordC_one o) (by rw [Xk hlen.2]; rfl),storeB g5 shp_4,rangeQ]
       exact back hk hGk k4 hb _ rfl rfl
   · rintro hk ⟨hEk,hall⟩
     simp (maxSteps:=2000000) only [s54,↓Za,↓Zj,↓Zr,↓Ze,↓Zi,↓Zs,↓Zf,↓Zo,↓Zg,↓Zb,↓Zc,↓vdn,vup,Zh,Zn,Zl,Zm,Zk,List.map_cons,List.map_nil,cond_true,cond_false,aop,Zv,Zq,Zp,ev,sput,Zt,Zy,Ya,unK,Zd,Zw,Nat.reduceBEq,Nat.reduceAdd,Int.reduceBEq,Int.reduceBNe,Int.reduceLT,Zu,Zz,tup,tyf,rangeQ]
     refine hN _ _ ?_
     simp (maxSteps:=2000000) only [s54,↓Za,↓Zj,↓Zr,↓Ze,↓Zi,↓Zs,↓Zf,↓Zo,↓Zg,↓Zb,↓Zc,↓vdn,vup,Zh,Zn,Zl,Zm,Zk,List.map_cons,List.map_nil,cond_true,cond_false,aop,Zv,Zq,Zp,ev,sput,Zt,Zy,Ya,unK,Zd,Zw,Nat.reduceBEq,Nat.reduceAdd,Int.reduceBEq,Int.reduceBNe,Int.reduceLT,Zu,Zz,tup,tyf,add1 (show i<9223372036854775807 by omega)]
     have hlk:=hEk.1
     refine hQ2 _ _ _ ⟨(i+1,hk),⟨by simp only; omega,⟨by simp only; omega,fun j hj _=>?_⟩,fun k hk'=>?_⟩,by simp only; omega,by simp (maxSteps:=2000000) only [↓Za,↓Zj,↓Zr,↓Ze,↓Zi,↓Zs,↓Zf,↓Zo,↓Zg,↓Zb,↓Zc,↓vdn,vup,Zh,Zn,Zl,Zm,Zk,List.map_cons,List.map_nil,cond_true,cond_false,aop,Zv,Zq,Zp,ev,sput,Zt,Zy,Ya,unK,Zd,Zw,Nat.reduceBEq,Nat.reduceAdd,Int.reduceBEq,Int.reduceBNe,Int.reduceLT,Zu,Zz,tup,tyf],rfl⟩
     · show hk[j]? = F[j]?
       rw [hEk.2 j (by omega) id,hEX.2 j (by omega) id]; exact hE.2 j hj id
     · simp only at hk'
       by_cases hki:k=i
       · subst hki
         have hle:bt o k<2 ^ o.length:=by
          have h3 : ¬ (2:Int) ^ o.length≤((bt o k:Nat):Int):=by rw [← hset]; exact hbig
          rw [← pow_cast] at h3
          omega
         have:((List.range o.length).all fun j=>!ab o k j || (Vb .andNot .i64 (o.getD j 0) (o.getD k 0)==0))=true:=by
          rw [List.all_eq_true]
          intro j hj
          cases hkj:ab o k j with
          | false=>rfl
          | true=>rw [hall j (Vg.2 ⟨by have:=List.mem_range.1 hj; omega,hkj⟩)]; rfl
         rw [okO,decide_eq_true hs0,decide_eq_true (Int.not_le.1 hbig),hbit,this]; rfl
       · exact hok k (by omega)
 · obtain rfl:i=o.length:=by omega
   have ht:ord o=true:=by simp only [ord,Bool.and_eq_true,decide_eq_true_eq,List.all_eq_true,List.mem_range]; exact ⟨hlen,hok⟩
   obtain ⟨f1,f2,f3,f4,f5⟩:=fin hp0 true ⟨by omega,fun j hj hjn=>by rw [hE.2 j (by omega) id]; exact hEF.2 j hj hjn⟩ ht.symm
   rw [hrd] at f1 f2 f3 f5
   simp (maxSteps:=2000000) only [s54,↓Za,↓Zj,↓Zr,↓Ze,↓Zi,↓Zs,↓Zf,↓Zo,↓Zg,↓Zb,↓Zc,↓vdn,vup,Zh,Zn,Zl,Zm,Zk,List.map_cons,List.map_nil,cond_true,cond_false,aop,Zv,Zq,Zp,ev,sput,Zt,Zy,Ya,unK,Zd,Zw,Nat.reduceBEq,Nat.reduceAdd,Int.reduceBEq,Int.reduceBNe,Int.reduceLT,Zu,Zz,tup,tyf,l54_1,Int.lt_irrefl]
   refine hQ2 _ _ _ (hQ _ _ _ ?_)
   simp (maxSteps:=2000000) only [s54,↓Za,↓Zj,↓Zr,↓Ze,↓Zi,↓Zs,↓Zf,↓Zo,↓Zg,↓Zb,↓Zc,↓vdn,vup,Zh,Zn,Zl,Zm,Zk,List.map_cons,List.map_nil,cond_true,cond_false,aop,Zv,Zq,Zp,ev,sput,Zt,Zy,Ya,unK,Zd,Zw,Nat.reduceBEq,Nat.reduceAdd,Int.reduceBEq,Int.reduceBNe,Int.reduceLT,Zu,Zz,tup,tyf,if_true,loadA e4 (t:=97) (by rw [Xd,Xk hlen.2]),storeA (vs:=We o) f4 (t:=97) (by rw [Xd,Xk hlen.2]) (ordC_one o) (by rw [Xk hlen.2]; rfl),storeB f5 shp_4,loadA f2 (t:=97) (by rw [Xd,Xk hlen.2]),Xb f3 shp_4]
   exact ⟨by rw [rdV,hrd,ht],f1⟩
end Go.Proofs.Tryd.Am.Or
namespace Go.Proofs.Tryd.Am.Or
open Go.Proofs.Tryd.Am
open Go.Am Ord
set_option maxRecDepth 100000
set_option maxHeartbeats 1000000
section
variable {P:Program} {h:Yb} {t e:TypeId} {b o n c k:Nat} {xs:List Int} {ro:Bool}
theorem idxS {K:Value→Prop} (he:elemOf' P t=some e) (hs:esz P e=some 1) (hk:k<n):Ys P t (.slice (some ⟨b,0,none⟩) n c) (Zx (k:Nat)) K=K (.pointer (some ⟨b,k,none⟩)):=by
 simp only [Ys,he,hs,Int.natCast_nonneg,Int.toNat_natCast,Nat.mul_one,Nat.zero_add,true_and,Int.ofNat_lt.2 hk]
theorem loadX {K:Value→Prop} (hb:h[b]? = some (.ints xs e ro)) (hs:shp P t=some none) (ho:o<xs.length):Xu P h t (.pointer (some ⟨b,o,none⟩)) K=K (Zx (xs.getD o 0)):=by
 simp only [Xu,hs,cellK,hb,ho,true_and]
theorem storeX {K:Yb→Prop} {x:Int} (hb:h[b]? = some (.ints xs e false)) (hs:shp P t=some none) (ho:o<xs.length):Xt P h t (.pointer (some ⟨b,o,none⟩)) (Zx x) K=K (h.set b (.ints (xs.set o x) e false)):=by
 simp only [Xt,hs,hb,ho,true_and]
end
def WS (o:List Int) (s:Nat):List Int:=(List.range (2 ^ o.length)).map fun k=>if k<s then ((W o k:Nat):Int) else 0
theorem WS_len {o:List Int} {s:Nat}:(WS o s).length=2 ^ o.length:=by simp [WS]
theorem WS_get {o:List Int} {s k:Nat} (hk:k<s) (hs:s≤2 ^ o.length):(WS o s).getD k 0=((W o k:Nat):Int):=by
 rw [WS,getD_map,if_pos (by omega),if_pos hk]
theorem WS_one {o:List Int}:(List.replicate (2 ^ o.length) (0:Int)).set 0 1=WS o 1:=by
 have hp:=Nat.two_pow_pos o.length
 refine List.ext_getElem (by simp [WS_len]) fun i h1 h2=>?_
 rw [List.getElem_set]
 by_cases hi:0=i
 · subst hi; simp [WS,W_zero]
 · rw [if_neg hi]; simp [WS]; omega
theorem WS_set {o:List Int} {s:Nat}:(WS o s).set s ((W o s:Nat):Int)=WS o (s+1):=by
 refine List.ext_getElem (by simp [WS_len]) fun i h1 h2=>?_
 rw [List.getElem_set]
 by_cases hi:s=i
 · subst hi; simp [WS]
 · rw [if_neg hi]
   simp only [WS,List.getElem_map,List.getElem_range]
   by_cases hlt:i<s
   · rw [if_pos hlt,if_pos (by omega)]
   · rw [if_neg hlt,if_neg (by omega)]
theorem WS_zero {o:List Int} {s:Nat} (hs:s<2 ^ o.length):(WS o s).set s 0=WS o s:=by
 refine List.ext_getElem (by simp) fun i h1 h2=>?_
 rw [List.getElem_set]
 by_cases hi:s=i
 · subst hi; simp [WS]
 · rw [if_neg hi]
def ps (o:List Int) (s:Nat) (pre:List Nat):Nat:=((pre.filter (okLast o s)).map fun i=>W o (less s (2 ^ i))).sum
theorem ps_snoc {o:List Int} {s:Nat} {pre:List Nat} {x:Nat}:ps o s (pre++[x])=if okLast o s x=true then ps o s pre+W o (less s (2 ^ x)) else ps o s pre:=by
 unfold ps
 rw [List.filter_append,List.map_append,List.sum_append,List.filter_cons]
 split <;> simp
theorem ps_le {o:List Int} {s:Nat} (hs:s<64) : ∀ pre:List Nat,ps o s pre≤pre.length*46656:=by
 intro pre
 unfold ps
 induction pre with
 | nil=>simp
 | cons x pre ih =>
   rw [List.filter_cons,List.length_cons,Nat.succ_mul]
   split
   · rw [List.map_cons,List.sum_cons]
     have:=W_le (o:=o) (s:=less s (2 ^ x)) (less_lt (n:=6) hs)
     omega
   · omega
theorem eq0 (n:Nat):(((n:Nat):Int)==0)=decide (n=0):=by
 by_cases h:n=0
 · subst h; rfl
 · rw [decide_eq_false h]
   have:((n:Nat):Int)≠0:=by omega
   simpa using this
theorem Va [BitTab prog 0] {h:Yb} {o:List Int} (ho:ord o=true):APure prog 56 [ordV o] h (Zx (cn o:Nat)):=by
 have hlen:=Xq ho
 have hpw:=pow6 hlen.2
 refine ACall.forget (Low.int _ _) ?_
 refine s56_call (by simp) ?_
 simp only [s56]
 refine aw_cut fun N hN=>?_
 simp (maxSteps:=2000000) only [s56,↓Za,↓Zj,↓Zr,↓Ze,↓Zi,↓Zs,↓Zf,↓Zo,↓Zg,↓Zb,↓Zc,↓vdn,vup,Zh,Zn,Zl,Zm,Zk,List.map_cons,List.map_nil,cond_true,cond_false,aop,Zv,Zq,Zp,ev,sput,Zt,Zy,Ya,unK,Zd,Zw,Nat.reduceBEq,Nat.reduceAdd,Int.reduceBEq,Int.reduceBNe,Int.reduceLT,Zu,Zz,tup,tyf,boxO esz_97,Xh]
 refine hN _ _ ?_
 clear hN N
 obtain ⟨n,hn⟩ : ∃ n,n=h.length:=⟨_,rfl⟩
 rw [← hn]
 have hadd:addV .i64 ((2 ^ o.length-1:Nat):Int) 1=((2 ^ o.length:Nat):Int):=by rw [addV_id (by omega) (by omega)]; omega
 have hm0:(0:Int)≤((2 ^ o.length:Nat):Int):=Int.natCast_nonneg _
 have hm1:((2 ^ o.length:Nat):Int)≤35184372088832:=by omega
 have c0:(h++[Blk.cells (We o) 97 false])[n]? = some (.cells (We o) 97 false):=by rw [hn]; exact Yt _ _
 refine aw_cut fun N hN=>?_
 simp (maxSteps:=2000000) only [s56,↓Za,↓Zj,↓Zr,↓Ze,↓Zi,↓Zs,↓Zf,↓Zo,↓Zg,↓Zb,↓Zc,↓vdn,vup,Zh,Zn,Zl,Zm,Zk,List.map_cons,List.map_nil,cond_true,cond_false,aop,Zv,Zq,Zp,ev,sput,Zt,Zy,Ya,unK,Zd,Zw,Nat.reduceBEq,Nat.reduceAdd,Int.reduceBEq,Int.reduceBNe,Int.reduceLT,Zu,Zz,tup,tyf,loadO c0 Xd hlen.2,Yz,List.nil_append,List.append_nil,List.toList_toArray,List.cons_append]
 refine (all_call hlen.2).mono ?_
 rintro _ _ ⟨rfl,rfl⟩
 simp (maxSteps:=2000000) only [s56,↓Za,↓Zj,↓Zr,↓Ze,↓Zi,↓Zs,↓Zf,↓Zo,↓Zg,↓Zb,↓Zc,↓vdn,vup,Zh,Zn,Zl,Zm,Zk,List.map_cons,List.map_nil,cond_true,cond_false,aop,Zv,Zq,Zp,ev,sput,Zt,Zy,Ya,unK,Zd,Zw,Nat.reduceBEq,Nat.reduceAdd,Int.reduceBEq,Int.reduceBNe,Int.reduceLT,Zu,Zz,tup,tyf,hadd,makeI el_27 zero_3 info_3 hm0 hm1,Int.toNat_natCast,Wi,Xh]
 obtain ⟨N0,hN0⟩ : ∃ N0,N0=2 ^ o.length:=⟨_,rfl⟩
 obtain ⟨S,hS⟩ : ∃ S:Value,S = .slice (some ⟨n+1,0,none⟩) N0 N0:=⟨_,rfl⟩
 simp only [zero_27,List.length_append,List.length_cons,List.length_nil,Nat.zero_add,Nat.add_assoc,Nat.reduceAdd,← hn,← hN0,← hS]
 have hone:one S=true:=by rw [hS]; rfl
 have c2:(h++[Blk.cells (We o) 97 false]++[Blk.ints (List.replicate N0 0) 3 false]++[Blk.cells [.slice none 0 0] 27 false])[n+2]? = some (.cells [.slice none 0 0] 27 false):=by
  have:=Yt (h++[Blk.cells (We o) 97 false]++[Blk.ints (List.replicate N0 0) 3 false]) (Blk.cells [.slice none 0 0] 27 false)
  simpa [hn] using this
 rw [store1 c2 Vq hone]
 obtain ⟨H,hH⟩ : ∃ H,H=(h++[Blk.cells (We o) 97 false]++[Blk.ints (List.replicate N0 0) 3 false]++[Blk.cells [.slice none 0 0] 27 false]).set (n+2) (.cells [S] 27 false):=⟨_,rfl⟩
 rw [← hH]
 have hHl:H.length=n+3:=by rw [hH,hn]; simp
 have b0:H[n]? = some (.cells (We o) 97 false):=by rw [hH,List.getElem?_set_ne (by omega)]; exact Yp (Yp c0 _) _
 have b1:H[n+1]? = some (.ints (List.replicate N0 0) 3 false):=by
  rw [hH,List.getElem?_set_ne (by omega)]
  have:=Yt (h++[Blk.cells (We o) 97 false]) (Blk.ints (List.replicate N0 0) 3 false)
  simp only [List.length_append,List.length_singleton,← hn] at this
  exact Yp this _
 have b2:H[n+2]? = some (.cells [S] 27 false):=by rw [hH]; exact Xf (by rw [hn]; simp) _
 have hE0:Ext (fun _=>False) h H:=⟨by omega,fun i hi _=>by
  rw [hH,List.getElem?_set_ne (by omega),List.append_assoc,List.append_assoc,List.getElem?_append_left hi]⟩
 clear c2 hH
 refine hN _ _ ?_
 clear hN N
 -- ways[0] = 1
 refine aw_cut fun N hN=>?_
 have hidx : ∀ {k:Nat} {K:Value→Prop},k<N0→Ys prog 27 S (Zx (k:Nat)) K=K (.pointer (some ⟨n+1,k,none⟩)):=fun {k K} hk=>by rw [hS]; exact idxS el_27 Wc hk
 have hidx0 : ∀ {K:Value→Prop},Ys prog 27 S (.int .i64 0) K=K (.pointer (some ⟨n+1,0,none⟩)):=fun {K}=>hidx (k:=0) (by omega)
 simp (maxSteps:=2000000) only [s56,↓Za,↓Zj,↓Zr,↓Ze,↓Zi,↓Zs,↓Zf,↓Zo,↓Zg,↓Zb,↓Zc,↓vdn,vup,Zh,Zn,Zl,Zm,Zk,List.map_cons,List.map_nil,cond_true,cond_false,aop,Zv,Zq,Zp,ev,sput,Zt,Zy,Ya,unK,Zd,Zw,Nat.reduceBEq,Nat.reduceAdd,Int.reduceBEq,Int.reduceBNe,Int.reduceLT,Zu,Zz,tup,tyf,Xb b2 Vq,hidx0]
 rw [storeX (x:=1) b1 Xc (by simp; omega)]
 refine hN _ _ ?_
 clear hN N
 obtain ⟨G,hG⟩ : ∃ G,G=H.set (n+1) (.ints ((List.replicate N0 0).set 0 1) 3 false):=⟨_,rfl⟩
 rw [← hG]
 rw [hN0,WS_one] at hG
 have hGl:G.length=n+3:=by rw [hG]; simp [hHl]
 have g0:G[n]? = some (.cells (We o) 97 false):=by rw [hG,List.getElem?_set_ne (by omega)]; exact b0
 have g1:G[n+1]? = some (.ints (WS o 1) 3 false):=by rw [hG]; exact Xf (by omega) _
 have g2:G[n+2]? = some (.cells [S] 27 false):=by rw [hG,List.getElem?_set_ne (by omega)]; exact b2
 have hEG:Ext (fun _=>False) h G:=⟨by omega,fun i hi _=>by rw [hG,List.getElem?_set_ne (by omega)]; exact hE0.2 i hi id⟩
 clear b0 b1 b2 hG hE0 hHl
 clear H
 -- the sets
 simp (maxSteps:=2000000) only [s56,↓Za,↓Zj,↓Zr,↓Ze,↓Zi,↓Zs,↓Zf,↓Zo,↓Zg,↓Zb,↓Zc,↓vdn,vup,Zh,Zn,Zl,Zm,Zk,List.map_cons,List.map_nil,cond_true,cond_false,aop,Zv,Zq,Zp,ev,sput,Zt,Zy,Ya,unK,Zd,Zw,Nat.reduceBEq,Nat.reduceAdd,Int.reduceBEq,Int.reduceBNe,Int.reduceLT,Zu,Zz,tup,tyf,Wi,Xh]
 rw [storeI (v:=.int .i64 0) (e:=3) (Yt _ _) Xc,hGl]
 obtain ⟨F,hF⟩ : ∃ F,F=(G++[Blk.cells [.int .i64 0] 3 false]).set (n+3) (.cells [.int .i64 1] 3 false):=⟨_,rfl⟩
 rw [← hF]
 have hFl:F.length=n+4:=by rw [hF]; simp [hGl]
 have oldF : ∀ {k B},G[k]? = some B→F[k]? = some B:=fun {k B} hk=>by
  have:=Yu hk
  rw [hF,List.getElem?_set_ne (by omega)]; exact Yp hk _
 have f3:F[n+3]? = some (.cells [.int .i64 1] 3 false):=by rw [hF]; exact Xf (by simp [hGl]) _
 have hEF:Ext (fun _=>False) h F:=⟨by omega,fun i hi _=>by rw [hF,List.getElem?_set_ne (by omega),List.getElem?_append_left (by omega)]; exact hEG.2 i hi id⟩
 have f0:=oldF g0
 have f1:=oldF g1
 have f2:=oldF g2
 clear g0 g1 g2 oldF hEG hF hGl
 clear G
 simp only [↓aw_loop_eq]
 refine Yn fun Q hQ=>?_
 refine aw_loop (γ:=Nat×Nat×Yb) (fun s=>1≤s.1∧s.1≤N0∧n+3≤s.2.1∧s.2.2[n]? = some (.cells (We o) 97 false)∧s.2.2[n+1]? = some (.ints (WS o s.1) 3 false)∧s.2.2[n+2]? = some (.cells [S] 27 false)∧s.2.2[s.2.1]? = some (.cells [Zx (s.1:Nat)] 3 false)∧Ext (fun _=>False) h s.2.2)
  (fun s=>([(0,ordV o),(1,.pointer (some ⟨n,0,none⟩)),(2,.int .i64 0),(3,.pointer (some ⟨n+2,0,none⟩)),(4,.pointer (some ⟨s.2.1,0,none⟩))],s.2.2)) (fun s=>N0-s.1) (1,n+3,F) ⟨Nat.le_refl _,by omega,Nat.le_refl _,f0,f1,f2,f3,hEF⟩ (by simp (maxSteps:=2000000) only [↓Za,↓Zj,↓Zr,↓Ze,↓Zi,↓Zs,↓Zf,↓Zo,↓Zg,↓Zb,↓Zc,↓vdn,vup,Zh,Zn,Zl,Zm,Zk,List.map_cons,List.map_nil,cond_true,cond_false,aop,Zv,Zq,Zp,ev,sput,Zt,Zy,Ya,unK,Zd,Zw,Nat.reduceBEq,Nat.reduceAdd,Int.reduceBEq,Int.reduceBNe,Int.reduceLT,Zu,Zz,tup,tyf,Int.natCast_one]) rfl ?_
 rintro ⟨s,b,hp⟩ ⟨hs1,hsN,hb,e0,e1,e2,e3,hE⟩
 simp only at hs1 hsN hb e0 e1 e2 e3 hE
 refine aw_hide fun Q2 hQ2=>?_
 have hbl:=Yu e3
 have hlE:=hE.1
 simp only [l56_1]
 simp (maxSteps:=2000000) only [s56,↓Za,↓Zj,↓Zr,↓Ze,↓Zi,↓Zs,↓Zf,↓Zo,↓Zg,↓Zb,↓Zc,↓vdn,vup,Zh,Zn,Zl,Zm,Zk,List.map_cons,List.map_nil,cond_true,cond_false,aop,Zv,Zq,Zp,ev,sput,Zt,Zy,Ya,unK,Zd,Zw,Nat.reduceBEq,Nat.reduceAdd,Int.reduceBEq,Int.reduceBNe,Int.reduceLT,Zu,Zz,tup,tyf]
 refine Xi [(2,1)] (by kernel_rfl) (by kernel_rfl) (by kernel_rfl) (by kernel_rfl) ?_
 simp (maxSteps:=2000000) only [s56,↓Za,↓Zj,↓Zr,↓Ze,↓Zi,↓Zs,↓Zf,↓Zo,↓Zg,↓Zb,↓Zc,↓vdn,vup,Zh,Zn,Zl,Zm,Zk,List.map_cons,List.map_nil,cond_true,cond_false,aop,Zv,Zq,Zp,ev,sput,Zt,Zy,Ya,unK,Zd,Zw,Nat.reduceBEq,Nat.reduceAdd,Int.reduceBEq,Int.reduceBNe,Int.reduceLT,Zu,Zz,tup,tyf,Xb e3 Xc,loadO e0 Xd hlen.2,Yz,List.nil_append,List.append_nil,List.toList_toArray,List.cons_append]
 refine ⟨_,_,all_call hlen.2,rfl,?_⟩
 by_cases hlast:s=N0
 · have hle : ¬ (s:Int)≤((2 ^ o.length-1:Nat):Int):=by omega
   simp (maxSteps:=2000000) only [s56,↓Za,↓Zj,↓Zr,↓Ze,↓Zi,↓Zs,↓Zf,↓Zo,↓Zg,↓Zb,↓Zc,↓vdn,vup,Zh,Zn,Zl,Zm,Zk,List.map_cons,List.map_nil,cond_true,cond_false,aop,Zv,Zq,Zp,ev,sput,Zt,Zy,Ya,unK,Zd,Zw,Nat.reduceBEq,Nat.reduceAdd,Int.reduceBEq,Int.reduceBNe,Int.reduceLT,Zu,Zz,tup,tyf,hle]
   refine hQ2 _ _ _ (hQ _ _ _ ?_)
   simp (maxSteps:=2000000) only [s56,↓Za,↓Zj,↓Zr,↓Ze,↓Zi,↓Zs,↓Zf,↓Zo,↓Zg,↓Zb,↓Zc,↓vdn,vup,Zh,Zn,Zl,Zm,Zk,List.map_cons,List.map_nil,cond_true,cond_false,aop,Zv,Zq,Zp,ev,sput,Zt,Zy,Ya,unK,Zd,Zw,Nat.reduceBEq,Nat.reduceAdd,Int.reduceBEq,Int.reduceBNe,Int.reduceLT,Zu,Zz,tup,tyf]
   refine Xi [(2,1)] (by kernel_rfl) (by kernel_rfl) (by kernel_rfl) (by kernel_rfl) ?_
   simp (maxSteps:=2000000) only [s56,↓Za,↓Zj,↓Zr,↓Ze,↓Zi,↓Zs,↓Zf,↓Zo,↓Zg,↓Zb,↓Zc,↓vdn,vup,Zh,Zn,Zl,Zm,Zk,List.map_cons,List.map_nil,cond_true,cond_false,aop,Zv,Zq,Zp,ev,sput,Zt,Zy,Ya,unK,Zd,Zw,Nat.reduceBEq,Nat.reduceAdd,Int.reduceBEq,Int.reduceBNe,Int.reduceLT,Zu,Zz,tup,tyf,Xb e2 Vq,loadO e0 Xd hlen.2,Yz,List.nil_append,List.append_nil,List.toList_toArray,List.cons_append]
   refine ⟨_,_,all_call hlen.2,rfl,?_⟩
   have hk:2 ^ o.length-1<N0:=by omega
   have hk2:2 ^ o.length-1<(WS o s).length:=by rw [WS_len]; omega
   have hget:(WS o s).getD (2 ^ o.length-1) 0=((cn o:Nat):Int):=by rw [WS_get (by omega) (by omega),cn_len ho]
   simp (maxSteps:=2000000) only [s56,↓Za,↓Zj,↓Zr,↓Ze,↓Zi,↓Zs,↓Zf,↓Zo,↓Zg,↓Zb,↓Zc,↓vdn,vup,Zh,Zn,Zl,Zm,Zk,List.map_cons,List.map_nil,cond_true,cond_false,aop,Zv,Zq,Zp,ev,sput,Zt,Zy,Ya,unK,Zd,Zw,Nat.reduceBEq,Nat.reduceAdd,Int.reduceBEq,Int.reduceBNe,Int.reduceLT,Zu,Zz,tup,tyf,hidx hk,loadX e1 Xc hk2,hget]
   exact hE
 have hs:s<64:=by omega
 have hle:(s:Int)≤((2 ^ o.length-1:Nat):Int):=by omega
 simp (maxSteps:=2000000) only [s56,↓Za,↓Zj,↓Zr,↓Ze,↓Zi,↓Zs,↓Zf,↓Zo,↓Zg,↓Zb,↓Zc,↓vdn,vup,Zh,Zn,Zl,Zm,Zk,List.map_cons,List.map_nil,cond_true,cond_false,aop,Zv,Zq,Zp,ev,sput,Zt,Zy,Ya,unK,Zd,Zw,Nat.reduceBEq,Nat.reduceAdd,Int.reduceBEq,Int.reduceBNe,Int.reduceLT,Zu,Zz,tup,tyf,hle,Xb e3 Xc,Yz,List.nil_append,List.append_nil,List.toList_toArray,List.cons_append]
 refine elements_call.mono ?_
 rintro _ _ ⟨rfl,rfl⟩
 have hWl:(WS o s).length=N0:=by rw [WS_len,hN0]
 refine aw_range Ob.bitIter (bx:=hp.length) (s:=s) (et:=3) rfl (Yt _ _) (by omega) (fun pre hk=>hk[n]? = some (.cells (We o) 97 false)∧hk[n+1]? = some (.ints ((WS o s).set s ((ps o s pre:Nat):Int)) 3 false)∧hk[n+2]? = some (.cells [S] 27 false)∧hk[b]? = some (.cells [Zx (s:Nat)] 3 false)∧Ext (fun i=>i=n+1) hp hk∧Ext (fun _=>False) h hk) ?_ ?_ ?_
 · have old : ∀ {k B},hp[k]? = some B→((hp++[Blk.cells [Zx (s:Nat)] 3 false]).set hp.length .dead)[k]? = some B:=fun {k B} hk=>by
    have:=Yu hk
    rw [List.getElem?_set_ne (by omega)]; exact Yp hk _
   refine ⟨old e0,?_,old e2,old e3,⟨by simp,fun j hj _=>?_⟩,⟨by simp; omega,fun j hj _=>?_⟩⟩
   · rw [show ps o s []=0 from rfl,Int.natCast_zero,WS_zero (by omega)]; exact old e1
   · rw [List.getElem?_set_ne (by omega),List.getElem?_append_left hj]
   · rw [List.getElem?_set_ne (by omega),List.getElem?_append_left (by omega)]; exact hE.2 j hj id
 · rintro pre x hk hpre ⟨k0,k1,k2,k3,hEk,hEh⟩
   obtain ⟨hx64,hxb⟩:=Vg.1 (mem_pre hpre)
   have hx6:x<o.length:=by
    rcases Nat.lt_or_ge x o.length with h | h
    · exact h
    · rw [Nat.testBit_lt_two_pow (Nat.lt_of_lt_of_le (show s<2 ^ o.length by omega) (Nat.pow_le_pow_right (by decide) h))] at hxb; cases hxb
   have hpl:pre.length≤64:=by
    obtain ⟨t,ht⟩:=hpre
    have h1:=bits_len6 hs
    have h2:=congrArg List.length ht
    simp only [List.length_append,List.length_singleton] at h2
    omega
   have hps:=ps_le (o:=o) hs pre
   have hdl:=dn_lt (o:=o) (i:=x)
   have hxn:=ord_nat ho hx6
   have hand1:=bitsV_andNot (a:=dn o x) (b:=s) (by omega) (by omega)
   have hand2:Vb .and .i64 (o.getD x 0) (s:Int)=((bt o x &&& s:Nat):Int):=by rw [hxn.1]; exact bitsV_and (by omega) (by omega)
   simp (maxSteps:=2000000) only [s56,↓Za,↓Zj,↓Zr,↓Ze,↓Zi,↓Zs,↓Zf,↓Zo,↓Zg,↓Zb,↓Zc,↓vdn,vup,Zh,Zn,Zl,Zm,Zk,List.map_cons,List.map_nil,cond_true,cond_false,aop,Zv,Zq,Zp,ev,sput,Zt,Zy,Ya,unK,Zd,Zw,Nat.reduceBEq,Nat.reduceAdd,Int.reduceBEq,Int.reduceBNe,Int.reduceLT,Zu,Zz,tup,tyf,r56_0_a,r56_0_b]
   refine Xi [(2,1)] (by kernel_rfl) (by kernel_rfl) (by kernel_rfl) (by kernel_rfl) ?_
   simp (maxSteps:=2000000) only [s56,↓Za,↓Zj,↓Zr,↓Ze,↓Zi,↓Zs,↓Zf,↓Zo,↓Zg,↓Zb,↓Zc,↓vdn,vup,Zh,Zn,Zl,Zm,Zk,List.map_cons,List.map_nil,cond_true,cond_false,aop,Zv,Zq,Zp,ev,sput,Zt,Zy,Ya,unK,Zd,Zw,Nat.reduceBEq,Nat.reduceAdd,Int.reduceBEq,Int.reduceBNe,Int.reduceLT,Zu,Zz,tup,tyf,loadO k0 Xd hlen.2,Yz,List.nil_append,List.append_nil,List.toList_toArray,List.cons_append]
   refine ⟨_,_,below_call ho,rfl,?_⟩
   by_cases hd1:less (dn o x) s=0
   · by_cases hd2:bt o x &&& s=0
     · have hok:okLast o s x=true:=by simp [okLast,hd1,hd2]
       have hlt:=less_bit_lt hxb
       have h2x:2 ^ x≤32:=Nat.pow_le_pow_right (n:=2) (j:=5) (by decide) (by omega)
       have hshl:shlV .i64 1 x=2 ^ x:=shl1 (by omega)
       have hand3:Vb .andNot .i64 (s:Int) (2 ^ x)=((less s (2 ^ x):Nat):Int):=by
        have:=bitsV_andNot (a:=s) (b:=2 ^ x) (by omega) (by omega)
        rw [pow_cast] at this; exact this
       have hi1:s<N0:=by omega
       have hi2:less s (2 ^ x)<N0:=by omega
       have hsl:s<((WS o s).set s ((ps o s pre:Nat):Int)).length:=by rw [List.length_set]; omega
       have hsl2:less s (2 ^ x)<((WS o s).set s ((ps o s pre:Nat):Int)).length:=by rw [List.length_set]; omega
       have hg1:((WS o s).set s ((ps o s pre:Nat):Int)).getD s 0=((ps o s pre:Nat):Int):=by
        rw [List.getD,List.getElem?_set_self (by omega)]; rfl
       have hg2:((WS o s).set s ((ps o s pre:Nat):Int)).getD (less s (2 ^ x)) 0=((W o (less s (2 ^ x)):Nat):Int):=by
        rw [List.getD,List.getElem?_set_ne (by omega)]; exact WS_get hlt (by omega)
       have hW:=W_le (o:=o) (s:=less s (2 ^ x)) (by omega)
       have hsum:addV .i64 ((ps o s pre:Nat):Int) ((W o (less s (2 ^ x)):Nat):Int)=((ps o s (pre++[x]):Nat):Int):=by
        rw [ps_snoc,if_pos hok,addV_id (by omega) (by omega)]; omega
       have hone2:(0:Nat)<1:=by decide
       simp (maxSteps:=2000000) only [s56,↓Za,↓Zj,↓Zr,↓Ze,↓Zi,↓Zs,↓Zf,↓Zo,↓Zg,↓Zb,↓Zc,↓vdn,vup,Zh,Zn,Zl,Zm,Zk,List.map_cons,List.map_nil,cond_true,cond_false,aop,Zv,Zq,Zp,ev,sput,Zt,Zy,Ya,unK,Zd,Zw,Nat.reduceBEq,Nat.reduceAdd,Int.reduceBEq,Int.reduceBNe,Int.reduceLT,Zu,Zz,tup,tyf,Xb k3 Xc,hand1,hd1,Int.natCast_zero,fldA Ve esz_95,idxA und_95 Wc (show x<6 by omega),loadI k0 Xc hlen.2 (show x<6 by omega),hand2,hd2]
       refine Xi [] (by kernel_rfl) (by kernel_rfl) (by kernel_rfl) (by kernel_rfl) ?_
       simp (maxSteps:=2000000) only [s56,↓Za,↓Zj,↓Zr,↓Ze,↓Zi,↓Zs,↓Zf,↓Zo,↓Zg,↓Zb,↓Zc,↓vdn,vup,Zh,Zn,Zl,Zm,Zk,List.map_cons,List.map_nil,cond_true,cond_false,aop,Zv,Zq,Zp,ev,sput,Zt,Zy,Ya,unK,Zd,Zw,Nat.reduceBEq,Nat.reduceAdd,Int.reduceBEq,Int.reduceBNe,Int.reduceLT,Zu,Zz,tup,tyf,Xb k2 Vq,Xb k3 Xc,hidx hi1,loadX k1 Xc hsl,hg1,hshl,hand3,hidx hi2,loadX k1 Xc hsl2,hg2,hsum,storeX k1 Xc hsl,List.set_set,rangeQ]
       have hlk:=Yu k1
       refine ⟨?_,Xf hlk _,?_,?_,?_,?_⟩
       · rw [List.getElem?_set_ne (by omega)]; exact k0
       · rw [List.getElem?_set_ne (by omega)]; exact k2
       · rw [List.getElem?_set_ne (by omega)]; exact k3
       · exact hEk.trans (Ext.set _ rfl)
       · exact ⟨by simp; exact hEh.1,fun j hj _=>by rw [List.getElem?_set_ne (by omega)]; exact hEh.2 j hj id⟩
     · have hok:okLast o s x=false:=by simp [okLast,hd2]
       have hne:(((bt o x &&& s:Nat):Int)==0)=false:=by rw [eq0,decide_eq_false hd2]
       simp (maxSteps:=2000000) only [s56,↓Za,↓Zj,↓Zr,↓Ze,↓Zi,↓Zs,↓Zf,↓Zo,↓Zg,↓Zb,↓Zc,↓vdn,vup,Zh,Zn,Zl,Zm,Zk,List.map_cons,List.map_nil,cond_true,cond_false,aop,Zv,Zq,Zp,ev,sput,Zt,Zy,Ya,unK,Zd,Zw,Nat.reduceBEq,Nat.reduceAdd,Int.reduceBEq,Int.reduceBNe,Int.reduceLT,Zu,Zz,tup,tyf,Xb k3 Xc,hand1,hd1,Int.natCast_zero,fldA Ve esz_95,idxA und_95 Wc (show x<6 by omega),loadI k0 Xc hlen.2 (show x<6 by omega),hand2,hne,rangeQ]
       refine ⟨k0,?_,k2,k3,hEk,hEh⟩
       rw [ps_snoc,if_neg (by rw [hok]; decide)]; exact k1
   · have hok:okLast o s x=false:=by simp [okLast,hd1]
     have hne:(((less (dn o x) s:Nat):Int)==0)=false:=by rw [eq0,decide_eq_false hd1]
     simp (maxSteps:=2000000) only [s56,↓Za,↓Zj,↓Zr,↓Ze,↓Zi,↓Zs,↓Zf,↓Zo,↓Zg,↓Zb,↓Zc,↓vdn,vup,Zh,Zn,Zl,Zm,Zk,List.map_cons,List.map_nil,cond_true,cond_false,aop,Zv,Zq,Zp,ev,sput,Zt,Zy,Ya,unK,Zd,Zw,Nat.reduceBEq,Nat.reduceAdd,Int.reduceBEq,Int.reduceBNe,Int.reduceLT,Zu,Zz,tup,tyf,Xb k3 Xc,hand1,hne,rangeQ]
     refine ⟨k0,?_,k2,k3,hEk,hEh⟩
     rw [ps_snoc,if_neg (by rw [hok]; decide)]; exact k1
 · rintro hk ⟨k0,k1,k2,k3,hEk,hEh⟩
   have hW:ps o s (Am.bits s)=W o s:=by rw [W_step (by omega) (by omega)]; rfl
   rw [hW,WS_set] at k1
   have hlk:=hEk.1
   simp (maxSteps:=2000000) only [s56,↓Za,↓Zj,↓Zr,↓Ze,↓Zi,↓Zs,↓Zf,↓Zo,↓Zg,↓Zb,↓Zc,↓vdn,vup,Zh,Zn,Zl,Zm,Zk,List.map_cons,List.map_nil,cond_true,cond_false,aop,Zv,Zq,Zp,ev,sput,Zt,Zy,Ya,unK,Zd,Zw,Nat.reduceBEq,Nat.reduceAdd,Int.reduceBEq,Int.reduceBNe,Int.reduceLT,Zu,Zz,tup,tyf,Xb k3 Xc,Wi,Xh]
   rw [storeI (v:=.int .i64 0) (e:=3) (Yt _ _) Xc]
   have j3:((hk++[Blk.cells [Value.int .i64 0] 3 false]).set hk.length (Blk.cells [.int .i64 (s:Int)] 3 false))[hk.length]? = some (Blk.cells [.int .i64 (s:Int)] 3 false):=Xf (by simp) _
   simp (maxSteps:=2000000) only [s56,↓Za,↓Zj,↓Zr,↓Ze,↓Zi,↓Zs,↓Zf,↓Zo,↓Zg,↓Zb,↓Zc,↓vdn,vup,Zh,Zn,Zl,Zm,Zk,List.map_cons,List.map_nil,cond_true,cond_false,aop,Zv,Zq,Zp,ev,sput,Zt,Zy,Ya,unK,Zd,Zw,Nat.reduceBEq,Nat.reduceAdd,Int.reduceBEq,Int.reduceBNe,Int.reduceLT,Zu,Zz,tup,tyf,Xb j3 Xc,add1 (show s<9223372036854775807 by omega),storeI j3 Xc,List.set_set]
   have old : ∀ {k B},hk[k]? = some B→((hk++[Blk.cells [Value.int .i64 0] 3 false]).set hk.length (Blk.cells [.int .i64 ((s+1:Nat):Int)] 3 false))[k]? = some B:=fun {k B} hk'=>by
    have:=Yu hk'
    rw [List.getElem?_set_ne (by omega)]; exact Yp hk' _
   refine hQ2 _ _ _ ⟨(s+1,hk.length,_),⟨by simp only; omega,by simp only; omega,by simp only; omega,old k0,old k1,old k2,Xf (by simp) _,⟨by simp; omega,fun j hj _=>?_⟩⟩,by simp only; omega,by simp (maxSteps:=2000000) only [↓Za,↓Zj,↓Zr,↓Ze,↓Zi,↓Zs,↓Zf,↓Zo,↓Zg,↓Zb,↓Zc,↓vdn,vup,Zh,Zn,Zl,Zm,Zk,List.map_cons,List.map_nil,cond_true,cond_false,aop,Zv,Zq,Zp,ev,sput,Zt,Zy,Ya,unK,Zd,Zw,Nat.reduceBEq,Nat.reduceAdd,Int.reduceBEq,Int.reduceBNe,Int.reduceLT,Zu,Zz,tup,tyf],rfl⟩
   have hEl:=hEh.1
   rw [List.getElem?_set_ne (by omega),List.getElem?_append_left (by omega)]; exact hEh.2 j hj id
end Go.Proofs.Tryd.Am.Or
namespace Go.Proofs.Tryd.Am.Or
open Go.Proofs.Tryd.Am
open Go.Am Ord
set_option maxRecDepth 100000
set_option maxHeartbeats 1000000
theorem clone_call [Tabs prog] {h:Yb} {v:Value} {xs:List Int} (hv:IntSl h v xs) (hl:xs.length<1099511627776):ACall prog 13 [v] h fun r h'=>IntSl h' r xs∧∃ g,h' = h++g:=by
 refine s13_call (by simp) ?_
 have hv':=hv
 rcases hv with ⟨rfl,rfl⟩ | ⟨b,o,sp,cap,c,e,ro,rfl,hc,hb,hx⟩
 · simp (maxSteps:=2000000) only [s13,↓Za,↓Zj,↓Zr,↓Ze,↓Zi,↓Zs,↓Zf,↓Zo,↓Zg,↓Zb,↓Zc,↓vdn,vup,Zh,Zn,Zl,Zm,Zk,List.map_cons,List.map_nil,cond_true,cond_false,aop,Zv,Zq,Zp,ev,sput,Zt,Zy,Ya,unK,Zd,Zw,Nat.reduceBEq,Nat.reduceAdd,Int.reduceBEq,Int.reduceBNe,Int.reduceLT,Zu,Zz,tup,tyf,Option.isSome_some]
   exact ⟨.inl ⟨rfl,rfl⟩,[],by rw [List.append_nil]⟩
 · simp (maxSteps:=2000000) only [s13,↓Za,↓Zj,↓Zr,↓Ze,↓Zi,↓Zs,↓Zf,↓Zo,↓Zg,↓Zb,↓Zc,↓vdn,vup,Zh,Zn,Zl,Zm,Zk,List.map_cons,List.map_nil,cond_true,cond_false,aop,Zv,Zq,Zp,ev,sput,Zt,Zy,Ya,unK,Zd,Zw,Nat.reduceBEq,Nat.reduceAdd,Int.reduceBEq,Int.reduceBNe,Int.reduceLT,Zu,Zz,tup,tyf,Option.isSome_some]
   simp only [Xm,el_27,zero_3,Wc,reps,fillL,mkb,Yx]
   refine And.intro rfl (And.intro Nat.zero_lt_one (And.intro (Nat.zero_le _) ?_))
   refine (hv'.grow [.ints [] 3 false]).copy app_27_27 hl (by rw [List.getElem?_append_right (Nat.le_refl _)]; simp) ?_
   intro r g hr _
   exact ⟨hr,_,List.append_assoc _ _ _⟩
theorem storeRd {h:Yb} {o:List Int} {K:Yb→Prop}:Xt prog (h++[Blk.cells (ordN 0) 97 false]) 97 (.pointer (some ⟨h.length,0,none⟩)) (rdV o) K=K ((h++[Blk.cells (ordN 0) 97 false]).set h.length (.cells (rdC o) 97 false)) :=
 storeA (c:=ordN 0) (Yt _ _) (by rw [Xd,rdC_len]) (rdC_one o) (by rw [rdC_len]; rfl)
theorem rdBox (h:Yb) (o:List Int):Ext (fun _=>False) h ((h++[Blk.cells (ordN 0) 97 false]).set h.length (.cells (rdC o) 97 false))∧((h++[Blk.cells (ordN 0) 97 false]).set h.length (.cells (rdC o) 97 false))[h.length]? = some (.cells (rdC o) 97 false) :=
 ⟨⟨by simp,fun i hi _=>by rw [List.getElem?_set_ne (by omega),List.getElem?_append_left hi]⟩,Xf (by simp) _⟩
def countV (o:List Int):Value:=if ord o=true then .tuple #[Zx (cn o:Nat),.int .i64 0] else .tuple #[.int .i64 0,.int .i64 2]
theorem count_call [BitTab prog 0] {h:Yb} {v:Value} {o:List Int} (hv:IntSl h v o) (hl:o.length<9223372036854775808) (hx : ∀ x∈o,-9223372036854775808≤x∧x<9223372036854775808):APure prog 18 [v] h (countV o):=by
 have hlow:Low (countV o):=by unfold countV; split <;> exact .pair (.int _ _) (.int _ _)
 refine ACall.forget hlow ?_
 refine s18_call (by simp) ?_
 simp only [s18]
 simp (maxSteps:=2000000) only [s18,↓Za,↓Zj,↓Zr,↓Ze,↓Zi,↓Zs,↓Zf,↓Zo,↓Zg,↓Zb,↓Zc,↓vdn,vup,Zh,Zn,Zl,Zm,Zk,List.map_cons,List.map_nil,cond_true,cond_false,aop,Zv,Zq,Zp,ev,sput,Zt,Zy,Ya,unK,Zd,Zw,Nat.reduceBEq,Nat.reduceAdd,Int.reduceBEq,Int.reduceBNe,Int.reduceLT,Zu,Zz,tup,tyf,Yz,List.nil_append,List.append_nil,List.toList_toArray,List.cons_append]
 refine (read_call hv hl hx).mono ?_
 rintro _ g ⟨rfl,rfl⟩
 simp (maxSteps:=2000000) only [s18,↓Za,↓Zj,↓Zr,↓Ze,↓Zi,↓Zs,↓Zf,↓Zo,↓Zg,↓Zb,↓Zc,↓vdn,vup,Zh,Zn,Zl,Zm,Zk,List.map_cons,List.map_nil,cond_true,cond_false,aop,Zv,Zq,Zp,ev,sput,Zt,Zy,Ya,unK,Zd,Zw,Nat.reduceBEq,Nat.reduceAdd,Int.reduceBEq,Int.reduceBNe,Int.reduceLT,Zu,Zz,tup,tyf,Wi,Xh,zeroN,zero_97]
 rw [storeRd]
 obtain ⟨hE,hb⟩:=rdBox g o
 generalize hgl:g.length=gl at hE hb ⊢
 generalize (g++[Blk.cells (ordN 0) 97 false]).set gl (.cells (rdC o) 97 false)=G at hE hb ⊢
 cases ho:ord o with
 | false =>
   simp (maxSteps:=2000000) only [s18,↓Za,↓Zj,↓Zr,↓Ze,↓Zi,↓Zs,↓Zf,↓Zo,↓Zg,↓Zb,↓Zc,↓vdn,vup,Zh,Zn,Zl,Zm,Zk,List.map_cons,List.map_nil,cond_true,cond_false,aop,Zv,Zq,Zp,ev,sput,Zt,Zy,Ya,unK,Zd,Zw,Nat.reduceBEq,Nat.reduceAdd,Int.reduceBEq,Int.reduceBNe,Int.reduceLT,Zu,Zz,tup,tyf,ho]
   rw [countV,ho]
   exact ⟨rfl,hE⟩
 | true =>
   have hrd:rdC o=We o:=if_pos (Xq ho)
   rw [hrd] at hb
   simp (maxSteps:=2000000) only [s18,↓Za,↓Zj,↓Zr,↓Ze,↓Zi,↓Zs,↓Zf,↓Zo,↓Zg,↓Zb,↓Zc,↓vdn,vup,Zh,Zn,Zl,Zm,Zk,List.map_cons,List.map_nil,cond_true,cond_false,aop,Zv,Zq,Zp,ev,sput,Zt,Zy,Ya,unK,Zd,Zw,Nat.reduceBEq,Nat.reduceAdd,Int.reduceBEq,Int.reduceBNe,Int.reduceLT,Zu,Zz,tup,tyf,ho,loadO hb Xd (Xq ho).2,Yz,List.nil_append,List.append_nil,List.toList_toArray,List.cons_append]
   refine (Va ho).mono ?_
   rintro _ _ ⟨rfl,rfl⟩
   rw [countV,ho]
   exact ⟨rfl,hE⟩
theorem lit2 {h:Yb} {x y:Int} (K:Value→Yb→Prop):Xm prog h 27 2 [(0,Zx x),(1,Zx y)] K=K (.slice (some ⟨h.length,0,none⟩) 2 2) (h++[.ints [x,y] 3 false]):=by
 simp only [Xm,el_27,zero_3,Wc,reps,fillL,mkb,Yx,Ww,cellsOf,List.length_singleton,Nat.mul_one,Nat.zero_mul,Nat.zero_add]
 exact propext ⟨fun h=>h.2.2.2,fun h=>⟨trivial,Nat.zero_lt_one,by decide,h⟩⟩
theorem litSl {h:Yb} {xs:List Int}:IntSl (h++[.ints xs 3 false]) (.slice (some ⟨h.length,0,none⟩) xs.length xs.length) xs :=
 .inr ⟨h.length,0,none,xs.length,xs.map Zx,3,false,rfl,Nat.le_refl _,by simp [view,Blk.view],fun i hi=>by simp [List.getD,hi]⟩
theorem awake_call [BitTab prog 0] {h:Yb}:APure prog 17 [] h (.bool true):=by
 have hc:countV [0,0] = .tuple #[Zx 2,.int .i64 0]:=by
  have h1:ord [0,0]=true:=by decide
  have h2:cn [0,0]=2:=by decide
  rw [countV,h1,if_pos rfl,h2]; rfl
 refine ACall.forget (Low.bool _) ?_
 refine s17_call (by simp) ?_
 simp (maxSteps:=2000000) only [s17,↓Za,↓Zj,↓Zr,↓Ze,↓Zi,↓Zs,↓Zf,↓Zo,↓Zg,↓Zb,↓Zc,↓vdn,vup,Zh,Zn,Zl,Zm,Zk,List.map_cons,List.map_nil,cond_true,cond_false,aop,Zv,Zq,Zp,ev,sput,Zt,Zy,Ya,unK,Zd,Zw,Nat.reduceBEq,Nat.reduceAdd,Int.reduceBEq,Int.reduceBNe,Int.reduceLT,Zu,Zz,tup,tyf,lit2,Yz,List.nil_append,List.append_nil,List.toList_toArray,List.cons_append]
 refine (count_call (o:=[0,0]) litSl (by decide) (by decide)).mono ?_
 rintro _ _ ⟨rfl,rfl⟩
 rw [hc]
 simp (maxSteps:=2000000) only [s17,↓Za,↓Zj,↓Zr,↓Ze,↓Zi,↓Zs,↓Zf,↓Zo,↓Zg,↓Zb,↓Zc,↓vdn,vup,Zh,Zn,Zl,Zm,Zk,List.map_cons,List.map_nil,cond_true,cond_false,aop,Zv,Zq,Zp,ev,sput,Zt,Zy,Ya,unK,Zd,Zw,Nat.reduceBEq,Nat.reduceAdd,Int.reduceBEq,Int.reduceBNe,Int.reduceLT,Zu,Zz,tup,tyf]
 exact Ext.app _ _ _
def growL (o:List Int) (u:Nat) (pre:List Nat):List Int:=(List.range o.length).map fun k=>if k∈pre then ((bt o k ||| u:Nat):Int) else o.getD k 0
theorem growL_len {o:List Int} {u:Nat} {pre:List Nat}:(growL o u pre).length=o.length:=by simp [growL]
theorem growL_nil {o:List Int} {u:Nat}:growL o u []=o:=by
 refine List.ext_getElem (by simp [growL]) fun i h1 h2=>?_
 simp [growL,List.getD,h2]
theorem growL_snoc {o:List Int} {u x:Nat} {pre:List Nat} (hx:x<o.length):(growL o u pre).set x ((bt o x ||| u:Nat):Int)=growL o u (pre++[x]):=by
 refine List.ext_getElem (by simp [growL]) fun i h1 h2=>?_
 rw [List.getElem_set]
 by_cases hi:x=i
 · subst hi; simp [growL]
 · rw [if_neg hi]
   simp [growL,Ne.symm hi]
theorem growL_get {o:List Int} {u x:Nat} {pre:List Nat} (hx:x<o.length) (hn:x ∉ pre):(growL o u pre).getD x 0=o.getD x 0:=by
 rw [growL,getD_map,if_pos hx,if_neg hn]
theorem growL_add {o:List Int} (ho:ord o=true) {i j:Nat} (hi:i<o.length):growL o (bt o j ||| 2 ^ j) (Am.bits (dn o i ||| 2 ^ i))=addL o i j:=by
 rw [growL,addL]
 refine List.map_congr_left fun k hk=>?_
 have hk':=List.mem_range.1 hk
 have hl:=Xq ho
 have:k∈Am.bits (dn o i ||| 2 ^ i)↔(k=i∨ab o k i=true):=by
  rw [Vg,Nat.testBit_or,Nat.testBit_two_pow,dn_bit' ho,Bool.or_eq_true,decide_eq_true_eq]
  constructor
  · rintro ⟨_,h | h⟩
    · exact .inr h
    · exact .inl h.symm
  · rintro (h | h)
    · exact ⟨by omega,.inr h.symm⟩
    · exact ⟨by omega,.inl h⟩
 by_cases h:k=i∨ab o k i=true
 · rw [if_pos h,if_pos (this.2 h)]
 · rw [if_neg h,if_neg (fun h'=>h (this.1 h'))]
theorem add_call [BitTab prog 0] {h:Yb} {o:List Int} (ho:ord o=true) {i j:Nat} (hi:i<o.length) (hj:j<o.length):APure prog 110 [ordV o,Zx i,Zx j] h (ordV (addL o i j)):=by
 have hl:=Xq ho
 have hpw:=pow6 hl.2
 obtain ⟨hjn,hjl⟩:=ord_nat ho hj
 have h2j:2 ^ j<2 ^ o.length:=Nat.pow_lt_pow_right (by decide) hj
 have h2i:2 ^ i<2 ^ o.length:=Nat.pow_lt_pow_right (by decide) hi
 have hul:=Nat.or_lt_two_pow hjl h2j
 obtain ⟨u,hu⟩ : ∃ u,u=bt o j ||| 2 ^ j:=⟨_,rfl⟩
 rw [← hu] at hul
 have hor:Vb .or .i64 (o.getD j 0) (2 ^ j)=((u:Nat):Int):=by
  have:=bitsV_or (a:=bt o j) (b:=2 ^ j) (by omega) (by omega)
  rw [← hjn,pow_cast,← hu] at this; exact this
 refine ACall.forget (Low.ordV _) ?_
 refine s110_call (by simp) ?_
 simp only [s110]
 refine aw_cut fun N hN=>?_
 simp (maxSteps:=2000000) only [s110,↓Za,↓Zj,↓Zr,↓Ze,↓Zi,↓Zs,↓Zf,↓Zo,↓Zg,↓Zb,↓Zc,↓vdn,vup,Zh,Zn,Zl,Zm,Zk,List.map_cons,List.map_nil,cond_true,cond_false,aop,Zv,Zq,Zp,ev,sput,Zt,Zy,Ya,unK,Zd,Zw,Nat.reduceBEq,Nat.reduceAdd,Int.reduceBEq,Int.reduceBNe,Int.reduceLT,Zu,Zz,tup,tyf,boxO esz_97,Xh,Wi,zeroN]
 refine hN _ _ ?_
 clear hN N
 obtain ⟨n,hn⟩ : ∃ n,n=h.length:=⟨_,rfl⟩
 obtain ⟨H,hH⟩ : ∃ H,H=h++[Blk.cells (We o) 97 false]++[Blk.cells (ordN 0) 97 false]:=⟨_,rfl⟩
 rw [← hH]
 simp only [List.length_append,List.length_cons,List.length_nil,Nat.zero_add,← hn]
 have hHl:H.length=n+2:=by rw [hH,hn]; simp
 have b0:H[n]? = some (.cells (We o) 97 false):=by rw [hH,hn]; exact Yp (Yt _ _) _
 have b1:H[n+1]? = some (.cells (ordN 0) 97 false):=by
  rw [hH,hn]; have:=Yt (h++[Blk.cells (We o) 97 false]) (Blk.cells (ordN 0) 97 false)
  simpa using this
 have hE0:Ext (fun _=>False) h H:=by rw [hH,List.append_assoc]; exact Ext.app _ _ _
 clear hH
 refine aw_cut fun N hN=>?_
 refine aw_drawR (fun hp=>hp[n]? = some (.cells (We o) 97 false)) [(3,5)] (by kernel_rfl) (by kernel_rfl) (by kernel_rfl) (by kernel_rfl) b0 ?_
 simp (maxSteps:=2000000) only [s110,↓Za,↓Zj,↓Zr,↓Ze,↓Zi,↓Zs,↓Zf,↓Zo,↓Zg,↓Zb,↓Zc,↓vdn,vup,Zh,Zn,Zl,Zm,Zk,List.map_cons,List.map_nil,cond_true,cond_false,aop,Zv,Zq,Zp,ev,sput,Zt,Zy,Ya,unK,Zd,Zw,Nat.reduceBEq,Nat.reduceAdd,Int.reduceBEq,Int.reduceBNe,Int.reduceLT,Zu,Zz,tup,tyf,fldA Ve esz_95,idxA und_95 Wc (show j<6 by omega),shl1 (show j≤62 by omega),Wi,Xh]
 refine ⟨Zx (o.getD j 0),fun h0 hk=>?_,?_⟩
 · rw [loadI hk Xc hl.2 (show j<6 by omega)]
 simp (maxSteps:=2000000) only [s110,↓Za,↓Zj,↓Zr,↓Ze,↓Zi,↓Zs,↓Zf,↓Zo,↓Zg,↓Zb,↓Zc,↓vdn,vup,Zh,Zn,Zl,Zm,Zk,List.map_cons,List.map_nil,cond_true,cond_false,aop,Zv,Zq,Zp,ev,sput,Zt,Zy,Ya,unK,Zd,Zw,Nat.reduceBEq,Nat.reduceAdd,Int.reduceBEq,Int.reduceBNe,Int.reduceLT,Zu,Zz,tup,tyf,hor]
 refine ⟨Yp b0 _,?_⟩
 rw [storeI (v:=.int .i64 0) (e:=3) (Yt _ _) Xc,hHl]
 obtain ⟨G,hG⟩ : ∃ G,G=(H++[Blk.cells [Value.int .i64 0] 3 false]).set (n+2) (.cells [.int .i64 ((u:Nat):Int)] 3 false):=⟨_,rfl⟩
 rw [← hG]
 have hGl:G.length=n+3:=by rw [hG]; simp [hHl]
 have g0:G[n]? = some (.cells (We o) 97 false):=by rw [hG,List.getElem?_set_ne (by omega)]; exact Yp b0 _
 have g1:G[n+1]? = some (.cells (ordN 0) 97 false):=by rw [hG,List.getElem?_set_ne (by omega)]; exact Yp b1 _
 have g2:G[n+2]? = some (.cells [Zx (u:Nat)] 3 false):=by rw [hG]; exact Xf (by simp [hHl]) _
 have hEG:Ext (fun _=>False) h G:=⟨by omega,fun k hk _=>by rw [hG,List.getElem?_set_ne (by omega),List.getElem?_append_left (by omega)]; exact hE0.2 k hk id⟩
 clear hG b0 b1 hE0 hHl
 clear H
 refine ⟨g0,?_⟩
 refine hN _ _ ?_
 clear hN N
 have hdl:=dn_lt (o:=o) (i:=i)
 have hor2:Vb .or .i64 ((dn o i:Nat):Int) (2 ^ i)=((dn o i ||| 2 ^ i:Nat):Int):=by
  rw [← pow_cast]; exact bitsV_or (by omega) (by omega)
 simp (maxSteps:=2000000) only [s110,↓Za,↓Zj,↓Zr,↓Ze,↓Zi,↓Zs,↓Zf,↓Zo,↓Zg,↓Zb,↓Zc,↓vdn,vup,Zh,Zn,Zl,Zm,Zk,List.map_cons,List.map_nil,cond_true,cond_false,aop,Zv,Zq,Zp,ev,sput,Zt,Zy,Ya,unK,Zd,Zw,Nat.reduceBEq,Nat.reduceAdd,Int.reduceBEq,Int.reduceBNe,Int.reduceLT,Zu,Zz,tup,tyf]
 refine Xi [(2,1)] (by kernel_rfl) (by kernel_rfl) (by kernel_rfl) (by kernel_rfl) ?_
 simp (maxSteps:=2000000) only [s110,↓Za,↓Zj,↓Zr,↓Ze,↓Zi,↓Zs,↓Zf,↓Zo,↓Zg,↓Zb,↓Zc,↓vdn,vup,Zh,Zn,Zl,Zm,Zk,List.map_cons,List.map_nil,cond_true,cond_false,aop,Zv,Zq,Zp,ev,sput,Zt,Zy,Ya,unK,Zd,Zw,Nat.reduceBEq,Nat.reduceAdd,Int.reduceBEq,Int.reduceBNe,Int.reduceLT,Zu,Zz,tup,tyf,loadO g0 Xd hl.2,Yz,List.nil_append,List.append_nil,List.toList_toArray,List.cons_append]
 refine ⟨_,_,below_call ho,rfl,?_⟩
 simp (maxSteps:=2000000) only [s110,↓Za,↓Zj,↓Zr,↓Ze,↓Zi,↓Zs,↓Zf,↓Zo,↓Zg,↓Zb,↓Zc,↓vdn,vup,Zh,Zn,Zl,Zm,Zk,List.map_cons,List.map_nil,cond_true,cond_false,aop,Zv,Zq,Zp,ev,sput,Zt,Zy,Ya,unK,Zd,Zw,Nat.reduceBEq,Nat.reduceAdd,Int.reduceBEq,Int.reduceBNe,Int.reduceLT,Zu,Zz,tup,tyf,shl1 (show i≤62 by omega),hor2,Yz,List.nil_append,List.append_nil,List.toList_toArray,List.cons_append]
 refine ⟨_,_,elements_call,?_⟩
 have hsl:=Nat.or_lt_two_pow hdl h2i
 refine aw_range Ob.bitIter (bx:=G.length) (s:=dn o i ||| 2 ^ i) (et:=3) rfl (Yt _ _) (by omega) (fun pre hk=>hk[n]? = some (.cells (We (growL o u pre)) 97 false)∧hk[n+1]? = some (.cells (ordN 0) 97 false)∧hk[n+2]? = some (.cells [Zx (u:Nat)] 3 false)∧Ext (fun _=>False) h hk) ?_ ?_ ?_
 · have old : ∀ {k B},G[k]? = some B→((G++[Blk.cells [Zx ((dn o i ||| 2 ^ i:Nat):Int)] 3 false]).set G.length .dead)[k]? = some B:=fun {k B} hk=>by
    have:=Yu hk
    rw [List.getElem?_set_ne (by omega)]; exact Yp hk _
   refine ⟨by rw [growL_nil]; exact old g0,old g1,old g2,⟨by simp; omega,fun k hk _=>?_⟩⟩
   rw [List.getElem?_set_ne (by omega),List.getElem?_append_left (by omega)]; exact hEG.2 k hk id
 · rintro pre x hk hpre ⟨k0,k1,k2,hEk⟩
   obtain ⟨hx64,hxb⟩:=Vg.1 (mem_pre hpre)
   have hxn:x<o.length:=by
    rcases Nat.lt_or_ge x o.length with h | h
    · exact h
    · rw [Nat.testBit_lt_two_pow (Nat.lt_of_lt_of_le hsl (Nat.pow_le_pow_right (by decide) h))] at hxb; cases hxb
   have hnp:x ∉ pre:=fun hx=>by
    obtain ⟨t,ht⟩:=hpre
    have hnd:=bits_nodup (dn o i ||| 2 ^ i)
    rw [← ht] at hnd
    have:=(List.nodup_append.1 (List.nodup_append.1 hnd).1).2.2 x hx x (by simp)
    exact this rfl
   have hgl:(growL o u pre).length≤6:=by rw [growL_len]; exact hl.2
   obtain ⟨hxv,hxl⟩:=ord_nat ho hxn
   have hor3:Vb .or .i64 ((growL o u pre).getD x 0) ((u:Nat):Int)=((bt o x ||| u:Nat):Int):=by
    rw [growL_get hxn hnp,hxv]; exact bitsV_or (by omega) (by omega)
   simp (maxSteps:=2000000) only [s110,↓Za,↓Zj,↓Zr,↓Ze,↓Zi,↓Zs,↓Zf,↓Zo,↓Zg,↓Zb,↓Zc,↓vdn,vup,Zh,Zn,Zl,Zm,Zk,List.map_cons,List.map_nil,cond_true,cond_false,aop,Zv,Zq,Zp,ev,sput,Zt,Zy,Ya,unK,Zd,Zw,Nat.reduceBEq,Nat.reduceAdd,Int.reduceBEq,Int.reduceBNe,Int.reduceLT,Zu,Zz,tup,tyf,r110_0_a,r110_0_b]
   refine Xi [] (by kernel_rfl) (by kernel_rfl) (by kernel_rfl) (by kernel_rfl) ?_
   simp (maxSteps:=2000000) only [s110,↓Za,↓Zj,↓Zr,↓Ze,↓Zi,↓Zs,↓Zf,↓Zo,↓Zg,↓Zb,↓Zc,↓vdn,vup,Zh,Zn,Zl,Zm,Zk,List.map_cons,List.map_nil,cond_true,cond_false,aop,Zv,Zq,Zp,ev,sput,Zt,Zy,Ya,unK,Zd,Zw,Nat.reduceBEq,Nat.reduceAdd,Int.reduceBEq,Int.reduceBNe,Int.reduceLT,Zu,Zz,tup,tyf,fldA Ve esz_95,idxA und_95 Wc (show x<6 by omega),loadI k0 Xc hgl (show x<6 by omega),Xb k2 Xc,hor3]
   rw [storeN k0 Xc hgl (by rw [growL_len]; exact hxn),growL_snoc hxn]
   have hlk:=Yu k0
   refine ⟨Xf hlk _,?_,?_,⟨by simp; exact hEk.1,fun k hk' _=>?_⟩⟩
   · rw [List.getElem?_set_ne (by omega)]; exact k1
   · rw [List.getElem?_set_ne (by omega)]; exact k2
   · rw [List.getElem?_set_ne (by omega)]; exact hEk.2 k hk' id
 · rintro hk ⟨k0,k1,k2,hEk⟩
   rw [hu,growL_add ho hi] at k0
   have hal:(addL o i j).length≤6:=by rw [addL_len]; exact hl.2
   have hlk:=Yu k1
   have k1' : (hk.set (n+1) (.cells (We (addL o i j)) 97 false))[n+1]? = some (.cells (We (addL o i j)) 97 false):=Xf hlk _
   simp (maxSteps:=2000000) only [s110,↓Za,↓Zj,↓Zr,↓Ze,↓Zi,↓Zs,↓Zf,↓Zo,↓Zg,↓Zb,↓Zc,↓vdn,vup,Zh,Zn,Zl,Zm,Zk,List.map_cons,List.map_nil,cond_true,cond_false,aop,Zv,Zq,Zp,ev,sput,Zt,Zy,Ya,unK,Zd,Zw,Nat.reduceBEq,Nat.reduceAdd,Int.reduceBEq,Int.reduceBNe,Int.reduceLT,Zu,Zz,tup,tyf,loadO k0 Xd hal]
   rw [storeO k1 rfl Xd hal]
   simp (maxSteps:=2000000) only [s110,↓Za,↓Zj,↓Zr,↓Ze,↓Zi,↓Zs,↓Zf,↓Zo,↓Zg,↓Zb,↓Zc,↓vdn,vup,Zh,Zn,Zl,Zm,Zk,List.map_cons,List.map_nil,cond_true,cond_false,aop,Zv,Zq,Zp,ev,sput,Zt,Zy,Ya,unK,Zd,Zw,Nat.reduceBEq,Nat.reduceAdd,Int.reduceBEq,Int.reduceBNe,Int.reduceLT,Zu,Zz,tup,tyf,loadO k1' Xd hal]
   exact ⟨by simp; exact hEk.1,fun k hk' _=>by rw [List.getElem?_set_ne (by omega)]; exact hEk.2 k hk' id⟩
end Go.Proofs.Tryd.Am.Or
namespace Go.Proofs.Tryd.Am.Or
open Go.Proofs.Tryd.Am
open Go.Am Ord
set_option maxRecDepth 100000
set_option maxHeartbeats 1000000
end Go.Proofs.Tryd.Am.Or
namespace Ord
open Go.Am
def befN (o:List Int) (i j:Nat):Nat:=if ab o i j=true then cn o else if fr o i j=true then cn (addL o i j) else 0
def allLines (o:List Int):List (List Nat):=lines (ab o) o.length (List.range o.length)
theorem allLines_len (o:List Int):(allLines o).length=cn o:=by rw [allLines,cnt_len]; rfl
theorem mem_all {o:List Int} (h:ord o=true) {l:List Nat}:l∈allLines o↔l.Perm (List.range o.length)∧l.Pairwise fun a b=>ab o b a=false:=by
 rw [allLines,Vo (ord_po h).irr (by simp)]
theorem befN_eq {o:List Int} (h:ord o=true) {i j:Nat} (hi:i<o.length) (hj:j<o.length) (hn:i≠j):befN o i j=((allLines o).filter fun l=>bef l i j).length:=by
 have hmem : ∀ l,l∈allLines o→l.Nodup∧i∈l∧j∈l∧∀ a∈l,∀ b∈l,bef l a b=true→ab o b a=false:=fun l hl=>by
  obtain ⟨hp,hw⟩:=(mem_all h).1 hl
  have hnd:l.Nodup:=hp.nodup_iff.2 List.nodup_range
  exact ⟨hnd,hp.mem_iff.2 (List.mem_range.2 hi),hp.mem_iff.2 (List.mem_range.2 hj),(bef_pw hnd).1 hw⟩
 rw [befN]
 split
 · next hij =>
   rw [List.filter_eq_self.2,allLines_len]
   intro l hl
   obtain ⟨h1,h2,h3,h4⟩:=hmem l hl
   cases e:bef l i j with
   | true=>rfl
   | false =>
     have:=h4 j h3 i h2 (by rw [bef_not h2 h3 hn,e]; rfl)
     rw [hij] at this; cases this
 · next hij =>
   split
   · next hf =>
     simp only [fr,Bool.and_eq_true,decide_eq_true_eq,Bool.not_eq_true'] at hf
     rw [cn,addL_len,addL_ab hi h]
     have:=cnt_add (ord_po h) hn hf.2 (S:=List.range o.length) List.nodup_range (List.mem_range.2 hi) (List.mem_range.2 hj)
     rw [List.length_range] at this
     exact this
   · next hf =>
     have hji:ab o j i=true:=by
      cases e:ab o j i with
      | true=>rfl
      | false =>
        simp only [Bool.not_eq_true] at hij
        exact absurd (by simp [fr,hn,hij,e]) hf
     rw [eq_comm,List.length_eq_zero_iff,List.filter_eq_nil_iff]
     intro l hl hb
     obtain ⟨h1,h2,h3,h4⟩:=hmem l hl
     have:=h4 i h2 j h3 hb
     rw [hji] at this; cases this
theorem befN_two {o:List Int} (h:ord o=true) {i j:Nat} (hi:i<o.length) (hj:j<o.length) (hn:i≠j):befN o i j+befN o j i=cn o:=by
 rw [befN_eq h hi hj hn,befN_eq h hj hi (Ne.symm hn),← allLines_len]
 have e:((allLines o).filter fun l=>bef l j i)=(allLines o).filter fun l=>!bef l i j:=by
  refine List.filter_congr fun l hl=>?_
  obtain ⟨hp,-⟩:=(mem_all h).1 hl
  exact bef_not (hp.mem_iff.2 (List.mem_range.2 hi)) (hp.mem_iff.2 (List.mem_range.2 hj)) hn
 rw [e]
 generalize allLines o=L
 clear e
 induction L with
 | nil=>rfl
 | cons x L ih =>
   simp only [List.filter_cons,List.length_cons]
   cases bef x i j <;> simp <;> omega
def hsum (o:List Int) (i:Nat):Nat:=(((List.range o.length).filter fun j=>decide (j≠i)).map fun j=>befN o j i).sum
end Ord
namespace Go.Proofs.Tryd.Am.Or
open Go.Proofs.Tryd.Am
open Go.Am Ord
set_option maxRecDepth 100000
set_option maxHeartbeats 1000000
theorem before_call [BitTab prog 0] {h:Yb} {o:List Int} (ho:ord o=true) {i j:Nat} (hi:i<o.length) (hj:j<o.length):APure prog 63 [ordV o,Zx i,Zx j] h (Zx (befN o i j:Nat)):=by
 have hl:=Xq ho
 refine ACall.forget (Low.int _ _) ?_
 refine s63_call (by simp) ?_
 simp only [s63]
 refine aw_cut fun N hN=>?_
 simp (maxSteps:=2000000) only [s63,↓Za,↓Zj,↓Zr,↓Ze,↓Zi,↓Zs,↓Zf,↓Zo,↓Zg,↓Zb,↓Zc,↓vdn,vup,Zh,Zn,Zl,Zm,Zk,List.map_cons,List.map_nil,cond_true,cond_false,aop,Zv,Zq,Zp,ev,sput,Zt,Zy,Ya,unK,Zd,Zw,Nat.reduceBEq,Nat.reduceAdd,Int.reduceBEq,Int.reduceBNe,Int.reduceLT,Zu,Zz,tup,tyf,boxO esz_97,Xh]
 refine hN _ _ ?_
 clear hN N
 have b0:=Yt h (Blk.cells (We o) 97 false)
 have hE:Ext (fun _=>False) h (h++[Blk.cells (We o) 97 false]):=Ext.app _ _ _
 generalize h++[Blk.cells (We o) 97 false]=H at b0 hE ⊢
 cases hab:ab o i j with
 | true =>
   have hb:befN o i j=cn o:=by rw [befN,if_pos hab]
   simp (maxSteps:=2000000) only [s63,↓Za,↓Zj,↓Zr,↓Ze,↓Zi,↓Zs,↓Zf,↓Zo,↓Zg,↓Zb,↓Zc,↓vdn,vup,Zh,Zn,Zl,Zm,Zk,List.map_cons,List.map_nil,cond_true,cond_false,aop,Zv,Zq,Zp,ev,sput,Zt,Zy,Ya,unK,Zd,Zw,Nat.reduceBEq,Nat.reduceAdd,Int.reduceBEq,Int.reduceBNe,Int.reduceLT,Zu,Zz,tup,tyf,fldA Ve esz_95,idxA und_95 Wc (show i<6 by omega),loadI b0 Xc hl.2 (show i<6 by omega),testO ho hi,hab,if_true,if_false,Bool.false_eq_true,Int.reduceBEq,loadO b0 Xd hl.2,Yz,List.nil_append,List.append_nil,List.toList_toArray,List.cons_append]
   refine (Va ho).mono ?_
   rintro _ _ ⟨rfl,rfl⟩
   exact ⟨by rw [hb],hE⟩
 | false =>
   simp (maxSteps:=2000000) only [s63,↓Za,↓Zj,↓Zr,↓Ze,↓Zi,↓Zs,↓Zf,↓Zo,↓Zg,↓Zb,↓Zc,↓vdn,vup,Zh,Zn,Zl,Zm,Zk,List.map_cons,List.map_nil,cond_true,cond_false,aop,Zv,Zq,Zp,ev,sput,Zt,Zy,Ya,unK,Zd,Zw,Nat.reduceBEq,Nat.reduceAdd,Int.reduceBEq,Int.reduceBNe,Int.reduceLT,Zu,Zz,tup,tyf,fldA Ve esz_95,idxA und_95 Wc (show i<6 by omega),loadI b0 Xc hl.2 (show i<6 by omega),testO ho hi,hab,if_true,if_false,Bool.false_eq_true,Int.reduceBEq,loadO b0 Xd hl.2,Yz,List.nil_append,List.append_nil,List.toList_toArray,List.cons_append]
   refine (free_call ho hi hj).mono ?_
   rintro _ _ ⟨rfl,rfl⟩
   cases hf:fr o i j with
   | false =>
     have hb:befN o i j=0:=by rw [befN,if_neg (by rw [hab]; decide),if_neg (by rw [hf]; decide)]
     simp (maxSteps:=2000000) only [s63,↓Za,↓Zj,↓Zr,↓Ze,↓Zi,↓Zs,↓Zf,↓Zo,↓Zg,↓Zb,↓Zc,↓vdn,vup,Zh,Zn,Zl,Zm,Zk,List.map_cons,List.map_nil,cond_true,cond_false,aop,Zv,Zq,Zp,ev,sput,Zt,Zy,Ya,unK,Zd,Zw,Nat.reduceBEq,Nat.reduceAdd,Int.reduceBEq,Int.reduceBNe,Int.reduceLT,Zu,Zz,tup,tyf,hf,hb,Int.natCast_zero]
     exact hE
   | true =>
     have hb:befN o i j=cn (addL o i j):=by rw [befN,if_neg (by rw [hab]; decide),if_pos hf]
     have hff:=hf
     simp only [fr,Bool.and_eq_true,decide_eq_true_eq,Bool.not_eq_true'] at hff
     simp (maxSteps:=2000000) only [s63,↓Za,↓Zj,↓Zr,↓Ze,↓Zi,↓Zs,↓Zf,↓Zo,↓Zg,↓Zb,↓Zc,↓vdn,vup,Zh,Zn,Zl,Zm,Zk,List.map_cons,List.map_nil,cond_true,cond_false,aop,Zv,Zq,Zp,ev,sput,Zt,Zy,Ya,unK,Zd,Zw,Nat.reduceBEq,Nat.reduceAdd,Int.reduceBEq,Int.reduceBNe,Int.reduceLT,Zu,Zz,tup,tyf,hf,loadO b0 Xd hl.2,Yz,List.nil_append,List.append_nil,List.toList_toArray,List.cons_append]
     refine (add_call ho hi hj).mono ?_
     rintro _ _ ⟨rfl,rfl⟩
     refine (Va (addL_ord ho hi hj hff.1.1 hff.2)).mono ?_
     rintro _ _ ⟨rfl,rfl⟩
     exact ⟨by rw [hb],hE⟩
end Go.Proofs.Tryd.Am.Or
