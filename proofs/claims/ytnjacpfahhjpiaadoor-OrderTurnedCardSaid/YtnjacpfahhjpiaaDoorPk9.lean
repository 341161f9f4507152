/-
  order: the program's lines: the function literal that grows them.
  order: the function literal that grows the lines, walked.
  Printed by gen.py: the code of some functions, without what no step looks at; held against the program's own by the kernel.
  order: slices of pairs: copies, whether they are pairs of elements.
  order: Close.
  order: the reference's Close.
  order: the reference's Add; how many lines have one element before another one; the most even pair.
  order: the law OrderMakes.
  order: Lines, EqualFunc; the law OrderLines.
  order: the realizer; Real and Dim.
  order: law Dims.
  order, plain: how many comparisons sort an order.
-/
import Derived.Test.YtnjacpfahhjpiaaDoorPk7
import Derived.Test.YtnjacpfahhjpiaaDoorPk3
import Derived.Test.YtnjacpfahhjpiaaDoorProg
import Derived.KernelRfl
import Derived.Shelf.Abstract
import Derived.Test.YtnjacpfahhjpiaaDoorPk4
import Derived.Test.YtnjacpfahhjpiaaDoorPk6
import Derived.Test.YtnjacpfahhjpiaaDoorPk8
set_option linter.all false
namespace Go.Proofs.Tryd.Am
open Go.Am Ord
set_option maxRecDepth 100000
set_option maxHeartbeats 1000000
def gF (o:List Int) (n left:Nat) (cur:List Int) (x:Nat):List (List Int) :=
 if dn o x &&& left=0 then behind (cur++[(x:Int)]) (lines (ab o) n (Am.bits (Ww left (2 ^ x)))) else []
theorem bits_nodup (s:Nat):(Am.bits s).Nodup:=List.nodup_range.filter _
theorem bits_erase {s x:Nat}:(Am.bits s).erase x=Am.bits (Ww s (2 ^ x)):=by
 rw [List.Nodup.erase_eq_filter (bits_nodup s),Am.bits,Am.bits,List.filter_filter]
 refine List.filter_congr fun j _=>?_
 rw [Wi,Nat.testBit_two_pow]
 by_cases h:j=x
 · subst h; simp
 · simp [h,Ne.symm h]
theorem firsts_bits {o:List Int} (ho:ord o=true) {left:Nat} (hl:left<2 ^ 63):Wm (ab o) (Am.bits left)=(Am.bits left).filter fun x=>decide (dn o x &&& left=0):=by
 rw [Wm]
 refine List.filter_congr fun x hx=>?_
 rw [Bool.eq_iff_iff,List.all_eq_true,decide_eq_true_eq]
 constructor
 · intro h
   apply Nat.eq_of_testBit_eq
   intro j
   rw [Nat.testBit_and,Nat.zero_testBit,dn_bit' ho]
   cases hj:left.testBit j with
   | false=>rw [Bool.and_false]
   | true =>
     have hj64:j<64:=by
      rcases Nat.lt_or_ge j 64 with h1 | h1
      · exact h1
      · rw [Nat.testBit_lt_two_pow (Nat.lt_of_lt_of_le hl (Nat.pow_le_pow_right (by decide) (by omega)))] at hj; cases hj
     have:=h j (Wl.2 ⟨hj64,hj⟩)
     rw [Bool.not_eq_true'] at this
     rw [this]; rfl
 · intro h j hj
   have h1:(dn o x &&& left).testBit j=false:=by rw [h,Nat.zero_testBit]
   rw [Nat.testBit_and,dn_bit' ho,(Wl.1 hj).2,Bool.and_true] at h1
   rw [h1]; rfl
theorem gF_all {o:List Int} (ho:ord o=true) {n left:Nat} (hl:left<2 ^ 63) (cur:List Int):(Am.bits left).flatMap (gF o n left cur)=behind cur (lines (ab o) (n+1) (Am.bits left)):=by
 have h1 : ∀ l:List Nat,l.flatMap (gF o n left cur)=(l.filter fun x=>decide (dn o x &&& left=0)).flatMap fun (x:Nat)=>behind (cur++[(x:Int)]) (lines (ab o) n (Am.bits (Ww left (2 ^ x)))):=by
  intro l
  induction l with
  | nil=>rfl
  | cons x l ih =>
    rw [List.flatMap_cons,ih,List.filter_cons,gF]
    by_cases hx:dn o x &&& left=0
    · rw [if_pos hx,if_pos (by simpa using hx),List.flatMap_cons]
    · rw [if_neg hx,if_neg (by simpa using hx),List.nil_append]
 rw [h1,lines,firsts_bits ho hl,behind,List.map_flatMap]
 congr 1
 funext x
 rw [behind,List.map_map,bits_erase]
 exact List.map_congr_left fun l _=>by simp [castN]
theorem clone_det [Tabs prog] {h:Yb} {v:Value} {xs:List Int} (hv:IntSl h v xs) (hx:xs≠[]) (hl:xs.length<1099511627776):ADet prog 66 [v] h (.slice (some ⟨h.length+1,0,some 0⟩) xs.length xs.length) (h++[.ints [] 3 false]++[.ints xs 3 false]):=by
 refine s66_call (by simp) ?_
 have hv':=hv
 rcases hv with ⟨rfl,rfl⟩ | ⟨b,o,sp,cap,c,e,ro,rfl,hc,hb,_⟩
 · exact absurd rfl hx
 · simp (maxSteps:=2000000) only [s66,↓Za,↓Zi,↓Zr,↓Ze,↓Zo,↓Zs,↓Zg,↓Zm,↓Zf,↓Zb,↓Zc,↓vdn,vup,Zk,Zn,Zl,Zh,Zj,List.map_cons,List.map_nil,cond_true,cond_false,aop,Zv,Zq,Zp,ev,sput,Zt,Zy,Ya,unK,Zd,Zw,Nat.reduceBEq,Nat.reduceAdd,Int.reduceBEq,Int.reduceBNe,Int.reduceLT,Zu,Zz,tup,tyf,Option.isSome_some]
   simp only [Yw,Uh,zero_3,Xt,reps,Ub,mkb,Xa]
   refine And.intro rfl (And.intro Nat.zero_lt_one (And.intro (Nat.zero_le _) ?_))
   refine (hv'.grow [.ints [] 3 false]).copyOwn hx app_22_22 hl (by rw [List.getElem?_append_right (Nat.le_refl _)]; simp) ?_
   exact ⟨by simp,rfl⟩
structure LS (I:Nat→Prop) (h0:Yb) (bo bl:Nat) (h:Yb) (ov lv:Value) (Ls:List (List Int)) (cur:List Int):Prop where
 len:h0.length≤h.length
 keep : ∀ i,I i→h[i]? = h0[i]?
 low : ∀ i,I i→i<h0.length
 o:h[bo]? = some (.cells [ov] 45 false)
 l:h[bl]? = some (.cells [lv] 22 false)
 ne:bo≠bl
 no : ¬ I bo
 nl : ¬ I bl
 own:OwnSl 3 h lv cur
 out : ∃ ws,OwnV 22 h ov ws∧Each (OwnSl 3 h) ws Ls∧∀ w∈ws,∀ b,Ye w=some b→Ye lv≠some b
 apo : ∀ b,Ye ov=some b→¬ I b∧b≠bo∧b≠bl
 apl : ∀ b,Ye lv=some b→¬ I b
def gS (bo bl:Nat) (ov lv:Value) (i:Nat):Prop:=i=bo∨i=bl∨Ye ov=some i∨Ye lv=some i
theorem own_ints {e:TypeId} {h:Yb} {v:Value} {xs:List Int} (ho:OwnSl e h v xs) {b:Nat} (hb:Ye v=some b) : ∃ ys e,h[b]? = some (.ints ys e false):=by
 obtain ⟨ys,hy⟩:=ho.ints hb; exact ⟨ys,e,hy⟩
section
variable {I:Nat→Prop} {h0 h h' h1:Yb} {bo bl:Nat} {ov lv ov' lv' : Value} {Ls:List (List Int)} {cur cur' : List Int}
theorem LS.ext {S:Nat→Prop} (s:LS I h0 bo bl h ov lv Ls cur) (hx:Ext S h h') (h1 : ∀ i,I i→¬ S i) (h2 : ¬ S bo) (h3 : ¬ S bl) (h4 : ∀ b,Ye ov=some b→¬ S b) (h5 : ∀ b ys e,h[b]? = some (.ints ys e false)→¬ S b):LS I h0 bo bl h' ov lv Ls cur where
 len:=Nat.le_trans s.len hx.1
 keep i hi:=(hx.2 i (Nat.lt_of_lt_of_le (s.low i hi) s.len) (h1 i hi)).trans (s.keep i hi)
 low:=s.low
 o:=(hx.2 bo (Yd s.o) h2).trans s.o
 l:=(hx.2 bl (Yd s.l) h3).trans s.l
 ne:=s.ne
 no:=s.no
 nl:=s.nl
 own:=s.own.same fun b hb=>by
  obtain ⟨ys,e,hy⟩:=own_ints s.own hb
  exact hx.2 b (Yd hy) (h5 b ys e hy)
 out:=by
  obtain ⟨ws,g1,g2,g3⟩:=s.out
  exact ⟨ws,g1.same fun b hb=>hx.2 b (g1.lt hb) (h4 b hb),g2.imp fun w l hw=>hw.same fun b hb=>by
   obtain ⟨ys,e,hy⟩:=own_ints hw hb
   exact hx.2 b (Yd hy) (h5 b ys e hy),g3⟩
 apo:=s.apo
 apl:=s.apl
theorem LS.app (s:LS I h0 bo bl h ov lv Ls cur) (g:Yb):LS I h0 bo bl (h++g) ov lv Ls cur :=
 s.ext (S:=fun _=>False) (Ext.app _ _ _) (fun _ _ h=>h) (fun h=>h) (fun h=>h) (fun _ _ h=>h) (fun _ _ _ _ h=>h)
theorem LS.storeL (s:LS I h0 bo bl h ov lv Ls cur) (hx:Ext (fun i=>Ye lv=some i) h h1) (ho:OwnSl 3 h1 lv' cur') (hb:Ye lv' = Ye lv∨∃ b,Ye lv' = some b∧h.length≤b) :
  LS I h0 bo bl (h1.set bl (.cells [lv'] 22 false)) ov lv' Ls cur' where
 len:=by have:=s.len; have:=hx.1; simp; omega
 keep i hi:=by
  have hl:=Nat.lt_of_lt_of_le (s.low i hi) s.len
  rw [List.getElem?_set_ne (fun h=>s.nl (by rw [h]; exact hi)),hx.2 i hl (fun h=>s.apl i h hi)]
  exact s.keep i hi
 low:=s.low
 o:=by
  rw [List.getElem?_set_ne (Ne.symm s.ne),hx.2 _ (Yd s.o) (s.own.notCells s.o)]; exact s.o
 l:=Xc (Nat.lt_of_lt_of_le (Yd s.l) hx.1) _
 ne:=s.ne
 no:=s.no
 nl:=s.nl
 own:=ho.ext (S:=fun i=>i=bl) (Ext.set _ rfl) fun b hbb=>by
  rintro rfl
  rcases hb with h | ⟨b',h,hl⟩
  · exact s.own.notCells s.l (h▸hbb)
  · rw [h] at hbb; cases hbb; have:=Yd s.l; omega
 out:=by
  obtain ⟨ws,g1,g2,g3⟩:=s.out
  refine ⟨ws,g1.same fun b hbb=>?_,?_,fun w hw b hbw hbl=>?_⟩
  · obtain ⟨c,hc⟩:=g1.blk hbb
    rw [List.getElem?_set_ne (Ne.symm (s.apo b hbb).2.2),hx.2 b (Yd hc) (s.own.notCells hc)]
  · have key : ∀ {ws:List Value} {Ls:List (List Int)},Each (OwnSl 3 h) ws Ls→(∀ w∈ws,∀ b,Ye w=some b→Ye lv≠some b)→Each (OwnSl 3 (h1.set bl (.cells [lv'] 22 false))) ws Ls:=by
     intro ws
     induction ws with
     | nil=>intro Ls hE _; cases Ls <;> first | exact hE | exact hE.elim
     | cons w ws ih =>
       intro Ls hE hd
       cases Ls with
       | nil=>exact hE.elim
       | cons l Ls =>
         refine ⟨hE.1.same fun b hbb=>?_,ih hE.2 fun w hw=>hd w (by simp [hw])⟩
         obtain ⟨ys,hy⟩:=hE.1.ints hbb
         have hne:bl≠b:=fun he=>by subst he; rw [s.l] at hy; cases hy
         rw [List.getElem?_set_ne hne,hx.2 b (Yd hy) (hd w (by simp) b hbb)]
    exact key g2 g3
  · rcases hb with h | ⟨b',h,hl⟩
    · exact g3 w hw b hbw (h▸hbl)
    · rw [h] at hbl; cases hbl
      obtain ⟨l,hwl⟩:=g2.mem w hw
      have:=hwl.lt hbw; omega
 apo:=s.apo
 apl b hbb:=by
  rcases hb with h | ⟨b',h,hl⟩
  · exact s.apl b (h▸hbb)
  · rw [h] at hbb; cases hbb
    exact fun hi=>by have:=s.low _ hi; have:=s.len; omega
theorem LS.storeO {l:List Int} {w:Value} {ws:List Value} (s:LS I h0 bo bl h ov lv Ls cur) (g1:OwnV 22 h ov ws) (g2:Each (OwnSl 3 h) ws Ls) (g3 : ∀ w∈ws,∀ b,Ye w=some b→Ye lv≠some b)
  (hw:OwnSl 3 h w l) (hwl : ∀ b,Ye w=some b→Ye lv≠some b)
  (hx:Ext (fun i=>Ye ov=some i) h h1) (ho:OwnV 22 h1 ov' (ws++[w])) (hb:Ye ov' = Ye ov∨∃ b,Ye ov' = some b∧h.length≤b) :
  LS I h0 bo bl (h1.set bo (.cells [ov'] 45 false)) ov' lv (Ls++[l]) cur:=by
 have ints : ∀ {v:Value} {xs:List Int},OwnSl 3 h v xs→OwnSl 3 (h1.set bo (.cells [ov'] 45 false)) v xs:=fun {v xs} hv=>hv.same fun b hbb=>by
  obtain ⟨ys,hy⟩:=hv.ints hbb
  have hne:bo≠b:=fun he=>by subst he; rw [s.o] at hy; cases hy
  rw [List.getElem?_set_ne hne,hx.2 b (Yd hy) fun h2=>by
   obtain ⟨c,hc⟩:=g1.blk h2
   rw [hc] at hy; cases hy]
 refine ⟨by have:=s.len; have:=hx.1; simp; omega,fun i hi=>?_,s.low,Xc (Nat.lt_of_lt_of_le (Yd s.o) hx.1) _,?_,s.ne,s.no,s.nl,ints s.own,⟨ws++[w],?_,?_,?_⟩,fun b hbb=>?_,s.apl⟩
 · have hl:=Nat.lt_of_lt_of_le (s.low i hi) s.len
   rw [List.getElem?_set_ne (fun h=>s.no (by rw [h]; exact hi)),hx.2 i hl (fun h=>(s.apo i h).1 hi)]
   exact s.keep i hi
 · rw [List.getElem?_set_ne s.ne,hx.2 _ (Yd s.l) (fun h=>(s.apo _ h).2.2 rfl)]; exact s.l
 · refine ho.same fun b hbb=>List.getElem?_set_ne fun he=>?_
   rcases hb with h | ⟨b',h,hl⟩
   · exact (s.apo b (h▸hbb)).2.1 he.symm
   · rw [h] at hbb; cases hbb; have:=Yd s.o; omega
 · exact (g2.imp fun w l hw=>ints hw).app ⟨ints hw,trivial⟩
 · intro w' hw' b hbw
   rcases List.mem_append.1 hw' with h | h
   · exact g3 w' h b hbw
   · rw [List.mem_singleton.1 h] at hbw; exact hwl b hbw
 · rcases hb with h | ⟨b',h,hl⟩
   · exact s.apo b (h▸hbb)
   · rw [h] at hbb; cases hbb
     have h1:=Yd s.o
     have h2:=Yd s.l
     exact ⟨fun hi=>by have:=s.low _ hi; have:=s.len; omega,by omega,by omega⟩
end
structure LR (I:Nat→Prop) (h0:Yb) (bo bl:Nat) (h:Yb) (ov0 lv0:Value) (left:Nat) (h' : Yb) (ov lv:Value) (Ls:List (List Int)) (cur:List Int):Prop where
 gs:LS I h0 bo bl h' ov lv Ls cur
 low:h0.length≤h.length
 lto:bo<h.length
 ltl:bl<h.length
 bx:h'[h.length]? = some (.cells [Zx left] 3 false)
 nbx : ∀ b,Ye ov=some b→b≠h.length
 ext:Ext (gS bo bl ov0 lv0) h h'
 blko:Ye ov=Ye ov0∨∃ b,Ye ov=some b∧h.length≤b
 blkl:Ye lv=Ye lv0∨∃ b,Ye lv=some b∧h.length≤b
section
variable {I:Nat→Prop} {h0 h h' h1:Yb} {bo bl left:Nat} {ov0 lv0 ov lv ov' lv' : Value} {Ls Ls' : List (List Int)} {cur cur' : List Int}
theorem LR.of (s:LS I h0 bo bl h ov lv Ls cur):LR I h0 bo bl h ov lv left (h++[.cells [Zx left] 3 false]) ov lv Ls cur where
 gs:=s.app _
 low:=s.len
 lto:=Yd s.o
 ltl:=Yd s.l
 bx:=by simp
 nbx b hb:=by
  obtain ⟨ws,g1,_⟩:=s.out
  have:=g1.lt hb; omega
 ext:=Ext.app _ _ _
 blko:=.inl rfl
 blkl:=.inl rfl
theorem LR.go (s:LR I h0 bo bl h ov0 lv0 left h' ov lv Ls cur) (g:LS I h0 bo bl h1 ov' lv' Ls' cur') (hx:Ext (gS bo bl ov lv) h' h1) (hbo:Ye ov' = Ye ov∨∃ b,Ye ov' = some b∧h'.length≤b) (hbl:Ye lv' = Ye lv∨∃ b,Ye lv' = some b∧h'.length≤b) :
  LR I h0 bo bl h ov0 lv0 left h1 ov' lv' Ls' cur' where
 gs:=g
 low:=s.low
 lto:=s.lto
 ltl:=s.ltl
 bx:=by
  rw [hx.2 _ (Yd s.bx) ?_]
  · exact s.bx
  · rintro (h | h | h | h)
    · have:=s.lto; omega
    · have:=s.ltl; omega
    · exact s.nbx _ h rfl
    · exact s.gs.own.notCells s.bx h
 nbx b hb:=by
  rcases hbo with h | ⟨b',h,h2⟩
  · exact s.nbx b (h▸hb)
  · rw [h] at hb; cases hb; have:=Yd s.bx; omega
 ext:=⟨Nat.le_trans s.ext.1 hx.1,fun i hi hs=>by
  rw [hx.2 i (Nat.lt_of_lt_of_le hi s.ext.1),s.ext.2 i hi hs]
  rintro (h | h | h | h)
  · exact hs (.inl h)
  · exact hs (.inr (.inl h))
  · rcases s.blko with h2 | ⟨b,h2,h3⟩
    · exact hs (.inr (.inr (.inl (h2▸h))))
    · rw [h2] at h; cases h; omega
  · rcases s.blkl with h2 | ⟨b,h2,h3⟩
    · exact hs (.inr (.inr (.inr (h2▸h))))
    · rw [h2] at h; cases h; omega⟩
 blko:=by
  have:=s.ext.1
  rcases hbo with h | ⟨b,h,h2⟩
  · rw [h]; exact s.blko
  · exact .inr ⟨b,h,by omega⟩
 blkl:=by
  have:=s.ext.1
  rcases hbl with h | ⟨b,h,h2⟩
  · rw [h]; exact s.blkl
  · exact .inr ⟨b,h,by omega⟩
theorem LR.app (s:LR I h0 bo bl h ov0 lv0 left h' ov lv Ls cur) (g:Yb):LR I h0 bo bl h ov0 lv0 left (h'++g) ov lv Ls cur:=s.go (s.gs.app g) (Ext.app _ _ _) (.inl rfl) (.inl rfl)
theorem LR.else (s:LR I h0 bo bl h ov0 lv0 left h' ov lv Ls cur) {j:Nat} {B:Blk} (hj:h.length<j) (ho:Ye ov≠some j) (hc : ∀ ys e,h'[j]?≠some (.ints ys e false)):LR I h0 bo bl h ov0 lv0 left (h'.set j B) ov lv Ls cur:=by
 have hlen:=s.low
 have hext:=s.ext.1
 have hx:Ext (fun i=>i=j) h' (h'.set j B):=Ext.set _ rfl
 have hbo:=s.lto
 have hbl:=s.ltl
 refine ⟨s.gs.ext hx (fun i hi he=>by have:=s.gs.low i hi; omega) (by omega) (by omega) (fun b hb he=>ho (he▸hb)) (fun b ys e hy he=>hc ys e (he▸hy)),s.low,s.lto,s.ltl,by rw [List.getElem?_set_ne (by omega)]; exact s.bx,s.nbx,?_,s.blko,s.blkl⟩
 exact ⟨by simp; exact hext,fun i hi hs=>by rw [List.getElem?_set_ne (by omega)]; exact s.ext.2 i hi hs⟩
theorem LR.box (s:LR I h0 bo bl h ov0 lv0 left h' ov lv Ls cur) {i:Nat} {B:Blk} (hi:I i) (hb:h0[i]? = some B):h'[i]? = some B:=(s.gs.keep i hi).trans hb
end
end Go.Proofs.Tryd.Am
namespace Go.Proofs.Tryd.Am
open Go.Am Ord
set_option maxRecDepth 100000
set_option maxHeartbeats 1000000
theorem flat_pre {α β:Type} {f:α→List β} {pre l:List α} {x:α} (h:pre++[x] <+: l):(pre.flatMap f).length+(f x).length≤(l.flatMap f).length:=by
 obtain ⟨t,rfl⟩:=h
 rw [List.flatMap_append,List.flatMap_append,List.length_append,List.length_append,List.flatMap_singleton]
 omega
def gV (bo bl bd bg:Nat):Value:=.func (.func 103) #[] #[.pointer (some ⟨bo,0,none⟩),.pointer (some ⟨bl,0,none⟩),.pointer (some ⟨bd,0,none⟩),.pointer (some ⟨bg,0,none⟩)]
theorem grow_call [BitTab prog 1] {I:Nat→Prop} {h0:Yb} {bo bl bd bg:Nat} {o:List Int} (ho:ord o=true) (hI:I bd∧I bg) (hd:h0[bd]? = some (.cells (Wa o) 77 false)) (hg:h0[bg]? = some (.cells [gV bo bl bd bg] 118 false)) :
  ∀ (n left:Nat) (cur:List Int) (Ls:List (List Int)) (h:Yb) (ov lv:Value),LS I h0 bo bl h ov lv Ls cur→(Am.bits left).length=n→left<2 ^ o.length→cur.length+n=o.length→Ls.length+(lines (ab o) n (Am.bits left)).length≤46656 →
    ACall prog 103 [Zx left,.pointer (some ⟨bo,0,none⟩),.pointer (some ⟨bl,0,none⟩),.pointer (some ⟨bd,0,none⟩),.pointer (some ⟨bg,0,none⟩)] h fun _ h' =>
     ∃ ov' lv',LS I h0 bo bl h' ov' lv' (Ls++behind cur (lines (ab o) n (Am.bits left))) cur∧Ext (gS bo bl ov lv) h h'∧(Ye ov' = Ye ov∨∃ b,Ye ov' = some b∧h.length≤b)∧(Ye lv' = Ye lv∨∃ b,Ye lv' = some b∧h.length≤b):=by
 have hlen:=Yu ho
 have hpw:=pow6 hlen.2
 intro n
 induction n with
 | zero =>
   intro left cur Ls h ov lv gs hn hlt hcl hLs
   have hz:left=0:=by
    rcases Nat.eq_zero_or_pos left with h | h
    · exact h
    · exact absurd (List.length_eq_zero_iff.1 hn) (Ord.bits_ne (by omega) (by omega))
   subst hz
   have hcne:cur≠[]:=by rintro rfl; simp at hcl; omega
   refine s103_call (by simp) ?_
   simp only [s103]
   refine Wj fun N hN=>?_
   simp (maxSteps:=2000000) only [s103,↓Za,↓Zi,↓Zr,↓Ze,↓Zo,↓Zs,↓Zg,↓Zm,↓Zf,↓Zb,↓Zc,↓vdn,vup,Zk,Zn,Zl,Zh,Zj,List.map_cons,List.map_nil,cond_true,cond_false,aop,Zv,Zq,Zp,ev,sput,Zt,Zy,Ya,unK,Zd,Zw,Nat.reduceBEq,Nat.reduceAdd,Int.reduceBEq,Int.reduceBNe,Int.reduceLT,Zu,Zz,tup,tyf,boxK,cellsOf,Option.isSome_some,Ys]
   refine hN _ _ ?_
   clear hN N
   have rs0:=LR.of (left:=0) gs
   have e0:Zx ((0:Nat):Int) = .int .i64 0:=rfl
   rw [e0] at rs0
   generalize h++[.cells [.int .i64 0] 3 false]=h2 at rs0 ⊢
   have hb0:h2[h.length]? = some (.cells [.int .i64 0] 3 false):=rs0.bx
   refine Wj fun N hN=>?_
   simp (maxSteps:=2000000) only [s103,↓Za,↓Zi,↓Zr,↓Ze,↓Zo,↓Zs,↓Zg,↓Zm,↓Zf,↓Zb,↓Zc,↓vdn,vup,Zk,Zn,Zl,Zh,Zj,List.map_cons,List.map_nil,cond_true,cond_false,aop,Zv,Zq,Zp,ev,sput,Zt,Zy,Ya,unK,Zd,Zw,Nat.reduceBEq,Nat.reduceAdd,Int.reduceBEq,Int.reduceBNe,Int.reduceLT,Zu,Zz,tup,tyf,Xh hb0 Xf,beq_self_eq_true]
   refine aw_drawR (fun hp=>hp[bo]? = some (.cells [ov] 45 false)) [(0,5),(5,6)] (by kernel_rfl) (by kernel_rfl) (by kernel_rfl) (by kernel_rfl) rs0.gs.o ?_
   simp (maxSteps:=2000000) only [s103,↓Za,↓Zi,↓Zr,↓Ze,↓Zo,↓Zs,↓Zg,↓Zm,↓Zf,↓Zb,↓Zc,↓vdn,vup,Zk,Zn,Zl,Zh,Zj,List.map_cons,List.map_nil,cond_true,cond_false,aop,Zv,Zq,Zp,ev,sput,Zt,Zy,Ya,unK,Zd,Zw,Nat.reduceBEq,Nat.reduceAdd,Int.reduceBEq,Int.reduceBNe,Int.reduceLT,Zu,Zz,tup,tyf,Nat.reduceLT,Bool.false_or,Bool.true_or,Xh rs0.gs.l Wd,Yx,List.nil_append,List.append_nil,List.toList_toArray,List.cons_append]
   refine ⟨ov,fun hp hhp=>by simp only [Xh hhp shp_45],?_⟩
   refine ⟨_,_,clone_det rs0.gs.own.int hcne (by omega),Yh (Yh rs0.gs.o _) _,?_⟩
   obtain ⟨w,hw⟩ : ∃ w:Value,w = .slice (some ⟨h2.length+1,0,some 0⟩) cur.length cur.length:=⟨_,rfl⟩
   rw [← hw]
   obtain ⟨H1,hH1⟩ : ∃ H1,H1=h2++[Blk.ints [] 3 false]++[Blk.ints cur 3 false]:=⟨_,rfl⟩
   rw [← hH1]
   have how:OwnSl 3 H1 w cur:=.inr ⟨h2.length+1,[],by rw [hw]; simp,by rw [hH1,List.getElem?_append_right (by simp)]; simp⟩
   have hl1:H1.length=h2.length+2:=by rw [hH1]; simp
   have rs1:=(rs0.app [Blk.ints [] 3 false]).app [Blk.ints cur 3 false]
   rw [← hH1] at rs1
   clear hH1
   simp (maxSteps:=2000000) only [s103,↓Za,↓Zi,↓Zr,↓Ze,↓Zo,↓Zs,↓Zg,↓Zm,↓Zf,↓Zb,↓Zc,↓vdn,vup,Zk,Zn,Zl,Zh,Zj,List.map_cons,List.map_nil,cond_true,cond_false,aop,Zv,Zq,Zp,ev,sput,Zt,Zy,Ya,unK,Zd,Zw,Nat.reduceBEq,Nat.reduceAdd,Int.reduceBEq,Int.reduceBNe,Int.reduceLT,Zu,Zz,tup,tyf,Nat.reduceLT,Bool.false_or,Bool.true_or,List.toList_toArray,buildSl1 el_45 zero_22 esz_22 how]
   have rs2:=rs1.app [Blk.cells [w] 22 false]
   have how2:OwnSl 3 (H1++[Blk.cells [w] 22 false]) w cur:=how.ext (S:=fun _=>False) (Ext.app _ _ _) (fun _ _ h=>h)
   have hval:ValSl (H1++[Blk.cells [w] 22 false]) (.slice (some ⟨H1.length,0,none⟩) 1 1) [w]:=.inr ⟨H1.length,0,none,1,[w],22,false,rfl,Nat.le_refl _,by simp [view,Blk.view],rfl⟩
   refine ⟨rs2.gs.o,?_⟩
   obtain ⟨ws,g1,g2,g3⟩:=rs2.gs.out
   have hall:=g2.app (show Each (OwnSl 3 (H1++[Blk.cells [w] 22 false])) [w] [cur] from ⟨how2,trivial⟩)
   refine g1.app app_45_45 hval (fun y hy=>by obtain ⟨l,hl⟩:=hall.mem y hy; exact hl.notI) ?_ fun ov' h' hov hE hb=>⟨?_,?_⟩
   · rw [g2.len]
     have:(lines (ab o) 0 (Am.bits 0)).length=1:=rfl
     simp only [List.length_singleton]; omega
   · exact (hE.2 bo (Yd rs2.gs.o) (fun h=>(rs2.gs.apo _ h).2.1 rfl)).trans rs2.gs.o
   have ho':=(hE.2 bo (Yd rs2.gs.o) (fun h=>(rs2.gs.apo _ h).2.1 rfl)).trans rs2.gs.o
   have hone:one ov' = true:=by rcases hov with ⟨rfl,_⟩ | ⟨b,ys,rfl,_⟩ <;> rfl
   simp (maxSteps:=2000000) only [s103,↓Za,↓Zi,↓Zr,↓Ze,↓Zo,↓Zs,↓Zg,↓Zm,↓Zf,↓Zb,↓Zc,↓vdn,vup,Zk,Zn,Zl,Zh,Zj,List.map_cons,List.map_nil,cond_true,cond_false,aop,Zv,Zq,Zp,ev,sput,Zt,Zy,Ya,unK,Zd,Zw,Nat.reduceBEq,Nat.reduceAdd,Int.reduceBEq,Int.reduceBNe,Int.reduceLT,Zu,Zz,tup,tyf,Nat.reduceLT,Bool.false_or,Bool.true_or,store1 ho' shp_45 hone]
   have hwl : ∀ b,Ye w=some b→Ye lv≠some b:=fun b hbw hbl=>by
    rw [hw] at hbw; cases hbw
    have:=rs0.gs.own.lt hbl; omega
   have gs3:=rs2.gs.storeO g1 g2 g3 how2 hwl hE hov hb
   have rs3:=rs2.go gs3 ((hE.mono fun _ h=>.inr (.inr (.inl h))).trans (Ext.set _ (.inl rfl))) hb (.inl rfl)
   refine hN _ _ ?_
   clear hN N gs3 hone ho' hwl hb hE hov
   generalize h'.set bo (.cells [ov'] 45 false)=h3 at rs3 ⊢
   have hb3:h3[h.length]? = some (.cells [.int .i64 0] 3 false):=rs3.bx
   simp (maxSteps:=2000000) only [s103,↓Za,↓Zi,↓Zr,↓Ze,↓Zo,↓Zs,↓Zg,↓Zm,↓Zf,↓Zb,↓Zc,↓vdn,vup,Zk,Zn,Zl,Zh,Zj,List.map_cons,List.map_nil,cond_true,cond_false,aop,Zv,Zq,Zp,ev,sput,Zt,Zy,Ya,unK,Zd,Zw,Nat.reduceBEq,Nat.reduceAdd,Int.reduceBEq,Int.reduceBNe,Int.reduceLT,Zu,Zz,tup,tyf,Xh hb3 Xf,Yx,List.nil_append,List.append_nil,List.toList_toArray,List.cons_append]
   refine elements_call.mono ?_
   rintro _ _ ⟨rfl,rfl⟩
   simp (maxSteps:=2000000) only [s103,↓Za,↓Zi,↓Zr,↓Ze,↓Zo,↓Zs,↓Zg,↓Zm,↓Zf,↓Zb,↓Zc,↓vdn,vup,Zk,Zn,Zl,Zh,Zj,List.map_cons,List.map_nil,cond_true,cond_false,aop,Zv,Zq,Zp,ev,sput,Zt,Zy,Ya,unK,Zd,Zw,Nat.reduceBEq,Nat.reduceAdd,Int.reduceBEq,Int.reduceBNe,Int.reduceLT,Zu,Zz,tup,tyf,Ys]
   have hb4:=Yd rs3.bx
   have rs4:LR I h0 bo bl h ov lv 0 ((h3++[Blk.cells [.int .i64 0] 3 false]).set h3.length Blk.dead) ov' lv (Ls++[cur]) cur :=
    (rs3.app _).else hb4 (fun hb=>by obtain ⟨ws,g1,_⟩:=rs3.gs.out; have:=g1.lt hb; omega) (fun ys e=>by rw [Yl]; intro h; cases h)
   refine aw_range bitIter (bx:=h3.length) (s:=0) (et:=3) rfl (Yl _ _) (by decide) (fun pre hk=>LR I h0 bo bl h ov lv 0 hk ov' lv (Ls++[cur]) cur) rs4 ?_ ?_
   · rintro pre x hk hpre _
     have:=mem_pre hpre
     exact absurd this (by simp [Am.bits])
   · rintro hk rs
     simp (maxSteps:=2000000) only [s103,↓Za,↓Zi,↓Zr,↓Ze,↓Zo,↓Zs,↓Zg,↓Zm,↓Zf,↓Zb,↓Zc,↓vdn,vup,Zk,Zn,Zl,Zh,Zj,List.map_cons,List.map_nil,cond_true,cond_false,aop,Zv,Zq,Zp,ev,sput,Zt,Zy,Ya,unK,Zd,Zw,Nat.reduceBEq,Nat.reduceAdd,Int.reduceBEq,Int.reduceBNe,Int.reduceLT,Zu,Zz,tup,tyf]
     have e1:behind cur (lines (ab o) 0 (Am.bits 0))=[cur]:=by simp [behind,lines,castN]
     rw [e1]
     exact ⟨ov',lv,rs.gs,rs.ext,rs.blko,rs.blkl⟩
 | succ k ih =>
   intro left cur Ls h ov lv gs hn hlt hcl hLs
   have hz:left≠0:=by
    rintro rfl
    have:Am.bits 0=[]:=by simp [Am.bits]
    rw [this] at hn; cases hn
   have hz2:(((left:Nat):Int)==0)=false:=by rw [eq0,decide_eq_false hz]
   have hall:=gF_all ho (n:=k) (left:=left) (by omega) cur
   refine s103_call (by simp) ?_
   simp only [s103]
   refine Wj fun N hN=>?_
   simp (maxSteps:=2000000) only [s103,↓Za,↓Zi,↓Zr,↓Ze,↓Zo,↓Zs,↓Zg,↓Zm,↓Zf,↓Zb,↓Zc,↓vdn,vup,Zk,Zn,Zl,Zh,Zj,List.map_cons,List.map_nil,cond_true,cond_false,aop,Zv,Zq,Zp,ev,sput,Zt,Zy,Ya,unK,Zd,Zw,Nat.reduceBEq,Nat.reduceAdd,Int.reduceBEq,Int.reduceBNe,Int.reduceLT,Zu,Zz,tup,tyf,boxK,cellsOf,Option.isSome_some,Ys]
   refine hN _ _ ?_
   clear hN N
   have rs0:=LR.of (left:=left) gs
   generalize h++[.cells [Zx left] 3 false]=h2 at rs0 ⊢
   simp (maxSteps:=2000000) only [s103,↓Za,↓Zi,↓Zr,↓Ze,↓Zo,↓Zs,↓Zg,↓Zm,↓Zf,↓Zb,↓Zc,↓vdn,vup,Zk,Zn,Zl,Zh,Zj,List.map_cons,List.map_nil,cond_true,cond_false,aop,Zv,Zq,Zp,ev,sput,Zt,Zy,Ya,unK,Zd,Zw,Nat.reduceBEq,Nat.reduceAdd,Int.reduceBEq,Int.reduceBNe,Int.reduceLT,Zu,Zz,tup,tyf,Xh rs0.bx Xf,hz2,Yx,List.nil_append,List.append_nil,List.toList_toArray,List.cons_append]
   refine elements_call.mono ?_
   rintro _ _ ⟨rfl,rfl⟩
   simp (maxSteps:=2000000) only [s103,↓Za,↓Zi,↓Zr,↓Ze,↓Zo,↓Zs,↓Zg,↓Zm,↓Zf,↓Zb,↓Zc,↓vdn,vup,Zk,Zn,Zl,Zh,Zj,List.map_cons,List.map_nil,cond_true,cond_false,aop,Zv,Zq,Zp,ev,sput,Zt,Zy,Ya,unK,Zd,Zw,Nat.reduceBEq,Nat.reduceAdd,Int.reduceBEq,Int.reduceBNe,Int.reduceLT,Zu,Zz,tup,tyf,Ys]
   have hb4:=Yd rs0.bx
   have rs4:LR I h0 bo bl h ov lv left ((h2++[Blk.cells [Zx left] 3 false]).set h2.length Blk.dead) ov lv Ls cur :=
    (rs0.app _).else hb4 (fun hb=>by obtain ⟨ws,g1,_⟩:=rs0.gs.out; have:=g1.lt hb; omega) (fun ys e=>by rw [Yl]; intro h; cases h)
   refine aw_range bitIter (bx:=h2.length) (s:=left) (et:=3) rfl (Yl _ _) (by omega) (fun pre hk=>∃ ov' lv',LR I h0 bo bl h ov lv left hk ov' lv' (Ls++pre.flatMap (gF o k left cur)) cur) ⟨ov,lv,by simpa using rs4⟩ ?_ ?_
   · rintro pre x hk hpre ⟨ov1,lv1,rs⟩
     obtain ⟨hx64,hxb⟩:=Wl.1 (mem_pre hpre)
     have hx6:x<o.length:=by
      rcases Nat.lt_or_ge x o.length with h | h
      · exact h
      · rw [Nat.testBit_lt_two_pow (Nat.lt_of_lt_of_le hlt (Nat.pow_le_pow_right (by decide) h))] at hxb; cases hxb
     have hdl:=dn_lt (o:=o) (i:=x)
     have hand:Vf .and .i64 ((dn o x:Nat):Int) (left:Int)=((dn o x &&& left:Nat):Int):=bitsV_and (by omega) (by omega)
     have hcnt:=flat_pre (f:=gF o k left cur) hpre
     rw [hall,behind,List.length_map] at hcnt
     simp (maxSteps:=2000000) only [s103,↓Za,↓Zi,↓Zr,↓Ze,↓Zo,↓Zs,↓Zg,↓Zm,↓Zf,↓Zb,↓Zc,↓vdn,vup,Zk,Zn,Zl,Zh,Zj,List.map_cons,List.map_nil,cond_true,cond_false,aop,Zv,Zq,Zp,ev,sput,Zt,Zy,Ya,unK,Zd,Zw,Nat.reduceBEq,Nat.reduceAdd,Int.reduceBEq,Int.reduceBNe,Int.reduceLT,Zu,Zz,tup,tyf,r103_0_a,r103_0_b]
     refine Xp [(2,1)] (by kernel_rfl) (by kernel_rfl) (by kernel_rfl) (by kernel_rfl) ?_
     simp (maxSteps:=2000000) only [s103,↓Za,↓Zi,↓Zr,↓Ze,↓Zo,↓Zs,↓Zg,↓Zm,↓Zf,↓Zb,↓Zc,↓vdn,vup,Zk,Zn,Zl,Zh,Zj,List.map_cons,List.map_nil,cond_true,cond_false,aop,Zv,Zq,Zp,ev,sput,Zt,Zy,Ya,unK,Zd,Zw,Nat.reduceBEq,Nat.reduceAdd,Int.reduceBEq,Int.reduceBNe,Int.reduceLT,Zu,Zz,tup,tyf,Vd (rs.box hI.1 hd) Xb hlen.2,Yx,List.nil_append,List.append_nil,List.toList_toArray,List.cons_append]
     refine ⟨_,_,below_call ho,rfl,?_⟩
     by_cases hd1:dn o x &&& left=0
     · have hd2:(((dn o x &&& left:Nat):Int)==0)=true:=by rw [hd1]; rfl
       have hF:gF o k left cur x=behind (cur++[(x:Int)]) (lines (ab o) k (Am.bits (Ww left (2 ^ x)))):=by rw [gF,if_pos hd1]
       have hl1:(Am.bits (Ww left (2 ^ x))).length=k:=by
        rw [← Ord.bits_erase hx64,List.length_erase_of_mem (Wl.2 ⟨hx64,hxb⟩),hn]; rfl
       rw [hF,behind,List.length_map] at hcnt
       simp (maxSteps:=2000000) only [s103,↓Za,↓Zi,↓Zr,↓Ze,↓Zo,↓Zs,↓Zg,↓Zm,↓Zf,↓Zb,↓Zc,↓vdn,vup,Zk,Zn,Zl,Zh,Zj,List.map_cons,List.map_nil,cond_true,cond_false,aop,Zv,Zq,Zp,ev,sput,Zt,Zy,Ya,unK,Zd,Zw,Nat.reduceBEq,Nat.reduceAdd,Int.reduceBEq,Int.reduceBNe,Int.reduceLT,Zu,Zz,tup,tyf,Xh rs.bx Xf,hand,hd2,Xh rs.gs.l Wd,litI1]
       have hx1:Ext (fun _=>False) hk (hk++[.ints [(x:Int)] 3 false]):=Ext.app _ _ _
       refine (rs.gs.own.ext hx1 fun _ _ h=>h).append app_22_22 (by omega) (Yl _ _) ?_
       intro lv3 h4 ho4 hx4 hb4
       have hx5:Ext (fun i=>Ye lv1=some i) hk h4:=(hx1.mono fun _ h=>h.elim).trans hx4
       have hb5:Ye lv3=Ye lv1∨∃ b,Ye lv3=some b∧hk.length≤b:=by
        rcases hb4 with h | ⟨b,h,hl⟩
        · exact .inl h
        · exact .inr ⟨b,h,by simp at hl; omega⟩
       have hbl4:h4[bl]? = some (.cells [lv1] 22 false):=(hx5.2 bl (Yd rs.gs.l) (rs.gs.own.notCells rs.gs.l)).trans rs.gs.l
       have rs3:=rs.go (rs.gs.storeL hx5 ho4 hb5) ((hx5.mono fun _ h=>.inr (.inr (.inr h))).trans (Ext.set _ (.inr (.inl rfl)))) (.inl rfl) hb5
       have hshl:shlV .i64 1 x=2 ^ x:=shl1 (by omega)
       have h2x:2 ^ x<2 ^ o.length:=Nat.pow_lt_pow_right (by decide) hx6
       have hand3:Vf .andNot .i64 (left:Int) (2 ^ x)=((Ww left (2 ^ x):Nat):Int):=by
        have:=Ud (a:=left) (b:=2 ^ x) (by omega) (by omega)
        rw [Vn] at this; exact this
       simp (maxSteps:=2000000) only [s103,↓Za,↓Zi,↓Zr,↓Ze,↓Zo,↓Zs,↓Zg,↓Zm,↓Zf,↓Zb,↓Zc,↓vdn,vup,Zk,Zn,Zl,Zh,Zj,List.map_cons,List.map_nil,cond_true,cond_false,aop,Zv,Zq,Zp,ev,sput,Zt,Zy,Ya,unK,Zd,Zw,Nat.reduceBEq,Nat.reduceAdd,Int.reduceBEq,Int.reduceBNe,Int.reduceLT,Zu,Zz,tup,tyf,store1 hbl4 Wd ho4.one]
       refine Xp [(5,4)] (by kernel_rfl) (by kernel_rfl) (by kernel_rfl) (by kernel_rfl) ?_
       simp (maxSteps:=2000000) only [s103,↓Za,↓Zi,↓Zr,↓Ze,↓Zo,↓Zs,↓Zg,↓Zm,↓Zf,↓Zb,↓Zc,↓vdn,vup,Zk,Zn,Zl,Zh,Zj,List.map_cons,List.map_nil,cond_true,cond_false,aop,Zv,Zq,Zp,ev,sput,Zt,Zy,Ya,unK,Zd,Zw,Nat.reduceBEq,Nat.reduceAdd,Int.reduceBEq,Int.reduceBNe,Int.reduceLT,Zu,Zz,tup,tyf,Xh (rs3.box hI.2 hg) shp_118,gV,Xh rs3.bx Xf,hshl,hand3,Yx,List.nil_append,List.append_nil,List.toList_toArray,List.cons_append]
       refine (ih (Ww left (2 ^ x)) (cur++[(x:Int)]) _ _ ov1 lv3 rs3.gs hl1 (less_lt hlt) (by simp; omega) (by rw [List.length_append]; omega)).mono ?_
       rintro _ h6 ⟨ov4,lv4,gs6,hx6,hbo6,hbl6⟩
       have rs6:=rs3.go gs6 hx6 hbo6 hbl6
       have hsub6:subV .i64 ((cur++[(x:Int)]).length:Nat) 1=(cur.length:Int):=by
        rw [List.length_append,List.length_singleton,subV_id (by omega) (by omega)]; omega
       simp (maxSteps:=2000000) only [s103,↓Za,↓Zi,↓Zr,↓Ze,↓Zo,↓Zs,↓Zg,↓Zm,↓Zf,↓Zb,↓Zc,↓vdn,vup,Zk,Zn,Zl,Zh,Zj,List.map_cons,List.map_nil,cond_true,cond_false,aop,Zv,Zq,Zp,ev,sput,Zt,Zy,Ya,unK,Zd,Zw,Nat.reduceBEq,Nat.reduceAdd,Int.reduceBEq,Int.reduceBNe,Int.reduceLT,Zu,Zz,tup,tyf,Xh rs6.gs.l Wd,rs6.gs.own.int.len,hsub6]
       refine rs6.gs.own.cut Uh Xt ?_
       intro lv5 ho5 hb7
       simp (maxSteps:=2000000) only [s103,↓Za,↓Zi,↓Zr,↓Ze,↓Zo,↓Zs,↓Zg,↓Zm,↓Zf,↓Zb,↓Zc,↓vdn,vup,Zk,Zn,Zl,Zh,Zj,List.map_cons,List.map_nil,cond_true,cond_false,aop,Zv,Zq,Zp,ev,sput,Zt,Zy,Ya,unK,Zd,Zw,Nat.reduceBEq,Nat.reduceAdd,Int.reduceBEq,Int.reduceBNe,Int.reduceLT,Zu,Zz,tup,tyf,store1 rs6.gs.l Wd ho5.one,rangeQ]
       refine ⟨ov4,lv5,?_⟩
       have e1:Ls++(pre++[x]).flatMap (gF o k left cur)=Ls++pre.flatMap (gF o k left cur)++behind (cur++[(x:Int)]) (lines (ab o) k (Am.bits (Ww left (2 ^ x)))):=by
        rw [List.flatMap_append,List.flatMap_singleton,hF,List.append_assoc]
       rw [e1]
       exact rs6.go (rs6.gs.storeL (Ext.refl _ _) ho5 (.inl hb7)) (Ext.set _ (.inr (.inl rfl))) (.inl rfl) (.inl hb7)
     · have hd2:(((dn o x &&& left:Nat):Int)==0)=false:=by rw [eq0,decide_eq_false hd1]
       have hF:gF o k left cur x=[]:=by rw [gF,if_neg hd1]
       simp (maxSteps:=2000000) only [s103,↓Za,↓Zi,↓Zr,↓Ze,↓Zo,↓Zs,↓Zg,↓Zm,↓Zf,↓Zb,↓Zc,↓vdn,vup,Zk,Zn,Zl,Zh,Zj,List.map_cons,List.map_nil,cond_true,cond_false,aop,Zv,Zq,Zp,ev,sput,Zt,Zy,Ya,unK,Zd,Zw,Nat.reduceBEq,Nat.reduceAdd,Int.reduceBEq,Int.reduceBNe,Int.reduceLT,Zu,Zz,tup,tyf,Xh rs.bx Xf,hand,hd2,rangeQ]
       refine ⟨ov1,lv1,?_⟩
       rw [List.flatMap_append,List.flatMap_singleton,hF,List.append_nil]
       exact rs
   · rintro hk ⟨ov1,lv1,rs⟩
     rw [hall] at rs
     simp (maxSteps:=2000000) only [s103,↓Za,↓Zi,↓Zr,↓Ze,↓Zo,↓Zs,↓Zg,↓Zm,↓Zf,↓Zb,↓Zc,↓vdn,vup,Zk,Zn,Zl,Zh,Zj,List.map_cons,List.map_nil,cond_true,cond_false,aop,Zv,Zq,Zp,ev,sput,Zt,Zy,Ya,unK,Zd,Zw,Nat.reduceBEq,Nat.reduceAdd,Int.reduceBEq,Int.reduceBNe,Int.reduceLT,Zu,Zz,tup,tyf]
     exact ⟨ov1,lv1,rs.gs,rs.ext,rs.blko,rs.blkl⟩
end Go.Proofs.Tryd.Am
namespace Go.Proofs.Tryd.Am
open Go.Am
set_option maxRecDepth 100000
/-! 104: slices.IndexFunc[[][2]int,[2]int] -/
@[reducible] def q104_0:SCode:=.region [⟨some 4,.assign (.const (.int .i64 0)),none⟩]
@[reducible] def q104_1:SCode:=.region [⟨some 6,.move (.tmp 0),none⟩,
  ⟨some 7,.call { callee:=.builtin .len,args:=#[.tmp 6],argTypes:=#[52] },none⟩,
  ⟨some 8,.move (.const (.int .i64 0)),none⟩]
@[reducible] def q104_2:SCode:=.region [⟨some 9,.binOp .lss 3 (.tmp 8) (.tmp 7) 3,none⟩]
@[reducible] def q104_3:SCode:=.region [⟨some 10,.move (.tmp 8),none⟩,
  ⟨some 5,.assign (.tmp 10),none⟩]
@[reducible] def q104_4:SCode:=.region [⟨some 11,.move (.tmp 1),none⟩,
  ⟨some 12,.move (.tmp 0),none⟩,
  ⟨some 13,.move (.tmp 5),none⟩,
  ⟨some 14,.indexAddr 52 (.tmp 12) (.tmp 13),none⟩,
  ⟨some 15,.load 33 (.tmp 14),none⟩,
  ⟨some 16,.call { callee:=.value (.tmp 11),args:=#[.tmp 15],argTypes:=#[33] },none⟩]
@[reducible] def q104_5:SCode:=.region [⟨some 17,.move (.tmp 5),none⟩,
  ⟨some 4,.assign (.tmp 17),none⟩]
@[reducible] def q104_6:SCode:=.region [⟨some 18,.binOp .add 3 (.tmp 8) (.const (.int .i64 1)) 3,none⟩,
  ⟨some 8,.move (.tmp 18),none⟩]
def l104_0:SCode:=(.seq q104_2 (.seq (.cond (.tmp 9) .skip (.exit 0)) (.seq (.block 1 (.seq q104_3 (.seq q104_4 (.cond (.tmp 16) (.seq q104_5 .ret) .skip)))) q104_6)))
@[reducible] def q104_7:SCode:=.region [⟨some 4,.assign (.const (.int .i64 (-1))),none⟩]
def s104:SCode:=(.seq q104_0 (.seq (.seq q104_1 (.block 0 (.loop l104_0))) (.seq q104_7 .ret)))
theorem s104_strip:Yg (Yf Tryd.f104)=s104:=by kernel_rfl
theorem s104_ok:Yz 19 (Yf Tryd.f104)=true:=by kernel_rfl
/-! 34: slices.Equal[[]int,int] -/
@[reducible] def q34_0:SCode:=.region [⟨some 4,.assign (.const (.bool false)),none⟩]
@[reducible] def q34_1:SCode:=.region [⟨some 6,.move (.tmp 0),none⟩,
  ⟨some 7,.call { callee:=.builtin .len,args:=#[.tmp 6],argTypes:=#[22] },none⟩,
  ⟨some 8,.move (.tmp 1),none⟩,
  ⟨some 9,.call { callee:=.builtin .len,args:=#[.tmp 8],argTypes:=#[22] },none⟩,
  ⟨some 10,.binOp .neq 3 (.tmp 7) (.tmp 9) 3,none⟩]
@[reducible] def q34_2:SCode:=.region [⟨some 4,.assign (.const (.bool false)),none⟩]
@[reducible] def q34_3:SCode:=.region [⟨some 11,.move (.tmp 0),none⟩,
  ⟨some 12,.call { callee:=.builtin .len,args:=#[.tmp 11],argTypes:=#[22] },none⟩,
  ⟨some 13,.move (.const (.int .i64 0)),none⟩]
@[reducible] def q34_4:SCode:=.region [⟨some 14,.binOp .lss 3 (.tmp 13) (.tmp 12) 3,none⟩]
@[reducible] def q34_5:SCode:=.region [⟨some 15,.move (.tmp 13),none⟩,
  ⟨some 5,.assign (.tmp 15),none⟩]
def q34_6:SCode:=.draw [⟨some 16,.move (.tmp 0),none⟩,
    ⟨some 17,.move (.tmp 5),none⟩,
    ⟨some 18,.indexAddr 22 (.tmp 16) (.tmp 17),none⟩,
    ⟨some 19,.load 3 (.tmp 18),none⟩,
    ⟨some 20,.move (.tmp 1),none⟩,
    ⟨some 21,.move (.tmp 5),none⟩,
    ⟨some 22,.indexAddr 22 (.tmp 20) (.tmp 21),none⟩,
    ⟨some 23,.load 3 (.tmp 22),none⟩,
    ⟨some 24,.binOp .neq 3 (.tmp 19) (.tmp 23) 3,none⟩]
  [[],[],[0,1],[2],[],[],[4,5],[6],[3,7]]
@[reducible] def q34_7:SCode:=.region [⟨some 4,.assign (.const (.bool false)),none⟩]
@[reducible] def q34_8:SCode:=.region [⟨some 25,.binOp .add 3 (.tmp 13) (.const (.int .i64 1)) 3,none⟩,
  ⟨some 13,.move (.tmp 25),none⟩]
def l34_0:SCode:=(.seq q34_4 (.seq (.cond (.tmp 14) .skip (.exit 0)) (.seq (.block 1 (.seq q34_5 (.seq q34_6 (.cond (.tmp 24) (.seq q34_7 .ret) .skip)))) q34_8)))
@[reducible] def q34_9:SCode:=.region [⟨some 4,.assign (.const (.bool true)),none⟩]
def s34:SCode:=(.seq q34_0 (.seq (.seq q34_1 (.cond (.tmp 10) (.seq q34_2 .ret) .skip)) (.seq (.seq q34_3 (.block 0 (.loop l34_0))) (.seq q34_9 .ret))))
theorem s34_strip:Yg (Yf Tryd.f34)=s34:=by kernel_rfl
theorem s34_ok:Yz 26 (Yf Tryd.f34)=true:=by kernel_rfl
theorem s34_call [Tabs Tryd.prog] {args:List Value} {h:Yb} {Q:Value→Yb→Prop} (hsz:args.length≤26) (hk:aw Tryd.prog 26 s34 (Zu Tryd.prog [.tmp 4] Q) (Zp 0 args) h):ACall Tryd.prog 34 args h Q :=
 Wg Tryd.func34 rfl (enters_of Tryd.func34 (by kernel_rfl) rfl) rfl rfl (by decide) s34_strip s34_ok hsz hk
end Go.Proofs.Tryd.Am
namespace Go.Proofs.Tryd.Am
open Go.Am Ord
set_option maxRecDepth 100000
set_option maxHeartbeats 1000000
section
variable {h:Yb} {b:Nat} {e:TypeId} {ro:Bool} {x y:Int} {K:Value→Prop}
theorem pidx0 {p:Nat}:Yt prog 33 (.pointer (some ⟨p,0,none⟩)) (.int .i64 0) K=K (.pointer (some ⟨p,0,none⟩)):=idxA (k:=0) und_33 Xt (by decide)
theorem pidx1 {p:Nat}:Yt prog 33 (.pointer (some ⟨p,0,none⟩)) (.int .i64 1) K=K (.pointer (some ⟨p,1,none⟩)):=idxA (k:=1) und_33 Xt (by decide)
theorem pl0 (hb:h[b]? = some (.cells [.int .i64 x,.int .i64 y] e ro)):Xw prog h 3 (.pointer (some ⟨b,0,none⟩)) K=K (.int .i64 x):=loadC hb Xf rfl
theorem pl1 (hb:h[b]? = some (.cells [.int .i64 x,.int .i64 y] e ro)):Xw prog h 3 (.pointer (some ⟨b,1,none⟩)) K=K (.int .i64 y):=loadC hb Xf rfl
theorem pst {c:List Value} {K:Yb→Prop} (hb:h[b]? = some (.cells c e false)) (hc:c.length=2):Xv prog h 33 (.pointer (some ⟨b,0,none⟩)) (.agg #[.int .i64 x,.int .i64 y]) K=K (h.set b (.cells [.int .i64 x,.int .i64 y] e false)) :=
 storeA (vs:=[.int .i64 x,.int .i64 y]) hb (by rw [shp_33]; rfl) rfl (by rw [hc]; rfl)
end
end Go.Proofs.Tryd.Am
namespace Go.Proofs.Tryd.Am
open Go.Am Ord
set_option maxRecDepth 100000
set_option maxHeartbeats 1000000
end Go.Proofs.Tryd.Am
namespace Go.Proofs.Tryd.Am
open Go.Am Ord
set_option maxRecDepth 100000
set_option maxHeartbeats 1000000
end Go.Proofs.Tryd.Am
namespace Go.Proofs.Tryd.Am
open Go.Am Ord
set_option maxRecDepth 100000
set_option maxHeartbeats 1000000
theorem idxL {P:Program} {t e:TypeId} {b n c k:Nat} {sp:Option Nat} {K:Value→Prop} (he:elemOf' P t=some e) (hs:esz P e=some 1) (hk:k<n):Yt P t (.slice (some ⟨b,0,sp⟩) n c) (Zx (k:Nat)) K=K (.pointer (some ⟨b,k,none⟩)):=by
 simp only [Yt,he,hs,Int.natCast_nonneg,Int.toNat_natCast,Nat.mul_one,Nat.zero_add,true_and,Int.ofNat_lt.2 hk]
theorem before_call [BitTab prog 1] {h:Yb} {o:List Int} (ho:ord o=true) {i j:Nat} (hi:i<o.length) (hj:j<o.length):APure prog 72 [ordV o,Zx i,Zx j] h (Zx (befN o i j:Nat)):=by
 have hl:=Yu ho
 refine ACall.forget (Low.int _ _) ?_
 refine s72_call (by simp) ?_
 simp only [s72]
 refine Wj fun N hN=>?_
 simp (maxSteps:=2000000) only [s72,↓Za,↓Zi,↓Zr,↓Ze,↓Zo,↓Zs,↓Zg,↓Zm,↓Zf,↓Zb,↓Zc,↓vdn,vup,Zk,Zn,Zl,Zh,Zj,List.map_cons,List.map_nil,cond_true,cond_false,aop,Zv,Zq,Zp,ev,sput,Zt,Zy,Ya,unK,Zd,Zw,Nat.reduceBEq,Nat.reduceAdd,Int.reduceBEq,Int.reduceBNe,Int.reduceLT,Zu,Zz,tup,tyf,boxO esz_77,Ys]
 refine hN _ _ ?_
 clear hN N
 have b0:=Yl h (Blk.cells (Wa o) 77 false)
 have hE:Ext (fun _=>False) h (h++[Blk.cells (Wa o) 77 false]):=Ext.app _ _ _
 generalize h++[Blk.cells (Wa o) 77 false]=H at b0 hE ⊢
 cases hab:ab o i j with
 | true =>
   have hb:befN o i j=cn o:=by rw [befN,if_pos hab]
   simp (maxSteps:=2000000) only [s72,↓Za,↓Zi,↓Zr,↓Ze,↓Zo,↓Zs,↓Zg,↓Zm,↓Zf,↓Zb,↓Zc,↓vdn,vup,Zk,Zn,Zl,Zh,Zj,List.map_cons,List.map_nil,cond_true,cond_false,aop,Zv,Zq,Zp,ev,sput,Zt,Zy,Ya,unK,Zd,Zw,Nat.reduceBEq,Nat.reduceAdd,Int.reduceBEq,Int.reduceBNe,Int.reduceLT,Zu,Zz,tup,tyf,fldA Vg esz_75,idxA und_75 Xt (show i<6 by omega),loadI b0 Xf hl.2 (show i<6 by omega),testO ho hi,hab,if_true,if_false,Bool.false_eq_true,Int.reduceBEq,Vd b0 Xb hl.2,Yx,List.nil_append,List.append_nil,List.toList_toArray,List.cons_append]
   refine (Wy ho).mono ?_
   rintro _ _ ⟨rfl,rfl⟩
   exact ⟨by rw [hb],hE⟩
 | false =>
   simp (maxSteps:=2000000) only [s72,↓Za,↓Zi,↓Zr,↓Ze,↓Zo,↓Zs,↓Zg,↓Zm,↓Zf,↓Zb,↓Zc,↓vdn,vup,Zk,Zn,Zl,Zh,Zj,List.map_cons,List.map_nil,cond_true,cond_false,aop,Zv,Zq,Zp,ev,sput,Zt,Zy,Ya,unK,Zd,Zw,Nat.reduceBEq,Nat.reduceAdd,Int.reduceBEq,Int.reduceBNe,Int.reduceLT,Zu,Zz,tup,tyf,fldA Vg esz_75,idxA und_75 Xt (show i<6 by omega),loadI b0 Xf hl.2 (show i<6 by omega),testO ho hi,hab,if_true,if_false,Bool.false_eq_true,Int.reduceBEq,Vd b0 Xb hl.2,Yx,List.nil_append,List.append_nil,List.toList_toArray,List.cons_append]
   refine (free_call ho hi hj).mono ?_
   rintro _ _ ⟨rfl,rfl⟩
   cases hf:fr o i j with
   | false =>
     have hb:befN o i j=0:=by rw [befN,if_neg (by rw [hab]; decide),if_neg (by rw [hf]; decide)]
     simp (maxSteps:=2000000) only [s72,↓Za,↓Zi,↓Zr,↓Ze,↓Zo,↓Zs,↓Zg,↓Zm,↓Zf,↓Zb,↓Zc,↓vdn,vup,Zk,Zn,Zl,Zh,Zj,List.map_cons,List.map_nil,cond_true,cond_false,aop,Zv,Zq,Zp,ev,sput,Zt,Zy,Ya,unK,Zd,Zw,Nat.reduceBEq,Nat.reduceAdd,Int.reduceBEq,Int.reduceBNe,Int.reduceLT,Zu,Zz,tup,tyf,hf,hb,Int.natCast_zero]
     exact hE
   | true =>
     have hb:befN o i j=cn (addL o i j):=by rw [befN,if_neg (by rw [hab]; decide),if_pos hf]
     have hff:=hf
     simp only [fr,Bool.and_eq_true,decide_eq_true_eq,Bool.not_eq_true'] at hff
     simp (maxSteps:=2000000) only [s72,↓Za,↓Zi,↓Zr,↓Ze,↓Zo,↓Zs,↓Zg,↓Zm,↓Zf,↓Zb,↓Zc,↓vdn,vup,Zk,Zn,Zl,Zh,Zj,List.map_cons,List.map_nil,cond_true,cond_false,aop,Zv,Zq,Zp,ev,sput,Zt,Zy,Ya,unK,Zd,Zw,Nat.reduceBEq,Nat.reduceAdd,Int.reduceBEq,Int.reduceBNe,Int.reduceLT,Zu,Zz,tup,tyf,hf,Vd b0 Xb hl.2,Yx,List.nil_append,List.append_nil,List.toList_toArray,List.cons_append]
     refine (add_call ho hi hj).mono ?_
     rintro _ _ ⟨rfl,rfl⟩
     refine (Wy (Vx ho hi hj hff.1.1 hff.2)).mono ?_
     rintro _ _ ⟨rfl,rfl⟩
     exact ⟨by rw [hb],hE⟩
end Go.Proofs.Tryd.Am
namespace Go.Proofs.Tryd.Am
open Go.Am Ord
set_option maxRecDepth 100000
set_option maxHeartbeats 1000000
theorem equal_call [Tabs prog] {h:Yb} {v w:Value} {xs ys:List Int} (hv:IntSl h v xs) (hw:IntSl h w ys) (hl:xs.length<9223372036854775808) (hl2:ys.length<9223372036854775808) :
  APure prog 34 [v,w] h (.bool (decide (xs=ys))):=by
 refine s34_call (by simp) ?_
 by_cases hlen:xs.length=ys.length
 · have hne:((xs.length:Int) != ys.length)=false:=by simp [hlen]
   simp (maxSteps:=2000000) only [s34,↓Za,↓Zi,↓Zr,↓Ze,↓Zo,↓Zs,↓Zg,↓Zm,↓Zf,↓Zb,↓Zc,↓vdn,vup,Zk,Zn,Zl,Zh,Zj,List.map_cons,List.map_nil,cond_true,cond_false,aop,Zv,Zq,Zp,ev,sput,Zt,Zy,Ya,unK,Zd,Zw,Nat.reduceBEq,Nat.reduceAdd,Int.reduceBEq,Int.reduceBNe,Int.reduceLT,Zu,Zz,tup,tyf,hv.len,hw.len,hne,↓Vl]
   refine Yn fun Q hQ=>?_
   refine aw_loop (γ:=Nat) (fun i=>i≤xs.length∧∀ k,k<i→xs.getD k 0=ys.getD k 0)
    (fun i=>([(0,v),(1,w),(12,Zx xs.length),(13,Zx i)],h)) (fun i=>xs.length-i) 0 ⟨by omega,fun _ hk=>by omega⟩ (by simp (maxSteps:=2000000) only [↓Za,↓Zi,↓Zr,↓Ze,↓Zo,↓Zs,↓Zg,↓Zm,↓Zf,↓Zb,↓Zc,↓vdn,vup,Zk,Zn,Zl,Zh,Zj,List.map_cons,List.map_nil,cond_true,cond_false,aop,Zv,Zq,Zp,ev,sput,Zt,Zy,Ya,unK,Zd,Zw,Nat.reduceBEq,Nat.reduceAdd,Int.reduceBEq,Int.reduceBNe,Int.reduceLT,Zu,Zz,tup,tyf,Int.natCast_zero]) rfl ?_
   rintro i ⟨hi,hok⟩
   refine aw_hide fun Q2 hQ2=>?_
   by_cases hin:(i:Int)<xs.length
   · have h1:i<xs.length:=by omega
     have h2:i<ys.length:=by omega
     simp (maxSteps:=2000000) only [s34,↓Za,↓Zi,↓Zr,↓Ze,↓Zo,↓Zs,↓Zg,↓Zm,↓Zf,↓Zb,↓Zc,↓vdn,vup,Zk,Zn,Zl,Zh,Zj,List.map_cons,List.map_nil,cond_true,cond_false,aop,Zv,Zq,Zp,ev,sput,Zt,Zy,Ya,unK,Zd,Zw,Nat.reduceBEq,Nat.reduceAdd,Int.reduceBEq,Int.reduceBNe,Int.reduceLT,Zu,Zz,tup,tyf,l34_0,hin]
     refine aw_draw [] (by kernel_rfl) (by kernel_rfl) (by kernel_rfl) ?_
     by_cases heq:xs.getD i 0=ys.getD i 0
     · have hb:(xs.getD i 0 != ys.getD i 0)=false:=by rw [heq]; exact bne_self_eq_false _
       simp (maxSteps:=2000000) only [s34,↓Za,↓Zi,↓Zr,↓Ze,↓Zo,↓Zs,↓Zg,↓Zm,↓Zf,↓Zb,↓Zc,↓vdn,vup,Zk,Zn,Zl,Zh,Zj,List.map_cons,List.map_nil,cond_true,cond_false,aop,Zv,Zq,Zp,ev,sput,Zt,Zy,Ya,unK,Zd,Zw,Nat.reduceBEq,Nat.reduceAdd,Int.reduceBEq,Int.reduceBNe,Int.reduceLT,Zu,Zz,tup,tyf,hv.idx Uh Xt h1,hv.load Xf h1,hw.idx Uh Xt h2,hw.load Xf h2,hb,add1 (show i<9223372036854775807 by omega)]
       refine hQ2 _ _ _ ⟨i+1,⟨by omega,fun k hk=>?_⟩,by omega,by simp (maxSteps:=2000000) only [↓Za,↓Zi,↓Zr,↓Ze,↓Zo,↓Zs,↓Zg,↓Zm,↓Zf,↓Zb,↓Zc,↓vdn,vup,Zk,Zn,Zl,Zh,Zj,List.map_cons,List.map_nil,cond_true,cond_false,aop,Zv,Zq,Zp,ev,sput,Zt,Zy,Ya,unK,Zd,Zw,Nat.reduceBEq,Nat.reduceAdd,Int.reduceBEq,Int.reduceBNe,Int.reduceLT,Zu,Zz,tup,tyf],rfl⟩
       by_cases hki:k=i
       · subst hki; exact heq
       · exact hok k (by omega)
     · have hb:(xs.getD i 0 != ys.getD i 0)=true:=by simp only [bne_iff_ne,ne_eq]; exact heq
       simp (maxSteps:=2000000) only [s34,↓Za,↓Zi,↓Zr,↓Ze,↓Zo,↓Zs,↓Zg,↓Zm,↓Zf,↓Zb,↓Zc,↓vdn,vup,Zk,Zn,Zl,Zh,Zj,List.map_cons,List.map_nil,cond_true,cond_false,aop,Zv,Zq,Zp,ev,sput,Zt,Zy,Ya,unK,Zd,Zw,Nat.reduceBEq,Nat.reduceAdd,Int.reduceBEq,Int.reduceBNe,Int.reduceLT,Zu,Zz,tup,tyf,hv.idx Uh Xt h1,hv.load Xf h1,hw.idx Uh Xt h2,hw.load Xf h2,hb]
       refine hQ2 _ _ _ (hQ _ _ _ ?_)
       have hne:decide (xs=ys)=false:=decide_eq_false (fun he=>heq (by rw [he]))
       simp (maxSteps:=2000000) only [↓Za,↓Zi,↓Zr,↓Ze,↓Zo,↓Zs,↓Zg,↓Zm,↓Zf,↓Zb,↓Zc,↓vdn,vup,Zk,Zn,Zl,Zh,Zj,List.map_cons,List.map_nil,cond_true,cond_false,aop,Zv,Zq,Zp,ev,sput,Zt,Zy,Ya,unK,Zd,Zw,Nat.reduceBEq,Nat.reduceAdd,Int.reduceBEq,Int.reduceBNe,Int.reduceLT,Zu,Zz,tup,tyf,hne]
   · obtain rfl:i=xs.length:=by omega
     simp (maxSteps:=2000000) only [s34,↓Za,↓Zi,↓Zr,↓Ze,↓Zo,↓Zs,↓Zg,↓Zm,↓Zf,↓Zb,↓Zc,↓vdn,vup,Zk,Zn,Zl,Zh,Zj,List.map_cons,List.map_nil,cond_true,cond_false,aop,Zv,Zq,Zp,ev,sput,Zt,Zy,Ya,unK,Zd,Zw,Nat.reduceBEq,Nat.reduceAdd,Int.reduceBEq,Int.reduceBNe,Int.reduceLT,Zu,Zz,tup,tyf,l34_0,Int.lt_irrefl]
     refine hQ2 _ _ _ (hQ _ _ _ ?_)
     have he:decide (xs=ys)=true:=decide_eq_true (List.ext_getElem hlen fun k h1 h2=>by
      have:=hok k h1
      simpa [List.getD,List.getElem?_eq_getElem h1,List.getElem?_eq_getElem h2] using this)
     simp (maxSteps:=2000000) only [s34,↓Za,↓Zi,↓Zr,↓Ze,↓Zo,↓Zs,↓Zg,↓Zm,↓Zf,↓Zb,↓Zc,↓vdn,vup,Zk,Zn,Zl,Zh,Zj,List.map_cons,List.map_nil,cond_true,cond_false,aop,Zv,Zq,Zp,ev,sput,Zt,Zy,Ya,unK,Zd,Zw,Nat.reduceBEq,Nat.reduceAdd,Int.reduceBEq,Int.reduceBNe,Int.reduceLT,Zu,Zz,tup,tyf,if_true,he]
 · have hne:((xs.length:Int) != ys.length)=true:=by simp only [bne_iff_ne,ne_eq]; omega
   have hf:decide (xs=ys)=false:=decide_eq_false (fun he=>hlen (by rw [he]))
   simp (maxSteps:=2000000) only [s34,↓Za,↓Zi,↓Zr,↓Ze,↓Zo,↓Zs,↓Zg,↓Zm,↓Zf,↓Zb,↓Zc,↓vdn,vup,Zk,Zn,Zl,Zh,Zj,List.map_cons,List.map_nil,cond_true,cond_false,aop,Zv,Zq,Zp,ev,sput,Zt,Zy,Ya,unK,Zd,Zw,Nat.reduceBEq,Nat.reduceAdd,Int.reduceBEq,Int.reduceBNe,Int.reduceLT,Zu,Zz,tup,tyf,hv.len,hw.len,hne,hf]
theorem AddR.ext {o:List Int} {i j:Int} {s:Value} {e:Int} {h h' : Yb} (ha:AddR o i j s e h) (hE:Ext (fun _=>False) h h'):AddR o i j s e h':=by
 by_cases h1:ord o=true∧elI o i=true∧elI o j=true
 · rw [AddR,if_pos h1] at ha ⊢
   by_cases h2:fr o i.toNat j.toNat=true
   · rw [if_pos h2] at ha ⊢; exact ⟨ha.1,Wb ha.2 hE⟩
   · rw [if_neg h2] at ha ⊢; exact ha
 · rw [AddR,if_neg h1] at ha ⊢; exact ha
end Go.Proofs.Tryd.Am
namespace Go.Proofs.Tryd.Am
open Go.Am Ord
set_option maxRecDepth 100000
set_option maxHeartbeats 1000000
theorem lines75_call [BitTab prog 1] {h:Yb} {o:List Int} (ho:ord o=true):ACall prog 75 [ordV o] h fun r h'=>RdL 3 h' r (linesI o)∧Ext (fun _=>False) h h':=by
 have hlen:=Yu ho
 have hpw:=pow6 hlen.2
 have hcn:=cn_le ho
 refine s75_call (by simp) ?_
 simp only [s75]
 refine Wj fun N hN=>?_
 simp (maxSteps:=2000000) only [s75,↓Za,↓Zi,↓Zr,↓Ze,↓Zo,↓Zs,↓Zg,↓Zm,↓Zf,↓Zb,↓Zc,↓vdn,vup,Zk,Zn,Zl,Zh,Zj,List.map_cons,List.map_nil,cond_true,cond_false,aop,Zv,Zq,Zp,ev,sput,Zt,Zy,Ya,unK,Zd,Zw,Nat.reduceBEq,Nat.reduceAdd,Int.reduceBEq,Int.reduceBNe,Int.reduceLT,Zu,Zz,tup,tyf,boxO esz_77,Ys]
 refine hN _ _ ?_
 clear hN N
 refine Wj fun N hN=>?_
 simp (maxSteps:=2000000) only [s75,↓Za,↓Zi,↓Zr,↓Ze,↓Zo,↓Zs,↓Zg,↓Zm,↓Zf,↓Zb,↓Zc,↓vdn,vup,Zk,Zn,Zl,Zh,Zj,List.map_cons,List.map_nil,cond_true,cond_false,aop,Zv,Zq,Zp,ev,sput,Zt,Zy,Ya,unK,Zd,Zw,Nat.reduceBEq,Nat.reduceAdd,Int.reduceBEq,Int.reduceBNe,Int.reduceLT,Zu,Zz,tup,tyf,Xr,Ys,zero_45]
 refine hN _ _ ?_
 clear hN N
 refine Wj fun N hN=>?_
 simp (maxSteps:=2000000) only [s75,↓Za,↓Zi,↓Zr,↓Ze,↓Zo,↓Zs,↓Zg,↓Zm,↓Zf,↓Zb,↓Zc,↓vdn,vup,Zk,Zn,Zl,Zh,Zj,List.map_cons,List.map_nil,cond_true,cond_false,aop,Zv,Zq,Zp,ev,sput,Zt,Zy,Ya,unK,Zd,Zw,Nat.reduceBEq,Nat.reduceAdd,Int.reduceBEq,Int.reduceBNe,Int.reduceLT,Zu,Zz,tup,tyf,Xr,Ys,zero_22]
 refine hN _ _ ?_
 clear hN N
 refine Wj fun N hN=>?_
 simp (maxSteps:=2000000) only [s75,↓Za,↓Zi,↓Zr,↓Ze,↓Zo,↓Zs,↓Zg,↓Zm,↓Zf,↓Zb,↓Zc,↓vdn,vup,Zk,Zn,Zl,Zh,Zj,List.map_cons,List.map_nil,cond_true,cond_false,aop,Zv,Zq,Zp,ev,sput,Zt,Zy,Ya,unK,Zd,Zw,Nat.reduceBEq,Nat.reduceAdd,Int.reduceBEq,Int.reduceBNe,Int.reduceLT,Zu,Zz,tup,tyf,Xr,Ys,zero_118]
 refine hN _ _ ?_
 clear hN N
 obtain ⟨n,hn⟩ : ∃ n,n=h.length:=⟨_,rfl⟩
 simp only [List.length_append,List.length_cons,List.length_nil,Nat.zero_add,Nat.add_assoc,Nat.reduceAdd,← hn]
 obtain ⟨F,hF⟩ : ∃ F,F=h++[Blk.cells (Wa o) 77 false]++[Blk.cells [.slice none 0 0] 45 false]++[Blk.cells [.slice none 0 0] 22 false]++[Blk.cells [.nilFunc] 118 false]:=⟨_,rfl⟩
 rw [← hF]
 have hFl:F.length=n+4:=by rw [hF,hn]; simp
 have f0:F[n]? = some (.cells (Wa o) 77 false):=by rw [hF,hn]; exact Yh (Yh (Yh (Yl _ _) _) _) _
 have f1:F[n+1]? = some (.cells [.slice none 0 0] 45 false):=by
  have:=Yl (h++[Blk.cells (Wa o) 77 false]) (Blk.cells [.slice none 0 0] 45 false)
  simp only [List.length_append,List.length_singleton,← hn] at this
  rw [hF]; exact Yh (Yh this _) _
 have f2:F[n+2]? = some (.cells [.slice none 0 0] 22 false):=by
  have:=Yl (h++[Blk.cells (Wa o) 77 false]++[Blk.cells [.slice none 0 0] 45 false]) (Blk.cells [.slice none 0 0] 22 false)
  simp only [List.length_append,List.length_singleton,← hn,Nat.add_assoc,Nat.reduceAdd] at this
  rw [hF]; exact Yh this _
 have f3:F[n+3]? = some (.cells [.nilFunc] 118 false):=by
  have:=Yl (h++[Blk.cells (Wa o) 77 false]++[Blk.cells [.slice none 0 0] 45 false]++[Blk.cells [.slice none 0 0] 22 false]) (Blk.cells [.nilFunc] 118 false)
  simp only [List.length_append,List.length_singleton,← hn,Nat.add_assoc,Nat.reduceAdd] at this
  rw [hF]; exact this
 have hEF:Ext (fun _=>False) h F:=by rw [hF]; simp only [List.append_assoc]; exact Ext.app _ _ _
 clear hF
 refine Wj fun N hN=>?_
 simp (maxSteps:=2000000) only [s75,↓Za,↓Zi,↓Zr,↓Ze,↓Zo,↓Zs,↓Zg,↓Zm,↓Zf,↓Zb,↓Zc,↓vdn,vup,Zk,Zn,Zl,Zh,Zj,List.map_cons,List.map_nil,cond_true,cond_false,aop,Zv,Zq,Zp,ev,sput,Zt,Zy,Ya,unK,Zd,Zw,Nat.reduceBEq,Nat.reduceAdd,Int.reduceBEq,Int.reduceBNe,Int.reduceLT,Zu,Zz,tup,tyf,List.map_toArray,Go.Am.storeF f3 shp_118]
 refine hN _ _ ?_
 clear hN N
 obtain ⟨G,hG⟩ : ∃ G,G=F.set (n+3) (.cells [gV (n+1) (n+2) n (n+3)] 118 false):=⟨_,rfl⟩
 have hG':=hG
 rw [gV] at hG'
 rw [← hG']
 have g0:G[n]? = some (.cells (Wa o) 77 false):=by rw [hG,List.getElem?_set_ne (by omega)]; exact f0
 have g1:G[n+1]? = some (.cells [.slice none 0 0] 45 false):=by rw [hG,List.getElem?_set_ne (by omega)]; exact f1
 have g2:G[n+2]? = some (.cells [.slice none 0 0] 22 false):=by rw [hG,List.getElem?_set_ne (by omega)]; exact f2
 have g3:G[n+3]? = some (.cells [gV (n+1) (n+2) n (n+3)] 118 false):=by rw [hG]; exact Xc (by omega) _
 have hGl:G.length=n+4:=by rw [hG]; simp [hFl]
 have hEG:Ext (fun _=>False) h G:=⟨by omega,fun i hi _=>by rw [hG,List.getElem?_set_ne (by omega)]; exact hEF.2 i hi id⟩
 clear hG hG' hEF f0 f1 f2 f3 hFl
 clear F
 have ls:LS (fun i=>i=n∨i=n+3) G (n+1) (n+2) G (.slice none 0 0) (.slice none 0 0) [] [] :=
  ⟨Nat.le_refl _,fun _ _=>rfl,fun i hi=>by omega,g1,g2,by omega,by omega,by omega,.inl ⟨rfl,rfl⟩,⟨[],.inl ⟨rfl,rfl⟩,trivial,fun _ h=>by cases h⟩,fun _ h=>(by cases h),fun _ h=>(by cases h)⟩
 have hba:Am.bits (2 ^ o.length-1)=List.range o.length:=Ord.bits_all (by omega)
 have hgr:=grow_call (I:=fun i=>i=n∨i=n+3) ho ⟨.inl rfl,.inr rfl⟩ g0 g3 o.length (2 ^ o.length-1) [] [] G _ _ ls (by rw [hba,List.length_range]) (by have:=Nat.two_pow_pos o.length; omega) (by simp) (by
  rw [hba]
  have:=Xj o
  rw [Yq] at this
  rw [this,List.length_nil]; omega)
 rw [hba] at hgr
 simp (maxSteps:=2000000) only [s75,↓Za,↓Zi,↓Zr,↓Ze,↓Zo,↓Zs,↓Zg,↓Zm,↓Zf,↓Zb,↓Zc,↓vdn,vup,Zk,Zn,Zl,Zh,Zj,List.map_cons,List.map_nil,cond_true,cond_false,aop,Zv,Zq,Zp,ev,sput,Zt,Zy,Ya,unK,Zd,Zw,Nat.reduceBEq,Nat.reduceAdd,Int.reduceBEq,Int.reduceBNe,Int.reduceLT,Zu,Zz,tup,tyf]
 refine Xp [(2,1),(3,4)] (by kernel_rfl) (by kernel_rfl) (by kernel_rfl) (by kernel_rfl) ?_
 simp (maxSteps:=2000000) only [s75,↓Za,↓Zi,↓Zr,↓Ze,↓Zo,↓Zs,↓Zg,↓Zm,↓Zf,↓Zb,↓Zc,↓vdn,vup,Zk,Zn,Zl,Zh,Zj,List.map_cons,List.map_nil,cond_true,cond_false,aop,Zv,Zq,Zp,ev,sput,Zt,Zy,Ya,unK,Zd,Zw,Nat.reduceBEq,Nat.reduceAdd,Int.reduceBEq,Int.reduceBNe,Int.reduceLT,Zu,Zz,tup,tyf,Xh g3 shp_118,gV,Vd g0 Xb hlen.2,Yx,List.nil_append,List.append_nil,List.toList_toArray,List.cons_append]
 refine ⟨_,_,all_call hlen.2,rfl,?_⟩
 refine hgr.mono ?_
 rintro _ h' ⟨ov,lv,gs,hE,_,_⟩
 simp (maxSteps:=2000000) only [s75,↓Za,↓Zi,↓Zr,↓Ze,↓Zo,↓Zs,↓Zg,↓Zm,↓Zf,↓Zb,↓Zc,↓vdn,vup,Zk,Zn,Zl,Zh,Zj,List.map_cons,List.map_nil,cond_true,cond_false,aop,Zv,Zq,Zp,ev,sput,Zt,Zy,Ya,unK,Zd,Zw,Nat.reduceBEq,Nat.reduceAdd,Int.reduceBEq,Int.reduceBNe,Int.reduceLT,Zu,Zz,tup,tyf,Xh gs.o shp_45]
 obtain ⟨ws,k1,k2,_⟩:=gs.out
 refine ⟨⟨ws,k1.val,?_⟩,⟨by have:=hE.1; omega,fun i hi _=>?_⟩⟩
 · rw [List.nil_append] at k2; exact k2
 · rw [hE.2 i (by omega) ?_,hEG.2 i hi id]
   rintro (h | h | h | h)
   · omega
   · omega
   · cases h
   · cases h
end Go.Proofs.Tryd.Am
namespace Go.Proofs.Tryd.Am
open Go.Am Ord
set_option maxRecDepth 100000
set_option maxHeartbeats 4000000
theorem shortest_up {P:List Nat→Bool} {N d s:Nat} {q:List Nat} (h:Xl P N d s=some q):Xl P N d (s+1)=some q:=by rw [Xl,h]; rfl
theorem real_hit {o:List Int} {s:Nat} {q:List Nat} (h:Xl (sepB o) (cn o) 1 s=none) (hq:srch (sepB o) (cn o) 1 (s+1) 0 []=some q) (hs:s<3):Ve o=q:=by
 have h1:Xl (sepB o) (cn o) 1 (s+1)=some q:=by rw [Xl,h,hq]; rfl
 have h3:Xl (sepB o) (cn o) 1 3=some q:=by
  have:s=0∨s=1∨s=2:=by omega
  rcases this with rfl | rfl | rfl
  · exact shortest_up (shortest_up h1)
  · exact shortest_up h1
  · exact h1
 rw [Ve,h3]; rfl
theorem real_not3 {o:List Int} (ho:ord o=true):Xl (sepB o) (cn o) 1 3≠none:=fun h=>by
 obtain ⟨A,t,ha,hc,h1,h3,hA,hs⟩:=real_ex ho
 rw [Vp h t h1 h3 hc] at hs; cases hs
theorem real_q {o:List Int} {s:Nat} {q:List Nat} (hq:srch (sepB o) (cn o) 1 s 0 []=some q):q.length=s∧Cmp (cn o) 1 0 q∧sepB o q=true:=by
 obtain ⟨t,rfl,h2,h3,h4⟩:=srch_some hq
 exact ⟨by simpa using h2,by simpa using h3,h4⟩
def realLL (o:List Int):List (List Int):=(Ve o).map fun k=>castN (lin o k)
theorem ext_pf {h B H:Yb} {pf:Nat} (h1:Ext (fun _=>False) h B) (h2:Ext (fun b=>b=pf) B H) (hp:h.length≤pf):Ext (fun _=>False) h H :=
 ⟨Nat.le_trans h1.1 h2.1,fun i hi _=>(h2.2 i (Nat.lt_of_lt_of_le hi h1.1) (by omega)).trans (h1.2 i hi id)⟩
theorem setEnd (g:Yb) (B C:Blk):(g++[B]).set g.length C=g++[C]:=by rw [List.set_append_right _ _ (Nat.le_refl _),Nat.sub_self]; rfl
theorem rdL_one {e2:TypeId} {h:Yb} {v:Value} {Ls:List (List Int)} (hv:RdL e2 h v Ls):one v=true:=by
 obtain ⟨ws,h1,_⟩:=hv
 rcases h1 with ⟨rfl,_⟩ | ⟨b,o,sp,cap,c,e,ro,rfl,_⟩ <;> rfl
theorem s80_callW [Tabs Tryd.prog] {args:List Value} {h:Yb} {Q:Value→Yb→Prop} (hsz:args.length≤62) (hk:AWS Tryd.prog 62 s80 (Zu Tryd.prog [.tmp 2] Q) (Zp 0 args) h):ACall Tryd.prog 80 args h Q :=
 Wx Tryd.func80 rfl (enters_of Tryd.func80 (by kernel_rfl) rfl) rfl rfl (by decide) s80_strip s80_ok hsz hk
theorem realizer_call [BitTab prog 1] {h:Yb} {o:List Int} (ho:ord o=true):ACall prog 80 [ordV o] h fun r h'=>RdL 3 h' r (realLL o)∧Ext (fun _=>False) h h':=by
 have hln:=Yu ho
 have hcn:=cn_le ho
 have hp:=pow6 hln.2
 have sh:shp prog 121=some (some 6):=shp_121
 have hLl:(linesI o).length=cn o:=linesI_len o
 refine s80_callW (by simp) ?_
 simp only [s80]
 obtain ⟨g0,hg0⟩ : ∃ z,z=h++[Blk.cells (Wa o) 77 false]:=⟨_,rfl⟩
 have e0:Ext (fun _=>False) h g0:=by rw [hg0]; exact Ext.app _ _ _
 have b1:g0[h.length]? = some (.cells (Wa o) 77 false):=by rw [hg0]; exact Yl _ _
 refine Yc fun N1 hN1=>?_
 simp (maxSteps:=2000000) only [s80,↓Za,↓Zi,↓Zr,↓Ze,↓Zo,↓Zs,↓Zg,↓Zm,↓Zf,↓Zb,↓Zc,↓vdn,vup,Zk,Zn,Zl,Zh,Zj,List.map_cons,List.map_nil,cond_true,cond_false,aop,Zv,Zq,Zp,ev,sput,Zt,Zy,Ya,unK,Zd,Zw,Nat.reduceBEq,Nat.reduceAdd,Int.reduceBEq,Int.reduceBNe,Int.reduceLT,Zu,Zz,tup,tyf,boxO esz_77,Ys]
 rw [← hg0]
 refine hN1 [(1,.pointer (some ⟨h.length,0,none⟩)),(2,.slice none 0 0)] _ _ ?_ (by simp (maxSteps:=2000000) only [↓Za,↓Zi,↓Zr,↓Ze,↓Zo,↓Zs,↓Zg,↓Zm,↓Zf,↓Zb,↓Zc,↓vdn,vup,Zk,Zn,Zl,Zh,Zj,List.map_cons,List.map_nil,cond_true,cond_false,aop,Zv,Zq,Zp,ev,sput,Zt,Zy,Ya,unK,Zd,Zw,Nat.reduceBEq,Nat.reduceAdd,Int.reduceBEq,Int.reduceBNe,Int.reduceLT,Zu,Zz,tup,tyf])
 clear hN1
 try clear N1
 refine Yc fun N2 hN2=>?_
 simp (maxSteps:=2000000) only [s80,↓Za,↓Zi,↓Zr,↓Ze,↓Zo,↓Zs,↓Zg,↓Zm,↓Zf,↓Zb,↓Zc,↓vdn,vup,Zk,Zn,Zl,Zh,Zj,List.map_cons,List.map_nil,cond_true,cond_false,aop,Zv,Zq,Zp,ev,sput,Zt,Zy,Ya,unK,Zd,Zw,Nat.reduceBEq,Nat.reduceAdd,Int.reduceBEq,Int.reduceBNe,Int.reduceLT,Zu,Zz,tup,tyf,Yx,List.nil_append,List.append_nil,List.toList_toArray,List.cons_append,Vd b1 Xb hln.2]
 refine (lines75_call ho).mono ?_
 rintro lv h1 ⟨hlv,hE1⟩
 have st3 : ∀ {K:Yb→Prop},Xv prog (h1++[Blk.cells [.slice none 0 0] 45 false]) 45 (.pointer (some ⟨h1.length,0,none⟩)) lv K=K (h1++[Blk.cells [lv] 45 false]):=fun {K}=>by
  rw [store1 (Yl _ _) shp_45 (rdL_one hlv),setEnd]
 simp (maxSteps:=2000000) only [s80,↓Za,↓Zi,↓Zr,↓Ze,↓Zo,↓Zs,↓Zg,↓Zm,↓Zf,↓Zb,↓Zc,↓vdn,vup,Zk,Zn,Zl,Zh,Zj,List.map_cons,List.map_nil,cond_true,cond_false,aop,Zv,Zq,Zp,ev,sput,Zt,Zy,Ya,unK,Zd,Zw,Nat.reduceBEq,Nat.reduceAdd,Int.reduceBEq,Int.reduceBNe,Int.reduceLT,Zu,Zz,tup,tyf,Xr,Ys,zero_45,st3]
 refine hN2 [(1,.pointer (some ⟨h.length,0,none⟩)),(2,.slice none 0 0),(3,.pointer (some ⟨h1.length,0,none⟩))] _ _ ?_ (by simp (maxSteps:=2000000) only [↓Za,↓Zi,↓Zr,↓Ze,↓Zo,↓Zs,↓Zg,↓Zm,↓Zf,↓Zb,↓Zc,↓vdn,vup,Zk,Zn,Zl,Zh,Zj,List.map_cons,List.map_nil,cond_true,cond_false,aop,Zv,Zq,Zp,ev,sput,Zt,Zy,Ya,unK,Zd,Zw,Nat.reduceBEq,Nat.reduceAdd,Int.reduceBEq,Int.reduceBNe,Int.reduceLT,Zu,Zz,tup,tyf])
 clear hN2
 try clear N2
 obtain ⟨H0,hH0⟩ : ∃ z,z=h1++[Blk.cells [lv] 45 false]++[Blk.cells [.slice none 0 0] 120 false]:=⟨_,rfl⟩
 have hE10:Ext (fun _=>False) h1 H0:=by rw [hH0]; simp only [List.append_assoc]; exact Ext.app _ _ _
 have c1:H0[h.length]? = some (.cells (Wa o) 77 false):=((hE1.trans hE10).2 _ (Yd b1) id).trans b1
 have c3:H0[h1.length]? = some (.cells [lv] 45 false):=by rw [hH0]; simp
 have c4:H0[h1.length+1]? = some (.cells [.slice none 0 0] 120 false):=by rw [hH0]; simp
 have lH0:H0.length=h1.length+2:=by rw [hH0]; simp
 have hph:=Yd b1
 have hg01:=hE1.1
 refine Yc fun N3 hN3=>?_
 simp (maxSteps:=2000000) only [s80,↓Za,↓Zi,↓Zr,↓Ze,↓Zo,↓Zs,↓Zg,↓Zm,↓Zf,↓Zb,↓Zc,↓vdn,vup,Zk,Zn,Zl,Zh,Zj,List.map_cons,List.map_nil,cond_true,cond_false,aop,Zv,Zq,Zp,ev,sput,Zt,Zy,Ya,unK,Zd,Zw,Nat.reduceBEq,Nat.reduceAdd,Int.reduceBEq,Int.reduceBNe,Int.reduceLT,Zu,Zz,tup,tyf,Xr,Ys,zero_120,List.length_append,List.length_singleton]
 rw [← hH0]
 refine hN3 [(1,.pointer (some ⟨h.length,0,none⟩)),(2,.slice none 0 0),(3,.pointer (some ⟨h1.length,0,none⟩)),(4,.pointer (some ⟨h1.length+1,0,none⟩))] _ _ ?_ (by simp (maxSteps:=2000000) only [↓Za,↓Zi,↓Zr,↓Ze,↓Zo,↓Zs,↓Zg,↓Zm,↓Zf,↓Zb,↓Zc,↓vdn,vup,Zk,Zn,Zl,Zh,Zj,List.map_cons,List.map_nil,cond_true,cond_false,aop,Zv,Zq,Zp,ev,sput,Zt,Zy,Ya,unK,Zd,Zw,Nat.reduceBEq,Nat.reduceAdd,Int.reduceBEq,Int.reduceBNe,Int.reduceLT,Zu,Zz,tup,tyf])
 clear hN3
 try clear N3
 refine Yi fun Z hZ=>?_
 refine Yc fun N4 hN4=>?_
 simp (maxSteps:=2000000) only [s80,↓Za,↓Zi,↓Zr,↓Ze,↓Zo,↓Zs,↓Zg,↓Zm,↓Zf,↓Zb,↓Zc,↓vdn,vup,Zk,Zn,Zl,Zh,Zj,List.map_cons,List.map_nil,cond_true,cond_false,aop,Zv,Zq,Zp,ev,sput,Zt,Zy,Ya,unK,Zd,Zw,Nat.reduceBEq,Nat.reduceAdd,Int.reduceBEq,Int.reduceBNe,Int.reduceLT,Zu,Zz,tup,tyf,Xh c3 shp_45,hlv.len,hLl]
 refine hN4 [(1,.pointer (some ⟨h.length,0,none⟩)),(2,.slice none 0 0),(3,.pointer (some ⟨h1.length,0,none⟩)),(4,.pointer (some ⟨h1.length+1,0,none⟩)),(17,lv),(18,Zx (cn o:Nat)),(19,.int .i64 0)] _ _ ?_ (by simp (maxSteps:=2000000) only [↓Za,↓Zi,↓Zr,↓Ze,↓Zo,↓Zs,↓Zg,↓Zm,↓Zf,↓Zb,↓Zc,↓vdn,vup,Zk,Zn,Zl,Zh,Zj,List.map_cons,List.map_nil,cond_true,cond_false,aop,Zv,Zq,Zp,ev,sput,Zt,Zy,Ya,unK,Zd,Zw,Nat.reduceBEq,Nat.reduceAdd,Int.reduceBEq,Int.reduceBNe,Int.reduceLT,Zu,Zz,tup,tyf])
 clear hN4
 try clear N4
 refine Yr ?_
 refine Yn fun Q hQ=>?_
 refine We (γ:=Nat×Value×Yb) (fun g=>g.1≤cn o∧g.2.2[h1.length+1]? = some (.cells [g.2.1] 120 false)∧Own6 121 g.2.2 g.2.1 (((Yq o).take g.1).map bhF)∧Ext (fun b=>b=h1.length+1) H0 g.2.2∧∀ b,Ye g.2.1=some b→H0.length≤b)
  (fun g=>([(1,.pointer (some ⟨h.length,0,none⟩)),(2,.slice none 0 0),(3,.pointer (some ⟨h1.length,0,none⟩)),(4,.pointer (some ⟨h1.length+1,0,none⟩)),(17,lv),(18,Zx (cn o:Nat)),(19,Zx (g.1:Nat))],g.2.2)) (fun g=>cn o-g.1) (0,.slice none 0 0,H0) ⟨Nat.zero_le _,c4,.inl ⟨rfl,rfl⟩,Ext.refl _ _,fun b hb=>by cases hb⟩ (by simp (maxSteps:=2000000) only [↓Za,↓Zi,↓Zr,↓Ze,↓Zo,↓Zs,↓Zg,↓Zm,↓Zf,↓Zb,↓Zc,↓vdn,vup,Zk,Zn,Zl,Zh,Zj,List.map_cons,List.map_nil,cond_true,cond_false,aop,Zv,Zq,Zp,ev,sput,Zt,Zy,Ya,unK,Zd,Zw,Nat.reduceBEq,Nat.reduceAdd,Int.reduceBEq,Int.reduceBNe,Int.reduceLT,Zu,Zz,tup,tyf,Int.natCast_zero]) rfl ?_
 rintro ⟨j,sv,H⟩ ⟨hj,d4,how,hEH,hbw⟩
 simp only at hj d4 how hEH hbw
 refine Yn fun Q2 hQ2=>?_
 simp only [l80_0]
 have hE1H:Ext (fun _=>False) h1 H:=ext_pf hE10 hEH (by omega)
 have rlv:=hlv.ext hE1H
 by_cases hin:(j:Int)<((cn o:Nat):Int)
 · have hj' : j<cn o:=by omega
   have hjL:j<(linesI o).length:=by omega
   obtain ⟨w,hw,hwl⟩:=rlv.load (P:=prog) Wd hjL
   have hwg:(linesI o).getD j []=castN (lin o j):=linesI_get o hj'
   rw [hwg] at hw
   have lf:=lin_facts ho hj'
   have l6 : ∀ x∈lin o j,x<6:=fun x hx=>by
    have:=List.mem_range.1 (lf.pm.mem_iff.1 hx); omega
   have ll:(lin o j).length≤6:=by rw [lf.pm.length_eq,List.length_range]; exact hln.2
   have bc:=behind_call (h:=H) hw lf.nd l6 ll
   have hnx:((Yq o).take (j+1)).map bhF=((Yq o).take j).map bhF++[bhF (lin o j)]:=by
    have hj3:j<(Yq o).length:=by rw [Xj]; exact hj'
    rw [List.take_succ,List.getElem?_eq_getElem hj3,Option.toList_some,List.map_append,List.map_singleton,lin,List.getD,List.getElem?_eq_getElem hj3]; rfl
   refine Yc fun N5 hN5=>?_
   simp (maxSteps:=2000000) only [s80,↓Za,↓Zi,↓Zr,↓Ze,↓Zo,↓Zs,↓Zg,↓Zm,↓Zf,↓Zb,↓Zc,↓vdn,vup,Zk,Zn,Zl,Zh,Zj,List.map_cons,List.map_nil,cond_true,cond_false,aop,Zv,Zq,Zp,ev,sput,Zt,Zy,Ya,unK,Zd,Zw,Nat.reduceBEq,Nat.reduceAdd,Int.reduceBEq,Int.reduceBNe,Int.reduceLT,Zu,Zz,tup,tyf,hin]
   refine hN5 [(1,.pointer (some ⟨h.length,0,none⟩)),(2,.slice none 0 0),(3,.pointer (some ⟨h1.length,0,none⟩)),(4,.pointer (some ⟨h1.length+1,0,none⟩)),(17,lv),(18,Zx (cn o:Nat)),(19,Zx (j:Nat)),(20,.bool true)] _ _ ?_ (by simp (maxSteps:=2000000) only [↓Za,↓Zi,↓Zr,↓Ze,↓Zo,↓Zs,↓Zg,↓Zm,↓Zf,↓Zb,↓Zc,↓vdn,vup,Zk,Zn,Zl,Zh,Zj,List.map_cons,List.map_nil,cond_true,cond_false,aop,Zv,Zq,Zp,ev,sput,Zt,Zy,Ya,unK,Zd,Zw,Nat.reduceBEq,Nat.reduceAdd,Int.reduceBEq,Int.reduceBNe,Int.reduceLT,Zu,Zz,tup,tyf])
   clear hN5
   try clear N5
   refine Yc fun N6 hN6=>?_
   simp (maxSteps:=2000000) only [s80,↓Za,↓Zi,↓Zr,↓Ze,↓Zo,↓Zs,↓Zg,↓Zm,↓Zf,↓Zb,↓Zc,↓vdn,vup,Zk,Zn,Zl,Zh,Zj,List.map_cons,List.map_nil,cond_true,cond_false,aop,Zv,Zq,Zp,ev,sput,Zt,Zy,Ya,unK,Zd,Zw,Nat.reduceBEq,Nat.reduceAdd,Int.reduceBEq,Int.reduceBNe,Int.reduceLT,Zu,Zz,tup,tyf]
   refine hN6 [(1,.pointer (some ⟨h.length,0,none⟩)),(2,.slice none 0 0),(3,.pointer (some ⟨h1.length,0,none⟩)),(4,.pointer (some ⟨h1.length+1,0,none⟩)),(17,lv),(18,Zx (cn o:Nat)),(19,Zx (j:Nat))] _ _ ?_ (by simp (maxSteps:=2000000) only [↓Za,↓Zi,↓Zr,↓Ze,↓Zo,↓Zs,↓Zg,↓Zm,↓Zf,↓Zb,↓Zc,↓vdn,vup,Zk,Zn,Zl,Zh,Zj,List.map_cons,List.map_nil,cond_true,cond_false,aop,Zv,Zq,Zp,ev,sput,Zt,Zy,Ya,unK,Zd,Zw,Nat.reduceBEq,Nat.reduceAdd,Int.reduceBEq,Int.reduceBNe,Int.reduceLT,Zu,Zz,tup,tyf])
   clear hN6
   try clear N6
   refine Yi fun B hB=>?_
   refine Yr ?_
   refine Yc fun N7 hN7=>?_
   simp (maxSteps:=2000000) only [s80,↓Za,↓Zi,↓Zr,↓Ze,↓Zo,↓Zs,↓Zg,↓Zm,↓Zf,↓Zb,↓Zc,↓vdn,vup,Zk,Zn,Zl,Zh,Zj,List.map_cons,List.map_nil,cond_true,cond_false,aop,Zv,Zq,Zp,ev,sput,Zt,Zy,Ya,unK,Zd,Zw,Nat.reduceBEq,Nat.reduceAdd,Int.reduceBEq,Int.reduceBNe,Int.reduceLT,Zu,Zz,tup,tyf,rlv.idx el_45 esz_22 hjL,hwl]
   refine hN7 [(1,.pointer (some ⟨h.length,0,none⟩)),(2,.slice none 0 0),(3,.pointer (some ⟨h1.length,0,none⟩)),(4,.pointer (some ⟨h1.length+1,0,none⟩)),(6,w),(17,lv),(18,Zx (cn o:Nat)),(19,Zx (j:Nat))] _ _ ?_ (by simp (maxSteps:=2000000) only [↓Za,↓Zi,↓Zr,↓Ze,↓Zo,↓Zs,↓Zg,↓Zm,↓Zf,↓Zb,↓Zc,↓vdn,vup,Zk,Zn,Zl,Zh,Zj,List.map_cons,List.map_nil,cond_true,cond_false,aop,Zv,Zq,Zp,ev,sput,Zt,Zy,Ya,unK,Zd,Zw,Nat.reduceBEq,Nat.reduceAdd,Int.reduceBEq,Int.reduceBNe,Int.reduceLT,Zu,Zz,tup,tyf])
   clear hN7
   try clear N7
   refine Yk ?_
   simp only [q80_6]
   refine aw_drawR (fun z=>z[h1.length+1]? = some (.cells [sv] 120 false)) [(0,5),(2,1),(5,6)] (by kernel_rfl) (by kernel_rfl) (by kernel_rfl) (by kernel_rfl) d4 ?_
   simp (maxSteps:=2000000) only [s80,↓Za,↓Zi,↓Zr,↓Ze,↓Zo,↓Zs,↓Zg,↓Zm,↓Zf,↓Zb,↓Zc,↓vdn,vup,Zk,Zn,Zl,Zh,Zj,List.map_cons,List.map_nil,cond_true,cond_false,aop,Zv,Zq,Zp,ev,sput,Zt,Zy,Ya,unK,Zd,Zw,Nat.reduceBEq,Nat.reduceAdd,Int.reduceBEq,Int.reduceBNe,Int.reduceLT,Zu,Zz,tup,tyf,Nat.reduceLT,Bool.false_or,Bool.true_or,Xh d4 shp_120,Yx,List.nil_append,List.append_nil,List.toList_toArray,List.cons_append]
   refine ⟨sv,fun hp hhp=>by simp only [Xh hhp shp_120],?_⟩
   refine ⟨_,_,bc,rfl,?_⟩
   simp (maxSteps:=2000000) only [s80,↓Za,↓Zi,↓Zr,↓Ze,↓Zo,↓Zs,↓Zg,↓Zm,↓Zf,↓Zb,↓Zc,↓vdn,vup,Zk,Zn,Zl,Zh,Zj,List.map_cons,List.map_nil,cond_true,cond_false,aop,Zv,Zq,Zp,ev,sput,Zt,Zy,Ya,unK,Zd,Zw,Nat.reduceBEq,Nat.reduceAdd,Int.reduceBEq,Int.reduceBNe,Int.reduceLT,Zu,Zz,tup,tyf,Nat.reduceLT,Bool.false_or,Bool.true_or,List.map_toArray,lit6 el_120 zero_121 esz_121]
   have hsvn:Ye sv≠some (h1.length+1):=fun hc=>by have:=hbw _ hc; omega
   refine ⟨Yh d4 _,?_⟩
   refine Own6.append (f:=bhF (lin o j)) (how.ext (Ext.app _ _ _)) app_120_120 (by rw [List.length_map,List.length_take]; omega) (Yl _ _) fun sv' G ho' hE' hb'=>?_
   rw [← hnx] at ho'
   have hE4:Ext (fun i=>Ye sv=some i) H G:=((Ext.app (fun _=>False) H _).mono fun _ h=>h.elim).trans hE'
   have d5:G[h1.length+1]? = some (.cells [sv] 120 false):=(hE4.2 _ (Yd d4) hsvn).trans d4
   have hbw' : ∀ b,Ye sv' = some b→H0.length≤b:=fun b hb=>by
    rcases hb' with h1 | ⟨b',h1,h2⟩
    · exact hbw b (h1▸hb)
    · rw [h1] at hb; cases hb
      rw [List.length_append] at h2
      have:=hEH.1; omega
   refine ⟨d5,?_⟩
   simp (maxSteps:=2000000) only [s80,↓Za,↓Zi,↓Zr,↓Ze,↓Zo,↓Zs,↓Zg,↓Zm,↓Zf,↓Zb,↓Zc,↓vdn,vup,Zk,Zn,Zl,Zh,Zj,List.map_cons,List.map_nil,cond_true,cond_false,aop,Zv,Zq,Zp,ev,sput,Zt,Zy,Ya,unK,Zd,Zw,Nat.reduceBEq,Nat.reduceAdd,Int.reduceBEq,Int.reduceBNe,Int.reduceLT,Zu,Zz,tup,tyf,Nat.reduceLT,Bool.false_or,Bool.true_or,store1 d5 shp_120 ho'.one]
   refine hB [(1,.pointer (some ⟨h.length,0,none⟩)),(2,.slice none 0 0),(3,.pointer (some ⟨h1.length,0,none⟩)),(4,.pointer (some ⟨h1.length+1,0,none⟩)),(17,lv),(18,Zx (cn o:Nat)),(19,Zx (j:Nat))] _ _ ?_ (by simp (maxSteps:=2000000) only [↓Za,↓Zi,↓Zr,↓Ze,↓Zo,↓Zs,↓Zg,↓Zm,↓Zf,↓Zb,↓Zc,↓vdn,vup,Zk,Zn,Zl,Zh,Zj,List.map_cons,List.map_nil,cond_true,cond_false,aop,Zv,Zq,Zp,ev,sput,Zt,Zy,Ya,unK,Zd,Zw,Nat.reduceBEq,Nat.reduceAdd,Int.reduceBEq,Int.reduceBNe,Int.reduceLT,Zu,Zz,tup,tyf])
   clear hB
   try clear B
   refine Yk ?_
   simp (maxSteps:=2000000) only [s80,↓Za,↓Zi,↓Zr,↓Ze,↓Zo,↓Zs,↓Zg,↓Zm,↓Zf,↓Zb,↓Zc,↓vdn,vup,Zk,Zn,Zl,Zh,Zj,List.map_cons,List.map_nil,cond_true,cond_false,aop,Zv,Zq,Zp,ev,sput,Zt,Zy,Ya,unK,Zd,Zw,Nat.reduceBEq,Nat.reduceAdd,Int.reduceBEq,Int.reduceBNe,Int.reduceLT,Zu,Zz,tup,tyf,add1 (show j<9223372036854775807 by omega)]
   refine hQ2 _ _ _ ⟨(j+1,sv',G.set (h1.length+1) (.cells [sv'] 120 false)),⟨hj',Xc (Yd d5) _,ho'.same fun b hb=>List.getElem?_set_ne (by have:=hbw' b hb; omega),?_,hbw'⟩,by simp only; omega,by simp (maxSteps:=2000000) only [↓Za,↓Zi,↓Zr,↓Ze,↓Zo,↓Zs,↓Zg,↓Zm,↓Zf,↓Zb,↓Zc,↓vdn,vup,Zk,Zn,Zl,Zh,Zj,List.map_cons,List.map_nil,cond_true,cond_false,aop,Zv,Zq,Zp,ev,sput,Zt,Zy,Ya,unK,Zd,Zw,Nat.reduceBEq,Nat.reduceAdd,Int.reduceBEq,Int.reduceBNe,Int.reduceLT,Zu,Zz,tup,tyf],rfl⟩
   refine ⟨by simp only [List.length_set]; have:=hEH.1; have:=hE4.1; omega,fun i hi hn=>?_⟩
   simp only
   rw [List.getElem?_set_ne (by omega),hE4.2 i (by have:=hEH.1; omega) fun hc=>by have:=hbw i hc; omega]
   exact hEH.2 i hi hn
 obtain rfl:j=cn o:=by omega
 refine Yc fun N8 hN8=>?_
 simp (maxSteps:=2000000) only [s80,↓Za,↓Zi,↓Zr,↓Ze,↓Zo,↓Zs,↓Zg,↓Zm,↓Zf,↓Zb,↓Zc,↓vdn,vup,Zk,Zn,Zl,Zh,Zj,List.map_cons,List.map_nil,cond_true,cond_false,aop,Zv,Zq,Zp,ev,sput,Zt,Zy,Ya,unK,Zd,Zw,Nat.reduceBEq,Nat.reduceAdd,Int.reduceBEq,Int.reduceBNe,Int.reduceLT,Zu,Zz,tup,tyf,hin]
 refine hN8 [(1,.pointer (some ⟨h.length,0,none⟩)),(2,.slice none 0 0),(3,.pointer (some ⟨h1.length,0,none⟩)),(4,.pointer (some ⟨h1.length+1,0,none⟩)),(17,lv),(18,Zx (cn o:Nat)),(19,Zx (cn o:Nat)),(20,.bool false)] _ _ ?_ (by simp (maxSteps:=2000000) only [↓Za,↓Zi,↓Zr,↓Ze,↓Zo,↓Zs,↓Zg,↓Zm,↓Zf,↓Zb,↓Zc,↓vdn,vup,Zk,Zn,Zl,Zh,Zj,List.map_cons,List.map_nil,cond_true,cond_false,aop,Zv,Zq,Zp,ev,sput,Zt,Zy,Ya,unK,Zd,Zw,Nat.reduceBEq,Nat.reduceAdd,Int.reduceBEq,Int.reduceBNe,Int.reduceLT,Zu,Zz,tup,tyf])
 clear hN8
 try clear N8
 refine Yc fun N9 hN9=>?_
 simp (maxSteps:=2000000) only [s80,↓Za,↓Zi,↓Zr,↓Ze,↓Zo,↓Zs,↓Zg,↓Zm,↓Zf,↓Zb,↓Zc,↓vdn,vup,Zk,Zn,Zl,Zh,Zj,List.map_cons,List.map_nil,cond_true,cond_false,aop,Zv,Zq,Zp,ev,sput,Zt,Zy,Ya,unK,Zd,Zw,Nat.reduceBEq,Nat.reduceAdd,Int.reduceBEq,Int.reduceBNe,Int.reduceLT,Zu,Zz,tup,tyf]
 refine hQ2 _ _ _ (hQ _ _ _ ?_)
 simp (maxSteps:=2000000) only [s80,↓Za,↓Zi,↓Zr,↓Ze,↓Zo,↓Zs,↓Zg,↓Zm,↓Zf,↓Zb,↓Zc,↓vdn,vup,Zk,Zn,Zl,Zh,Zj,List.map_cons,List.map_nil,cond_true,cond_false,aop,Zv,Zq,Zp,ev,sput,Zt,Zy,Ya,unK,Zd,Zw,Nat.reduceBEq,Nat.reduceAdd,Int.reduceBEq,Int.reduceBNe,Int.reduceLT,Zu,Zz,tup,tyf,if_true]
 refine hZ [(1,.pointer (some ⟨h.length,0,none⟩)),(2,.slice none 0 0),(3,.pointer (some ⟨h1.length,0,none⟩)),(4,.pointer (some ⟨h1.length+1,0,none⟩))] _ _ ?_ (by simp (maxSteps:=2000000) only [↓Za,↓Zi,↓Zr,↓Ze,↓Zo,↓Zs,↓Zg,↓Zm,↓Zf,↓Zb,↓Zc,↓vdn,vup,Zk,Zn,Zl,Zh,Zj,List.map_cons,List.map_nil,cond_true,cond_false,aop,Zv,Zq,Zp,ev,sput,Zt,Zy,Ya,unK,Zd,Zw,Nat.reduceBEq,Nat.reduceAdd,Int.reduceBEq,Int.reduceBNe,Int.reduceLT,Zu,Zz,tup,tyf])
 clear hZ
 try clear Z
 clear hQ hQ2
 have hallT:(Yq o).take (cn o)=Yq o:=List.take_of_length_le (by rw [Xj]; exact Nat.le_refl _)
 rw [hallT] at how
 have hH0l:=hEH.1
 have a1:H[h.length]? = some (.cells (Wa o) 77 false):=(hEH.2 _ (Yd c1) (by omega)).trans c1
 have a3:H[h1.length]? = some (.cells [lv] 45 false):=(hEH.2 _ (Yd c3) (by omega)).trans c3
 obtain ⟨gf,hgf⟩ : ∃ z:Value,z = .func (.func 106) #[] #[.pointer (some ⟨h.length,0,none⟩),.pointer (some ⟨h1.length,0,none⟩),.pointer (some ⟨h1.length+1,0,none⟩),.pointer (some ⟨H.length,0,none⟩),.pointer (some ⟨H.length+1,0,none⟩)]:=⟨_,rfl⟩
 obtain ⟨X,hX⟩ : ∃ X:F6→Yb,X=fun f=>H++[Blk.cells [.slice none 0 0] 22 false]++[Blk.cells [gf] 123 false]++[Blk.cells (sixC f) 121 false]:=⟨_,rfl⟩
 have x7 : ∀ f,(X f)[H.length]? = some (.cells [.slice none 0 0] 22 false):=fun f=>by rw [hX]; simp
 have x8 : ∀ f,(X f)[H.length+1]? = some (.cells [gf] 123 false):=fun f=>by rw [hX]; simp
 have x9 : ∀ f,(X f)[H.length+2]? = some (.cells (sixC f) 121 false):=fun f=>by rw [hX]; simp
 have xE : ∀ f,Ext (fun _=>False) H (X f):=fun f=>by rw [hX]; simp only [List.append_assoc]; exact Ext.app _ _ _
 have xl : ∀ f,(X f).length=H.length+3:=fun f=>by rw [hX]; simp
 have xset : ∀ f g,(X f).set (H.length+2) (.cells (sixC g) 121 false)=X g:=fun f g=>by
  rw [hX]; simp only [List.append_assoc]
  rw [List.set_append_right _ _ (by omega),show H.length+2-H.length=2 by omega]; rfl
 have x1 : ∀ f,(X f)[h.length]? = some (.cells (Wa o) 77 false):=fun f=>((xE f).2 _ (Yd a1) id).trans a1
 refine Yc fun N10 hN10=>?_
 simp (maxSteps:=2000000) only [s80,↓Za,↓Zi,↓Zr,↓Ze,↓Zo,↓Zs,↓Zg,↓Zm,↓Zf,↓Zb,↓Zc,↓vdn,vup,Zk,Zn,Zl,Zh,Zj,List.map_cons,List.map_nil,cond_true,cond_false,aop,Zv,Zq,Zp,ev,sput,Zt,Zy,Ya,unK,Zd,Zw,Nat.reduceBEq,Nat.reduceAdd,Int.reduceBEq,Int.reduceBNe,Int.reduceLT,Zu,Zz,tup,tyf,Xr,Ys,zero_22]
 refine hN10 [(1,.pointer (some ⟨h.length,0,none⟩)),(2,.slice none 0 0),(3,.pointer (some ⟨h1.length,0,none⟩)),(4,.pointer (some ⟨h1.length+1,0,none⟩)),(7,.pointer (some ⟨H.length,0,none⟩))] _ _ ?_ (by simp (maxSteps:=2000000) only [↓Za,↓Zi,↓Zr,↓Ze,↓Zo,↓Zs,↓Zg,↓Zm,↓Zf,↓Zb,↓Zc,↓vdn,vup,Zk,Zn,Zl,Zh,Zj,List.map_cons,List.map_nil,cond_true,cond_false,aop,Zv,Zq,Zp,ev,sput,Zt,Zy,Ya,unK,Zd,Zw,Nat.reduceBEq,Nat.reduceAdd,Int.reduceBEq,Int.reduceBNe,Int.reduceLT,Zu,Zz,tup,tyf])
 clear hN10
 try clear N10
 refine Yc fun N11 hN11=>?_
 simp (maxSteps:=2000000) only [s80,↓Za,↓Zi,↓Zr,↓Ze,↓Zo,↓Zs,↓Zg,↓Zm,↓Zf,↓Zb,↓Zc,↓vdn,vup,Zk,Zn,Zl,Zh,Zj,List.map_cons,List.map_nil,cond_true,cond_false,aop,Zv,Zq,Zp,ev,sput,Zt,Zy,Ya,unK,Zd,Zw,Nat.reduceBEq,Nat.reduceAdd,Int.reduceBEq,Int.reduceBNe,Int.reduceLT,Zu,Zz,tup,tyf,Xr,Ys,zero_123,List.length_append,List.length_singleton]
 refine hN11 [(1,.pointer (some ⟨h.length,0,none⟩)),(2,.slice none 0 0),(3,.pointer (some ⟨h1.length,0,none⟩)),(4,.pointer (some ⟨h1.length+1,0,none⟩)),(7,.pointer (some ⟨H.length,0,none⟩)),(8,.pointer (some ⟨H.length+1,0,none⟩))] _ _ ?_ (by simp (maxSteps:=2000000) only [↓Za,↓Zi,↓Zr,↓Ze,↓Zo,↓Zs,↓Zg,↓Zm,↓Zf,↓Zb,↓Zc,↓vdn,vup,Zk,Zn,Zl,Zh,Zj,List.map_cons,List.map_nil,cond_true,cond_false,aop,Zv,Zq,Zp,ev,sput,Zt,Zy,Ya,unK,Zd,Zw,Nat.reduceBEq,Nat.reduceAdd,Int.reduceBEq,Int.reduceBNe,Int.reduceLT,Zu,Zz,tup,tyf])
 clear hN11
 try clear N11
 have st8 : ∀ {K:Yb→Prop},Xv prog (H++[Blk.cells [.slice none 0 0] 22 false]++[Blk.cells [.nilFunc] 123 false]) 123 (.pointer (some ⟨H.length+1,0,none⟩)) gf K=K (H++[Blk.cells [.slice none 0 0] 22 false]++[Blk.cells [gf] 123 false]):=fun {K}=>by
  rw [store1 (v:=.nilFunc) (e:=123) (by simp) shp_123 (by rw [hgf]; rfl)]
  have:=setEnd (H++[Blk.cells [.slice none 0 0] 22 false]) (Blk.cells [.nilFunc] 123 false) (Blk.cells [gf] 123 false)
  rw [List.length_append,List.length_singleton] at this
  rw [this]
 refine Yc fun N12 hN12=>?_
 simp (maxSteps:=2000000) only [s80,↓Za,↓Zi,↓Zr,↓Ze,↓Zo,↓Zs,↓Zg,↓Zm,↓Zf,↓Zb,↓Zc,↓vdn,vup,Zk,Zn,Zl,Zh,Zj,List.map_cons,List.map_nil,cond_true,cond_false,aop,Zv,Zq,Zp,ev,sput,Zt,Zy,Ya,unK,Zd,Zw,Nat.reduceBEq,Nat.reduceAdd,Int.reduceBEq,Int.reduceBNe,Int.reduceLT,Zu,Zz,tup,tyf,List.map_toArray]
 rw [← hgf,st8]
 refine hN12 [(1,.pointer (some ⟨h.length,0,none⟩)),(2,.slice none 0 0),(3,.pointer (some ⟨h1.length,0,none⟩)),(4,.pointer (some ⟨h1.length+1,0,none⟩)),(7,.pointer (some ⟨H.length,0,none⟩)),(8,.pointer (some ⟨H.length+1,0,none⟩))] _ _ ?_ (by simp (maxSteps:=2000000) only [↓Za,↓Zi,↓Zr,↓Ze,↓Zo,↓Zs,↓Zg,↓Zm,↓Zf,↓Zb,↓Zc,↓vdn,vup,Zk,Zn,Zl,Zh,Zj,List.map_cons,List.map_nil,cond_true,cond_false,aop,Zv,Zq,Zp,ev,sput,Zt,Zy,Ya,unK,Zd,Zw,Nat.reduceBEq,Nat.reduceAdd,Int.reduceBEq,Int.reduceBNe,Int.reduceLT,Zu,Zz,tup,tyf])
 clear hN12
 try clear N12
 refine Yc fun N13 hN13=>?_
 simp (maxSteps:=2000000) only [s80,↓Za,↓Zi,↓Zr,↓Ze,↓Zo,↓Zs,↓Zg,↓Zm,↓Zf,↓Zb,↓Zc,↓vdn,vup,Zk,Zn,Zl,Zh,Zj,List.map_cons,List.map_nil,cond_true,cond_false,aop,Zv,Zq,Zp,ev,sput,Zt,Zy,Ya,unK,Zd,Zw,Nat.reduceBEq,Nat.reduceAdd,Int.reduceBEq,Int.reduceBNe,Int.reduceLT,Zu,Zz,tup,tyf,Xr,Ys,zero_121,List.length_append,List.length_singleton,Nat.add_assoc,Nat.reduceAdd]
 have hX0:H++[Blk.cells [.slice none 0 0] 22 false]++[Blk.cells [gf] 123 false]++[Blk.cells [.int .i64 0,.int .i64 0,.int .i64 0,.int .i64 0,.int .i64 0,.int .i64 0] 121 false]=X (fun k=>if k<0 then 2 ^ o.length-1 else 0):=by rw [hX]; rfl
 rw [hX0]
 refine hN13 [(1,.pointer (some ⟨h.length,0,none⟩)),(2,.slice none 0 0),(3,.pointer (some ⟨h1.length,0,none⟩)),(4,.pointer (some ⟨h1.length+1,0,none⟩)),(7,.pointer (some ⟨H.length,0,none⟩)),(8,.pointer (some ⟨H.length+1,0,none⟩)),(9,.pointer (some ⟨H.length+2,0,none⟩))] _ _ ?_ (by simp (maxSteps:=2000000) only [↓Za,↓Zi,↓Zr,↓Ze,↓Zo,↓Zs,↓Zg,↓Zm,↓Zf,↓Zb,↓Zc,↓vdn,vup,Zk,Zn,Zl,Zh,Zj,List.map_cons,List.map_nil,cond_true,cond_false,aop,Zv,Zq,Zp,ev,sput,Zt,Zy,Ya,unK,Zd,Zw,Nat.reduceBEq,Nat.reduceAdd,Int.reduceBEq,Int.reduceBNe,Int.reduceLT,Zu,Zz,tup,tyf])
 clear hN13
 try clear N13
 have f4 : ∀ {K:Value→Prop},Xs prog 77 (.pointer (some ⟨h.length,0,none⟩)) 0 K=K (.pointer (some ⟨h.length,0,none⟩)):=fun {K}=>by
  simp [Xs,Vy,Xt]
 refine Yi fun Z hZ=>?_
 refine Yc fun N14 hN14=>?_
 simp (maxSteps:=2000000) only [s80,↓Za,↓Zi,↓Zr,↓Ze,↓Zo,↓Zs,↓Zg,↓Zm,↓Zf,↓Zb,↓Zc,↓vdn,vup,Zk,Zn,Zl,Zh,Zj,List.map_cons,List.map_nil,cond_true,cond_false,aop,Zv,Zq,Zp,ev,sput,Zt,Zy,Ya,unK,Zd,Zw,Nat.reduceBEq,Nat.reduceAdd,Int.reduceBEq,Int.reduceBNe,Int.reduceLT,Zu,Zz,tup,tyf,f4,loadN (x1 (fun k=>if k<0 then 2 ^ o.length-1 else 0)) Xf]
 refine hN14 [(1,.pointer (some ⟨h.length,0,none⟩)),(2,.slice none 0 0),(3,.pointer (some ⟨h1.length,0,none⟩)),(4,.pointer (some ⟨h1.length+1,0,none⟩)),(7,.pointer (some ⟨H.length,0,none⟩)),(8,.pointer (some ⟨H.length+1,0,none⟩)),(9,.pointer (some ⟨H.length+2,0,none⟩)),(31,Zx o.length),(32,.int .i64 0)] _ _ ?_ (by simp (maxSteps:=2000000) only [↓Za,↓Zi,↓Zr,↓Ze,↓Zo,↓Zs,↓Zg,↓Zm,↓Zf,↓Zb,↓Zc,↓vdn,vup,Zk,Zn,Zl,Zh,Zj,List.map_cons,List.map_nil,cond_true,cond_false,aop,Zv,Zq,Zp,ev,sput,Zt,Zy,Ya,unK,Zd,Zw,Nat.reduceBEq,Nat.reduceAdd,Int.reduceBEq,Int.reduceBNe,Int.reduceLT,Zu,Zz,tup,tyf])
 clear hN14
 try clear N14
 refine Yr ?_
 refine Yn fun Q hQ=>?_
 refine We (γ:=Nat) (fun i=>i≤o.length) (fun i=>([(1,.pointer (some ⟨h.length,0,none⟩)),(2,.slice none 0 0),(3,.pointer (some ⟨h1.length,0,none⟩)),(4,.pointer (some ⟨h1.length+1,0,none⟩)),(7,.pointer (some ⟨H.length,0,none⟩)),(8,.pointer (some ⟨H.length+1,0,none⟩)),(9,.pointer (some ⟨H.length+2,0,none⟩)),(31,Zx o.length),(32,Zx (i:Nat))],X fun k=>if k<i then 2 ^ o.length-1 else 0)) (fun i=>o.length-i) 0 (Nat.zero_le _) (by simp (maxSteps:=2000000) only [↓Za,↓Zi,↓Zr,↓Ze,↓Zo,↓Zs,↓Zg,↓Zm,↓Zf,↓Zb,↓Zc,↓vdn,vup,Zk,Zn,Zl,Zh,Zj,List.map_cons,List.map_nil,cond_true,cond_false,aop,Zv,Zq,Zp,ev,sput,Zt,Zy,Ya,unK,Zd,Zw,Nat.reduceBEq,Nat.reduceAdd,Int.reduceBEq,Int.reduceBNe,Int.reduceLT,Zu,Zz,tup,tyf,Int.natCast_zero]) rfl ?_
 rintro i hi
 obtain ⟨fi,hfi⟩ : ∃ f:F6,f=fun k=>if k<i then 2 ^ o.length-1 else 0:=⟨_,rfl⟩
 have hup:upd6 fi i (2 ^ o.length-1)=fun k=>if k<i+1 then 2 ^ o.length-1 else 0:=by
  funext k
  rw [hfi]
  simp only [upd6]
  by_cases h1:k=i
  · rw [if_pos h1,if_pos (by omega)]
  · rw [if_neg h1]
    by_cases h2:k<i
    · rw [if_pos h2,if_pos (by omega)]
    · rw [if_neg h2,if_neg (by omega)]
 simp only [← hfi]
 refine Yn fun Q2 hQ2=>?_
 simp only [l80_1]
 by_cases hiin:(i:Int)<o.length
 · have hi' : i<o.length:=by omega
   have hi6:i<6:=by omega
   refine Yc fun N15 hN15=>?_
   simp (maxSteps:=2000000) only [s80,↓Za,↓Zi,↓Zr,↓Ze,↓Zo,↓Zs,↓Zg,↓Zm,↓Zf,↓Zb,↓Zc,↓vdn,vup,Zk,Zn,Zl,Zh,Zj,List.map_cons,List.map_nil,cond_true,cond_false,aop,Zv,Zq,Zp,ev,sput,Zt,Zy,Ya,unK,Zd,Zw,Nat.reduceBEq,Nat.reduceAdd,Int.reduceBEq,Int.reduceBNe,Int.reduceLT,Zu,Zz,tup,tyf,hiin]
   refine hN15 [(1,.pointer (some ⟨h.length,0,none⟩)),(2,.slice none 0 0),(3,.pointer (some ⟨h1.length,0,none⟩)),(4,.pointer (some ⟨h1.length+1,0,none⟩)),(7,.pointer (some ⟨H.length,0,none⟩)),(8,.pointer (some ⟨H.length+1,0,none⟩)),(9,.pointer (some ⟨H.length+2,0,none⟩)),(31,Zx o.length),(32,Zx (i:Nat)),(33,.bool true)] _ _ ?_ (by simp (maxSteps:=2000000) only [↓Za,↓Zi,↓Zr,↓Ze,↓Zo,↓Zs,↓Zg,↓Zm,↓Zf,↓Zb,↓Zc,↓vdn,vup,Zk,Zn,Zl,Zh,Zj,List.map_cons,List.map_nil,cond_true,cond_false,aop,Zv,Zq,Zp,ev,sput,Zt,Zy,Ya,unK,Zd,Zw,Nat.reduceBEq,Nat.reduceAdd,Int.reduceBEq,Int.reduceBNe,Int.reduceLT,Zu,Zz,tup,tyf])
   clear hN15
   try clear N15
   refine Yc fun N16 hN16=>?_
   simp (maxSteps:=2000000) only [s80,↓Za,↓Zi,↓Zr,↓Ze,↓Zo,↓Zs,↓Zg,↓Zm,↓Zf,↓Zb,↓Zc,↓vdn,vup,Zk,Zn,Zl,Zh,Zj,List.map_cons,List.map_nil,cond_true,cond_false,aop,Zv,Zq,Zp,ev,sput,Zt,Zy,Ya,unK,Zd,Zw,Nat.reduceBEq,Nat.reduceAdd,Int.reduceBEq,Int.reduceBNe,Int.reduceLT,Zu,Zz,tup,tyf]
   refine hN16 [(1,.pointer (some ⟨h.length,0,none⟩)),(2,.slice none 0 0),(3,.pointer (some ⟨h1.length,0,none⟩)),(4,.pointer (some ⟨h1.length+1,0,none⟩)),(7,.pointer (some ⟨H.length,0,none⟩)),(8,.pointer (some ⟨H.length+1,0,none⟩)),(9,.pointer (some ⟨H.length+2,0,none⟩)),(31,Zx o.length),(32,Zx (i:Nat))] _ _ ?_ (by simp (maxSteps:=2000000) only [↓Za,↓Zi,↓Zr,↓Ze,↓Zo,↓Zs,↓Zg,↓Zm,↓Zf,↓Zb,↓Zc,↓vdn,vup,Zk,Zn,Zl,Zh,Zj,List.map_cons,List.map_nil,cond_true,cond_false,aop,Zv,Zq,Zp,ev,sput,Zt,Zy,Ya,unK,Zd,Zw,Nat.reduceBEq,Nat.reduceAdd,Int.reduceBEq,Int.reduceBNe,Int.reduceLT,Zu,Zz,tup,tyf])
   clear hN16
   try clear N16
   refine Yi fun B hB=>?_
   refine Yr ?_
   refine Yc fun N17 hN17=>?_
   simp (maxSteps:=2000000) only [s80,↓Za,↓Zi,↓Zr,↓Ze,↓Zo,↓Zs,↓Zg,↓Zm,↓Zf,↓Zb,↓Zc,↓vdn,vup,Zk,Zn,Zl,Zh,Zj,List.map_cons,List.map_nil,cond_true,cond_false,aop,Zv,Zq,Zp,ev,sput,Zt,Zy,Ya,unK,Zd,Zw,Nat.reduceBEq,Nat.reduceAdd,Int.reduceBEq,Int.reduceBNe,Int.reduceLT,Zu,Zz,tup,tyf]
   refine hN17 [(1,.pointer (some ⟨h.length,0,none⟩)),(2,.slice none 0 0),(3,.pointer (some ⟨h1.length,0,none⟩)),(4,.pointer (some ⟨h1.length+1,0,none⟩)),(7,.pointer (some ⟨H.length,0,none⟩)),(8,.pointer (some ⟨H.length+1,0,none⟩)),(9,.pointer (some ⟨H.length+2,0,none⟩)),(10,Zx (i:Nat)),(31,Zx o.length),(32,Zx (i:Nat))] _ _ ?_ (by simp (maxSteps:=2000000) only [↓Za,↓Zi,↓Zr,↓Ze,↓Zo,↓Zs,↓Zg,↓Zm,↓Zf,↓Zb,↓Zc,↓vdn,vup,Zk,Zn,Zl,Zh,Zj,List.map_cons,List.map_nil,cond_true,cond_false,aop,Zv,Zq,Zp,ev,sput,Zt,Zy,Ya,unK,Zd,Zw,Nat.reduceBEq,Nat.reduceAdd,Int.reduceBEq,Int.reduceBNe,Int.reduceLT,Zu,Zz,tup,tyf])
   clear hN17
   try clear N17
   refine Yk ?_
   simp (maxSteps:=2000000) only [s80,↓Za,↓Zi,↓Zr,↓Ze,↓Zo,↓Zs,↓Zg,↓Zm,↓Zf,↓Zb,↓Zc,↓vdn,vup,Zk,Zn,Zl,Zh,Zj,List.map_cons,List.map_nil,cond_true,cond_false,aop,Zv,Zq,Zp,ev,sput,Zt,Zy,Ya,unK,Zd,Zw,Nat.reduceBEq,Nat.reduceAdd,Int.reduceBEq,Int.reduceBNe,Int.reduceLT,Zu,Zz,tup,tyf,Yx,List.nil_append,List.append_nil,List.toList_toArray,List.cons_append,Vd (x1 fi) Xb hln.2]
   refine (all_call hln.2).mono ?_
   rintro _ _ ⟨rfl,rfl⟩
   simp (maxSteps:=2000000) only [s80,↓Za,↓Zi,↓Zr,↓Ze,↓Zo,↓Zs,↓Zg,↓Zm,↓Zf,↓Zb,↓Zc,↓vdn,vup,Zk,Zn,Zl,Zh,Zj,List.map_cons,List.map_nil,cond_true,cond_false,aop,Zv,Zq,Zp,ev,sput,Zt,Zy,Ya,unK,Zd,Zw,Nat.reduceBEq,Nat.reduceAdd,Int.reduceBEq,Int.reduceBNe,Int.reduceLT,Zu,Zz,tup,tyf,six_idx und_121 Xt hi6,Nat.zero_add,six_store1 (x9 fi) Xf hi6,hup,xset]
   refine hB [(1,.pointer (some ⟨h.length,0,none⟩)),(2,.slice none 0 0),(3,.pointer (some ⟨h1.length,0,none⟩)),(4,.pointer (some ⟨h1.length+1,0,none⟩)),(7,.pointer (some ⟨H.length,0,none⟩)),(8,.pointer (some ⟨H.length+1,0,none⟩)),(9,.pointer (some ⟨H.length+2,0,none⟩)),(31,Zx o.length),(32,Zx (i:Nat))] _ _ ?_ (by simp (maxSteps:=2000000) only [↓Za,↓Zi,↓Zr,↓Ze,↓Zo,↓Zs,↓Zg,↓Zm,↓Zf,↓Zb,↓Zc,↓vdn,vup,Zk,Zn,Zl,Zh,Zj,List.map_cons,List.map_nil,cond_true,cond_false,aop,Zv,Zq,Zp,ev,sput,Zt,Zy,Ya,unK,Zd,Zw,Nat.reduceBEq,Nat.reduceAdd,Int.reduceBEq,Int.reduceBNe,Int.reduceLT,Zu,Zz,tup,tyf])
   clear hB
   try clear B
   refine Yk ?_
   simp (maxSteps:=2000000) only [s80,↓Za,↓Zi,↓Zr,↓Ze,↓Zo,↓Zs,↓Zg,↓Zm,↓Zf,↓Zb,↓Zc,↓vdn,vup,Zk,Zn,Zl,Zh,Zj,List.map_cons,List.map_nil,cond_true,cond_false,aop,Zv,Zq,Zp,ev,sput,Zt,Zy,Ya,unK,Zd,Zw,Nat.reduceBEq,Nat.reduceAdd,Int.reduceBEq,Int.reduceBNe,Int.reduceLT,Zu,Zz,tup,tyf,add1 (show i<9223372036854775807 by omega)]
   exact hQ2 _ _ _ ⟨i+1,hi',by omega,by simp (maxSteps:=2000000) only [↓Za,↓Zi,↓Zr,↓Ze,↓Zo,↓Zs,↓Zg,↓Zm,↓Zf,↓Zb,↓Zc,↓vdn,vup,Zk,Zn,Zl,Zh,Zj,List.map_cons,List.map_nil,cond_true,cond_false,aop,Zv,Zq,Zp,ev,sput,Zt,Zy,Ya,unK,Zd,Zw,Nat.reduceBEq,Nat.reduceAdd,Int.reduceBEq,Int.reduceBNe,Int.reduceLT,Zu,Zz,tup,tyf],rfl⟩
 obtain rfl:i=o.length:=by omega
 refine Yc fun N18 hN18=>?_
 simp (maxSteps:=2000000) only [s80,↓Za,↓Zi,↓Zr,↓Ze,↓Zo,↓Zs,↓Zg,↓Zm,↓Zf,↓Zb,↓Zc,↓vdn,vup,Zk,Zn,Zl,Zh,Zj,List.map_cons,List.map_nil,cond_true,cond_false,aop,Zv,Zq,Zp,ev,sput,Zt,Zy,Ya,unK,Zd,Zw,Nat.reduceBEq,Nat.reduceAdd,Int.reduceBEq,Int.reduceBNe,Int.reduceLT,Zu,Zz,tup,tyf,hiin]
 refine hN18 [(1,.pointer (some ⟨h.length,0,none⟩)),(2,.slice none 0 0),(3,.pointer (some ⟨h1.length,0,none⟩)),(4,.pointer (some ⟨h1.length+1,0,none⟩)),(7,.pointer (some ⟨H.length,0,none⟩)),(8,.pointer (some ⟨H.length+1,0,none⟩)),(9,.pointer (some ⟨H.length+2,0,none⟩)),(31,Zx o.length),(32,Zx o.length),(33,.bool false)] _ _ ?_ (by simp (maxSteps:=2000000) only [↓Za,↓Zi,↓Zr,↓Ze,↓Zo,↓Zs,↓Zg,↓Zm,↓Zf,↓Zb,↓Zc,↓vdn,vup,Zk,Zn,Zl,Zh,Zj,List.map_cons,List.map_nil,cond_true,cond_false,aop,Zv,Zq,Zp,ev,sput,Zt,Zy,Ya,unK,Zd,Zw,Nat.reduceBEq,Nat.reduceAdd,Int.reduceBEq,Int.reduceBNe,Int.reduceLT,Zu,Zz,tup,tyf])
 clear hN18
 try clear N18
 refine Yc fun N19 hN19=>?_
 simp (maxSteps:=2000000) only [s80,↓Za,↓Zi,↓Zr,↓Ze,↓Zo,↓Zs,↓Zg,↓Zm,↓Zf,↓Zb,↓Zc,↓vdn,vup,Zk,Zn,Zl,Zh,Zj,List.map_cons,List.map_nil,cond_true,cond_false,aop,Zv,Zq,Zp,ev,sput,Zt,Zy,Ya,unK,Zd,Zw,Nat.reduceBEq,Nat.reduceAdd,Int.reduceBEq,Int.reduceBNe,Int.reduceLT,Zu,Zz,tup,tyf]
 refine hQ2 _ _ _ (hQ _ _ _ ?_)
 simp (maxSteps:=2000000) only [s80,↓Za,↓Zi,↓Zr,↓Ze,↓Zo,↓Zs,↓Zg,↓Zm,↓Zf,↓Zb,↓Zc,↓vdn,vup,Zk,Zn,Zl,Zh,Zj,List.map_cons,List.map_nil,cond_true,cond_false,aop,Zv,Zq,Zp,ev,sput,Zt,Zy,Ya,unK,Zd,Zw,Nat.reduceBEq,Nat.reduceAdd,Int.reduceBEq,Int.reduceBNe,Int.reduceLT,Zu,Zz,tup,tyf,if_true]
 have hB:X fi=X (cmF o []):=by
  rw [hX]
  simp only
  rw [sixC_congr (f:=fi) (g:=cmF o []) fun k hk=>by rw [hfi,cmF]; rfl]
 rw [hB]
 refine hZ [(1,.pointer (some ⟨h.length,0,none⟩)),(2,.slice none 0 0),(3,.pointer (some ⟨h1.length,0,none⟩)),(4,.pointer (some ⟨h1.length+1,0,none⟩)),(7,.pointer (some ⟨H.length,0,none⟩)),(8,.pointer (some ⟨H.length+1,0,none⟩)),(9,.pointer (some ⟨H.length+2,0,none⟩))] _ _ ?_ (by simp (maxSteps:=2000000) only [↓Za,↓Zi,↓Zr,↓Ze,↓Zo,↓Zs,↓Zg,↓Zm,↓Zf,↓Zb,↓Zc,↓vdn,vup,Zk,Zn,Zl,Zh,Zj,List.map_cons,List.map_nil,cond_true,cond_false,aop,Zv,Zq,Zp,ev,sput,Zt,Zy,Ya,unK,Zd,Zw,Nat.reduceBEq,Nat.reduceAdd,Int.reduceBEq,Int.reduceBNe,Int.reduceLT,Zu,Zz,tup,tyf])
 clear hZ
 try clear Z
 clear hQ hQ2 hB hup
 obtain ⟨B0,hB0⟩ : ∃ z,z=X (cmF o []):=⟨_,rfl⟩
 rw [← hB0]
 have lB0:B0.length=H.length+3:=by rw [hB0]; exact xl _
 have y9:B0[H.length+2]? = some (.cells (sixC (cmF o [])) 121 false):=by rw [hB0]; exact x9 _
 have y7:B0[H.length]? = some (.cells [.slice none 0 0] 22 false):=by rw [hB0]; exact x7 _
 have y8:B0[H.length+1]? = some (.cells [gf] 123 false):=by rw [hB0]; exact x8 _
 have yE:Ext (fun _=>False) H B0:=by rw [hB0]; exact xE _
 have re:RE o B0 h.length h1.length (h1.length+1) H.length (H.length+1) lv sv :=
  { ob:=(yE.2 _ (Yd a1) id).trans a1
    ab_:=(yE.2 _ (Yd a3) id).trans a3
    sb:=(yE.2 _ (Yd d4) id).trans d4
    gb:=by rw [y8,hgf]
    fo:=by omega
    fa:=by omega
    fs:=by omega
    fg:=by omega
    f:=by omega
    al:=fun K=>by rw [hlv.len,hLl]
    sl:=how.ext yE
    sf:=fun hc=>by have:=how.lt hc; omega }
 clear hX0 x7 x8 x9 xE xset x1
 refine Yi fun Z hZ=>?_
 refine Yc fun N20 hN20=>?_
 simp (maxSteps:=2000000) only [s80,↓Za,↓Zi,↓Zr,↓Ze,↓Zo,↓Zs,↓Zg,↓Zm,↓Zf,↓Zb,↓Zc,↓vdn,vup,Zk,Zn,Zl,Zh,Zj,List.map_cons,List.map_nil,cond_true,cond_false,aop,Zv,Zq,Zp,ev,sput,Zt,Zy,Ya,unK,Zd,Zw,Nat.reduceBEq,Nat.reduceAdd,Int.reduceBEq,Int.reduceBNe,Int.reduceLT,Zu,Zz,tup,tyf]
 refine hN20 [(1,.pointer (some ⟨h.length,0,none⟩)),(2,.slice none 0 0),(3,.pointer (some ⟨h1.length,0,none⟩)),(4,.pointer (some ⟨h1.length+1,0,none⟩)),(7,.pointer (some ⟨H.length,0,none⟩)),(8,.pointer (some ⟨H.length+1,0,none⟩)),(9,.pointer (some ⟨H.length+2,0,none⟩)),(11,.int .i64 1)] _ _ ?_ (by simp (maxSteps:=2000000) only [↓Za,↓Zi,↓Zr,↓Ze,↓Zo,↓Zs,↓Zg,↓Zm,↓Zf,↓Zb,↓Zc,↓vdn,vup,Zk,Zn,Zl,Zh,Zj,List.map_cons,List.map_nil,cond_true,cond_false,aop,Zv,Zq,Zp,ev,sput,Zt,Zy,Ya,unK,Zd,Zw,Nat.reduceBEq,Nat.reduceAdd,Int.reduceBEq,Int.reduceBNe,Int.reduceLT,Zu,Zz,tup,tyf])
 clear hN20
 try clear N20
 refine Yr ?_
 refine Yn fun Q hQ=>?_
 refine We (γ:=Nat×Yb) (fun g=>g.1<3∧Xl (sepB o) (cn o) 1 g.1=none∧KH B0 H.length g.2∧g.2[H.length]? = some (.cells [.slice none 0 0] 22 false))
  (fun g=>([(1,.pointer (some ⟨h.length,0,none⟩)),(2,.slice none 0 0),(3,.pointer (some ⟨h1.length,0,none⟩)),(4,.pointer (some ⟨h1.length+1,0,none⟩)),(7,.pointer (some ⟨H.length,0,none⟩)),(8,.pointer (some ⟨H.length+1,0,none⟩)),(9,.pointer (some ⟨H.length+2,0,none⟩)),(11,Zx (g.1+1:Nat))],g.2)) (fun g=>3-g.1) (0,B0) ⟨show 0<3 by decide,rfl,Ext.refl _ _,y7⟩ (by simp (maxSteps:=2000000) only [↓Za,↓Zi,↓Zr,↓Ze,↓Zo,↓Zs,↓Zg,↓Zm,↓Zf,↓Zb,↓Zc,↓vdn,vup,Zk,Zn,Zl,Zh,Zj,List.map_cons,List.map_nil,cond_true,cond_false,aop,Zv,Zq,Zp,ev,sput,Zt,Zy,Ya,unK,Zd,Zw,Nat.reduceBEq,Nat.reduceAdd,Int.reduceBEq,Int.reduceBNe,Int.reduceLT,Zu,Zz,tup,tyf,Nat.zero_add,Int.natCast_one]) rfl ?_
 rintro ⟨s,G⟩ ⟨hs,hshort,kG,g7⟩
 simp only at hs hshort kG g7
 refine Yn fun Q2 hQ2=>?_
 simp only [l80_2]
 have gc:=real_grow ho re (s+1) 0 [] G (.slice none 0 0) (fun h=>by omega) (by simp; omega) (fun k hk=>by cases hk) (Nat.zero_le _) kG ⟨g7,.inl ⟨rfl,rfl⟩,fun b hb=>by cases hb⟩
 have k8:=kG.at_ re.gb re.fg
 have k9:=kG.at_ y9 (by omega)
 refine Yi fun C hC=>?_
 refine Yc fun N21 hN21=>?_
 simp (maxSteps:=2000000) only [s80,↓Za,↓Zi,↓Zr,↓Ze,↓Zo,↓Zs,↓Zg,↓Zm,↓Zf,↓Zb,↓Zc,↓vdn,vup,Zk,Zn,Zl,Zh,Zj,List.map_cons,List.map_nil,cond_true,cond_false,aop,Zv,Zq,Zp,ev,sput,Zt,Zy,Ya,unK,Zd,Zw,Nat.reduceBEq,Nat.reduceAdd,Int.reduceBEq,Int.reduceBNe,Int.reduceLT,Zu,Zz,tup,tyf,Xh k8 shp_123,six_load k9 sh,Yx,List.nil_append,List.append_nil,List.toList_toArray,List.cons_append]
 refine gc.mono ?_
 rintro r G2 ⟨e2,fv,gb,hres⟩
 have k2:KH B0 H.length G2:=kG.go (fv:=.slice none 0 0) (fun b hb=>by cases hb) e2
 cases hsr:srch (sepB o) (cn o) 1 (s+1) 0 [] with
 | none =>
   rw [hsr] at hres
   obtain ⟨rfl,f2⟩:=hres
   have hnext:Xl (sepB o) (cn o) 1 (s+1)=none:=by rw [Xl,hshort,hsr]; rfl
   have hs2:s+1<3:=by
    rcases Nat.lt_or_ge (s+1) 3 with h | h
    · exact h
    · have:s+1=3:=by omega
      rw [this] at hnext; exact absurd hnext (real_not3 ho)
   simp (maxSteps:=2000000) only [s80,↓Za,↓Zi,↓Zr,↓Ze,↓Zo,↓Zs,↓Zg,↓Zm,↓Zf,↓Zb,↓Zc,↓vdn,vup,Zk,Zn,Zl,Zh,Zj,List.map_cons,List.map_nil,cond_true,cond_false,aop,Zv,Zq,Zp,ev,sput,Zt,Zy,Ya,unK,Zd,Zw,Nat.reduceBEq,Nat.reduceAdd,Int.reduceBEq,Int.reduceBNe,Int.reduceLT,Zu,Zz,tup,tyf,Bool.not_false]
   refine hN21 [(1,.pointer (some ⟨h.length,0,none⟩)),(2,.slice none 0 0),(3,.pointer (some ⟨h1.length,0,none⟩)),(4,.pointer (some ⟨h1.length+1,0,none⟩)),(7,.pointer (some ⟨H.length,0,none⟩)),(8,.pointer (some ⟨H.length+1,0,none⟩)),(9,.pointer (some ⟨H.length+2,0,none⟩)),(11,Zx (s+1:Nat)),(44,.bool true)] _ _ ?_ (by simp (maxSteps:=2000000) only [↓Za,↓Zi,↓Zr,↓Ze,↓Zo,↓Zs,↓Zg,↓Zm,↓Zf,↓Zb,↓Zc,↓vdn,vup,Zk,Zn,Zl,Zh,Zj,List.map_cons,List.map_nil,cond_true,cond_false,aop,Zv,Zq,Zp,ev,sput,Zt,Zy,Ya,unK,Zd,Zw,Nat.reduceBEq,Nat.reduceAdd,Int.reduceBEq,Int.reduceBNe,Int.reduceLT,Zu,Zz,tup,tyf])
   clear hN21
   try clear N21
   refine Wh rfl ?_
   refine Yk ?_
   simp (maxSteps:=2000000) only [s80,↓Za,↓Zi,↓Zr,↓Ze,↓Zo,↓Zs,↓Zg,↓Zm,↓Zf,↓Zb,↓Zc,↓vdn,vup,Zk,Zn,Zl,Zh,Zj,List.map_cons,List.map_nil,cond_true,cond_false,aop,Zv,Zq,Zp,ev,sput,Zt,Zy,Ya,unK,Zd,Zw,Nat.reduceBEq,Nat.reduceAdd,Int.reduceBEq,Int.reduceBNe,Int.reduceLT,Zu,Zz,tup,tyf]
   refine hC [(1,.pointer (some ⟨h.length,0,none⟩)),(2,.slice none 0 0),(3,.pointer (some ⟨h1.length,0,none⟩)),(4,.pointer (some ⟨h1.length+1,0,none⟩)),(7,.pointer (some ⟨H.length,0,none⟩)),(8,.pointer (some ⟨H.length+1,0,none⟩)),(9,.pointer (some ⟨H.length+2,0,none⟩)),(11,Zx (s+1:Nat))] _ _ ?_ (by simp (maxSteps:=2000000) only [↓Za,↓Zi,↓Zr,↓Ze,↓Zo,↓Zs,↓Zg,↓Zm,↓Zf,↓Zb,↓Zc,↓vdn,vup,Zk,Zn,Zl,Zh,Zj,List.map_cons,List.map_nil,cond_true,cond_false,aop,Zv,Zq,Zp,ev,sput,Zt,Zy,Ya,unK,Zd,Zw,Nat.reduceBEq,Nat.reduceAdd,Int.reduceBEq,Int.reduceBNe,Int.reduceLT,Zu,Zz,tup,tyf])
   clear hC
   try clear C
   refine Yi fun B hB=>?_
   refine Yr ?_
   refine Yk ?_
   simp (maxSteps:=2000000) only [s80,↓Za,↓Zi,↓Zr,↓Ze,↓Zo,↓Zs,↓Zg,↓Zm,↓Zf,↓Zb,↓Zc,↓vdn,vup,Zk,Zn,Zl,Zh,Zj,List.map_cons,List.map_nil,cond_true,cond_false,aop,Zv,Zq,Zp,ev,sput,Zt,Zy,Ya,unK,Zd,Zw,Nat.reduceBEq,Nat.reduceAdd,Int.reduceBEq,Int.reduceBNe,Int.reduceLT,Zu,Zz,tup,tyf,store1 (v':=.slice none 0 0) f2.bx Wd rfl]
   refine hB [(1,.pointer (some ⟨h.length,0,none⟩)),(2,.slice none 0 0),(3,.pointer (some ⟨h1.length,0,none⟩)),(4,.pointer (some ⟨h1.length+1,0,none⟩)),(7,.pointer (some ⟨H.length,0,none⟩)),(8,.pointer (some ⟨H.length+1,0,none⟩)),(9,.pointer (some ⟨H.length+2,0,none⟩)),(11,Zx (s+1:Nat))] _ _ ?_ (by simp (maxSteps:=2000000) only [↓Za,↓Zi,↓Zr,↓Ze,↓Zo,↓Zs,↓Zg,↓Zm,↓Zf,↓Zb,↓Zc,↓vdn,vup,Zk,Zn,Zl,Zh,Zj,List.map_cons,List.map_nil,cond_true,cond_false,aop,Zv,Zq,Zp,ev,sput,Zt,Zy,Ya,unK,Zd,Zw,Nat.reduceBEq,Nat.reduceAdd,Int.reduceBEq,Int.reduceBNe,Int.reduceLT,Zu,Zz,tup,tyf])
   clear hB
   try clear B
   refine Yk ?_
   simp (maxSteps:=2000000) only [s80,↓Za,↓Zi,↓Zr,↓Ze,↓Zo,↓Zs,↓Zg,↓Zm,↓Zf,↓Zb,↓Zc,↓vdn,vup,Zk,Zn,Zl,Zh,Zj,List.map_cons,List.map_nil,cond_true,cond_false,aop,Zv,Zq,Zp,ev,sput,Zt,Zy,Ya,unK,Zd,Zw,Nat.reduceBEq,Nat.reduceAdd,Int.reduceBEq,Int.reduceBNe,Int.reduceLT,Zu,Zz,tup,tyf,add1 (show s+1<9223372036854775807 by omega)]
   exact hQ2 _ _ _ ⟨(s+1,G2.set H.length (.cells [.slice none 0 0] 22 false)),⟨hs2,hnext,k2.trans (Ext.set _ rfl),Xc (Yd f2.bx) _⟩,by simp only; omega,by simp (maxSteps:=2000000) only [↓Za,↓Zi,↓Zr,↓Ze,↓Zo,↓Zs,↓Zg,↓Zm,↓Zf,↓Zb,↓Zc,↓vdn,vup,Zk,Zn,Zl,Zh,Zj,List.map_cons,List.map_nil,cond_true,cond_false,aop,Zv,Zq,Zp,ev,sput,Zt,Zy,Ya,unK,Zd,Zw,Nat.reduceBEq,Nat.reduceAdd,Int.reduceBEq,Int.reduceBNe,Int.reduceLT,Zu,Zz,tup,tyf],rfl⟩
 | some q =>
   rw [hsr] at hres
   obtain ⟨rfl,f2⟩:=hres
   have hreal:=real_hit hshort hsr hs
   obtain ⟨ql,qc,qs⟩:=real_q hsr
   simp (maxSteps:=2000000) only [s80,↓Za,↓Zi,↓Zr,↓Ze,↓Zo,↓Zs,↓Zg,↓Zm,↓Zf,↓Zb,↓Zc,↓vdn,vup,Zk,Zn,Zl,Zh,Zj,List.map_cons,List.map_nil,cond_true,cond_false,aop,Zv,Zq,Zp,ev,sput,Zt,Zy,Ya,unK,Zd,Zw,Nat.reduceBEq,Nat.reduceAdd,Int.reduceBEq,Int.reduceBNe,Int.reduceLT,Zu,Zz,tup,tyf,Bool.not_true]
   refine hN21 [(1,.pointer (some ⟨h.length,0,none⟩)),(2,.slice none 0 0),(3,.pointer (some ⟨h1.length,0,none⟩)),(4,.pointer (some ⟨h1.length+1,0,none⟩)),(7,.pointer (some ⟨H.length,0,none⟩)),(8,.pointer (some ⟨H.length+1,0,none⟩)),(9,.pointer (some ⟨H.length+2,0,none⟩)),(11,Zx (s+1:Nat)),(44,.bool false)] _ _ ?_ (by simp (maxSteps:=2000000) only [↓Za,↓Zi,↓Zr,↓Ze,↓Zo,↓Zs,↓Zg,↓Zm,↓Zf,↓Zb,↓Zc,↓vdn,vup,Zk,Zn,Zl,Zh,Zj,List.map_cons,List.map_nil,cond_true,cond_false,aop,Zv,Zq,Zp,ev,sput,Zt,Zy,Ya,unK,Zd,Zw,Nat.reduceBEq,Nat.reduceAdd,Int.reduceBEq,Int.reduceBNe,Int.reduceLT,Zu,Zz,tup,tyf])
   clear hN21
   try clear N21
   refine Xx rfl ?_
   refine Yk ?_
   simp (maxSteps:=2000000) only [s80,↓Za,↓Zi,↓Zr,↓Ze,↓Zo,↓Zs,↓Zg,↓Zm,↓Zf,↓Zb,↓Zc,↓vdn,vup,Zk,Zn,Zl,Zh,Zj,List.map_cons,List.map_nil,cond_true,cond_false,aop,Zv,Zq,Zp,ev,sput,Zt,Zy,Ya,unK,Zd,Zw,Nat.reduceBEq,Nat.reduceAdd,Int.reduceBEq,Int.reduceBNe,Int.reduceLT,Zu,Zz,tup,tyf]
   refine hQ2 _ _ _ (hQ _ _ _ ?_)
   simp (maxSteps:=2000000) only [s80,↓Za,↓Zi,↓Zr,↓Ze,↓Zo,↓Zs,↓Zg,↓Zm,↓Zf,↓Zb,↓Zc,↓vdn,vup,Zk,Zn,Zl,Zh,Zj,List.map_cons,List.map_nil,cond_true,cond_false,aop,Zv,Zq,Zp,ev,sput,Zt,Zy,Ya,unK,Zd,Zw,Nat.reduceBEq,Nat.reduceAdd,Int.reduceBEq,Int.reduceBNe,Int.reduceLT,Zu,Zz,tup,tyf,if_true]
   refine hZ [(1,.pointer (some ⟨h.length,0,none⟩)),(2,.slice none 0 0),(3,.pointer (some ⟨h1.length,0,none⟩)),(4,.pointer (some ⟨h1.length+1,0,none⟩)),(7,.pointer (some ⟨H.length,0,none⟩)),(8,.pointer (some ⟨H.length+1,0,none⟩)),(9,.pointer (some ⟨H.length+2,0,none⟩))] _ _ ?_ (by simp (maxSteps:=2000000) only [↓Za,↓Zi,↓Zr,↓Ze,↓Zo,↓Zs,↓Zg,↓Zm,↓Zf,↓Zb,↓Zc,↓vdn,vup,Zk,Zn,Zl,Zh,Zj,List.map_cons,List.map_nil,cond_true,cond_false,aop,Zv,Zq,Zp,ev,sput,Zt,Zy,Ya,unK,Zd,Zw,Nat.reduceBEq,Nat.reduceAdd,Int.reduceBEq,Int.reduceBNe,Int.reduceLT,Zu,Zz,tup,tyf])
   clear hZ
   try clear Z
   clear hQ hQ2
   have hEB:Ext (fun _=>False) h1 B0:=hE1H.trans yE
   have hE12:Ext (fun _=>False) h1 G2:=ext_pf hEB k2 (by have:=hE1H.1; omega)
   have r3:=k2.at_ re.ab_ re.fa
   have hqN : ∀ k∈q,k<cn o:=fun k hk=>(qc.lt k hk).2
   refine Yc fun N22 hN22=>?_
   simp (maxSteps:=2000000) only [s80,↓Za,↓Zi,↓Zr,↓Ze,↓Zo,↓Zs,↓Zg,↓Zm,↓Zf,↓Zb,↓Zc,↓vdn,vup,Zk,Zn,Zl,Zh,Zj,List.map_cons,List.map_nil,cond_true,cond_false,aop,Zv,Zq,Zp,ev,sput,Zt,Zy,Ya,unK,Zd,Zw,Nat.reduceBEq,Nat.reduceAdd,Int.reduceBEq,Int.reduceBNe,Int.reduceLT,Zu,Zz,tup,tyf]
   refine hN22 [(1,.pointer (some ⟨h.length,0,none⟩)),(2,.slice none 0 0),(3,.pointer (some ⟨h1.length,0,none⟩)),(4,.pointer (some ⟨h1.length+1,0,none⟩)),(7,.pointer (some ⟨H.length,0,none⟩)),(8,.pointer (some ⟨H.length+1,0,none⟩)),(9,.pointer (some ⟨H.length+2,0,none⟩)),(12,.slice none 0 0)] _ _ ?_ (by simp (maxSteps:=2000000) only [↓Za,↓Zi,↓Zr,↓Ze,↓Zo,↓Zs,↓Zg,↓Zm,↓Zf,↓Zb,↓Zc,↓vdn,vup,Zk,Zn,Zl,Zh,Zj,List.map_cons,List.map_nil,cond_true,cond_false,aop,Zv,Zq,Zp,ev,sput,Zt,Zy,Ya,unK,Zd,Zw,Nat.reduceBEq,Nat.reduceAdd,Int.reduceBEq,Int.reduceBNe,Int.reduceLT,Zu,Zz,tup,tyf])
   clear hN22
   try clear N22
   refine Yi fun Z hZ=>?_
   refine Yc fun N23 hN23=>?_
   simp (maxSteps:=2000000) only [s80,↓Za,↓Zi,↓Zr,↓Ze,↓Zo,↓Zs,↓Zg,↓Zm,↓Zf,↓Zb,↓Zc,↓vdn,vup,Zk,Zn,Zl,Zh,Zj,List.map_cons,List.map_nil,cond_true,cond_false,aop,Zv,Zq,Zp,ev,sput,Zt,Zy,Ya,unK,Zd,Zw,Nat.reduceBEq,Nat.reduceAdd,Int.reduceBEq,Int.reduceBNe,Int.reduceLT,Zu,Zz,tup,tyf,Xh f2.bx Wd,f2.own.int.len,iL_len]
   refine hN23 [(1,.pointer (some ⟨h.length,0,none⟩)),(2,.slice none 0 0),(3,.pointer (some ⟨h1.length,0,none⟩)),(4,.pointer (some ⟨h1.length+1,0,none⟩)),(7,.pointer (some ⟨H.length,0,none⟩)),(8,.pointer (some ⟨H.length+1,0,none⟩)),(9,.pointer (some ⟨H.length+2,0,none⟩)),(12,.slice none 0 0),(47,fv),(48,Zx q.length),(49,.int .i64 0)] _ _ ?_ (by simp (maxSteps:=2000000) only [↓Za,↓Zi,↓Zr,↓Ze,↓Zo,↓Zs,↓Zg,↓Zm,↓Zf,↓Zb,↓Zc,↓vdn,vup,Zk,Zn,Zl,Zh,Zj,List.map_cons,List.map_nil,cond_true,cond_false,aop,Zv,Zq,Zp,ev,sput,Zt,Zy,Ya,unK,Zd,Zw,Nat.reduceBEq,Nat.reduceAdd,Int.reduceBEq,Int.reduceBNe,Int.reduceLT,Zu,Zz,tup,tyf])
   clear hN23
   try clear N23
   refine Yr ?_
   refine Yn fun Q hQ=>?_
   refine We (γ:=Nat×Value×Yb) (fun g=>g.1≤q.length∧OwnL 22 3 g.2.2 g.2.1 ((q.take g.1).map fun k=>castN (lin o k))∧Ext (fun _=>False) G2 g.2.2∧∀ b,Ye g.2.1=some b→G2.length≤b)
    (fun g=>([(1,.pointer (some ⟨h.length,0,none⟩)),(2,.slice none 0 0),(3,.pointer (some ⟨h1.length,0,none⟩)),(4,.pointer (some ⟨h1.length+1,0,none⟩)),(7,.pointer (some ⟨H.length,0,none⟩)),(8,.pointer (some ⟨H.length+1,0,none⟩)),(9,.pointer (some ⟨H.length+2,0,none⟩)),(12,g.2.1),(47,fv),(48,Zx q.length),(49,Zx (g.1:Nat))],g.2.2)) (fun g=>q.length-g.1) (0,.slice none 0 0,G2) ⟨Nat.zero_le _,OwnL.nil,Ext.refl _ _,fun b hb=>by cases hb⟩ (by simp (maxSteps:=2000000) only [↓Za,↓Zi,↓Zr,↓Ze,↓Zo,↓Zs,↓Zg,↓Zm,↓Zf,↓Zb,↓Zc,↓vdn,vup,Zk,Zn,Zl,Zh,Zj,List.map_cons,List.map_nil,cond_true,cond_false,aop,Zv,Zq,Zp,ev,sput,Zt,Zy,Ya,unK,Zd,Zw,Nat.reduceBEq,Nat.reduceAdd,Int.reduceBEq,Int.reduceBNe,Int.reduceLT,Zu,Zz,tup,tyf,Int.natCast_zero]) rfl ?_
   rintro ⟨j,ov,H3⟩ ⟨hj,how3,hE3,hbw3⟩
   simp only at hj how3 hE3 hbw3
   refine Yn fun Q2 hQ2=>?_
   simp only [l80_3]
   by_cases hjin:(j:Int)<q.length
   · have hj' : j<q.length:=by omega
     have hj2:j<(iL q).length:=by rw [iL_len]; exact hj'
     obtain ⟨k,hk⟩ : ∃ k,q.getD j 0=k:=⟨_,rfl⟩
     have hkN:k<cn o:=hqN k (hk▸getD_memN hj')
     have hkL:k<(linesI o).length:=by omega
     have rl3:=hlv.ext (hE12.trans hE3)
     obtain ⟨w,hw,hwl⟩:=rl3.load (P:=prog) Wd hkL
     rw [linesI_get o hkN] at hw
     have fq:=(f2.own.ext (S:=fun _=>False) hE3 (fun _ _=>id)).int
     have r3':=(hE3.2 _ (Yd r3) id).trans r3
     have hnx:(q.take (j+1)).map (fun k=>castN (lin o k))=(q.take j).map (fun k=>castN (lin o k))++[castN (lin o k)]:=by
      rw [List.take_succ,List.getElem?_eq_getElem hj',Option.toList_some,List.map_append,List.map_singleton,← hk,List.getD,List.getElem?_eq_getElem hj']; rfl
     refine Yc fun N24 hN24=>?_
     simp (maxSteps:=2000000) only [s80,↓Za,↓Zi,↓Zr,↓Ze,↓Zo,↓Zs,↓Zg,↓Zm,↓Zf,↓Zb,↓Zc,↓vdn,vup,Zk,Zn,Zl,Zh,Zj,List.map_cons,List.map_nil,cond_true,cond_false,aop,Zv,Zq,Zp,ev,sput,Zt,Zy,Ya,unK,Zd,Zw,Nat.reduceBEq,Nat.reduceAdd,Int.reduceBEq,Int.reduceBNe,Int.reduceLT,Zu,Zz,tup,tyf,hjin]
     refine hN24 [(1,.pointer (some ⟨h.length,0,none⟩)),(2,.slice none 0 0),(3,.pointer (some ⟨h1.length,0,none⟩)),(4,.pointer (some ⟨h1.length+1,0,none⟩)),(7,.pointer (some ⟨H.length,0,none⟩)),(8,.pointer (some ⟨H.length+1,0,none⟩)),(9,.pointer (some ⟨H.length+2,0,none⟩)),(12,ov),(47,fv),(48,Zx q.length),(49,Zx (j:Nat)),(50,.bool true)] _ _ ?_ (by simp (maxSteps:=2000000) only [↓Za,↓Zi,↓Zr,↓Ze,↓Zo,↓Zs,↓Zg,↓Zm,↓Zf,↓Zb,↓Zc,↓vdn,vup,Zk,Zn,Zl,Zh,Zj,List.map_cons,List.map_nil,cond_true,cond_false,aop,Zv,Zq,Zp,ev,sput,Zt,Zy,Ya,unK,Zd,Zw,Nat.reduceBEq,Nat.reduceAdd,Int.reduceBEq,Int.reduceBNe,Int.reduceLT,Zu,Zz,tup,tyf])
     clear hN24
     try clear N24
     refine Yc fun N25 hN25=>?_
     simp (maxSteps:=2000000) only [s80,↓Za,↓Zi,↓Zr,↓Ze,↓Zo,↓Zs,↓Zg,↓Zm,↓Zf,↓Zb,↓Zc,↓vdn,vup,Zk,Zn,Zl,Zh,Zj,List.map_cons,List.map_nil,cond_true,cond_false,aop,Zv,Zq,Zp,ev,sput,Zt,Zy,Ya,unK,Zd,Zw,Nat.reduceBEq,Nat.reduceAdd,Int.reduceBEq,Int.reduceBNe,Int.reduceLT,Zu,Zz,tup,tyf]
     refine hN25 [(1,.pointer (some ⟨h.length,0,none⟩)),(2,.slice none 0 0),(3,.pointer (some ⟨h1.length,0,none⟩)),(4,.pointer (some ⟨h1.length+1,0,none⟩)),(7,.pointer (some ⟨H.length,0,none⟩)),(8,.pointer (some ⟨H.length+1,0,none⟩)),(9,.pointer (some ⟨H.length+2,0,none⟩)),(12,ov),(47,fv),(48,Zx q.length),(49,Zx (j:Nat))] _ _ ?_ (by simp (maxSteps:=2000000) only [↓Za,↓Zi,↓Zr,↓Ze,↓Zo,↓Zs,↓Zg,↓Zm,↓Zf,↓Zb,↓Zc,↓vdn,vup,Zk,Zn,Zl,Zh,Zj,List.map_cons,List.map_nil,cond_true,cond_false,aop,Zv,Zq,Zp,ev,sput,Zt,Zy,Ya,unK,Zd,Zw,Nat.reduceBEq,Nat.reduceAdd,Int.reduceBEq,Int.reduceBNe,Int.reduceLT,Zu,Zz,tup,tyf])
     clear hN25
     try clear N25
     refine Yi fun B hB=>?_
     refine Yr ?_
     refine Yc fun N26 hN26=>?_
     simp (maxSteps:=2000000) only [s80,↓Za,↓Zi,↓Zr,↓Ze,↓Zo,↓Zs,↓Zg,↓Zm,↓Zf,↓Zb,↓Zc,↓vdn,vup,Zk,Zn,Zl,Zh,Zj,List.map_cons,List.map_nil,cond_true,cond_false,aop,Zv,Zq,Zp,ev,sput,Zt,Zy,Ya,unK,Zd,Zw,Nat.reduceBEq,Nat.reduceAdd,Int.reduceBEq,Int.reduceBNe,Int.reduceLT,Zu,Zz,tup,tyf,fq.idx Uh Xt hj2,fq.load Xf hj2,iL_get,hk]
     refine hN26 [(1,.pointer (some ⟨h.length,0,none⟩)),(2,.slice none 0 0),(3,.pointer (some ⟨h1.length,0,none⟩)),(4,.pointer (some ⟨h1.length+1,0,none⟩)),(7,.pointer (some ⟨H.length,0,none⟩)),(8,.pointer (some ⟨H.length+1,0,none⟩)),(9,.pointer (some ⟨H.length+2,0,none⟩)),(12,ov),(14,Zx (k:Nat)),(47,fv),(48,Zx q.length),(49,Zx (j:Nat))] _ _ ?_ (by simp (maxSteps:=2000000) only [↓Za,↓Zi,↓Zr,↓Ze,↓Zo,↓Zs,↓Zg,↓Zm,↓Zf,↓Zb,↓Zc,↓vdn,vup,Zk,Zn,Zl,Zh,Zj,List.map_cons,List.map_nil,cond_true,cond_false,aop,Zv,Zq,Zp,ev,sput,Zt,Zy,Ya,unK,Zd,Zw,Nat.reduceBEq,Nat.reduceAdd,Int.reduceBEq,Int.reduceBNe,Int.reduceLT,Zu,Zz,tup,tyf])
     clear hN26
     try clear N26
     refine Yk ?_
     simp (maxSteps:=2000000) only [s80,↓Za,↓Zi,↓Zr,↓Ze,↓Zo,↓Zs,↓Zg,↓Zm,↓Zf,↓Zb,↓Zc,↓vdn,vup,Zk,Zn,Zl,Zh,Zj,List.map_cons,List.map_nil,cond_true,cond_false,aop,Zv,Zq,Zp,ev,sput,Zt,Zy,Ya,unK,Zd,Zw,Nat.reduceBEq,Nat.reduceAdd,Int.reduceBEq,Int.reduceBNe,Int.reduceLT,Zu,Zz,tup,tyf,Xh r3' shp_45,rl3.idx el_45 esz_22 hkL,hwl,List.map_toArray,buildSl1 el_45 zero_22 esz_22 hw]
     have hval:ValSl (H3++[Blk.cells [w] 22 false]) (.slice (some ⟨H3.length,0,none⟩) 1 1) [w]:=.inr ⟨H3.length,0,none,1,[w],22,false,rfl,Nat.le_refl _,by simp [view,Blk.view],rfl⟩
     refine OwnL.app (how3.ext (Ext.app _ _ _)) app_45_45 hval (OwnL.single hw) (by rw [List.length_map,List.length_take,List.length_singleton]; omega) ?_
     intro ov' G3 ho' hE' hb'
     rw [← hnx] at ho'
     have hEn:Ext (fun _=>False) G2 G3:=ext_app hE3 (H':=H3++[Blk.cells [w] 22 false]) (by simp) (fun q hq=>List.getElem?_append_left (by have:=hE3.1; omega)) (fun b hb=>hbw3 b hb) hE'
     have hbw' : ∀ b,Ye ov' = some b→G2.length≤b:=fun b hb=>by
      rcases hb' with h1 | ⟨b',h1,h2⟩
      · exact hbw3 b (h1▸hb)
      · rw [h1] at hb; cases hb
        rw [List.length_append] at h2
        have:=hE3.1; omega
     refine hB [(1,.pointer (some ⟨h.length,0,none⟩)),(2,.slice none 0 0),(3,.pointer (some ⟨h1.length,0,none⟩)),(4,.pointer (some ⟨h1.length+1,0,none⟩)),(7,.pointer (some ⟨H.length,0,none⟩)),(8,.pointer (some ⟨H.length+1,0,none⟩)),(9,.pointer (some ⟨H.length+2,0,none⟩)),(12,ov'),(47,fv),(48,Zx q.length),(49,Zx (j:Nat))] _ _ ?_ (by simp (maxSteps:=2000000) only [↓Za,↓Zi,↓Zr,↓Ze,↓Zo,↓Zs,↓Zg,↓Zm,↓Zf,↓Zb,↓Zc,↓vdn,vup,Zk,Zn,Zl,Zh,Zj,List.map_cons,List.map_nil,cond_true,cond_false,aop,Zv,Zq,Zp,ev,sput,Zt,Zy,Ya,unK,Zd,Zw,Nat.reduceBEq,Nat.reduceAdd,Int.reduceBEq,Int.reduceBNe,Int.reduceLT,Zu,Zz,tup,tyf])
     clear hB
     try clear B
     refine Yk ?_
     simp (maxSteps:=2000000) only [s80,↓Za,↓Zi,↓Zr,↓Ze,↓Zo,↓Zs,↓Zg,↓Zm,↓Zf,↓Zb,↓Zc,↓vdn,vup,Zk,Zn,Zl,Zh,Zj,List.map_cons,List.map_nil,cond_true,cond_false,aop,Zv,Zq,Zp,ev,sput,Zt,Zy,Ya,unK,Zd,Zw,Nat.reduceBEq,Nat.reduceAdd,Int.reduceBEq,Int.reduceBNe,Int.reduceLT,Zu,Zz,tup,tyf,add1 (show j<9223372036854775807 by omega)]
     exact hQ2 _ _ _ ⟨(j+1,ov',G3),⟨hj',ho',hEn,hbw'⟩,by simp only; omega,by simp (maxSteps:=2000000) only [↓Za,↓Zi,↓Zr,↓Ze,↓Zo,↓Zs,↓Zg,↓Zm,↓Zf,↓Zb,↓Zc,↓vdn,vup,Zk,Zn,Zl,Zh,Zj,List.map_cons,List.map_nil,cond_true,cond_false,aop,Zv,Zq,Zp,ev,sput,Zt,Zy,Ya,unK,Zd,Zw,Nat.reduceBEq,Nat.reduceAdd,Int.reduceBEq,Int.reduceBNe,Int.reduceLT,Zu,Zz,tup,tyf],rfl⟩
   obtain rfl:j=q.length:=by omega
   rw [List.take_length] at how3
   refine Yc fun N27 hN27=>?_
   simp (maxSteps:=2000000) only [s80,↓Za,↓Zi,↓Zr,↓Ze,↓Zo,↓Zs,↓Zg,↓Zm,↓Zf,↓Zb,↓Zc,↓vdn,vup,Zk,Zn,Zl,Zh,Zj,List.map_cons,List.map_nil,cond_true,cond_false,aop,Zv,Zq,Zp,ev,sput,Zt,Zy,Ya,unK,Zd,Zw,Nat.reduceBEq,Nat.reduceAdd,Int.reduceBEq,Int.reduceBNe,Int.reduceLT,Zu,Zz,tup,tyf,hjin]
   refine hN27 [(1,.pointer (some ⟨h.length,0,none⟩)),(2,.slice none 0 0),(3,.pointer (some ⟨h1.length,0,none⟩)),(4,.pointer (some ⟨h1.length+1,0,none⟩)),(7,.pointer (some ⟨H.length,0,none⟩)),(8,.pointer (some ⟨H.length+1,0,none⟩)),(9,.pointer (some ⟨H.length+2,0,none⟩)),(12,ov),(47,fv),(48,Zx q.length),(49,Zx q.length),(50,.bool false)] _ _ ?_ (by simp (maxSteps:=2000000) only [↓Za,↓Zi,↓Zr,↓Ze,↓Zo,↓Zs,↓Zg,↓Zm,↓Zf,↓Zb,↓Zc,↓vdn,vup,Zk,Zn,Zl,Zh,Zj,List.map_cons,List.map_nil,cond_true,cond_false,aop,Zv,Zq,Zp,ev,sput,Zt,Zy,Ya,unK,Zd,Zw,Nat.reduceBEq,Nat.reduceAdd,Int.reduceBEq,Int.reduceBNe,Int.reduceLT,Zu,Zz,tup,tyf])
   clear hN27
   try clear N27
   refine Yc fun N28 hN28=>?_
   simp (maxSteps:=2000000) only [s80,↓Za,↓Zi,↓Zr,↓Ze,↓Zo,↓Zs,↓Zg,↓Zm,↓Zf,↓Zb,↓Zc,↓vdn,vup,Zk,Zn,Zl,Zh,Zj,List.map_cons,List.map_nil,cond_true,cond_false,aop,Zv,Zq,Zp,ev,sput,Zt,Zy,Ya,unK,Zd,Zw,Nat.reduceBEq,Nat.reduceAdd,Int.reduceBEq,Int.reduceBNe,Int.reduceLT,Zu,Zz,tup,tyf]
   refine hQ2 _ _ _ (hQ _ _ _ ?_)
   simp (maxSteps:=2000000) only [s80,↓Za,↓Zi,↓Zr,↓Ze,↓Zo,↓Zs,↓Zg,↓Zm,↓Zf,↓Zb,↓Zc,↓vdn,vup,Zk,Zn,Zl,Zh,Zj,List.map_cons,List.map_nil,cond_true,cond_false,aop,Zv,Zq,Zp,ev,sput,Zt,Zy,Ya,unK,Zd,Zw,Nat.reduceBEq,Nat.reduceAdd,Int.reduceBEq,Int.reduceBNe,Int.reduceLT,Zu,Zz,tup,tyf,if_true]
   refine hZ [(1,.pointer (some ⟨h.length,0,none⟩)),(2,.slice none 0 0),(3,.pointer (some ⟨h1.length,0,none⟩)),(4,.pointer (some ⟨h1.length+1,0,none⟩)),(7,.pointer (some ⟨H.length,0,none⟩)),(8,.pointer (some ⟨H.length+1,0,none⟩)),(9,.pointer (some ⟨H.length+2,0,none⟩)),(12,ov)] _ _ ?_ (by simp (maxSteps:=2000000) only [↓Za,↓Zi,↓Zr,↓Ze,↓Zo,↓Zs,↓Zg,↓Zm,↓Zf,↓Zb,↓Zc,↓vdn,vup,Zk,Zn,Zl,Zh,Zj,List.map_cons,List.map_nil,cond_true,cond_false,aop,Zv,Zq,Zp,ev,sput,Zt,Zy,Ya,unK,Zd,Zw,Nat.reduceBEq,Nat.reduceAdd,Int.reduceBEq,Int.reduceBNe,Int.reduceLT,Zu,Zz,tup,tyf])
   clear hZ
   try clear Z
   refine Yk ?_
   simp (maxSteps:=2000000) only [s80,↓Za,↓Zi,↓Zr,↓Ze,↓Zo,↓Zs,↓Zg,↓Zm,↓Zf,↓Zb,↓Zc,↓vdn,vup,Zk,Zn,Zl,Zh,Zj,List.map_cons,List.map_nil,cond_true,cond_false,aop,Zv,Zq,Zp,ev,sput,Zt,Zy,Ya,unK,Zd,Zw,Nat.reduceBEq,Nat.reduceAdd,Int.reduceBEq,Int.reduceBNe,Int.reduceLT,Zu,Zz,tup,tyf]
   refine ⟨by rw [realLL,hreal]; exact how3.rd,(e0.trans hE1).trans (hE12.trans hE3)⟩
def RealIs (o:List Int) (h' : Yb) (x:Value) (e:Int):Prop:=if ord o=true then e=0∧RdL 3 h' x (realLL o) else x = .slice none 0 0∧e=2
theorem real_call [BitTab prog 1] {h:Yb} {v:Value} {o:List Int} (hv:IntSl h v o) (hl:o.length<9223372036854775808) (hx : ∀ x∈o,-9223372036854775808≤x∧x<9223372036854775808) :
  ACall prog 43 [v] h fun r h'=>Ext (fun _=>False) h h'∧∃ x e,r = .tuple #[x,.int .i64 e]∧RealIs o h' x e:=by
 refine s43_call (by simp) ?_
 simp only [s43]
 simp (maxSteps:=2000000) only [s43,↓Za,↓Zi,↓Zr,↓Ze,↓Zo,↓Zs,↓Zg,↓Zm,↓Zf,↓Zb,↓Zc,↓vdn,vup,Zk,Zn,Zl,Zh,Zj,List.map_cons,List.map_nil,cond_true,cond_false,aop,Zv,Zq,Zp,ev,sput,Zt,Zy,Ya,unK,Zd,Zw,Nat.reduceBEq,Nat.reduceAdd,Int.reduceBEq,Int.reduceBNe,Int.reduceLT,Zu,Zz,tup,tyf,Yx,List.nil_append,List.append_nil,List.toList_toArray,List.cons_append]
 refine (read_call hv hl hx).mono ?_
 rintro _ g ⟨rfl,rfl⟩
 simp (maxSteps:=2000000) only [s43,↓Za,↓Zi,↓Zr,↓Ze,↓Zo,↓Zs,↓Zg,↓Zm,↓Zf,↓Zb,↓Zc,↓vdn,vup,Zk,Zn,Zl,Zh,Zj,List.map_cons,List.map_nil,cond_true,cond_false,aop,Zv,Zq,Zp,ev,sput,Zt,Zy,Ya,unK,Zd,Zw,Nat.reduceBEq,Nat.reduceAdd,Int.reduceBEq,Int.reduceBNe,Int.reduceLT,Zu,Zz,tup,tyf,Xr,Ys,zeroN,zero_77]
 rw [storeRd]
 obtain ⟨hE,hb⟩:=rdBox g o
 generalize hgl:g.length=gl at hE hb ⊢
 generalize (g++[Blk.cells (ordN 0) 77 false]).set gl (.cells (rdC o) 77 false)=G at hE hb ⊢
 cases ho:ord o with
 | false =>
   simp (maxSteps:=2000000) only [s43,↓Za,↓Zi,↓Zr,↓Ze,↓Zo,↓Zs,↓Zg,↓Zm,↓Zf,↓Zb,↓Zc,↓vdn,vup,Zk,Zn,Zl,Zh,Zj,List.map_cons,List.map_nil,cond_true,cond_false,aop,Zv,Zq,Zp,ev,sput,Zt,Zy,Ya,unK,Zd,Zw,Nat.reduceBEq,Nat.reduceAdd,Int.reduceBEq,Int.reduceBNe,Int.reduceLT,Zu,Zz,tup,tyf,ho]
   exact ⟨hE,_,_,rfl,by rw [RealIs,ho]; exact ⟨rfl,rfl⟩⟩
 | true =>
   have hrd:rdC o=Wa o:=if_pos (Yu ho)
   rw [hrd] at hb
   simp (maxSteps:=2000000) only [s43,↓Za,↓Zi,↓Zr,↓Ze,↓Zo,↓Zs,↓Zg,↓Zm,↓Zf,↓Zb,↓Zc,↓vdn,vup,Zk,Zn,Zl,Zh,Zj,List.map_cons,List.map_nil,cond_true,cond_false,aop,Zv,Zq,Zp,ev,sput,Zt,Zy,Ya,unK,Zd,Zw,Nat.reduceBEq,Nat.reduceAdd,Int.reduceBEq,Int.reduceBNe,Int.reduceLT,Zu,Zz,tup,tyf,ho,Vd hb Xb (Yu ho).2,Yx,List.nil_append,List.append_nil,List.toList_toArray,List.cons_append]
   refine (realizer_call ho).mono ?_
   rintro r H ⟨hr,hEH⟩
   exact ⟨hE.trans hEH,_,_,rfl,by rw [RealIs,ho]; exact ⟨rfl,hr⟩⟩
def dimV (o:List Int):Value:=if ord o=true then .tuple #[Zx (Ve o).length,.int .i64 0] else .tuple #[.int .i64 0,.int .i64 2]
theorem dim_call [BitTab prog 1] {h:Yb} {v:Value} {o:List Int} (hv:IntSl h v o) (hl:o.length<9223372036854775808) (hx : ∀ x∈o,-9223372036854775808≤x∧x<9223372036854775808):APure prog 44 [v] h (dimV o):=by
 have hlow:Low (dimV o):=by unfold dimV; split <;> exact .pair (.int _ _) (.int _ _)
 refine ACall.forget hlow ?_
 refine s44_call (by simp) ?_
 simp only [s44]
 simp (maxSteps:=2000000) only [s44,↓Za,↓Zi,↓Zr,↓Ze,↓Zo,↓Zs,↓Zg,↓Zm,↓Zf,↓Zb,↓Zc,↓vdn,vup,Zk,Zn,Zl,Zh,Zj,List.map_cons,List.map_nil,cond_true,cond_false,aop,Zv,Zq,Zp,ev,sput,Zt,Zy,Ya,unK,Zd,Zw,Nat.reduceBEq,Nat.reduceAdd,Int.reduceBEq,Int.reduceBNe,Int.reduceLT,Zu,Zz,tup,tyf,Yx,List.nil_append,List.append_nil,List.toList_toArray,List.cons_append]
 refine (real_call hv hl hx).mono ?_
 rintro _ G ⟨hE,x,e,rfl,hr⟩
 cases ho:ord o with
 | false =>
   rw [RealIs,ho,if_neg (by decide)] at hr
   obtain ⟨rfl,rfl⟩:=hr
   simp (maxSteps:=2000000) only [s44,↓Za,↓Zi,↓Zr,↓Ze,↓Zo,↓Zs,↓Zg,↓Zm,↓Zf,↓Zb,↓Zc,↓vdn,vup,Zk,Zn,Zl,Zh,Zj,List.map_cons,List.map_nil,cond_true,cond_false,aop,Zv,Zq,Zp,ev,sput,Zt,Zy,Ya,unK,Zd,Zw,Nat.reduceBEq,Nat.reduceAdd,Int.reduceBEq,Int.reduceBNe,Int.reduceLT,Zu,Zz,tup,tyf,lenK,Int.natCast_zero]
   exact ⟨by rw [dimV,ho]; rfl,hE⟩
 | true =>
   rw [RealIs,ho,if_pos rfl] at hr
   obtain ⟨rfl,hr⟩:=hr
   have hlr:(realLL o).length=(Ve o).length:=by rw [realLL,List.length_map]
   simp (maxSteps:=2000000) only [s44,↓Za,↓Zi,↓Zr,↓Ze,↓Zo,↓Zs,↓Zg,↓Zm,↓Zf,↓Zb,↓Zc,↓vdn,vup,Zk,Zn,Zl,Zh,Zj,List.map_cons,List.map_nil,cond_true,cond_false,aop,Zv,Zq,Zp,ev,sput,Zt,Zy,Ya,unK,Zd,Zw,Nat.reduceBEq,Nat.reduceAdd,Int.reduceBEq,Int.reduceBNe,Int.reduceLT,Zu,Zz,tup,tyf,hr.len,hlr]
   exact ⟨by rw [dimV,ho]; rfl,hE⟩
end Go.Proofs.Tryd.Am
namespace Go.Proofs.Tryd.Am
open Go.Am Ord
set_option maxRecDepth 100000
set_option maxHeartbeats 4000000
/-! ### Plain -/
theorem shortest_ge {P:List Nat→Bool} {N d:Nat} {q:List Nat} {s:Nat} (h:Xl P N d s=some q) : ∀ s',s≤s'→Xl P N d s' = some q
 | 0,hs=>by obtain rfl:s=0:=by omega
            exact h
 | s' + 1,hs=>by
   rcases Nat.lt_or_ge s (s' + 1) with h1 | h1
   · exact shortest_up (shortest_ge h s' (by omega))
   · obtain rfl:s=s' + 1:=by omega
     exact h
theorem shortest_ex {P:List Nat→Bool} {N d:Nat} {q:List Nat} : ∀ {s:Nat},Xl P N d s=some q→∃ s',1≤s'∧s'≤s∧srch P N d s' 0 []=some q
 | 0,h=>by rw [Xl] at h; cases h
 | s+1,h=>by
   rw [Xl] at h
   cases h1:Xl P N d s with
   | some q' =>
     rw [h1] at h; cases h
     obtain ⟨s',h2,h3,h4⟩:=shortest_ex h1
     exact ⟨s',h2,by omega,h4⟩
   | none=>rw [h1] at h; exact ⟨s+1,by omega,Nat.le_refl _,h⟩
theorem realL_of {o:List Int} {s:Nat} {q:List Nat} (h:Xl (sepB o) (cn o) 1 s=some q) (hs:s≤3):Ve o=q∧1≤q.length∧q.length≤s∧(∀ k∈q,k<cn o)∧sepB o q=true:=by
 obtain ⟨s',h1,h2,h3⟩:=shortest_ex h
 obtain ⟨h4,h5,h6⟩:=real_q h3
 exact ⟨by rw [Ve,shortest_ge h 3 hs]; rfl,by omega,by omega,fun k hk=>(h5.lt k hk).2,h6⟩
structure DimF (o:List Int):Prop where
 ge:1≤(Ve o).length
 le:(Ve o).length≤3
 an:(Ve o).length≤max 1 (Am.bits (antiM o)).length
 lt : ∀ k∈Ve o,k<cn o
 sep:sepB o (Ve o)=true
 one:(Ve o).length=1↔∀ i j,i<o.length→j<o.length→fr o i j=false
theorem dim_facts {o:List Int} (ho:ord o=true):DimF o:=by
 have hl:=Yu ho
 have hp:=pow6 hl.2
 obtain ⟨A,t,ha,hc,h1,h3,hA,hs⟩:=real_ex ho
 cases h:Xl (sepB o) (cn o) 1 t.length with
 | none=>rw [Vp h t h1 (Nat.le_refl _) hc] at hs; cases hs
 | some q =>
   obtain ⟨hq,q1,q2,q3,q4⟩:=realL_of h h3
   have hA' : ∀ a∈A,a<o.length:=fun a h=>List.mem_range.1 (ha.sub a h)
   have hmA:(Am.bits (msk A)).length=A.length:=bits_msk ha.nd fun a h=>by have:=hA' a h; omega
   have hu:uni o (msk A) true=true:=(uni_iff (msk_lt hA')).2 fun i j hij hi hj=>by
    rw [fr,decide_eq_true hij,ha.an i (msk_bit.1 hi) j (msk_bit.1 hj),ha.an j (msk_bit.1 hj) i (msk_bit.1 hi)]; rfl
   obtain ⟨m1,m2,m3,m4⟩:=antiTo_spec o (2 ^ o.length) (by omega)
   have hAl:=m3 _ (msk_lt hA') hu
   rw [hmA,show antiTo o (2 ^ o.length)=antiM o from rfl] at hAl
   have h0:0<cn o:=by
    obtain ⟨k,hk⟩:=List.exists_mem_of_ne_nil q (fun hc=>by rw [hc] at q1; simp at q1)
    have:=q3 k hk; omega
   have hone:(Ve o).length=1↔∀ i j,i<o.length→j<o.length→fr o i j=false:=by
    constructor
    · intro h1 i j hi hj
      cases hf:fr o i j with
      | false=>rfl
      | true =>
        exfalso
        simp only [fr,Bool.and_eq_true,decide_eq_true_eq,Bool.not_eq_true'] at hf
        obtain ⟨k1,hk1,b1⟩:=sepB_iff.1 q4 i j hi hj hf.1.1 hf.1.2
        obtain ⟨k2,hk2,b2⟩:=sepB_iff.1 q4 j i hj hi (Ne.symm hf.1.1) hf.2
        rw [hq] at h1
        obtain ⟨k,rfl⟩:=List.length_eq_one_iff.1 h1
        rw [List.mem_singleton] at hk1 hk2
        rw [hk1,bef,decide_eq_true_eq] at b1
        rw [hk2,bef,decide_eq_true_eq] at b2
        omega
    · intro hno
      have hP:sepB o [0]=true:=sepB_iff.2 fun i j hi hj hij hab=>by
       have hf:=hno i j hi hj
       cases hba:ab o j i with
       | false=>simp [fr,hij,hab,hba] at hf
       | true=>exact ⟨0,by simp,(lin_facts ho h0).ab j i hba⟩
      cases h2:Xl (sepB o) (cn o) 1 1 with
      | none=>rw [Vp h2 [0] (by simp) (by simp) ⟨Nat.le_refl _,h0,trivial⟩] at hP; cases hP
      | some q' =>
        obtain ⟨e1,e2,e3,_⟩:=realL_of h2 (by decide)
        rw [e1]; omega
   exact ⟨by rw [hq]; exact q1,by rw [hq]; omega,by rw [hq]; omega,by rw [hq]; exact q3,by rw [hq]; exact q4,hone⟩
end Go.Proofs.Tryd.Am
namespace Ord
set_option maxRecDepth 100000
def Vz:Nat→List Int→Bool
 | 0,o=>cn o==1
 | n+1,o=>cn o==1 || (decide (cn o≤2 ^ (n+1))&&(List.range o.length).any fun i=>(List.range o.length).any fun j=>decide (i<j)&&(fr o i j&&(Vz n (addL o i j)&&Vz n (addL o j i))))
theorem fr_comm (o:List Int) (i j:Nat):fr o i j=fr o j i:=by
 rw [fr,fr,show decide (i≠j)=decide (j≠i) from decide_eq_decide.2 ⟨Ne.symm,Ne.symm⟩,Bool.and_assoc,Bool.and_assoc,Bool.and_comm (!ab o i j)]
theorem fr_out {o:List Int} {i j:Nat} (h:fr o i j=true):i≠j∧ab o i j=false∧ab o j i=false:=by
 simp only [fr,Bool.and_eq_true,decide_eq_true_eq,Bool.not_eq_true'] at h
 exact ⟨h.1.1,h.1.2,h.2⟩
theorem fr_sum {o:List Int} (ho:ord o=true) {i j:Nat} (hi:i<o.length) (hj:j<o.length) (h:fr o i j=true):cn (addL o i j)+cn (addL o j i)=cn o:=by
 obtain ⟨h1,h2,h3⟩:=fr_out h
 have:=befN_two ho hi hj h1
 rwa [befN,befN,if_neg (by rw [h2]; decide),if_pos h,if_neg (by rw [h3]; decide),if_pos (by rw [fr_comm]; exact h)] at this
theorem srtb_cn : ∀ {n:Nat} {o:List Int},Vz n o=true→cn o≤2 ^ n
 | 0,o,h=>by rw [Vz,beq_iff_eq] at h; rw [h]; decide
 | n+1,o,h=>by
   rw [Vz,Bool.or_eq_true,Bool.and_eq_true,beq_iff_eq,decide_eq_true_eq] at h
   rcases h with h | h
   · rw [h]; exact Nat.one_le_two_pow
   · exact h.1
def prsN (n:Nat):List (Nat×Nat):=(List.range n).flatMap fun i=>((List.range n).filter fun j=>decide (i<j)).map fun j=>(i,j)
theorem mem_prsN {n:Nat} {p:Nat×Nat}:p∈prsN n↔p.1<p.2∧p.2<n:=by
 simp only [prsN,List.mem_flatMap,List.mem_range,List.mem_map,List.mem_filter,decide_eq_true_eq]
 constructor
 · rintro ⟨i,hi,j,⟨hj,hij⟩,rfl⟩; exact ⟨hij,hj⟩
 · rintro ⟨h1,h2⟩; exact ⟨p.1,by omega,p.2,⟨h2,h1⟩,rfl⟩
def frees (o:List Int):Nat:=(prsN o.length).countP fun p=>fr o p.1 p.2
theorem fr_add {o:List Int} (ho:ord o=true) {i j:Nat} (hi:i<o.length) {x y:Nat} (h:fr (addL o i j) x y=true):fr o x y=true:=by
 obtain ⟨h1,h2,h3⟩:=fr_out h
 rw [addL_ab hi ho,addR,Bool.or_eq_false_iff] at h2 h3
 simp [fr,h1,h2.1,h3.1]
theorem fr_add_self {o:List Int} (ho:ord o=true) {i j:Nat} (hi:i<o.length):fr (addL o i j) i j=false:=by
 cases h:fr (addL o i j) i j with
 | false=>rfl
 | true =>
   obtain ⟨_,h2,_⟩:=fr_out h
   rw [addL_ab hi ho,addR] at h2
   simp at h2
theorem cP_lt {α:Type} {p q:α→Bool} : ∀ {l:List α} {x:α},(∀ y∈l,p y=true→q y=true)→x∈l→p x=false→q x=true→l.countP p<l.countP q
 | a::l,x,h,hx,h1,h2=>by
   have hle:l.countP p≤l.countP q:=List.countP_mono_left fun y hy=>h y (by simp [hy])
   rw [List.countP_cons,List.countP_cons]
   rcases List.mem_cons.1 hx with rfl | hx
   · rw [h1,h2]; simp; omega
   · have ih:=cP_lt (fun y hy=>h y (by simp [hy])) hx h1 h2
     have:(if p a=true then 1 else 0)≤if q a=true then 1 else 0:=by
      by_cases ha:p a=true
      · rw [if_pos ha,if_pos (h a (by simp) ha)]; exact Nat.le_refl _
      · rw [if_neg ha]; exact Nat.zero_le _
     omega
theorem frees_add {o:List Int} (ho:ord o=true) {i j:Nat} (hij:i<j) (hj:j<o.length) (h:fr o i j=true):frees (addL o i j)<frees o∧frees (addL o j i)<frees o:=by
 rw [frees,frees,frees,addL_len,addL_len]
 refine ⟨cP_lt (x:=(i,j)) (fun p _ hp=>fr_add ho (by omega) hp) (mem_prsN.2 ⟨hij,hj⟩) (fr_add_self ho (by omega)) h,cP_lt (x:=(i,j)) (fun p _ hp=>fr_add ho hj hp) (mem_prsN.2 ⟨hij,hj⟩) ?_ h⟩
 show fr (addL o j i) i j=false
 rw [fr_comm]; exact fr_add_self ho hj
theorem one_le1 {α:Type} {l:List α} (hn:l.Nodup) (h : ∀ a∈l,∀ b∈l,a=b):l.length≤1:=by
 match l,hn,h with
 | [],_,_=>exact Nat.zero_le _
 | [a],_,_=>exact Nat.le_refl _
 | a::b::l,hn,h =>
   rw [List.nodup_cons] at hn
   exact absurd (by rw [h a (by simp) b (by simp)]; simp) hn.1
theorem cnt_one {r:Nat→Nat→Bool} : ∀ (k:Nat) (S:List Nat),S.Nodup→(∀ i∈S,∀ j∈S,i≠j→r i j=true∨r j i=true)→cnt r k S≤1
 | 0,_,_,_=>Nat.le_refl _
 | k+1,S,hn,h=>by
   rw [cnt]
   have hf:(Wm r S).length≤1:=one_le1 (List.nodup_iff_pairwise_ne.2 ((List.nodup_iff_pairwise_ne.1 hn).filter _)) fun a ha b hb=>by
    apply Classical.byContradiction
    intro hne
    obtain ⟨a1,a2⟩:=Wt.1 ha
    obtain ⟨b1,b2⟩:=Wt.1 hb
    rcases h a a1 b b1 hne with g | g
    · rw [b2 a a1] at g; cases g
    · rw [a2 b b1] at g; cases g
   match hF:Wm r S,hf with
   | [],_=>simp
   | [x],_ =>
     have:=cnt_one k (S.erase x) (hn.erase x) fun i hi j hj=>h i (List.mem_of_mem_erase hi) j (List.mem_of_mem_erase hj)
     simpa using this
   | _::_::_,hf=>simp at hf
theorem free_pair {o:List Int} (h1:1<cn o) : ∃ i j,i<j∧j<o.length∧fr o i j=true:=by
 apply Classical.byContradiction
 intro hno
 have:=cnt_one (r:=ab o) o.length (List.range o.length) List.nodup_range fun i hi j hj hne=>by
  apply Classical.byContradiction
  intro hc
  have hf:fr o i j=true:=by cases g1:ab o i j <;> cases g2:ab o j i <;> simp_all [fr]
  rcases Nat.lt_or_gt_of_ne hne with g | g
  · exact hno ⟨i,j,g,List.mem_range.1 hj,hf⟩
  · exact hno ⟨j,i,g,List.mem_range.1 hi,by rw [fr_comm]; exact hf⟩
 have:cn o≤1:=this
 omega
theorem srtb_free : ∀ (f:Nat) (o:List Int),ord o=true→frees o≤f→Vz f o=true
 | 0,o,ho,hf=>by
   rw [Vz,beq_iff_eq]
   apply Classical.byContradiction
   intro hne
   have:=cn_pos ho
   obtain ⟨i,j,hij,hj,h⟩:=free_pair (o:=o) (by omega)
   have:=(frees_add ho hij hj h).1
   omega
 | f+1,o,ho,hf=>by
   by_cases h1:cn o=1
   · rw [Vz,h1]; rfl
   · have:=cn_pos ho
     obtain ⟨i,j,hij,hj,h⟩:=free_pair (o:=o) (by omega)
     obtain ⟨g1,g2⟩:=frees_add ho hij hj h
     obtain ⟨k1,k2,k3⟩:=fr_out h
     have s1:=srtb_free f (addL o i j) (Vx ho (by omega) hj k1 k3) (by omega)
     have s2:=srtb_free f (addL o j i) (Vx ho hj (by omega) (Ne.symm k1) k2) (by omega)
     have hc:=fr_sum ho (by omega) hj h
     have c1:=srtb_cn s1
     have c2:=srtb_cn s2
     rw [Vz,Bool.or_eq_true,Bool.and_eq_true,decide_eq_true_eq]
     refine .inr ⟨by rw [Nat.pow_succ]; omega,List.any_eq_true.2 ⟨i,List.mem_range.2 (by omega),List.any_eq_true.2 ⟨j,List.mem_range.2 hj,?_⟩⟩⟩
     rw [Bool.and_eq_true,Bool.and_eq_true,Bool.and_eq_true]
     exact ⟨decide_eq_true hij,h,s1,s2⟩
end Ord
