/-
  bets: all sets of numbers below n, as long as a function wants more.
  bets: law Proper.
  bets: one square system of gains, tried.
  bets: Beat.
  bets: the reference's corners; whether bets are sound.
  bets: law Sound.
  bets: laws Beats and Either.
  bets: the bounds of an event.
  bets: bets cloned and one more; small numbers told; the bounds and a belief.
  Plain theory: the lines of a relation (no program in sight).
  Plain theory: orders as lists of ints; their lines, counted by which sets can come first; an element taken out.
  order: an order as the program holds it; the small functions.
  The seat's bits: TrailingZeros64 and TrailingZeros of math/bits, on the model's own worlds.
-/
import Derived.Test.YtmjpngmoankpkaaDoorPk10
import Derived.Test.YtmjpngmoankpkaaDoorPk9
import Derived.Test.YtmjpngmoankpkaaDoorPk8
import Derived.Test.YtmjpngmoankpkaaDoorPk5
import Derived.Test.YtmjpngmoankpkaaDoorPk6
import Derived.Test.YtmjpngmoankpkaaDoorPk7
import Derived.Test.YtmjpngmoankpkaaDoorPk4
import Derived.Test.YtmjpngmoankpkaaDoorProg
import Derived.Test.YtmjpngmoankpkaaDoorPk3
import Derived.Shelf.Spec.TrailingZeros
import Derived.Shelf.Abstract
import Derived.TacticsInMore
import Derived.LoopNIn
import Derived.LoopIn
set_option linter.all false
namespace Go.Proofs.Tryd.Am.Be
open Go.Proofs.Tryd.Am
open Go.Am Bq
set_option maxRecDepth 100000
set_option maxHeartbeats 4000000
theorem s69_callW [Tabs Tryd.prog] {args:List Value} {h:Zh} {Q:Value→Zh→Prop} (hsz:args.length≤31) (hk:AWS Tryd.prog 31 s69 (Zs Tryd.prog [] Q) (Zp 0 args) h):ACall Tryd.prog 69 args h Q :=
 Yz Tryd.func69 rfl (enters_of Tryd.func69 (by kernel_rfl) rfl) rfl rfl (by decide) s69_strip s69_ok hsz hk
theorem chosen_call [Tabs prog] {h:Zh} {n:Nat} {fn:Nat} {cap:Array Value} (hn:n≤6) (I:Nat→Zh→Prop) (J:Zh→Prop)
  (hext : ∀ k h h',I k h→Ext (fun _=>False) h h'→I k h')
  (step : ∀ set,1≤set→set<2 ^ n→∀ (h1:Zh) (u:Value),I set h1→IntSl h1 u (Vo (Zj set n))→h.length≤h1.length →
   ACall prog fn (([]:List Value)++[u]++cap.toList) h1 fun r h2=>h1.length≤h2.length∧∃ b,r = .bool b∧(b=true→I (set+1) h2)∧(b=false→J h2))
  (h0:I 1 h):ACall prog 69 [Zd (n:Nat),.func (.func fn) #[] cap] h fun _ h'=>h.length≤h'.length∧(I (2 ^ n) h'∨J h'):=by
 have hpw:(2:Nat) ^ n≤2 ^ 6:=Nat.pow_le_pow_right (by decide) hn
 have hpp:1≤2 ^ n:=Nat.one_le_two_pow
 have hsh:shlV .i64 1 ((n:Nat):Int)=((2 ^ n:Nat):Int):=by rw [shl1 (by omega),Vm]
 refine s69_callW (by simp) ?_
 simp only [s69]
 refine Zg fun N1 hN1=>?_
 simp (maxSteps:=2000000) only [↓Za,↓Zb,↓Zc,vup,cond_false,aop,Zf,Zp,ev,sput,Ze,Nat.reduceBEq,Nat.reduceAdd]
 refine hN1 [(0,Zd (n:Nat)),(1,.func (.func fn) #[] cap),(4,.int .i64 1)] _ _ ?_ (by simp (maxSteps:=2000000) only [vup,cond_true,cond_false,Nat.reduceBEq])
 clear hN1
 try clear N1
 refine Zx ?_
 refine Zy fun Q hQ=>?_
 refine Xa (γ:=Nat×Zh) (fun s=>1≤s.1∧s.1≤2 ^ n∧I s.1 s.2∧h.length≤s.2.length)
  (fun s=>([(0,Zd (n:Nat)),(1,.func (.func fn) #[] cap),(4,Zd (s.1:Nat))],s.2)) (fun s=>2 ^ n-s.1) (1,h) ⟨Nat.le_refl _,hpp,h0,Nat.le_refl _⟩ (by simp (maxSteps:=2000000) only [vup,cond_true,cond_false,Nat.reduceBEq,Int.natCast_one]) rfl ?_
 rintro ⟨s,hp⟩ ⟨hs1,hs,hI,hlen⟩
 simp only at hs1 hs hI hlen
 refine Zy fun Q2 hQ2=>?_
 simp only [l69_1]
 by_cases hin:(s:Int)<((2 ^ n:Nat):Int)
 · have hs' : s<2 ^ n:=by omega
   refine Zt fun C hC=>?_
   refine Zg fun N2 hN2=>?_
   simp (maxSteps:=2000000) only [↓Za,↓Zb,↓Zc,vup,cond_true,cond_false,aop,Zf,ev,sput,Ze,Yf,Yi,Nat.reduceBEq,Int.natCast_nonneg,hsh,hin]
   refine hN2 [(0,Zd (n:Nat)),(1,.func (.func fn) #[] cap),(4,Zd (s:Nat)),(10,.bool true)] _ _ ?_ (by simp (maxSteps:=2000000) only [vup,cond_true,cond_false,Nat.reduceBEq])
   clear hN2
   try clear N2
   refine Xu rfl ?_
   refine Zm ?_
   simp (maxSteps:=2000000) only [↓Zn,Zf]
   refine hC [(0,Zd (n:Nat)),(1,.func (.func fn) #[] cap),(4,Zd (s:Nat))] _ _ ?_ (by simp (maxSteps:=2000000) only [vup,cond_true,cond_false,Nat.reduceBEq])
   clear hC
   try clear C
   refine Zt fun Y hY=>?_
   refine Zx ?_
   refine Zg fun N3 hN3=>?_
   simp (maxSteps:=2000000) only [↓Za,↓Zb,↓Zc,vup,cond_false,aop,Zf,ev,sput,Ze,Nat.reduceBEq]
   refine hN3 [(0,Zd (n:Nat)),(1,.func (.func fn) #[] cap),(4,Zd (s:Nat)),(5,.slice none 0 0)] _ _ ?_ (by simp (maxSteps:=2000000) only [vup,cond_true,cond_false,Nat.reduceBEq])
   clear hN3
   try clear N3
   refine Zt fun X hX=>?_
   refine Zg fun N4 hN4=>?_
   simp (maxSteps:=2000000) only [↓Za,↓Zb,↓Zc,vup,cond_true,cond_false,aop,Zf,ev,sput,Ze,Nat.reduceBEq]
   refine hN4 [(0,Zd (n:Nat)),(1,.func (.func fn) #[] cap),(4,Zd (s:Nat)),(5,.slice none 0 0),(13,Zd (n:Nat)),(14,.int .i64 0)] _ _ ?_ (by simp (maxSteps:=2000000) only [vup,cond_true,cond_false,Nat.reduceBEq])
   clear hN4
   try clear N4
   refine Zx ?_
   refine Zy fun Qa hQa=>?_
   refine Xa (γ:=Nat×Value×Zh) (fun g=>g.1≤n∧OwnSl 3 g.2.2 g.2.1 (Vo (Zj s g.1))∧Ext (fun _=>False) hp g.2.2∧(∀ b,Yc g.2.1=some b→hp.length≤b))
    (fun g=>([(0,Zd (n:Nat)),(1,.func (.func fn) #[] cap),(4,Zd (s:Nat)),(5,g.2.1),(13,Zd (n:Nat)),(14,Zd (g.1:Nat))],g.2.2)) (fun g=>n-g.1) (0,.slice none 0 0,hp) ⟨Nat.zero_le _,.inl ⟨rfl,rfl⟩,Ext.refl _ _,fun b hb=>by cases hb⟩ (by simp (maxSteps:=2000000) only [vup,cond_true,cond_false,Nat.reduceBEq,Int.natCast_zero]) rfl ?_
   rintro ⟨k,wv,G⟩ ⟨hk,how,hEG,hbw⟩
   simp only at hk how hEG hbw
   refine Zy fun Qb hQb=>?_
   simp only [l69_0]
   by_cases hkin:(k:Int)<n
   · have hk' : k<n:=by omega
     have ht:=testV (y:=k) (show s<9223372036854775808 by omega)
     have hnx:=Ws s k
     refine Zg fun N5 hN5=>?_
     simp (maxSteps:=2000000) only [↓Za,↓Zb,↓Zc,vup,cond_true,cond_false,aop,Zf,ev,sput,Ze,Yf,Yi,Nat.reduceBEq,hkin]
     refine hN5 [(0,Zd (n:Nat)),(1,.func (.func fn) #[] cap),(4,Zd (s:Nat)),(5,wv),(13,Zd (n:Nat)),(14,Zd (k:Nat)),(15,.bool true)] _ _ ?_ (by simp (maxSteps:=2000000) only [vup,cond_true,cond_false,Nat.reduceBEq])
     clear hN5
     try clear N5
     refine Zg fun N6 hN6=>?_
     simp (maxSteps:=2000000) only [↓Zn,↓vdn,vup,cond_true,cond_false,Zf,ev,Nat.reduceBEq]
     refine hN6 [(0,Zd (n:Nat)),(1,.func (.func fn) #[] cap),(4,Zd (s:Nat)),(5,wv),(13,Zd (n:Nat)),(14,Zd (k:Nat))] _ _ ?_ (by simp (maxSteps:=2000000) only [vup,cond_true,cond_false,Nat.reduceBEq])
     clear hN6
     try clear N6
     refine Zt fun B hB=>?_
     refine Zx ?_
     refine Zg fun N7 hN7=>?_
     simp (maxSteps:=2000000) only [↓Za,↓Zb,↓Zc,vup,cond_true,cond_false,aop,Zf,ev,sput,Ze,Nat.reduceBEq]
     refine hN7 [(0,Zd (n:Nat)),(1,.func (.func fn) #[] cap),(4,Zd (s:Nat)),(5,wv),(6,Zd (k:Nat)),(13,Zd (n:Nat)),(14,Zd (k:Nat))] _ _ ?_ (by simp (maxSteps:=2000000) only [vup,cond_true,cond_false,Nat.reduceBEq])
     clear hN7
     try clear N7
     refine Zg fun N8 hN8=>?_
     simp (maxSteps:=2000000) only [↓Za,↓Zb,↓Zc,vup,cond_true,cond_false,aop,Zf,ev,sput,Ze,Yf,Yi,Nat.reduceBEq,ht,beq1,Int.natCast_nonneg]
     refine hN8 [(0,Zd (n:Nat)),(1,.func (.func fn) #[] cap),(4,Zd (s:Nat)),(5,wv),(6,Zd (k:Nat)),(13,Zd (n:Nat)),(14,Zd (k:Nat)),(21,.bool (s.testBit k))] _ _ ?_ (by simp (maxSteps:=2000000) only [vup,cond_true,cond_false,Nat.reduceBEq])
     clear hN8
     try clear N8
     cases hbit:s.testBit k with
     | false =>
       rw [hbit,if_neg (by decide),List.append_nil] at hnx
       refine Xh rfl ?_
       refine Zm ?_
       simp (maxSteps:=2000000) only [↓Zn,Zf,Zo]
       refine hB [(0,Zd (n:Nat)),(1,.func (.func fn) #[] cap),(4,Zd (s:Nat)),(5,wv),(13,Zd (n:Nat)),(14,Zd (k:Nat))] _ _ ?_ (by simp (maxSteps:=2000000) only [vup,cond_true,cond_false,Nat.reduceBEq])
       clear hB
       try clear B
       refine Zm ?_
       simp (maxSteps:=2000000) only [↓Za,↓Zb,↓Zc,vup,cond_true,cond_false,aop,ev,sput,Ze,Yf,Yi,Nat.reduceBEq,add1 (show k<9223372036854775807 by omega)]
       exact hQb _ _ _ ⟨(k+1,wv,G),⟨hk',by simp only; rw [hnx]; exact how,hEG,hbw⟩,by simp only; omega,by simp (maxSteps:=2000000) only [vup,cond_true,cond_false,Nat.reduceBEq],rfl⟩
     | true =>
       rw [hbit,if_pos rfl] at hnx
       refine Xu rfl ?_
       refine Zm ?_
       simp (maxSteps:=2000000) only [↓Za,↓Zb,↓Zc,vup,List.map_cons,List.map_nil,cond_true,cond_false,aop,Zf,Zo,ev,sput,Ze,Zi,Nat.reduceBEq,litI1]
       have hwl:=Uf s k
       refine OwnSl.append (x:=(k:Int)) (how.ext (S:=fun _=>False) (Ext.app _ _ _) (fun _ _=>id)) app_27_27 (by rw [castI_len]; omega) (Zr _ _) ?_
       intro wv' G' ho' hE' hb'
       rw [← castI_snoc,← hnx] at ho'
       have hE2:Ext (fun _=>False) hp G':=ext_app hEG (H':=G++[Blk.ints [(k:Int)] 3 false]) (by simp) (fun q hq=>List.getElem?_append_left (by have:=hEG.1; omega)) (fun b hb=>hbw b hb) hE'
       have hbw' : ∀ b,Yc wv' = some b→hp.length≤b:=fun b hb=>by
        rcases hb' with h1 | ⟨b',h1,h2⟩
        · exact hbw b (h1▸hb)
        · rw [h1] at hb; cases hb
          rw [List.length_append] at h2
          have:=hEG.1; omega
       refine hB [(0,Zd (n:Nat)),(1,.func (.func fn) #[] cap),(4,Zd (s:Nat)),(5,wv'),(13,Zd (n:Nat)),(14,Zd (k:Nat))] _ _ ?_ (by simp (maxSteps:=2000000) only [vup,cond_true,cond_false,Nat.reduceBEq])
       clear hB
       try clear B
       refine Zm ?_
       simp (maxSteps:=2000000) only [↓Za,↓Zb,↓Zc,vup,cond_true,cond_false,aop,ev,sput,Ze,Yf,Yi,Nat.reduceBEq,add1 (show k<9223372036854775807 by omega)]
       exact hQb _ _ _ ⟨(k+1,wv',G'),⟨hk',ho',hE2,hbw'⟩,by simp only; omega,by simp (maxSteps:=2000000) only [vup,cond_true,cond_false,Nat.reduceBEq],rfl⟩
   · have hkn:=loopEnd hkin hk
     subst hkn
     refine Zg fun N9 hN9=>?_
     simp (maxSteps:=2000000) only [↓Za,↓Zb,↓Zc,vup,cond_true,cond_false,aop,Zf,ev,sput,Ze,Yf,Yi,Nat.reduceBEq,hkin]
     refine hN9 [(0,Zd (n:Nat)),(1,.func (.func fn) #[] cap),(4,Zd (s:Nat)),(5,wv),(13,Zd (n:Nat)),(14,Zd (n:Nat)),(15,.bool false)] _ _ ?_ (by simp (maxSteps:=2000000) only [vup,cond_true,cond_false,Nat.reduceBEq])
     clear hN9
     try clear N9
     refine Zg fun N10 hN10=>?_
     simp (maxSteps:=2000000) only [↓Yo,↓vdn,vup,cond_true,cond_false,Zf,ev,Nat.reduceBEq]
     refine hQb _ _ _ (hQa _ _ _ ?_)
     simp (maxSteps:=2000000) only [Zf,Zo,if_true]
     refine hX [(0,Zd (n:Nat)),(1,.func (.func fn) #[] cap),(4,Zd (s:Nat)),(5,wv)] _ _ ?_ (by simp (maxSteps:=2000000) only [vup,cond_true,cond_false,Nat.reduceBEq])
     clear hX
     try clear X
     have st:=step s hs1 hs' G wv (hext _ _ _ hI hEG) how.int (by have:=hEG.1; omega)
     refine Zg fun N11 hN11=>?_
     simp (maxSteps:=2000000) only [↓Za,↓Zb,↓Zc,vup,List.map_cons,List.map_nil,cond_true,cond_false,aop,Zf,ev,sput,Ze,unK,Nat.reduceBEq,Yn]
     refine st.mono ?_
     rintro _ G2 ⟨hl2,b,rfl,hbt,hbf⟩
     have hEGl:=hEG.1
     cases b with
     | true =>
       simp (maxSteps:=2000000) only [vup]
       refine hN11 [(0,Zd (n:Nat)),(1,.func (.func fn) #[] cap),(4,Zd (s:Nat)),(5,wv),(30,.bool false)] _ _ ?_ (by simp (maxSteps:=2000000) only [vup,cond_true,cond_false,Nat.reduceBEq])
       clear hN11
       try clear N11
       refine Xh rfl ?_
       refine Zm ?_
       simp (maxSteps:=2000000) only [↓Zn,Zf,Zo]
       refine hY [(0,Zd (n:Nat)),(1,.func (.func fn) #[] cap),(4,Zd (s:Nat))] _ _ ?_ (by simp (maxSteps:=2000000) only [vup,cond_true,cond_false,Nat.reduceBEq])
       clear hY
       try clear Y
       refine Zm ?_
       simp (maxSteps:=2000000) only [↓Za,↓Zb,↓Zc,vup,cond_true,cond_false,aop,ev,sput,Ze,Yf,Yi,Nat.reduceBEq,add1 (show s<9223372036854775807 by omega)]
       exact hQ2 _ _ _ ⟨(s+1,G2),⟨by show 1≤s+1; omega,hs',hbt rfl,by show h.length≤G2.length; omega⟩,by simp only; omega,by simp (maxSteps:=2000000) only [vup,cond_true,cond_false,Nat.reduceBEq],rfl⟩
     | false =>
       simp (maxSteps:=2000000) only [vup]
       refine hN11 [(0,Zd (n:Nat)),(1,.func (.func fn) #[] cap),(4,Zd (s:Nat)),(5,wv),(30,.bool true)] _ _ ?_ (by simp (maxSteps:=2000000) only [vup,cond_true,cond_false,Nat.reduceBEq])
       clear hN11
       try clear N11
       refine Xu rfl ?_
       refine Zm ?_
       simp (maxSteps:=2000000) only [↓Zu,Zf,Zo]
       refine hQ2 _ _ _ (hQ _ _ _ ?_)
       simp (maxSteps:=2000000) only [Zo,Zs,Xn]
       exact ⟨by omega,.inr (hbf rfl)⟩
 · obtain rfl:s=2 ^ n:=by omega
   refine Zt fun C hC=>?_
   refine Zg fun N12 hN12=>?_
   simp (maxSteps:=2000000) only [↓Za,↓Zb,↓Zc,vup,cond_true,cond_false,aop,Zf,ev,sput,Ze,Yf,Yi,Nat.reduceBEq,Int.natCast_nonneg,hsh,hin]
   refine hN12 [(0,Zd (n:Nat)),(1,.func (.func fn) #[] cap),(4,Zd ((2 ^ n:Nat):Nat)),(10,.bool false)] _ _ ?_ (by simp (maxSteps:=2000000) only [vup,cond_true,cond_false,Nat.reduceBEq])
   clear hN12
   try clear N12
   refine Xh rfl ?_
   refine Zm ?_
   simp (maxSteps:=2000000) only [↓Yo,Zf]
   refine hQ2 _ _ _ (hQ _ _ _ ?_)
   simp (maxSteps:=2000000) only [Zo,Zs,Xn,if_true]
   exact ⟨hlen,.inl hI⟩
end Go.Proofs.Tryd.Am.Be
namespace Go.Proofs.Tryd.Am.Be
open Go.Proofs.Tryd.Am
open Go.Am Bq
set_option maxRecDepth 100000
set_option maxHeartbeats 4000000
theorem InR.app {f b:List (Int×Int)} (h1:InR f) (h2:InR b):InR (f++b):=fun p hp=>(List.mem_append.1 hp).elim (h1 p) (h2 p)
theorem fA1o {b o:Nat} {K:Value→Prop}:Yt prog 45 (.pointer (some ⟨b,o,none⟩)) 1 K=K (.pointer (some ⟨b,o+1,none⟩)):=by
 simp [Yt,fld_45_1,Wm]
theorem pairFlds {h:Zh} {v:Value} {ps:List (Int×Int)} {i:Nat} (hv:PairSl h v ps) (hi:i<ps.length) : ∃ p0 p1:Value,(∀ K:Value→Prop,Xb prog 43 v (Zd (i:Nat)) K=K p0)∧(∀ K:Value→Prop,Yt prog 45 p0 0 K=K p0)∧(∀ K:Value→Prop,Yt prog 45 p0 1 K=K p1) ∧
  (∀ K:Value→Prop,Xs prog h 3 p0 K=K (Zd (ps.getD i (0,0)).1))∧(∀ K:Value→Prop,Xs prog h 3 p1 K=K (Zd (ps.getD i (0,0)).2)):=by
 have hidx:=fun K=>hv.idx el_43 Ub (k:=.i64) hi K
 rcases hv with ⟨rfl,rfl⟩ | ⟨b,o,sp,cap,c,e',ro,rfl,_,hvw,hc⟩
 · simp at hi
 · obtain ⟨h1,h2⟩:=hc i hi
   refine ⟨.pointer (some ⟨b,o+i*2,none⟩),.pointer (some ⟨b,o+i*2+1,none⟩),hidx,fun K=>fA0o,fun K=>fA1o,fun K=>?_,fun K=>?_⟩
   · simp only [Xs,Yy]; exact view_cell hvw h1
   · simp only [Xs,Yy]; exact view_cell hvw h2
end Go.Proofs.Tryd.Am.Be
namespace Go.Proofs.Tryd.Am.Be
open Go.Proofs.Tryd.Am
open Go.Am Bq
set_option maxRecDepth 100000
set_option maxHeartbeats 4000000
theorem RowsN.moreP [Tabs prog] {hp0:Nat} {G G2:Zh} {q rv:Value} {ws:List Value} {k b2:Nat} {T:Wp} (R:RowsN hp0 G q ws k T) (hl:ws.length≤1000) (h0:hp0≤G.length) (hE:Ext (fun _=>False) G G2) (hr:OwnP 45 G2 rv (rowC T k ws.length)) (hrb : ∀ b,Yc rv=some b→G.length≤b) (hb2:G2[b2]? = some (.cells [rv] 43 false))
  {K:Value→Zh→Prop} (hk : ∀ q' h',RowsN hp0 h' q' (ws++[rv]) k T→Ext (fun b=>hp0≤b) G2 h'→Ext (fun i=>Yc q=some i) G2 h'→K q' h'):Ys prog G2 125 125 q (.slice (some ⟨b2,0,none⟩) 1 1) K:=by
 rcases R with ⟨rfl,rfl⟩ | ⟨R,_⟩
 · obtain ⟨br,yr,hr1,hr2⟩:=Wo hr Uk
   have hbr:Yc rv=some br:=by rw [hr1]; rfl
   have hbrl:=hrb br hbr
   refine OwnV.app (e:=43) (h:=G2) (v:=.slice none 0 0) (ws:=[]) (us:=[rv]) (.inl ⟨rfl,rfl⟩) app_125_125 (.inr ⟨b2,0,none,1,[rv],43,false,rfl,Nat.le_refl _,by simp [view,hb2,Blk.view],rfl⟩) (fun w hw=>?_) (by simp) fun q' h' ho hE' hb'=>?_
   · rw [List.nil_append,List.mem_singleton] at hw
     rw [hw,hr1]; exact ⟨rfl,rfl⟩
   · have hE2:Ext (fun _=>False) G2 h':=hE'.mono fun b hb=>by cases hb
     refine hk q' h' (.inr ⟨⟨.inr ho,by simp,fun i hi=>?_,fun i j hi hj _=>?_,fun i hi hc=>?_,⟨fun b hb=>?_,fun i b hi hb=>?_⟩⟩,ho⟩) (hE2.mono fun _ h=>h.elim) hE'
     · obtain rfl:i=0:=by simpa using hi
       exact hr.ext hE2
     · simp at hi hj; omega
     · obtain rfl:i=0:=by simpa using hi
       simp only [List.nil_append,List.getD,List.getElem?_cons_zero,Option.getD_some,hbr] at hc
       rcases hb' with h1 | ⟨b',h1,h2⟩
       · rw [h1] at hc; cases hc
       · rw [h1] at hc; cases hc
         have:=Yb hr2; omega
     · rcases hb' with h1 | ⟨b',h1,h2⟩
       · rw [h1] at hb; cases hb
       · rw [h1] at hb; cases hb
         have:=hE.1; omega
     · obtain rfl:i=0:=by simpa using hi
       simp only [List.nil_append,List.getD,List.getElem?_cons_zero,Option.getD_some,hbr] at hb
       cases hb; omega
 · exact R.more hl h0 hE hr hrb hb2 fun q' h' ho R' e1 e2=>hk q' h' (.inr ⟨R',ho⟩) e1 e2
theorem setSame {h:Zh} {b:Nat} {B:Blk} (hb:h[b]? = some B):h.set b B=h:=by
 refine List.ext_getElem? fun i=>?_
 by_cases hi:b=i
 · subst hi; rw [List.getElem?_set_self (List.getElem?_eq_some_iff.1 hb).1,hb]
 · rw [List.getElem?_set_ne hi]
def gRow (l:List (Int×Int)) (w:Nat) (is:List Nat) (k:Nat):List (Int×Int):=(List.range k).map fun c=>ofQ (gnQ l w (is.getD c 0))
theorem gRow_succ (l:List (Int×Int)) (w:Nat) (is:List Nat) (k:Nat):gRow l w is (k+1)=gRow l w is k++[ofQ (gnQ l w (is.getD k 0))]:=by
 rw [gRow,List.range_succ,List.map_append]; rfl
theorem gRow_full (l:List (Int×Int)) (ws is:List Nat) (r:Nat):rowC (sysG l ws is) is.length r=gRow l (ws.getD r 0) is is.length++[ofQ 1]:=by
 rw [rowC,List.range_succ,List.map_append,gRow]
 congr 1
 · exact List.map_congr_left fun c hc=>by rw [sysG,if_pos (List.mem_range.1 hc)]
 · rw [List.map_cons,List.map_nil,sysG,if_neg (by omega)]
structure BeatEnv (h:Zh) (p1 p2 p3 p4:Nat) (n:Nat) (v ov f:Value) (l:List (Int×Int)) (O:List Nat):Prop where
 on:h[p1]? = some (.cells [ov] 27 false)
 ons:IntSl h ov (Vo O)
 bl:h[p2]? = some (.cells [v] 46 false)
 bls:PairSl h v l
 tb:h[p3]? = some (.cells [Zd (n:Nat),v] 117 false)
 fd:h[p4]? = some (.cells [f] 27 false)
theorem BeatEnv.ext {h h' : Zh} {p1 p2 p3 p4 n:Nat} {v ov f:Value} {l:List (Int×Int)} {O:List Nat} (b:BeatEnv h p1 p2 p3 p4 n v ov f l O) (hE:Ext (fun _=>False) h h'):BeatEnv h' p1 p2 p3 p4 n v ov f l O :=
 ⟨(hE.2 _ (Yb b.on) id).trans b.on,iExt b.ons hE,(hE.2 _ (Yb b.bl) id).trans b.bl,b.bls.ext hE,(hE.2 _ (Yb b.tb) id).trans b.tb,(hE.2 _ (Yb b.fd) id).trans b.fd⟩
def FoundAt (n:Nat) (l:List (Int×Int)) (p4:Nat) (h' : Zh):Prop:=∃ ss x,ss.length=l.length∧SmS ss∧Uu n l ss=true∧h'[p4]? = some (.cells [x] 27 false)∧IntSl h' x ss
theorem s71_callW [Tabs Tryd.prog] {args:List Value} {h:Zh} {Q:Value→Zh→Prop} (hsz:args.length≤115) (hk:AWS Tryd.prog 115 s71 (Zs Tryd.prog [.tmp 6] Q) (Zp 0 args) h):ACall Tryd.prog 71 args h Q :=
 Yz Tryd.func71 rfl (enters_of Tryd.func71 (by kernel_rfl) rfl) rfl rfl (by decide) s71_strip s71_ok hsz hk
theorem try_call [Tabs prog] {h:Zh} {p1 p2 p3 p4 n:Nat} {u v ov:Value} {l:List (Int×Int)} {on:Nat} {O W:List Nat} (hOn:O=Zj on l.length) (b:BeatEnv h p1 p2 p3 p4 n v ov (.slice none 0 0) l O) (hu:IntSl h u (Vo W)) (hval:validB n l=true)
  (hO1:1≤O.length) (hO5:O.length≤6) (hW5:W.length≤5) (hO : ∀ c,c<O.length→O.getD c 0<l.length) (hW : ∀ r,r<W.length→W.getD r 0<n) :
  ACall prog 71 [u,.pointer (some ⟨p1,0,none⟩),.pointer (some ⟨p2,0,none⟩),.pointer (some ⟨p3,0,none⟩),.pointer (some ⟨p4,0,none⟩)] h fun r h'=>(r = .bool true∧Ext (fun _=>False) h h'∧∀ xs,O.length=W.length→Wu W.length O.length (sysG l W O)=some xs→Uu n l (stkL on xs l.length)=false) ∨
   (r = .bool false∧FoundAt n l p4 h'∧Ext (fun b=>b=p4) h h'):=by
 obtain ⟨hn2,hn5,hl1,hl6,hok⟩:=Vp hval
 have hct:=cts_of hval
 have hlO:(Vo O).length=O.length:=castI_len O
 have hlW:(Vo W).length=W.length:=castI_len W
 refine s71_callW (by simp) ?_
 simp only [s71]
 refine Zg fun N1 hN1=>?_
 simp (maxSteps:=2000000) only [↓Za,↓Zb,↓Zc,vup,cond_false,aop,Zf,Zp,ev,sput,Ze,Nat.reduceBEq,Nat.reduceAdd]
 refine hN1 [(0,u),(1,.pointer (some ⟨p1,0,none⟩)),(2,.pointer (some ⟨p2,0,none⟩)),(3,.pointer (some ⟨p3,0,none⟩)),(4,.pointer (some ⟨p4,0,none⟩)),(6,.bool false)] _ _ ?_ (by simp (maxSteps:=2000000) only [vup,cond_true,cond_false,Nat.reduceBEq])
 clear hN1
 try clear N1
 refine Zt fun M hM=>?_
 by_cases hlen:O.length=W.length
 rotate_left
 · have hne:(((O.length:Nat):Int) != ((W.length:Nat):Int))=true:=by simp; omega
   refine Zg fun N2 hN2=>?_
   simp (maxSteps:=2000000) only [↓Za,↓Zb,↓Zc,vup,List.map_cons,List.map_nil,cond_true,cond_false,aop,Zf,ev,sput,Ze,Yf,Yi,Zi,Nat.reduceBEq,tyf,Xl b.on Xy,b.ons.len,hu.len,hlO,hlW,hne]
   refine hN2 [(0,u),(1,.pointer (some ⟨p1,0,none⟩)),(2,.pointer (some ⟨p2,0,none⟩)),(3,.pointer (some ⟨p3,0,none⟩)),(4,.pointer (some ⟨p4,0,none⟩)),(6,.bool false),(25,.bool true)] _ _ ?_ (by simp (maxSteps:=2000000) only [vup,cond_true,cond_false,Nat.reduceBEq])
   clear hN2
   try clear N2
   refine Xu rfl ?_
   refine Zm ?_
   simp (maxSteps:=2000000) only [↓Za,↓Zl,↓Zu,↓Zb,↓Zc,vup,cond_true,cond_false,aop,Zf,ev,sput,Ze,Nat.reduceBEq,Zs,Xn,tup]
   exact .inl ⟨Ext.refl _ _,fun xs h=>absurd h hlen⟩
 have hne:(((O.length:Nat):Int) != ((W.length:Nat):Int))=false:=by rw [hlen]; simp
 refine Zg fun N3 hN3=>?_
 simp (maxSteps:=2000000) only [↓Za,↓Zb,↓Zc,vup,List.map_cons,List.map_nil,cond_true,cond_false,aop,Zf,ev,sput,Ze,Yf,Yi,Zi,Nat.reduceBEq,tyf,Xl b.on Xy,b.ons.len,hu.len,hlO,hlW,hne]
 refine hN3 [(0,u),(1,.pointer (some ⟨p1,0,none⟩)),(2,.pointer (some ⟨p2,0,none⟩)),(3,.pointer (some ⟨p3,0,none⟩)),(4,.pointer (some ⟨p4,0,none⟩)),(6,.bool false),(25,.bool false)] _ _ ?_ (by simp (maxSteps:=2000000) only [vup,cond_true,cond_false,Nat.reduceBEq])
 clear hN3
 try clear N3
 refine Xh rfl ?_
 refine Zm ?_
 simp (maxSteps:=2000000) only [↓Zn,Zf]
 refine hM [(0,u),(1,.pointer (some ⟨p1,0,none⟩)),(2,.pointer (some ⟨p2,0,none⟩)),(3,.pointer (some ⟨p3,0,none⟩)),(4,.pointer (some ⟨p4,0,none⟩)),(6,.bool false)] _ _ ?_ (by simp (maxSteps:=2000000) only [vup,cond_true,cond_false,Nat.reduceBEq])
 clear hM
 try clear M
 refine Zg fun N4 hN4=>?_
 simp (maxSteps:=2000000) only [↓Za,↓Zb,↓Zc,vup,cond_false,aop,Zf,ev,sput,Ze,Nat.reduceBEq]
 refine hN4 [(0,u),(1,.pointer (some ⟨p1,0,none⟩)),(2,.pointer (some ⟨p2,0,none⟩)),(3,.pointer (some ⟨p3,0,none⟩)),(4,.pointer (some ⟨p4,0,none⟩)),(6,.bool false),(7,.slice none 0 0)] _ _ ?_ (by simp (maxSteps:=2000000) only [vup,cond_true,cond_false,Nat.reduceBEq])
 clear hN4
 try clear N4
 obtain ⟨T,hT⟩ : ∃ T,T=sysG l W O:=⟨_,rfl⟩
 refine Zt fun X hX=>?_
 refine Zg fun N5 hN5=>?_
 simp (maxSteps:=2000000) only [↓Za,↓Zb,↓Zc,vup,List.map_cons,List.map_nil,cond_true,cond_false,aop,Zf,ev,sput,Ze,Zi,Nat.reduceBEq,tyf,hu.len,hlW]
 refine hN5 [(0,u),(1,.pointer (some ⟨p1,0,none⟩)),(2,.pointer (some ⟨p2,0,none⟩)),(3,.pointer (some ⟨p3,0,none⟩)),(4,.pointer (some ⟨p4,0,none⟩)),(6,.bool false),(7,.slice none 0 0),(26,u),(27,Zd W.length),(28,.int .i64 0)] _ _ ?_ (by simp (maxSteps:=2000000) only [vup,cond_true,cond_false,Nat.reduceBEq])
 clear hN5
 try clear N5
 refine Zx ?_
 refine Zy fun Qa hQa=>?_
 refine Xa (γ:=Nat×Value×List Value×Zh) (fun g=>g.1≤W.length∧g.2.2.1.length=g.1∧RowsN h.length g.2.2.2 g.2.1 g.2.2.1 O.length T∧Ext (fun _=>False) h g.2.2.2)
  (fun g=>([(0,u),(1,.pointer (some ⟨p1,0,none⟩)),(2,.pointer (some ⟨p2,0,none⟩)),(3,.pointer (some ⟨p3,0,none⟩)),(4,.pointer (some ⟨p4,0,none⟩)),(6,.bool false),(7,g.2.1),(26,u),(27,Zd W.length),(28,Zd (g.1:Nat))],g.2.2.2)) (fun g=>W.length-g.1) (0,.slice none 0 0,[],h) ⟨Nat.zero_le _,rfl,.inl ⟨rfl,rfl⟩,Ext.refl _ _⟩ (by simp (maxSteps:=2000000) only [vup,cond_true,cond_false,Nat.reduceBEq,Int.natCast_zero]) rfl ?_
 rintro ⟨r,q,ws,G⟩ ⟨hr,hwsl,R,hEG⟩
 simp only at hr hwsl R hEG
 refine Zy fun Qb hQb=>?_
 simp only [l71_1]
 have bG:=b.ext hEG
 have huG:=iExt hu hEG
 by_cases hrin:(r:Int)<W.length
 · have hr' : r<W.length:=by omega
   have hr2:r<(Vo W).length:=by omega
   obtain ⟨w,hw⟩ : ∃ w,W.getD r 0=w:=⟨_,rfl⟩
   have hwn:=hW r hr'
   rw [hw] at hwn
   have hcw:(Vo W).getD r 0=((w:Nat):Int):=by rw [← hw,Vo,List.getD,List.getElem?_map,List.getElem?_eq_getElem hr',List.getD,List.getElem?_eq_getElem hr']; rfl
   refine Zg fun N6 hN6=>?_
   simp (maxSteps:=2000000) only [↓Za,↓Zb,↓Zc,vup,cond_true,cond_false,aop,Zf,ev,sput,Ze,Yf,Yi,Nat.reduceBEq,hrin]
   refine hN6 [(0,u),(1,.pointer (some ⟨p1,0,none⟩)),(2,.pointer (some ⟨p2,0,none⟩)),(3,.pointer (some ⟨p3,0,none⟩)),(4,.pointer (some ⟨p4,0,none⟩)),(6,.bool false),(7,q),(26,u),(27,Zd W.length),(28,Zd (r:Nat)),(29,.bool true)] _ _ ?_ (by simp (maxSteps:=2000000) only [vup,cond_true,cond_false,Nat.reduceBEq])
   clear hN6
   try clear N6
   refine Zg fun N7 hN7=>?_
   simp (maxSteps:=2000000) only [↓Zn,↓vdn,vup,cond_true,cond_false,Zf,ev,Nat.reduceBEq]
   refine hN7 [(0,u),(1,.pointer (some ⟨p1,0,none⟩)),(2,.pointer (some ⟨p2,0,none⟩)),(3,.pointer (some ⟨p3,0,none⟩)),(4,.pointer (some ⟨p4,0,none⟩)),(6,.bool false),(7,q),(26,u),(27,Zd W.length),(28,Zd (r:Nat))] _ _ ?_ (by simp (maxSteps:=2000000) only [vup,cond_true,cond_false,Nat.reduceBEq])
   clear hN7
   try clear N7
   refine Zt fun B hB=>?_
   refine Zx ?_
   refine Zg fun N8 hN8=>?_
   simp (maxSteps:=2000000) only [↓Za,↓Zb,↓Zc,vup,cond_true,cond_false,aop,Zf,ev,sput,Ze,Nat.reduceBEq,huG.idx Vy Wm hr2,huG.load Yy hr2,hcw]
   refine hN8 [(0,u),(1,.pointer (some ⟨p1,0,none⟩)),(2,.pointer (some ⟨p2,0,none⟩)),(3,.pointer (some ⟨p3,0,none⟩)),(4,.pointer (some ⟨p4,0,none⟩)),(6,.bool false),(7,q),(9,Zd (w:Nat)),(26,u),(27,Zd W.length),(28,Zd (r:Nat))] _ _ ?_ (by simp (maxSteps:=2000000) only [vup,cond_true,cond_false,Nat.reduceBEq])
   clear hN8
   try clear N8
   refine Zg fun N9 hN9=>?_
   simp (maxSteps:=2000000) only [↓Za,↓Zb,↓Zc,vup,cond_false,aop,Zf,ev,sput,Ze,Nat.reduceBEq]
   refine hN9 [(0,u),(1,.pointer (some ⟨p1,0,none⟩)),(2,.pointer (some ⟨p2,0,none⟩)),(3,.pointer (some ⟨p3,0,none⟩)),(4,.pointer (some ⟨p4,0,none⟩)),(6,.bool false),(7,q),(9,Zd (w:Nat)),(10,.slice none 0 0),(26,u),(27,Zd W.length),(28,Zd (r:Nat))] _ _ ?_ (by simp (maxSteps:=2000000) only [vup,cond_true,cond_false,Nat.reduceBEq])
   clear hN9
   try clear N9
   refine Zt fun Y hY=>?_
   refine Zg fun N10 hN10=>?_
   simp (maxSteps:=2000000) only [↓Za,↓Zb,↓Zc,vup,List.map_cons,List.map_nil,cond_true,cond_false,aop,Zf,ev,sput,Ze,Zi,Nat.reduceBEq,tyf,Xl bG.on Xy,bG.ons.len,hlO]
   refine hN10 [(0,u),(1,.pointer (some ⟨p1,0,none⟩)),(2,.pointer (some ⟨p2,0,none⟩)),(3,.pointer (some ⟨p3,0,none⟩)),(4,.pointer (some ⟨p4,0,none⟩)),(6,.bool false),(7,q),(9,Zd (w:Nat)),(10,.slice none 0 0),(26,u),(27,Zd W.length),(28,Zd (r:Nat)),(32,ov),(33,Zd O.length),(34,.int .i64 0)] _ _ ?_ (by simp (maxSteps:=2000000) only [vup,cond_true,cond_false,Nat.reduceBEq])
   clear hN10
   try clear N10
   refine Zx ?_
   refine Zy fun Qc hQc=>?_
   refine Xa (γ:=Nat×Value×Zh) (fun g=>g.1≤O.length∧OwnP 45 g.2.2 g.2.1 (gRow l w O g.1)∧Ext (fun _=>False) G g.2.2∧(∀ b,Yc g.2.1=some b→G.length≤b))
    (fun g=>([(0,u),(1,.pointer (some ⟨p1,0,none⟩)),(2,.pointer (some ⟨p2,0,none⟩)),(3,.pointer (some ⟨p3,0,none⟩)),(4,.pointer (some ⟨p4,0,none⟩)),(6,.bool false),(7,q),(9,Zd (w:Nat)),(10,g.2.1),(26,u),(27,Zd W.length),(28,Zd (r:Nat)),(32,ov),(33,Zd O.length),(34,Zd (g.1:Nat))],g.2.2)) (fun g=>O.length-g.1) (0,.slice none 0 0,G) ⟨Nat.zero_le _,.inl ⟨rfl,rfl⟩,Ext.refl _ _,fun b hb=>by cases hb⟩ (by simp (maxSteps:=2000000) only [vup,cond_true,cond_false,Nat.reduceBEq,Int.natCast_zero]) rfl ?_
   rintro ⟨c,x,D⟩ ⟨hc,hx,hED,hbx⟩
   simp only at hc hx hED hbx
   refine Zy fun Qd hQd=>?_
   simp only [l71_0]
   have bD:=bG.ext hED
   by_cases hcin:(c:Int)<O.length
   · have hc' : c<O.length:=by omega
     have hc2:c<(Vo O).length:=by omega
     obtain ⟨i,hi⟩ : ∃ i,O.getD c 0=i:=⟨_,rfl⟩
     have hil:=hO c hc'
     rw [hi] at hil
     have hci:(Vo O).getD c 0=((i:Nat):Int):=by rw [castI_getD,hi]
     obtain ⟨⟨e0,y⟩,hxy⟩ : ∃ p,l.getD i (0,0)=p:=⟨_,rfl⟩
     have hb:=hok i hil
     rw [hxy] at hb
     simp only [okB,Bool.and_eq_true,decide_eq_true_eq] at hb
     obtain ⟨e,he⟩ : ∃ e:Nat,e0=e:=⟨e0.toNat,by omega⟩
     subst he
     have hpow:(2:Int) ^ n≤32:=by
      have h1:(2:Nat) ^ n≤2 ^ 5:=Nat.pow_le_pow_right (by decide) hn5
      exact_mod_cast h1
     have hgn:(if e.testBit w=true then (12:Int) else 0)-y=gnI l w i:=by rw [gnI,hxy,Int.toNat_natCast]
     have gc:=fun z=>gain_call (h:=z) (x:=e) (w:=w) (y:=y) (by omega) (by omega)
     simp only [hgn] at gc
     refine Zg fun N11 hN11=>?_
     simp (maxSteps:=2000000) only [↓Za,↓Zb,↓Zc,vup,cond_true,cond_false,aop,Zf,ev,sput,Ze,Yf,Yi,Nat.reduceBEq,hcin]
     refine hN11 [(0,u),(1,.pointer (some ⟨p1,0,none⟩)),(2,.pointer (some ⟨p2,0,none⟩)),(3,.pointer (some ⟨p3,0,none⟩)),(4,.pointer (some ⟨p4,0,none⟩)),(6,.bool false),(7,q),(9,Zd (w:Nat)),(10,x),(26,u),(27,Zd W.length),(28,Zd (r:Nat)),(32,ov),(33,Zd O.length),(34,Zd (c:Nat)),(35,.bool true)] _ _ ?_ (by simp (maxSteps:=2000000) only [vup,cond_true,cond_false,Nat.reduceBEq])
     clear hN11
     try clear N11
     refine Zg fun N12 hN12=>?_
     simp (maxSteps:=2000000) only [↓Zn,↓vdn,vup,cond_true,cond_false,Zf,ev,Nat.reduceBEq]
     refine hN12 [(0,u),(1,.pointer (some ⟨p1,0,none⟩)),(2,.pointer (some ⟨p2,0,none⟩)),(3,.pointer (some ⟨p3,0,none⟩)),(4,.pointer (some ⟨p4,0,none⟩)),(6,.bool false),(7,q),(9,Zd (w:Nat)),(10,x),(26,u),(27,Zd W.length),(28,Zd (r:Nat)),(32,ov),(33,Zd O.length),(34,Zd (c:Nat))] _ _ ?_ (by simp (maxSteps:=2000000) only [vup,cond_true,cond_false,Nat.reduceBEq])
     clear hN12
     try clear N12
     refine Zt fun C hC=>?_
     refine Zx ?_
     refine Zg fun N13 hN13=>?_
     simp (maxSteps:=2000000) only [↓Za,↓Zb,↓Zc,vup,cond_true,cond_false,aop,Zf,ev,sput,Ze,Nat.reduceBEq,bD.ons.idx Vy Wm hc2,bD.ons.load Yy hc2,hci]
     refine hN13 [(0,u),(1,.pointer (some ⟨p1,0,none⟩)),(2,.pointer (some ⟨p2,0,none⟩)),(3,.pointer (some ⟨p3,0,none⟩)),(4,.pointer (some ⟨p4,0,none⟩)),(6,.bool false),(7,q),(9,Zd (w:Nat)),(10,x),(12,Zd (i:Nat)),(26,u),(27,Zd W.length),(28,Zd (r:Nat)),(32,ov),(33,Zd O.length),(34,Zd (c:Nat))] _ _ ?_ (by simp (maxSteps:=2000000) only [vup,cond_true,cond_false,Nat.reduceBEq])
     clear hN13
     try clear N13
     refine Zm ?_
     simp only [q71_11]
     refine aw_regcut 7 fun N1 hN1=>?_
     simp (maxSteps:=2000000) only [↓Za,↓Zb,↓Zc,vup,List.map_cons,List.map_nil,cond_true,cond_false,aop,ev,sput,Ze,Nat.reduceBEq,Yn,List.nil_append,List.append_nil,List.take_succ_cons,List.take_zero,Xl bD.bl shp_46,bD.bls.idx el_46 esz_51 hil,bD.bls.load shp_51 hil,hxy]
     refine ((gc D)).mono ?_
     rintro _ D ⟨rfl,rfl⟩
     refine hN1 _ _ ?_
     clear hN1 N1
     simp only [List.drop_succ_cons,List.drop_zero]
     simp (maxSteps:=2000000) only [↓Za,↓Zb,↓Zc,vup,List.map_cons,List.map_nil,cond_true,cond_false,aop,Zf,Zo,ev,sput,Ze,Zi,Nat.reduceBEq,Yn,List.nil_append,List.append_nil]
     refine ((show Xj prog 72 [Zd (gnI l w i)] D (qV ((gnI l w i:Int):Rat)) from Uo)).mono ?_
     rintro _ D ⟨rfl,rfl⟩
     simp (maxSteps:=2000000) only [qV,frV,litF]
     refine OwnP.append (hx.ext (Ext.app _ _ _)) app_43_43 (by rw [gRow]; simp; omega) (Zr _ _) ?_
     intro x' h' ho' hE' hb'
     have e1:gRow l w O c++[((((gnI l w i:Int):Rat)).num,((((gnI l w i:Int):Rat)).den:Int))]=gRow l w O (c+1):=by
      rw [gRow_succ,hi]; rfl
     rw [e1] at ho'
     obtain ⟨hE2,hbx'⟩:=oExt (H':=D) hED hbx _ hE' hb'
     refine hC [(0,u),(1,.pointer (some ⟨p1,0,none⟩)),(2,.pointer (some ⟨p2,0,none⟩)),(3,.pointer (some ⟨p3,0,none⟩)),(4,.pointer (some ⟨p4,0,none⟩)),(6,.bool false),(7,q),(9,Zd (w:Nat)),(10,x'),(26,u),(27,Zd W.length),(28,Zd (r:Nat)),(32,ov),(33,Zd O.length),(34,Zd (c:Nat))] _ _ ?_ (by simp (maxSteps:=2000000) only [vup,cond_true,cond_false,Nat.reduceBEq])
     clear hC
     try clear C
     refine Zm ?_
     simp (maxSteps:=2000000) only [↓Za,↓Zb,↓Zc,vup,cond_true,cond_false,aop,ev,sput,Ze,Yf,Yi,Nat.reduceBEq,add1 (show c<9223372036854775807 by omega)]
     exact hQd _ _ _ ⟨(c+1,x',h'),⟨hc',ho',hE2,hbx'⟩,by simp only; omega,by simp (maxSteps:=2000000) only [vup,cond_true,cond_false,Nat.reduceBEq],rfl⟩
   · obtain rfl:O.length=c:=by omega
     refine Zg fun N14 hN14=>?_
     simp (maxSteps:=2000000) only [↓Za,↓Zb,↓Zc,vup,cond_true,cond_false,aop,Zf,ev,sput,Ze,Yf,Yi,Nat.reduceBEq,hcin]
     refine hN14 [(0,u),(1,.pointer (some ⟨p1,0,none⟩)),(2,.pointer (some ⟨p2,0,none⟩)),(3,.pointer (some ⟨p3,0,none⟩)),(4,.pointer (some ⟨p4,0,none⟩)),(6,.bool false),(7,q),(9,Zd (w:Nat)),(10,x),(26,u),(27,Zd W.length),(28,Zd (r:Nat)),(32,ov),(33,Zd O.length),(34,Zd O.length),(35,.bool false)] _ _ ?_ (by simp (maxSteps:=2000000) only [vup,cond_true,cond_false,Nat.reduceBEq])
     clear hN14
     try clear N14
     refine Zg fun N15 hN15=>?_
     simp (maxSteps:=2000000) only [↓Yo,↓vdn,vup,cond_true,cond_false,Zf,ev,Nat.reduceBEq]
     refine hQd _ _ _ (hQc _ _ _ ?_)
     simp (maxSteps:=2000000) only [Zf,Zo,if_true]
     refine hY [(0,u),(1,.pointer (some ⟨p1,0,none⟩)),(2,.pointer (some ⟨p2,0,none⟩)),(3,.pointer (some ⟨p3,0,none⟩)),(4,.pointer (some ⟨p4,0,none⟩)),(6,.bool false),(7,q),(9,Zd (w:Nat)),(10,x),(26,u),(27,Zd W.length),(28,Zd (r:Nat))] _ _ ?_ (by simp (maxSteps:=2000000) only [vup,cond_true,cond_false,Nat.reduceBEq])
     clear hY
     try clear Y
     have hrow:gRow l w O O.length++[((((1:Int):Rat)).num,((((1:Int):Rat)).den:Int))]=rowC T O.length ws.length:=by
      rw [hT,hwsl,gRow_full,hw]; rfl
     refine Zm ?_
     simp (maxSteps:=2000000) only [↓Za,↓Zb,↓Zc,vup,List.map_cons,List.map_nil,cond_true,cond_false,aop,Zf,Zo,ev,sput,Ze,Zi,Nat.reduceBEq,Yn,List.nil_append,List.append_nil]
     refine ((show Xj prog 72 [Zd 1] D (qV ((1:Int):Rat)) from Uo)).mono ?_
     rintro _ D ⟨rfl,rfl⟩
     simp (maxSteps:=2000000) only [qV,frV,litF]
     refine OwnP.append (hx.ext (Ext.app _ _ _)) app_43_43 (by rw [gRow]; simp; omega) (Zr _ _) ?_
     intro rv G3 ho3 hE3 hb3
     rw [hrow] at ho3
     obtain ⟨hEG3,hbr⟩:=oExt (H':=D) hED hbx _ hE3 hb3
     obtain ⟨bb,yy,hrv,-⟩:=Wo ho3 Uk
     have lit0 : ∀ K:Value→Zh→Prop,Yj prog G3 125 1 [(0,rv)] K=K (.slice (some ⟨G3.length,0,none⟩) 1 1) (G3++[.cells [rv] 43 false]):=fun K=>by rw [hrv]; exact litV el_125 zero_43 esz_43
     simp (maxSteps:=2000000) only [lit0]
     refine R.moreP (by omega) (by have:=hEG.1; omega) (hEG3.trans (Ext.app _ _ _)) (ho3.ext (Ext.app _ _ _)) hbr (Zr _ _) fun q' h' R' hEa hEb=>?_
     have hEh:Ext (fun _=>False) h h':=by
      have l1:=hEG3.1
      have l2:=hEa.1
      have l3:=hEG.1
      rw [List.length_append] at l2
      refine ⟨by omega,fun z hz _=>?_⟩
      rw [hEa.2 z (by rw [List.length_append]; omega) (by omega),List.getElem?_append_left (by omega),hEG3.2 z (by omega) id]
      exact hEG.2 z hz id
     refine hB [(0,u),(1,.pointer (some ⟨p1,0,none⟩)),(2,.pointer (some ⟨p2,0,none⟩)),(3,.pointer (some ⟨p3,0,none⟩)),(4,.pointer (some ⟨p4,0,none⟩)),(6,.bool false),(7,q'),(26,u),(27,Zd W.length),(28,Zd (r:Nat))] _ _ ?_ (by simp (maxSteps:=2000000) only [vup,cond_true,cond_false,Nat.reduceBEq])
     clear hB
     try clear B
     refine Zm ?_
     simp (maxSteps:=2000000) only [↓Za,↓Zb,↓Zc,vup,cond_true,cond_false,aop,ev,sput,Ze,Yf,Yi,Nat.reduceBEq,add1 (show r<9223372036854775807 by omega)]
     exact hQb _ _ _ ⟨(r+1,q',ws++[rv],h'),⟨hr',by simp [hwsl],R',hEh⟩,by simp only; omega,by simp (maxSteps:=2000000) only [vup,cond_true,cond_false,Nat.reduceBEq],rfl⟩
 · obtain rfl:W.length=r:=by omega
   refine Zg fun N16 hN16=>?_
   simp (maxSteps:=2000000) only [↓Za,↓Zb,↓Zc,vup,cond_true,cond_false,aop,Zf,ev,sput,Ze,Yf,Yi,Nat.reduceBEq,hrin]
   refine hN16 [(0,u),(1,.pointer (some ⟨p1,0,none⟩)),(2,.pointer (some ⟨p2,0,none⟩)),(3,.pointer (some ⟨p3,0,none⟩)),(4,.pointer (some ⟨p4,0,none⟩)),(6,.bool false),(7,q),(26,u),(27,Zd W.length),(28,Zd W.length),(29,.bool false)] _ _ ?_ (by simp (maxSteps:=2000000) only [vup,cond_true,cond_false,Nat.reduceBEq])
   clear hN16
   try clear N16
   refine Zg fun N17 hN17=>?_
   simp (maxSteps:=2000000) only [↓Yo,↓vdn,vup,cond_true,cond_false,Zf,ev,Nat.reduceBEq]
   refine hQb _ _ _ (hQa _ _ _ ?_)
   simp (maxSteps:=2000000) only [Zf,Zo,Zs,if_true]
   refine hX [(0,u),(1,.pointer (some ⟨p1,0,none⟩)),(2,.pointer (some ⟨p2,0,none⟩)),(3,.pointer (some ⟨p3,0,none⟩)),(4,.pointer (some ⟨p4,0,none⟩)),(6,.bool false),(7,q)] _ _ ?_ (by simp (maxSteps:=2000000) only [vup,cond_true,cond_false,Nat.reduceBEq])
   clear hX
   try clear X
   have hR2:Rows h.length G q ws O.length T∧OwnV 43 G q ws:=by
    rcases R with ⟨h1,_⟩ | h1
    · rw [h1] at hwsl; simp at hwsl; omega
    · exact h1
   obtain ⟨B,C,hqe,hBC,hBp,M,hbkp⟩:=hR2.1.mat hR2.2
   rw [hwsl] at hqe hBC M hbkp
   have hsolve:=solve_call M hBC (by omega) (by omega) hO1 (by omega) (fun j S hj hS=>by rw [hT] at hS; exact sysG_tame hct (by omega) hO hj hS)
   refine Zg fun N18 hN18=>?_
   simp (maxSteps:=2000000) only [↓Za,↓Zb,↓Zc,vup,List.map_cons,List.map_nil,cond_true,cond_false,aop,Zf,ev,sput,Ze,Zi,Nat.reduceBEq,tyf,Xl bG.on Xy,bG.ons.len,hlO,hqe,Yn,List.nil_append,List.append_nil]
   refine hsolve.mono ?_
   rintro res G' ⟨hEs,x,ok,rfl,hres⟩
   simp (maxSteps:=2000000) only [Wh,Wi]
   refine hN18 [(0,u),(1,.pointer (some ⟨p1,0,none⟩)),(2,.pointer (some ⟨p2,0,none⟩)),(3,.pointer (some ⟨p3,0,none⟩)),(4,.pointer (some ⟨p4,0,none⟩)),(6,.bool false),(13,x),(14,.bool ok)] _ _ ?_ (by simp (maxSteps:=2000000) only [vup,cond_true,cond_false,Nat.reduceBEq])
   clear hN18
   try clear N18
   have hEG' : Ext (fun _=>False) h G':=by
    refine ⟨by have:=hEG.1; have:=hEs.1; omega,fun z hz _=>?_⟩
    rw [hEs.2 z (by have:=hEG.1; omega) (fun hc=>by
     rcases hc with rfl | ⟨j,hj,rfl⟩
     · omega
     · exact absurd hz (Nat.not_lt.2 (hbkp j hj)))]
    exact hEG.2 z hz id
   have bG':=b.ext hEG'
   have hGl:h.length≤G.length:=hEG.1
   clear hQa hQb M R hR2 hsolve hEs hqe hbkp bG huG
   refine Zt fun M hM=>?_
   cases hsol:Wu W.length O.length T with
   | none =>
     rw [hsol] at hres
     obtain ⟨rfl,rfl⟩:=hres
     refine Zg fun N19 hN19=>?_
     simp (maxSteps:=2000000) only [↓Za,↓Zb,↓Zc,vup,cond_true,cond_false,aop,Zf,ev,sput,Ze,unK,Nat.reduceBEq]
     refine hN19 [(0,u),(1,.pointer (some ⟨p1,0,none⟩)),(2,.pointer (some ⟨p2,0,none⟩)),(3,.pointer (some ⟨p3,0,none⟩)),(4,.pointer (some ⟨p4,0,none⟩)),(6,.bool false),(13,.slice none 0 0),(14,.bool false),(65,.bool true)] _ _ ?_ (by simp (maxSteps:=2000000) only [vup,cond_true,cond_false,Nat.reduceBEq])
     clear hN19
     try clear N19
     refine Xu rfl ?_
     refine Zm ?_
     simp (maxSteps:=2000000) only [↓Za,↓Zl,↓Zu,↓Zb,↓Zc,vup,cond_true,cond_false,aop,Zf,ev,sput,Ze,Nat.reduceBEq,Zs,Xn,tup]
     exact .inl ⟨hEG',fun xs _ h=>by rw [← hT,hsol] at h; cases h⟩
   | some xs =>
   rw [hsol] at hres
   obtain ⟨rfl,hox,hbx⟩:=hres
   refine Zg fun N20 hN20=>?_
   simp (maxSteps:=2000000) only [↓Za,↓Zb,↓Zc,vup,cond_true,cond_false,aop,Zf,ev,sput,Ze,unK,Nat.reduceBEq]
   refine hN20 [(0,u),(1,.pointer (some ⟨p1,0,none⟩)),(2,.pointer (some ⟨p2,0,none⟩)),(3,.pointer (some ⟨p3,0,none⟩)),(4,.pointer (some ⟨p4,0,none⟩)),(6,.bool false),(13,x),(14,.bool true),(65,.bool false)] _ _ ?_ (by simp (maxSteps:=2000000) only [vup,cond_true,cond_false,Nat.reduceBEq])
   clear hN20
   try clear N20
   refine Xh rfl ?_
   refine Zm ?_
   simp (maxSteps:=2000000) only [↓Zn,Zf]
   refine hM [(0,u),(1,.pointer (some ⟨p1,0,none⟩)),(2,.pointer (some ⟨p2,0,none⟩)),(3,.pointer (some ⟨p3,0,none⟩)),(4,.pointer (some ⟨p4,0,none⟩)),(6,.bool false),(13,x),(14,.bool true)] _ _ ?_ (by simp (maxSteps:=2000000) only [vup,cond_true,cond_false,Nat.reduceBEq])
   clear hM
   try clear M
   rw [hT] at hsol
   obtain ⟨hxl,hbyle,hstk⟩:=sol_small (ws:=W) (is:=O) hct (by omega) hO (by omega) hsol
   have hxl2:(xs.map ofQ).length=O.length:=by rw [List.length_map,hxl]
   refine Zg fun N21 hN21=>?_
   simp (maxSteps:=2000000) only [↓Za,↓Zb,↓Zc,vup,cond_false,aop,Zf,ev,sput,Ze,Nat.reduceBEq]
   refine hN21 [(0,u),(1,.pointer (some ⟨p1,0,none⟩)),(2,.pointer (some ⟨p2,0,none⟩)),(3,.pointer (some ⟨p3,0,none⟩)),(4,.pointer (some ⟨p4,0,none⟩)),(6,.bool false),(13,x),(14,.bool true),(15,.int .i64 1)] _ _ ?_ (by simp (maxSteps:=2000000) only [vup,cond_true,cond_false,Nat.reduceBEq])
   clear hN21
   try clear N21
   refine Zt fun X hX=>?_
   refine Zg fun N22 hN22=>?_
   simp (maxSteps:=2000000) only [↓Za,↓Zb,↓Zc,vup,List.map_cons,List.map_nil,cond_true,cond_false,aop,Zf,ev,sput,Ze,Zi,Nat.reduceBEq,tyf,hox.pair.len,hxl2]
   refine hN22 [(0,u),(1,.pointer (some ⟨p1,0,none⟩)),(2,.pointer (some ⟨p2,0,none⟩)),(3,.pointer (some ⟨p3,0,none⟩)),(4,.pointer (some ⟨p4,0,none⟩)),(6,.bool false),(13,x),(14,.bool true),(15,.int .i64 1),(66,x),(67,Zd O.length),(68,.int .i64 0)] _ _ ?_ (by simp (maxSteps:=2000000) only [vup,cond_true,cond_false,Nat.reduceBEq])
   clear hN22
   try clear N22
   refine Zx ?_
   refine Zy fun Qa hQa=>?_
   refine Xa (γ:=Nat×Zh) (fun g=>g.1≤O.length∧Ext (fun _=>False) G' g.2)
    (fun g=>([(0,u),(1,.pointer (some ⟨p1,0,none⟩)),(2,.pointer (some ⟨p2,0,none⟩)),(3,.pointer (some ⟨p3,0,none⟩)),(4,.pointer (some ⟨p4,0,none⟩)),(6,.bool false),(13,x),(14,.bool true),(15,Zd (Uy xs g.1:Nat)),(66,x),(67,Zd O.length),(68,Zd (g.1:Nat))],g.2)) (fun g=>O.length-g.1) (0,G') ⟨Nat.zero_le _,Ext.refl _ _⟩ (by simp (maxSteps:=2000000) only [vup,cond_true,cond_false,Nat.reduceBEq,Int.natCast_zero,Uy,Int.natCast_one]) rfl ?_
   rintro ⟨k,D⟩ ⟨hk,hED⟩
   simp only at hk hED
   refine Zy fun Qb hQb=>?_
   simp only [l71_2]
   by_cases hkin:(k:Int)<O.length
   · have hk' : k<O.length:=by omega
     have hk2:k<(xs.map ofQ).length:=by omega
     have hpx:=hox.pair.ext hED
     obtain ⟨qq,hqq⟩ : ∃ qq,xs.getD k 0=qq:=⟨_,rfl⟩
     have hxy:(xs.map ofQ).getD k (0,0)=(qq.num,(qq.den:Int)):=by
      rw [← hqq,List.getD,List.getElem?_map,List.getElem?_eq_getElem (by omega),List.getD,List.getElem?_eq_getElem (by omega)]; rfl
     have hb1:=hbyle k (by omega)
     have hb2:=hbyle (k+1) (by omega)
     have hb0:=byTo_pos xs k
     have hd0:=qq.den_pos
     have hdl:qq.den≤29859840:=by
      have:=byTo_dvd xs (show k<k+1 by omega)
      rw [hqq] at this
      exact Nat.le_trans (Nat.le_of_dvd (byTo_pos xs _) this) hb2
     obtain ⟨D2,hD2⟩ : ∃ Z,Z=D++[fC qq.num qq.den]:=⟨_,rfl⟩
     have c17:D2[D.length]? = some (fC qq.num qq.den):=by rw [hD2]; exact Zr _ _
     have hED2:Ext (fun _=>False) G' D2:=by rw [hD2]; exact hED.trans (Ext.app _ _ _)
     have gc:=gcd_call (h:=D2) (a:=((Uy xs k:Nat):Int)) (b:=(qq.den:Int)) (.inl (by omega)) (by omega)
     rw [Int.natAbs_natCast,Int.natAbs_natCast] at gc
     have hg0:0<Nat.gcd (Uy xs k) qq.den:=Nat.gcd_pos_of_pos_left _ hb0
     have q1:quoV .i64 ((Uy xs k:Nat):Int) ((Nat.gcd (Uy xs k) qq.den:Nat):Int)=((Uy xs k / Nat.gcd (Uy xs k) qq.den:Nat):Int):=by
      rw [quo_dvd (by omega) (by exact_mod_cast Nat.gcd_dvd_left _ _)]; rfl
     have hnx:Uy xs (k+1)=Uy xs k / Nat.gcd (Uy xs k) qq.den*qq.den:=by rw [Uy,hqq]
     have m1:mulV .i64 ((Uy xs k / Nat.gcd (Uy xs k) qq.den:Nat):Int) (qq.den:Int)=((Uy xs (k+1):Nat):Int):=by
      rw [hnx,mulN]
      · exact (Int.natCast_mul _ _).symm
      · rw [← Int.natCast_mul,Int.natAbs_natCast,← hnx]; omega
     have hgne : ¬ ((Nat.gcd (Uy xs k) qq.den:Nat):Int)=0:=by omega
     refine Zg fun N23 hN23=>?_
     simp (maxSteps:=2000000) only [↓Za,↓Zb,↓Zc,vup,cond_true,cond_false,aop,Zf,ev,sput,Ze,Yf,Yi,Nat.reduceBEq,hkin]
     refine hN23 [(0,u),(1,.pointer (some ⟨p1,0,none⟩)),(2,.pointer (some ⟨p2,0,none⟩)),(3,.pointer (some ⟨p3,0,none⟩)),(4,.pointer (some ⟨p4,0,none⟩)),(6,.bool false),(13,x),(14,.bool true),(15,Zd (Uy xs k:Nat)),(66,x),(67,Zd O.length),(68,Zd (k:Nat)),(69,.bool true)] _ _ ?_ (by simp (maxSteps:=2000000) only [vup,cond_true,cond_false,Nat.reduceBEq])
     clear hN23
     try clear N23
     refine Zg fun N24 hN24=>?_
     simp (maxSteps:=2000000) only [↓Zn,↓vdn,vup,cond_true,cond_false,Zf,ev,Nat.reduceBEq]
     refine hN24 [(0,u),(1,.pointer (some ⟨p1,0,none⟩)),(2,.pointer (some ⟨p2,0,none⟩)),(3,.pointer (some ⟨p3,0,none⟩)),(4,.pointer (some ⟨p4,0,none⟩)),(6,.bool false),(13,x),(14,.bool true),(15,Zd (Uy xs k:Nat)),(66,x),(67,Zd O.length),(68,Zd (k:Nat))] _ _ ?_ (by simp (maxSteps:=2000000) only [vup,cond_true,cond_false,Nat.reduceBEq])
     clear hN24
     try clear N24
     refine Zt fun B hB=>?_
     refine Zx ?_
     refine Zg fun N25 hN25=>?_
     simp (maxSteps:=2000000) only [↓Za,↓Zb,↓Zc,vup,cond_true,cond_false,aop,Zf,ev,sput,Ze,Nat.reduceBEq,tyf,hpx.idx el_43 Ub hk2,hpx.load Je hk2,hxy,Xg,Yg,storeF (Zr D z0) rfl,set_new]
     rw [← hD2]
     refine hN25 [(0,u),(1,.pointer (some ⟨p1,0,none⟩)),(2,.pointer (some ⟨p2,0,none⟩)),(3,.pointer (some ⟨p3,0,none⟩)),(4,.pointer (some ⟨p4,0,none⟩)),(6,.bool false),(13,x),(14,.bool true),(15,Zd (Uy xs k:Nat)),(17,.pointer (some ⟨D.length,0,none⟩)),(66,x),(67,Zd O.length),(68,Zd (k:Nat))] _ _ ?_ (by simp (maxSteps:=2000000) only [vup,cond_true,cond_false,Nat.reduceBEq])
     clear hN25
     try clear N25
     refine Zm ?_
     simp only [q71_22]
     refine Yx [(4,1)] (by kernel_rfl) (by kernel_rfl) (by kernel_rfl) (by kernel_rfl) ?_
     simp (maxSteps:=2000000) only [↓Zz,↓vdn,vup,List.map_cons,List.map_nil,cond_true,cond_false,aop,Zf,Zo,ev,sput,Ze,Yf,Yi,Nat.reduceBEq,Nat.reduceAdd,tyf,fA1,loadF1 c17,Yn,List.nil_append,List.append_nil]
     refine ⟨_,_,gc,rfl,?_⟩
     simp (maxSteps:=2000000) only [vup,ne_eq,hgne,not_false_eq_true,q1,m1]
     refine hB [(0,u),(1,.pointer (some ⟨p1,0,none⟩)),(2,.pointer (some ⟨p2,0,none⟩)),(3,.pointer (some ⟨p3,0,none⟩)),(4,.pointer (some ⟨p4,0,none⟩)),(6,.bool false),(13,x),(14,.bool true),(15,Zd (Uy xs (k+1):Nat)),(66,x),(67,Zd O.length),(68,Zd (k:Nat))] _ _ ?_ (by simp (maxSteps:=2000000) only [vup,cond_true,cond_false,Nat.reduceBEq])
     clear hB
     try clear B
     refine Zm ?_
     simp (maxSteps:=2000000) only [↓Za,↓Zb,↓Zc,vup,cond_true,cond_false,aop,ev,sput,Ze,Yf,Yi,Nat.reduceBEq,add1 (show k<9223372036854775807 by omega)]
     exact hQb _ _ _ ⟨(k+1,D2),⟨hk',hED2⟩,by simp only; omega,by simp (maxSteps:=2000000) only [vup,cond_true,cond_false,Nat.reduceBEq],rfl⟩
   · obtain rfl:O.length=k:=by omega
     refine Zg fun N26 hN26=>?_
     simp (maxSteps:=2000000) only [↓Za,↓Zb,↓Zc,vup,cond_true,cond_false,aop,Zf,ev,sput,Ze,Yf,Yi,Nat.reduceBEq,hkin]
     refine hN26 [(0,u),(1,.pointer (some ⟨p1,0,none⟩)),(2,.pointer (some ⟨p2,0,none⟩)),(3,.pointer (some ⟨p3,0,none⟩)),(4,.pointer (some ⟨p4,0,none⟩)),(6,.bool false),(13,x),(14,.bool true),(15,Zd (Uy xs O.length:Nat)),(66,x),(67,Zd O.length),(68,Zd O.length),(69,.bool false)] _ _ ?_ (by simp (maxSteps:=2000000) only [vup,cond_true,cond_false,Nat.reduceBEq])
     clear hN26
     try clear N26
     refine Zg fun N27 hN27=>?_
     simp (maxSteps:=2000000) only [↓Yo,↓vdn,vup,cond_true,cond_false,Zf,ev,Nat.reduceBEq]
     refine hQb _ _ _ (hQa _ _ _ ?_)
     simp (maxSteps:=2000000) only [Zf,Zo,Zs,if_true]
     refine hX [(0,u),(1,.pointer (some ⟨p1,0,none⟩)),(2,.pointer (some ⟨p2,0,none⟩)),(3,.pointer (some ⟨p3,0,none⟩)),(4,.pointer (some ⟨p4,0,none⟩)),(6,.bool false),(13,x),(14,.bool true),(15,Zd (Uy xs O.length:Nat))] _ _ ?_ (by simp (maxSteps:=2000000) only [vup,cond_true,cond_false,Nat.reduceBEq])
     clear hX
     try clear X
     clear hQa hQb
     have bD:=bG'.ext hED
     have hmk : ∀ {K:Value→Zh→Prop},makeK prog D 27 (Zd l.length) (Zd l.length) K=K (.slice (some ⟨D.length,0,none⟩) l.length l.length) (D++[.ints (List.replicate l.length 0) 3 false]):=fun {K}=>makeI Vy zero_3 info_3 (by omega) (by omega)
     obtain ⟨E,hE⟩ : ∃ Z,Z=D++[Blk.ints (List.replicate l.length 0) 3 false]:=⟨_,rfl⟩
     have hDE:Ext (fun _=>False) D E:=by rw [hE]; exact Ext.app _ _ _
     have c18:E[D.length]? = some (.ints (stkP on xs l.length 0) 3 false):=by rw [hE,Zr,stkP_zero]
     refine Zg fun N28 hN28=>?_
     simp (maxSteps:=2000000) only [↓Za,↓Zb,↓Zc,vup,List.map_cons,List.map_nil,cond_true,cond_false,aop,Zf,ev,sput,Ze,Zi,Nat.reduceBEq,tyf,Xl bD.bl shp_46,bD.bls.len,hmk]
     rw [← hE]
     refine hN28 [(0,u),(1,.pointer (some ⟨p1,0,none⟩)),(2,.pointer (some ⟨p2,0,none⟩)),(3,.pointer (some ⟨p3,0,none⟩)),(4,.pointer (some ⟨p4,0,none⟩)),(6,.bool false),(13,x),(14,.bool true),(15,Zd (Uy xs O.length:Nat)),(18,.slice (some ⟨D.length,0,none⟩) l.length l.length)] _ _ ?_ (by simp (maxSteps:=2000000) only [vup,cond_true,cond_false,Nat.reduceBEq])
     clear hN28
     try clear N28
     have bE:=bD.ext hDE
     refine Zt fun X hX=>?_
     refine Zg fun N29 hN29=>?_
     simp (maxSteps:=2000000) only [↓Za,↓Zb,↓Zc,vup,List.map_cons,List.map_nil,cond_true,cond_false,aop,Zf,ev,sput,Ze,Zi,Nat.reduceBEq,tyf,Xl bE.on Xy,bE.ons.len,hlO]
     refine hN29 [(0,u),(1,.pointer (some ⟨p1,0,none⟩)),(2,.pointer (some ⟨p2,0,none⟩)),(3,.pointer (some ⟨p3,0,none⟩)),(4,.pointer (some ⟨p4,0,none⟩)),(6,.bool false),(13,x),(14,.bool true),(15,Zd (Uy xs O.length:Nat)),(18,.slice (some ⟨D.length,0,none⟩) l.length l.length),(85,ov),(86,Zd O.length),(87,.int .i64 0)] _ _ ?_ (by simp (maxSteps:=2000000) only [vup,cond_true,cond_false,Nat.reduceBEq])
     clear hN29
     try clear N29
     refine Zx ?_
     refine Zy fun Qa hQa=>?_
     refine Xa (γ:=Nat) (fun g=>g≤O.length)
      (fun g=>([(0,u),(1,.pointer (some ⟨p1,0,none⟩)),(2,.pointer (some ⟨p2,0,none⟩)),(3,.pointer (some ⟨p3,0,none⟩)),(4,.pointer (some ⟨p4,0,none⟩)),(6,.bool false),(13,x),(14,.bool true),(15,Zd (Uy xs O.length:Nat)),(18,.slice (some ⟨D.length,0,none⟩) l.length l.length),(85,ov),(86,Zd O.length),(87,Zd (g:Nat))],E.set D.length (.ints (stkP on xs l.length g) 3 false))) (fun g=>O.length-g) 0 (Nat.zero_le _) (by simp (maxSteps:=2000000) only [vup,cond_true,cond_false,Nat.reduceBEq,Int.natCast_zero]) (by show E=_; rw [setSame c18]) ?_
     rintro k hk
     refine Zy fun Qb hQb=>?_
     simp only [l71_3]
     have hDl:D.length<E.length:=Yb c18
     have hDS:Ext (fun _=>False) D (E.set D.length (.ints (stkP on xs l.length k) 3 false)):=hDE.set_ge (Nat.le_refl _) _
     have bS:=bD.ext hDS
     by_cases hkin:(k:Int)<O.length
     · have hk' : k<O.length:=by omega
       have hk2:k<(xs.map ofQ).length:=by omega
       have hk3:k<(Vo O).length:=by omega
       obtain ⟨i,hi⟩ : ∃ i,O.getD k 0=i:=⟨_,rfl⟩
       have hil:=hO k hk'
       rw [hi] at hil
       have hki:(Vo O).getD k 0=((i:Nat):Int):=by rw [castI_getD,hi]
       obtain ⟨qq,hqq⟩ : ∃ qq,xs.getD k 0=qq:=⟨_,rfl⟩
       have hxy:(xs.map ofQ).getD k (0,0)=(qq.num,(qq.den:Int)):=by
        rw [← hqq,List.getD,List.getElem?_map,List.getElem?_eq_getElem (by omega),List.getD,List.getElem?_eq_getElem (by omega)]; rfl
       obtain ⟨e0,e1,f1,f2,f3,f4,f5⟩:=pairFlds (hox.pair.ext (hED.trans hDS)) hk2
       rw [hxy] at f4 f5
       simp only at f4 f5
       have hst:=stkI_at xs (on:=on) (m:=l.length) (k:=k) (by rw [← hOn]; exact hk')
       have hstep:=stkP_step (on:=on) (m:=l.length) xs (k:=k) (by rw [← hOn]; exact hk')
       rw [← hOn,hi] at hst hstep
       have hby:=byTo_dvd xs (show k<xs.length by omega)
       have hs2:=hstk k hk'
       rw [hqq] at hst hby hs2
       have hbl:=hbyle O.length (Nat.le_refl _)
       rw [hxl] at hst hby hs2
       have hd0:=qq.den_pos
       have hdne : ¬ (qq.den:Int)=0:=by omega
       have q1:quoV .i64 ((Uy xs O.length:Nat):Int) (qq.den:Int)=((Uy xs O.length / qq.den:Nat):Int):=by
        rw [quo_dvd (by omega) (by exact_mod_cast hby)]; rfl
       have m1:mulV .i64 qq.num ((Uy xs O.length / qq.den:Nat):Int)=stkI on xs i:=by rw [mulN (by omega),hst]
       have c18' : (E.set D.length (.ints (stkP on xs l.length k) 3 false))[D.length]? = some (.ints (stkP on xs l.length k) 3 false):=Xf hDl _
       have hsl:IntSl (E.set D.length (.ints (stkP on xs l.length k) 3 false)) (.slice (some ⟨D.length,0,none⟩) l.length l.length) (stkP on xs l.length k):=by
        have:=intSl_blk c18'
        rwa [stkP_len] at this
       have hil2:i<(stkP on xs l.length k).length:=by rw [stkP_len]; exact hil
       refine Zg fun N30 hN30=>?_
       simp (maxSteps:=2000000) only [↓Za,↓Zb,↓Zc,vup,cond_true,cond_false,aop,Zf,ev,sput,Ze,Yf,Yi,Nat.reduceBEq,hkin]
       refine hN30 [(0,u),(1,.pointer (some ⟨p1,0,none⟩)),(2,.pointer (some ⟨p2,0,none⟩)),(3,.pointer (some ⟨p3,0,none⟩)),(4,.pointer (some ⟨p4,0,none⟩)),(6,.bool false),(13,x),(14,.bool true),(15,Zd (Uy xs O.length:Nat)),(18,.slice (some ⟨D.length,0,none⟩) l.length l.length),(85,ov),(86,Zd O.length),(87,Zd (k:Nat)),(88,.bool true)] _ _ ?_ (by simp (maxSteps:=2000000) only [vup,cond_true,cond_false,Nat.reduceBEq])
       clear hN30
       try clear N30
       refine Zg fun N31 hN31=>?_
       simp (maxSteps:=2000000) only [↓Zn,↓vdn,vup,cond_true,cond_false,Zf,ev,Nat.reduceBEq]
       refine hN31 [(0,u),(1,.pointer (some ⟨p1,0,none⟩)),(2,.pointer (some ⟨p2,0,none⟩)),(3,.pointer (some ⟨p3,0,none⟩)),(4,.pointer (some ⟨p4,0,none⟩)),(6,.bool false),(13,x),(14,.bool true),(15,Zd (Uy xs O.length:Nat)),(18,.slice (some ⟨D.length,0,none⟩) l.length l.length),(85,ov),(86,Zd O.length),(87,Zd (k:Nat))] _ _ ?_ (by simp (maxSteps:=2000000) only [vup,cond_true,cond_false,Nat.reduceBEq])
       clear hN31
       try clear N31
       refine Zt fun B hB=>?_
       refine Zx ?_
       refine Zg fun N32 hN32=>?_
       simp (maxSteps:=2000000) only [↓Za,↓Zb,↓Zc,vup,cond_true,cond_false,aop,Zf,ev,sput,Ze,Nat.reduceBEq,bS.ons.idx Vy Wm hk3,bS.ons.load Yy hk3,hki]
       refine hN32 [(0,u),(1,.pointer (some ⟨p1,0,none⟩)),(2,.pointer (some ⟨p2,0,none⟩)),(3,.pointer (some ⟨p3,0,none⟩)),(4,.pointer (some ⟨p4,0,none⟩)),(6,.bool false),(13,x),(14,.bool true),(15,Zd (Uy xs O.length:Nat)),(18,.slice (some ⟨D.length,0,none⟩) l.length l.length),(19,Zd (k:Nat)),(20,Zd (i:Nat)),(85,ov),(86,Zd O.length),(87,Zd (k:Nat))] _ _ ?_ (by simp (maxSteps:=2000000) only [vup,cond_true,cond_false,Nat.reduceBEq])
       clear hN32
       try clear N32
       refine Zm ?_
       simp only [q71_28]
       refine Yx [] (by kernel_rfl) (by kernel_rfl) (by kernel_rfl) (by kernel_rfl) ?_
       simp (maxSteps:=2000000) only [↓Zz,↓vdn,vup,cond_true,cond_false,aop,Zf,Zo,ev,sput,Ze,Yf,Yi,Nat.reduceBEq,Nat.reduceAdd,tyf,f1,f2,f3,f4,f5,hsl.idx Vy Wm hil2,elemP_new,ne_eq,hdne,not_false_eq_true,q1,m1,storeBI c18' Yy hil2,List.set_set,hstep]
       refine hB [(0,u),(1,.pointer (some ⟨p1,0,none⟩)),(2,.pointer (some ⟨p2,0,none⟩)),(3,.pointer (some ⟨p3,0,none⟩)),(4,.pointer (some ⟨p4,0,none⟩)),(6,.bool false),(13,x),(14,.bool true),(15,Zd (Uy xs O.length:Nat)),(18,.slice (some ⟨D.length,0,none⟩) l.length l.length),(85,ov),(86,Zd O.length),(87,Zd (k:Nat))] _ _ ?_ (by simp (maxSteps:=2000000) only [vup,cond_true,cond_false,Nat.reduceBEq])
       clear hB
       try clear B
       refine Zm ?_
       simp (maxSteps:=2000000) only [↓Za,↓Zb,↓Zc,vup,cond_true,cond_false,aop,ev,sput,Ze,Yf,Yi,Nat.reduceBEq,add1 (show k<9223372036854775807 by omega)]
       exact hQb _ _ _ ⟨k+1,by show k+1≤O.length; omega,by omega,by simp (maxSteps:=2000000) only [vup,cond_true,cond_false,Nat.reduceBEq],rfl⟩
     · obtain rfl:O.length=k:=by omega
       refine Zg fun N33 hN33=>?_
       simp (maxSteps:=2000000) only [↓Za,↓Zb,↓Zc,vup,cond_true,cond_false,aop,Zf,ev,sput,Ze,Yf,Yi,Nat.reduceBEq,hkin]
       refine hN33 [(0,u),(1,.pointer (some ⟨p1,0,none⟩)),(2,.pointer (some ⟨p2,0,none⟩)),(3,.pointer (some ⟨p3,0,none⟩)),(4,.pointer (some ⟨p4,0,none⟩)),(6,.bool false),(13,x),(14,.bool true),(15,Zd (Uy xs O.length:Nat)),(18,.slice (some ⟨D.length,0,none⟩) l.length l.length),(85,ov),(86,Zd O.length),(87,Zd O.length),(88,.bool false)] _ _ ?_ (by simp (maxSteps:=2000000) only [vup,cond_true,cond_false,Nat.reduceBEq])
       clear hN33
       try clear N33
       refine Zg fun N34 hN34=>?_
       simp (maxSteps:=2000000) only [↓Yo,↓vdn,vup,cond_true,cond_false,Zf,ev,Nat.reduceBEq]
       refine hQb _ _ _ (hQa _ _ _ ?_)
       simp (maxSteps:=2000000) only [Zf,Zo,Zs,if_true]
       refine hX [(0,u),(1,.pointer (some ⟨p1,0,none⟩)),(2,.pointer (some ⟨p2,0,none⟩)),(3,.pointer (some ⟨p3,0,none⟩)),(4,.pointer (some ⟨p4,0,none⟩)),(6,.bool false),(13,x),(14,.bool true),(15,Zd (Uy xs O.length:Nat)),(18,.slice (some ⟨D.length,0,none⟩) l.length l.length)] _ _ ?_ (by simp (maxSteps:=2000000) only [vup,cond_true,cond_false,Nat.reduceBEq])
       clear hX
       try clear X
       have hfull:stkP on xs l.length O.length=stkL on xs l.length:=by rw [hOn,stkP_full]
       rw [hfull] at bS hDS ⊢
       obtain ⟨F,hF⟩ : ∃ Z,Z=E.set D.length (.ints (stkL on xs l.length) 3 false):=⟨_,rfl⟩
       rw [← hF] at bS hDS ⊢
       have cF:F[D.length]? = some (.ints (stkL on xs l.length) 3 false):=by rw [hF]; exact Xf hDl _
       have hsl:IntSl F (.slice (some ⟨D.length,0,none⟩) l.length l.length) (stkL on xs l.length):=by
        have:=intSl_blk cF
        rwa [← hfull,stkP_len,hfull] at this
       have hsms:SmS (stkL on xs l.length):=fun i=>by
        rcases Nat.lt_or_ge i l.length with hi | hi
        · rw [stkL_get hi,stkI]
          split
          · rename_i hb
            have hlt:=Xk hi hb
            rw [← hOn] at hlt
            have:=hstk _ hlt
            omega
          · decide
        · rw [List.getD,List.getElem?_eq_none (by rw [stkL]; simpa using hi)]; decide
       have bc:=beats_call bS.bls hsl hval (by rw [← hfull,stkP_len]) hsms
       refine Zt fun M hM=>?_
       refine Zg fun N35 hN35=>?_
       simp (maxSteps:=2000000) only [↓Za,↓Zb,↓Zc,vup,List.map_cons,List.map_nil,cond_true,cond_false,aop,Zf,ev,sput,Ze,Nat.reduceBEq,Yn,List.nil_append,List.append_nil,loadT bS.tb]
       refine (bc).mono ?_
       rintro _ F ⟨rfl,rfl⟩
       refine hN35 [(0,u),(1,.pointer (some ⟨p1,0,none⟩)),(2,.pointer (some ⟨p2,0,none⟩)),(3,.pointer (some ⟨p3,0,none⟩)),(4,.pointer (some ⟨p4,0,none⟩)),(6,.bool false),(13,x),(14,.bool true),(15,Zd (Uy xs O.length:Nat)),(18,.slice (some ⟨D.length,0,none⟩) l.length l.length),(111,.bool (Uu n l (stkL on xs l.length)))] _ _ ?_ (by simp (maxSteps:=2000000) only [vup,cond_true,cond_false,Nat.reduceBEq])
       clear hN35
       try clear N35
       cases hbt:Uu n l (stkL on xs l.length) with
       | true =>
         have hp4:=Yb b.fd
         have hpF:=Yb bS.fd
         have hEF:=hEG'.trans (hED.trans hDS)
         have hhD:=(hEG'.trans hED).1
         obtain ⟨Y,hY⟩ : ∃ Z,Z=F.set p4 (.cells [.slice (some ⟨D.length,0,none⟩) l.length l.length] 27 false):=⟨_,rfl⟩
         have cY:Y[p4]? = some (.cells [.slice (some ⟨D.length,0,none⟩) l.length l.length] 27 false):=by rw [hY]; exact Xf hpF _
         have hEY:Ext (fun b=>b=p4) h Y:=(hEF.mono fun _ h=>h.elim).trans (by rw [hY]; exact Ext.set _ rfl)
         have hslY:IntSl Y (.slice (some ⟨D.length,0,none⟩) l.length l.length) (stkL on xs l.length):=hsl.same fun b hb=>by
          cases hb
          rw [hY,List.getElem?_set_ne (by omega)]
         refine Xu rfl ?_
         refine Zm ?_
         simp (maxSteps:=2000000) only [↓Za,↓Zb,↓Zc,vup,cond_true,cond_false,aop,Zf,ev,sput,Ze,Nat.reduceBEq,store1 (v':=.slice (some ⟨D.length,0,none⟩) l.length l.length) bS.fd Xy rfl]
         rw [← hY]
         refine hM [(0,u),(1,.pointer (some ⟨p1,0,none⟩)),(2,.pointer (some ⟨p2,0,none⟩)),(3,.pointer (some ⟨p3,0,none⟩)),(4,.pointer (some ⟨p4,0,none⟩)),(6,.bool false),(13,x),(14,.bool true),(15,Zd (Uy xs O.length:Nat)),(18,.slice (some ⟨D.length,0,none⟩) l.length l.length)] _ _ ?_ (by simp (maxSteps:=2000000) only [vup,cond_true,cond_false,Nat.reduceBEq])
         clear hM
         try clear M
         refine Zm ?_
         simp (maxSteps:=2000000) only [↓Za,↓Zl,↓Zu,↓Zb,↓Zc,vup,cond_true,cond_false,aop,Zf,ev,sput,Ze,Yf,Yi,Nat.reduceBEq,Zs,Xn,tup,tyf,Xl cY Xy,Option.isSome_some]
         exact .inr ⟨⟨stkL on xs l.length,_,by rw [stkL,List.length_map,List.length_range],hsms,hbt,cY,hslY⟩,hEY⟩
       | false =>
         refine Xh rfl ?_
         refine Zm ?_
         simp (maxSteps:=2000000) only [↓Zn,Zf]
         refine hM [(0,u),(1,.pointer (some ⟨p1,0,none⟩)),(2,.pointer (some ⟨p2,0,none⟩)),(3,.pointer (some ⟨p3,0,none⟩)),(4,.pointer (some ⟨p4,0,none⟩)),(6,.bool false),(13,x),(14,.bool true),(15,Zd (Uy xs O.length:Nat)),(18,.slice (some ⟨D.length,0,none⟩) l.length l.length)] _ _ ?_ (by simp (maxSteps:=2000000) only [vup,cond_true,cond_false,Nat.reduceBEq])
         clear hM
         try clear M
         refine Zm ?_
         simp (maxSteps:=2000000) only [↓Za,↓Zl,↓Zu,↓Zb,↓Zc,vup,cond_true,cond_false,aop,Zf,ev,sput,Ze,Yf,Yi,Nat.reduceBEq,Zs,Xn,tup,tyf,Xl bS.fd Xy,Option.isSome_some]
         exact .inl ⟨hEG'.trans (hED.trans hDS),fun xs' _ h=>by rw [hsol] at h; cases h; exact hbt⟩
end Go.Proofs.Tryd.Am.Be
namespace Go.Proofs.Tryd.Am.Be
open Go.Proofs.Tryd.Am
open Go.Am Bq
set_option maxRecDepth 100000
set_option maxHeartbeats 4000000
theorem intSl_shape {h:Zh} {v:Value} {xs:List Int} (hv:IntSl h v xs) : ∃ p n c,v = .slice p n c∧(xs≠[]→p.isSome=true):=by
 rcases hv with ⟨rfl,rfl⟩ | ⟨b,o,sp,cap,c,e,ro,rfl,_⟩
 · exact ⟨_,_,_,rfl,fun h=>absurd rfl h⟩
 · exact ⟨_,_,_,rfl,fun _=>rfl⟩
theorem intSl_no {h:Zh} {v:Value} {xs:List Int} {b:Nat} {e:TypeId} {ro:Bool} (hv:IntSl h v xs) (hne:xs≠[]) (hb:h[b]? = some (.cells [.slice none 0 0] e ro)):Yc v≠some b:=by
 rcases hv with ⟨rfl,rfl⟩ | ⟨b',o,sp,cap,c,e',ro',rfl,hc,hw,hx⟩
 · exact absurd rfl hne
 · intro hb'
   cases hb'
   have h0:=hx 0 (List.length_pos_iff.2 hne)
   simp only [view,hb,Blk.view,Option.bind_some,Option.some.injEq,Prod.mk.injEq] at hw
   obtain ⟨rfl,-,-⟩:=hw
   cases o with
   | zero=>simp [Zd] at h0
   | succ o=>simp at h0
def NoBeat (n:Nat) (l:List (Int×Int)) (on set:Nat):Prop:=∀ xs,(Zj on l.length).length=(Zj set n).length→Wu (Zj set n).length (Zj on l.length).length (sysG l (Zj set n) (Zj on l.length))=some xs→Uu n l (stkL on xs l.length)=false
structure BeatEnv1 (h:Zh) (pn p2 p3 p4:Nat) (n:Nat) (v f:Value) (l:List (Int×Int)):Prop where
 nb:h[pn]? = some (.cells [Zd (n:Nat)] 3 false)
 bl:h[p2]? = some (.cells [v] 46 false)
 bls:PairSl h v l
 tb:h[p3]? = some (.cells [Zd (n:Nat),v] 117 false)
 fd:h[p4]? = some (.cells [f] 27 false)
theorem BeatEnv1.ext {h h' : Zh} {pn p2 p3 p4 n:Nat} {v f:Value} {l:List (Int×Int)} (b:BeatEnv1 h pn p2 p3 p4 n v f l) (hE:Ext (fun _=>False) h h'):BeatEnv1 h' pn p2 p3 p4 n v f l :=
 ⟨(hE.2 _ (Yb b.nb) id).trans b.nb,(hE.2 _ (Yb b.bl) id).trans b.bl,b.bls.ext hE,(hE.2 _ (Yb b.tb) id).trans b.tb,(hE.2 _ (Yb b.fd) id).trans b.fd⟩
theorem s70_callW [Tabs Tryd.prog] {args:List Value} {h:Zh} {Q:Value→Zh→Prop} (hsz:args.length≤12) (hk:AWS Tryd.prog 12 s70 (Zs Tryd.prog [.tmp 6] Q) (Zp 0 args) h):ACall Tryd.prog 70 args h Q :=
 Yz Tryd.func70 rfl (enters_of Tryd.func70 (by kernel_rfl) rfl) rfl rfl (by decide) s70_strip s70_ok hsz hk
theorem try1_call [Tabs prog] {h:Zh} {pn p2 p3 p4 n:Nat} {u v:Value} {l:List (Int×Int)} {on:Nat} (b:BeatEnv1 h pn p2 p3 p4 n v (.slice none 0 0) l) (hu:IntSl h u (Vo (Zj on l.length))) (hval:validB n l=true) (hon1:1≤on) (hon:on<2 ^ l.length) :
  ACall prog 70 [u,.pointer (some ⟨pn,0,none⟩),.pointer (some ⟨p2,0,none⟩),.pointer (some ⟨p3,0,none⟩),.pointer (some ⟨p4,0,none⟩)] h fun r h' =>
   (r = .bool true∧Ext (fun _=>False) h h'∧∀ set,1≤set→set<2 ^ n→NoBeat n l on set)∨(r = .bool false∧FoundAt n l p4 h'∧Ext (fun b=>b=p4) h h'):=by
 obtain ⟨hn2,hn5,hl1,hl6,hok⟩:=Vp hval
 obtain ⟨p,m,c,rfl,-⟩:=intSl_shape hu
 obtain ⟨H,hH⟩ : ∃ H,H=h++[Blk.cells [.slice p m c] 27 false]:=⟨_,rfl⟩
 have hE:Ext (fun _=>False) h H:=by rw [hH]; exact Ext.app _ _ _
 have c5:H[h.length]? = some (.cells [.slice p m c] 27 false):=by rw [hH]; exact Zr _ _
 have hbx : ∀ {K:Value→Zh→Prop},boxK prog h 27 (.slice p m c) K=K (Yg h) H:=fun {K}=>by
  rw [hH]; simp [boxK,esz_27,Yg,cellsOf]
 have b1:=b.ext hE
 have bE:BeatEnv H h.length p2 p3 p4 n v (.slice p m c) (.slice none 0 0) l (Zj on l.length):=⟨c5,iExt hu hE,b1.bl,b1.bls,b1.tb,b1.fd⟩
 have hO1:1≤(Zj on l.length).length:=worldsN_pos hon1 hon
 have ch:=chosen_call (h:=H) (n:=n) (fn:=71) (cap:=#[.pointer (some ⟨h.length,0,none⟩),.pointer (some ⟨p2,0,none⟩),.pointer (some ⟨p3,0,none⟩),.pointer (some ⟨p4,0,none⟩)]) (by omega)
  (fun k h'=>Ext (fun _=>False) H h'∧∀ set,1≤set→set<k→NoBeat n l on set) (fun h'=>FoundAt n l p4 h'∧Ext (fun b=>b=p4) H h')
  (fun k h1 h2 hI hE2=>⟨hI.1.trans hE2,hI.2⟩)
  (fun set hs1 hs2 h1 w hI hw hlen=>(try_call (on:=on) rfl (bE.ext hI.1) hw hval hO1 (Nat.le_trans (Uf _ _) hl6) (Nat.le_trans (Uf _ _) hn5) (fun c hc=>(Xo hc).2.1) (fun r hr=>(Xo hr).2.1)).mono fun r h2 hr=>by
   rcases hr with ⟨rfl,hE2,hno⟩ | ⟨rfl,hfd,hE2⟩
   · refine ⟨hE2.1,true,rfl,fun _=>⟨hI.1.trans hE2,fun set' h3 h4=>?_⟩,fun h=>by cases h⟩
     by_cases he:set' = set
     · subst he; exact hno
     · exact hI.2 set' h3 (by omega)
   · exact ⟨hE2.1,false,rfl,fun h=>(by cases h),fun _=>⟨hfd,(hI.1.mono fun _ h=>h.elim).trans hE2⟩⟩)
  ⟨Ext.refl _ _,fun set h1 h2=>absurd h2 (by omega)⟩
 refine s70_callW (by simp) ?_
 simp only [s70]
 refine Zg fun N1 hN1=>?_
 simp (maxSteps:=2000000) only [↓Za,↓Zb,↓Zc,vup,cond_true,cond_false,aop,Zf,Zp,ev,sput,Ze,Nat.reduceBEq,Nat.reduceAdd,hbx,Yg]
 refine hN1 [(0,.slice p m c),(1,.pointer (some ⟨pn,0,none⟩)),(2,.pointer (some ⟨p2,0,none⟩)),(3,.pointer (some ⟨p3,0,none⟩)),(4,.pointer (some ⟨p4,0,none⟩)),(5,.pointer (some ⟨h.length,0,none⟩)),(6,.bool false)] _ _ ?_ (by simp (maxSteps:=2000000) only [vup,cond_true,cond_false,Nat.reduceBEq])
 clear hN1
 try clear N1
 refine Zg fun N2 hN2=>?_
 simp (maxSteps:=2000000) only [↓Za,↓Zb,↓Zc,vup,List.map_cons,List.map_nil,cond_true,cond_false,aop,Zf,ev,sput,Ze,Nat.reduceBEq,Xl b1.nb Yy,Yn,List.nil_append,List.append_nil,List.map_toArray]
 refine ch.mono ?_
 rintro r G ⟨hlen,hor⟩
 refine hN2 [(0,.slice p m c),(1,.pointer (some ⟨pn,0,none⟩)),(2,.pointer (some ⟨p2,0,none⟩)),(3,.pointer (some ⟨p3,0,none⟩)),(4,.pointer (some ⟨p4,0,none⟩)),(5,.pointer (some ⟨h.length,0,none⟩)),(6,.bool false)] _ _ ?_ (by simp (maxSteps:=2000000) only [vup,cond_true,cond_false,Nat.reduceBEq])
 clear hN2
 try clear N2
 refine Zm ?_
 rcases hor with ⟨hEG,hno⟩ | ⟨hfd,hEG⟩
 · simp (maxSteps:=2000000) only [↓Za,↓Zl,↓Zu,↓Zb,↓Zc,vup,cond_true,cond_false,aop,Zf,ev,sput,Ze,Yf,Yi,Nat.reduceBEq,Zs,Xn,tup,tyf,Xl (b1.ext hEG).fd Xy,Option.isSome_some]
   exact .inl ⟨hE.trans hEG,hno⟩
 · obtain ⟨ss,x,hl,hsm,hbt,cx,hx⟩:=hfd
   obtain ⟨p',m',c',rfl,hp⟩:=intSl_shape hx
   have hps:=hp (by rintro rfl; simp at hl; omega)
   obtain ⟨a,rfl⟩:=Option.isSome_iff_exists.1 hps
   simp (maxSteps:=2000000) only [↓Za,↓Zl,↓Zu,↓Zb,↓Zc,vup,cond_true,cond_false,aop,Zf,ev,sput,Ze,Yf,Yi,Nat.reduceBEq,Zs,Xn,tup,tyf,Xl cx Xy,Option.isSome_some]
   exact .inr ⟨⟨ss,_,hl,hsm,hbt,cx,hx⟩,(hE.mono fun _ h=>h.elim).trans hEG⟩
def BeatIs (n:Int) (l:List (Int×Int)) (h' : Zh) (x:Value) (e:Int):Prop :=
 if validB n l=true then (if Wl n.toNat l=[] then e=0∧∃ ss,ss.length=l.length∧SmS ss∧Uu n.toNat l ss=true∧IntSl h' x ss else x = .slice none 0 0∧e=4) else x = .slice none 0 0∧e=2
theorem cts_evs {n:Nat} {l:List (Int×Int)} (hval:validB n l=true):Evs n l:=fun i hi=>by
 obtain ⟨hn2,hn5,hl1,hl6,hok⟩:=Vp hval
 have:=hok i hi
 simp only [okB,Bool.and_eq_true,decide_eq_true_eq] at this
 have h2:((2 ^ n:Nat):Int)=2 ^ n:=by simp
 omega
theorem bldK0 {K:Value→Prop}:Wv prog 61 [] K=K (.agg #[.slice none 0 0]):=by
 simp [Wv,zero_61,Vx,pl_61_0]
theorem bldK {p:Option Addr} {m c:Nat} {K:Value→Prop}:Wv prog 61 [(0,.slice p m c)] K=K (.agg #[.slice p m c]):=by
 simp [Wv,zero_61,Vx,pl_61_0,Wk,cellsOf,Yk]
theorem storeK1 {h:Zh} {b:Nat} {p:Option Addr} {m k:Nat} {e:TypeId} {c:List Value} {K:Zh→Prop} (hb:h[b]? = some (.cells c e false)) (hc:c.length=1):Xq prog h 61 (.pointer (some ⟨b,0,none⟩)) (.agg #[.slice p m k]) K=K (h.set b (.cells [.slice p m k] e false)) :=
 storeA (vs:=[.slice p m k]) hb (by rw [shp_61]; rfl) rfl (by rw [hc]; rfl)
theorem loadK1 {h:Zh} {b:Nat} {v:Value} {K:Value→Prop} (hb:h[b]? = some (.cells [v] 61 false)):Xs prog h 61 (.pointer (some ⟨b,0,none⟩)) K=K (.agg #[v]) :=
 loadA hb (by rw [shp_61]; rfl)
theorem s30_callW [Tabs Tryd.prog] {args:List Value} {h:Zh} {Q:Value→Zh→Prop} (hsz:args.length≤24) (hk:AWS Tryd.prog 24 s30 (Zs Tryd.prog [.cell 4 61,.tmp 5] Q) (Zp 0 args) h):ACall Tryd.prog 30 args h Q :=
 Yz Tryd.func30 rfl (enters_of Tryd.func30 (by kernel_rfl) rfl) rfl rfl (by decide) s30_strip s30_ok hsz hk
theorem beat_call [Tabs prog] {h:Zh} {n:Int} {v:Value} {l:List (Int×Int)} (hv:PairSl h v l) (hl:l.length<9223372036854775808) :
  ACall prog 30 [Zd n,v] h fun r h'=>Ext (fun _=>False) h h'∧∃ x e,r = .tuple #[.agg #[x],.int .i64 e]∧BeatIs n l h' x e:=by
 obtain ⟨p,m,c,rfl⟩:=Uq hv
 obtain ⟨H3,hH3⟩ : ∃ H,H=h++[Blk.cells [Zd n] 3 false]++[Blk.cells [.slice p m c] 46 false]++[Blk.cells [.slice none 0 0] 61 false]:=⟨_,rfl⟩
 have l3:H3.length=h.length+3:=by rw [hH3]; simp
 have hE3:Ext (fun _=>False) h H3:=by rw [hH3]; exact e3 ..
 have a2:H3[h.length]? = some (.cells [Zd n] 3 false):=by rw [hH3]; exact b3_0 ..
 have a3:H3[h.length+1]? = some (.cells [.slice p m c] 46 false):=by rw [hH3]; exact b3_1 ..
 have a4:H3[h.length+2]? = some (.cells [.slice none 0 0] 61 false):=by rw [hH3]; exact b3_2 ..
 obtain ⟨H,hH⟩ : ∃ H,H=H3++[Blk.cells [Zd n,.slice p m c] 117 false]:=⟨_,rfl⟩
 have hE6:Ext (fun _=>False) H3 H:=by rw [hH]; exact Ext.app _ _ _
 have c6:H[H3.length]? = some (.cells [Zd n,.slice p m c] 117 false):=by rw [hH]; exact Zr _ _
 have lH:H.length=h.length+4:=by rw [hH]; simp [l3]
 have c4:H[h.length+2]? = some (.cells [.slice none 0 0] 61 false):=(hE6.2 _ (Yb a4) id).trans a4
 have hE:=hE3.trans hE6
 have hvH:=hv.ext hE
 have bx3 : ∀ {h:Zh} {K:Value→Zh→Prop},boxK prog h 3 (Zd n) K=K (Yg h) (h++[Blk.cells [Zd n] 3 false]):=fun {h K}=>by
  simp [boxK,Wm,Yg,cellsOf]
 have bx30 : ∀ {h:Zh} {K:Value→Zh→Prop},boxK prog h 46 (.slice p m c) K=K (Yg h) (h++[Blk.cells [.slice p m c] 46 false]):=fun {h K}=>by
  simp [boxK,esz_46,Yg,cellsOf]
 refine s30_callW (by simp) ?_
 simp only [s30]
 refine Zg fun N3 hN3=>?_
 simp (maxSteps:=2000000) only [↓Za,↓Zb,↓Zc,vup,cond_true,cond_false,aop,Zf,Zp,ev,sput,Ze,Nat.reduceBEq,Nat.reduceAdd,tyf,bx3,bx30,Yg,Xg,List.length_append,List.length_singleton,Nat.add_assoc,Nat.reduceAdd]
 rw [← hH3]
 refine hN3 [(2,.pointer (some ⟨h.length,0,none⟩)),(3,.pointer (some ⟨h.length+1,0,none⟩)),(4,.pointer (some ⟨h.length+2,0,none⟩)),(5,.int .i64 0)] _ _ ?_ (by simp (maxSteps:=2000000) only [vup,cond_true,cond_false,Nat.reduceBEq])
 clear hN3
 try clear N3
 refine Zg fun N4 hN4=>?_
 simp (maxSteps:=2000000) only [↓Za,↓Zb,↓Zc,vup,List.map_cons,List.map_nil,cond_true,cond_false,aop,Zf,ev,sput,Ze,Nat.reduceBEq,tyf,Xl a2 Yy,Xl a3 shp_46,bldT,Xg,Yg,storeT (Zr H3 (.cells [.int .i64 0,.slice none 0 0] 117 false)) rfl,set_new]
 rw [← hH]
 refine hN4 [(2,.pointer (some ⟨h.length,0,none⟩)),(3,.pointer (some ⟨h.length+1,0,none⟩)),(4,.pointer (some ⟨h.length+2,0,none⟩)),(5,.int .i64 0),(6,.pointer (some ⟨H3.length,0,none⟩))] _ _ ?_ (by simp (maxSteps:=2000000) only [vup,cond_true,cond_false,Nat.reduceBEq])
 clear hN4
 try clear N4
 refine Zt fun M hM=>?_
 refine Zg fun N5 hN5=>?_
 simp (maxSteps:=2000000) only [↓Za,↓Zb,↓Zc,vup,List.map_cons,List.map_nil,cond_true,cond_false,aop,Zf,ev,sput,Ze,unK,Nat.reduceBEq,Yn,List.nil_append,List.append_nil,loadT c6]
 refine (valid_call hvH hl).mono ?_
 rintro _ H ⟨rfl,rfl⟩
 refine hN5 [(2,.pointer (some ⟨h.length,0,none⟩)),(3,.pointer (some ⟨h.length+1,0,none⟩)),(4,.pointer (some ⟨h.length+2,0,none⟩)),(5,.int .i64 0),(6,.pointer (some ⟨H3.length,0,none⟩)),(13,.bool (!validB n l))] _ _ ?_ (by simp (maxSteps:=2000000) only [vup,cond_true,cond_false,Nat.reduceBEq])
 clear hN5
 try clear N5
 cases hval:validB n l with
 | false =>
   refine Xu rfl ?_
   refine Zm ?_
   obtain ⟨Y,hY⟩ : ∃ Z,Z=H.set (h.length+2) (.cells [.slice none 0 0] 61 false):=⟨_,rfl⟩
   have cY:Y[h.length+2]? = some (.cells [.slice none 0 0] 61 false):=by rw [hY]; exact Xf (Yb c4) _
   simp (maxSteps:=2000000) only [↓Za,↓Zl,↓Zu,↓Zb,↓Zc,vup,List.map_nil,cond_true,cond_false,aop,Zf,ev,sput,Ze,Nat.reduceBEq,Zs,Xn,tup,bldK0,storeK1 c4 rfl]
   rw [← hY]
   simp (maxSteps:=2000000) only [loadK1 cY]
   exact ⟨by rw [hY]; exact hE.set_ge (by omega) _,_,_,rfl,by rw [BeatIs,if_neg (by simp [hval])]; exact ⟨rfl,rfl⟩⟩
 | true =>
   have hn:n=(n.toNat:Int):=by
    simp only [validB,Bool.and_eq_true,decide_eq_true_eq] at hval; omega
   obtain ⟨k,hk⟩ : ∃ k:Nat,n=k:=⟨n.toNat,hn⟩
   subst hk
   obtain ⟨hn2,hn5,hl1,hl6,hok⟩:=Vp hval
   refine Xh rfl ?_
   refine Zm ?_
   simp (maxSteps:=2000000) only [↓Zn,vup,Zf]
   refine hM [(2,.pointer (some ⟨h.length,0,none⟩)),(3,.pointer (some ⟨h.length+1,0,none⟩)),(4,.pointer (some ⟨h.length+2,0,none⟩)),(5,.int .i64 0),(6,.pointer (some ⟨H3.length,0,none⟩))] _ _ ?_ (by simp (maxSteps:=2000000) only [vup,cond_true,cond_false,Nat.reduceBEq])
   clear hM
   try clear M
   obtain ⟨G,hG⟩ : ∃ G,G=H++[Blk.cells [.slice none 0 0] 27 false]:=⟨_,rfl⟩
   have hEG:Ext (fun _=>False) H G:=by rw [hG]; exact Ext.app _ _ _
   have c7:G[H.length]? = some (.cells [.slice none 0 0] 27 false):=by rw [hG]; exact Zr _ _
   have bE:BeatEnv1 G h.length (h.length+1) H3.length H.length k (.slice p m c) (.slice none 0 0) l :=
    ⟨((hE6.trans hEG).2 _ (Yb a2) id).trans a2,((hE6.trans hEG).2 _ (Yb a3) id).trans a3,hvH.ext hEG,(hEG.2 _ (Yb c6) id).trans c6,c7⟩
   have ch:=chosen_call (h:=G) (n:=l.length) (fn:=70) (cap:=#[.pointer (some ⟨h.length,0,none⟩),.pointer (some ⟨h.length+1,0,none⟩),.pointer (some ⟨H3.length,0,none⟩),.pointer (some ⟨H.length,0,none⟩)]) hl6
    (fun a h'=>Ext (fun _=>False) G h'∧∀ on,1≤on→on<a→∀ set,1≤set→set<2 ^ k→NoBeat k l on set) (fun h'=>FoundAt k l H.length h'∧Ext (fun b=>b=H.length) G h')
    (fun a h1 h2 hI hE2=>⟨hI.1.trans hE2,hI.2⟩)
    (fun on hs1 hs2 h1 w hI hw hlen=>(try1_call (on:=on) (bE.ext hI.1) hw hval hs1 hs2).mono fun r h2 hr=>by
     rcases hr with ⟨rfl,hE2,hno⟩ | ⟨rfl,hfd,hE2⟩
     · refine ⟨hE2.1,true,rfl,fun _=>⟨hI.1.trans hE2,fun on' h3 h4=>?_⟩,fun h=>by cases h⟩
       by_cases he:on' = on
       · subst he; exact hno
       · exact hI.2 on' h3 (by omega)
     · exact ⟨hE2.1,false,rfl,fun h=>(by cases h),fun _=>⟨hfd,(hI.1.mono fun _ h=>h.elim).trans hE2⟩⟩)
    ⟨Ext.refl _ _,fun on h1 h2=>absurd h2 (by omega)⟩
   refine Zg fun N6 hN6=>?_
   simp (maxSteps:=2000000) only [↓Za,↓Zb,↓Zc,vup,cond_false,aop,Zf,sput,Ze,Nat.reduceBEq,tyf,Xg,Yg]
   rw [← hG]
   refine hN6 [(2,.pointer (some ⟨h.length,0,none⟩)),(3,.pointer (some ⟨h.length+1,0,none⟩)),(4,.pointer (some ⟨h.length+2,0,none⟩)),(5,.int .i64 0),(6,.pointer (some ⟨H3.length,0,none⟩)),(7,.pointer (some ⟨H.length,0,none⟩))] _ _ ?_ (by simp (maxSteps:=2000000) only [vup,cond_true,cond_false,Nat.reduceBEq])
   clear hN6
   try clear N6
   refine Zg fun N7 hN7=>?_
   simp (maxSteps:=2000000) only [↓Za,↓Zb,↓Zc,vup,List.map_cons,List.map_nil,cond_true,cond_false,aop,Zf,ev,sput,Ze,Zi,Nat.reduceBEq,tyf,Xl bE.bl shp_46,bE.bls.len,Yn,List.nil_append,List.append_nil,List.map_toArray]
   refine ch.mono ?_
   rintro r F ⟨hlen,hor⟩
   refine hN7 [(2,.pointer (some ⟨h.length,0,none⟩)),(3,.pointer (some ⟨h.length+1,0,none⟩)),(4,.pointer (some ⟨h.length+2,0,none⟩)),(5,.int .i64 0),(6,.pointer (some ⟨H3.length,0,none⟩)),(7,.pointer (some ⟨H.length,0,none⟩))] _ _ ?_ (by simp (maxSteps:=2000000) only [vup,cond_true,cond_false,Nat.reduceBEq])
   clear hN7
   try clear N7
   have his : ∀ x e h',BeatIs (k:Int) l h' x e↔(if Wl k l=[] then e=0∧∃ ss,ss.length=l.length∧SmS ss∧Uu k l ss=true∧IntSl h' x ss else x = .slice none 0 0∧e=4):=fun x e h'=>by rw [BeatIs,if_pos hval,Int.toNat_natCast]
   rcases hor with ⟨hEF,hno⟩ | ⟨hfd,hEF⟩
   · have hne:Wl k l≠[]:=fun h0=>by
      obtain ⟨on,set,xs,h1,h2,h3,h4,h5,h6,h7⟩:=beat_ex (by omega) (cts_evs hval) h0
      rw [hno on h1 h2 set h3 h4 xs h5.symm h6] at h7
      cases h7
     have c4F:F[h.length+2]? = some (.cells [.slice none 0 0] 61 false):=((hEG.trans hEF).2 _ (Yb c4) id).trans c4
     refine Zt fun N hN=>?_
     refine Zg fun N8 hN8=>?_
     simp (maxSteps:=2000000) only [↓Za,↓Zb,↓Zc,vup,cond_true,cond_false,aop,Zf,ev,sput,Ze,Yf,Yi,Nat.reduceBEq,tyf,Xl (bE.ext hEF).fd Xy,Option.isSome_some]
     refine hN8 [(2,.pointer (some ⟨h.length,0,none⟩)),(3,.pointer (some ⟨h.length+1,0,none⟩)),(4,.pointer (some ⟨h.length+2,0,none⟩)),(5,.int .i64 0),(6,.pointer (some ⟨H3.length,0,none⟩)),(7,.pointer (some ⟨H.length,0,none⟩)),(20,.bool true)] _ _ ?_ (by simp (maxSteps:=2000000) only [vup,cond_true,cond_false,Nat.reduceBEq])
     clear hN8
     try clear N8
     refine Xu rfl ?_
     refine Zm ?_
     obtain ⟨Y,hY⟩ : ∃ Z,Z=F.set (h.length+2) (.cells [.slice none 0 0] 61 false):=⟨_,rfl⟩
     have cY:Y[h.length+2]? = some (.cells [.slice none 0 0] 61 false):=by rw [hY]; exact Xf (Yb c4F) _
     simp (maxSteps:=2000000) only [↓Za,↓Zl,↓Zu,↓Zb,↓Zc,vup,List.map_nil,cond_true,cond_false,aop,Zf,ev,sput,Ze,Nat.reduceBEq,Zs,Xn,tup,bldK0,storeK1 c4F rfl]
     rw [← hY]
     simp (maxSteps:=2000000) only [loadK1 cY]
     exact ⟨by rw [hY]; exact ((hE.trans hEG).trans hEF).set_ge (by omega) _,_,_,rfl,(his _ _ _).2 (by rw [if_neg hne]; exact ⟨rfl,rfl⟩)⟩
   · obtain ⟨ss,x,hsl,hsm,hbt,cx,hx⟩:=hfd
     obtain ⟨p',m',c',rfl,hp⟩:=intSl_shape hx
     have hps:=hp (by rintro rfl; simp at hsl; omega)
     obtain ⟨a,rfl⟩:=Option.isSome_iff_exists.1 hps
     have hne:Wl k l=[]:=beats_unsound (cts_evs hval) hbt
     have lG:G.length=H.length+1:=by rw [hG]; simp
     have c4G:G[h.length+2]? = some (.cells [.slice none 0 0] 61 false):=(hEG.2 _ (Yb c4) id).trans c4
     have c4F:F[h.length+2]? = some (.cells [.slice none 0 0] 61 false):=(hEF.2 _ (Yb c4G) (by omega)).trans c4G
     have hEF2:Ext (fun _=>False) h F:=⟨by have:=hEF.1; omega,fun i hi _=>(hEF.2 i (by omega) (by omega)).trans ((hE.trans hEG).2 i hi id)⟩
     refine Zt fun N hN=>?_
     refine Zg fun N9 hN9=>?_
     simp (maxSteps:=2000000) only [↓Za,↓Zb,↓Zc,vup,cond_true,cond_false,aop,Zf,ev,sput,Ze,Yf,Yi,Nat.reduceBEq,tyf,Xl cx Xy,Option.isSome_some]
     refine hN9 [(2,.pointer (some ⟨h.length,0,none⟩)),(3,.pointer (some ⟨h.length+1,0,none⟩)),(4,.pointer (some ⟨h.length+2,0,none⟩)),(5,.int .i64 0),(6,.pointer (some ⟨H3.length,0,none⟩)),(7,.pointer (some ⟨H.length,0,none⟩)),(20,.bool false)] _ _ ?_ (by simp (maxSteps:=2000000) only [vup,cond_true,cond_false,Nat.reduceBEq])
     clear hN9
     try clear N9
     refine Xh rfl ?_
     refine Zm ?_
     simp (maxSteps:=2000000) only [↓Zn,Zf]
     refine hN [(2,.pointer (some ⟨h.length,0,none⟩)),(3,.pointer (some ⟨h.length+1,0,none⟩)),(4,.pointer (some ⟨h.length+2,0,none⟩)),(5,.int .i64 0),(6,.pointer (some ⟨H3.length,0,none⟩)),(7,.pointer (some ⟨H.length,0,none⟩)),(20,.bool false)] _ _ ?_ (by simp (maxSteps:=2000000) only [vup,cond_true,cond_false,Nat.reduceBEq])
     clear hN
     try clear N
     obtain ⟨Y,hY⟩ : ∃ Z,Z=F.set (h.length+2) (.cells [.slice (some a) m' c'] 61 false):=⟨_,rfl⟩
     have cY:Y[h.length+2]? = some (.cells [.slice (some a) m' c'] 61 false):=by rw [hY]; exact Xf (Yb c4F) _
     have hxY:IntSl Y (.slice (some a) m' c') ss:=hx.same fun b hb=>by
      have hne':=intSl_no hx (by rintro rfl; simp at hsl; omega) c4F
      rw [hY,List.getElem?_set_ne (fun he=>hne' (by rw [hb,he]))]
     refine Zm ?_
     simp (maxSteps:=2000000) only [↓Za,↓Zl,↓Zu,↓Zb,↓Zc,vup,List.map_cons,List.map_nil,cond_true,cond_false,aop,Zf,ev,sput,Ze,Nat.reduceBEq,Zs,Xn,tup,Xl cx Xy,bldK,storeK1 c4F rfl]
     rw [← hY]
     simp (maxSteps:=2000000) only [loadK1 cY]
     exact ⟨by rw [hY]; exact hEF2.set_ge (by omega) _,_,_,rfl,(his _ _ _).2 (by rw [if_pos hne]; exact ⟨rfl,ss,hsl,hsm,hbt,hxY⟩)⟩
end Go.Proofs.Tryd.Am.Be
namespace Go.Proofs.Tryd.Am.Be
open Go.Proofs.Tryd.Am
open Go.Am Bq
set_option maxRecDepth 100000
set_option maxHeartbeats 4000000
def CornSlR (h:Zh) (v:Value) (cs:List (List Rat)):Prop:=∃ ws,OwnV 43 h v ws∧Each (BelAt h) ws cs
theorem CornSlR.ext {h h' : Zh} {v:Value} {cs:List (List Rat)} (c:CornSlR h v cs) (hE:Ext (fun _=>False) h h'):CornSlR h' v cs:=by
 obtain ⟨ws,h1,h2⟩:=c
 exact ⟨ws,h1.ext hE,h2.imp fun w b ⟨bl,g1,g2⟩=>⟨bl,g1,(hE.2 _ (Yb g2) id).trans g2⟩⟩
end Go.Proofs.Tryd.Am.Be
namespace Go.Proofs.Tryd.Am.Be
open Go.Proofs.Tryd.Am
open Go.Am Bq
set_option maxRecDepth 100000
set_option maxHeartbeats 4000000
end Go.Proofs.Tryd.Am.Be
namespace Go.Proofs.Tryd.Am.Be
open Go.Proofs.Tryd.Am
open Go.Am Bq
set_option maxRecDepth 100000
set_option maxHeartbeats 4000000
theorem beat_valid {k:Nat} {l:List (Int×Int)} {h:Zh} {x:Value} {e:Int} (hval:validB k l=true) (hb:BeatIs (k:Int) l h x e):(Wl k l=[]∧e=0∧∃ ss,ss.length=l.length∧SmS ss∧Uu k l ss=true∧IntSl h x ss)∨(Wl k l≠[]∧x = .slice none 0 0∧e=4):=by
 rw [BeatIs,if_pos hval,Int.toNat_natCast] at hb
 by_cases hc:Wl k l=[]
 · rw [if_pos hc] at hb; exact .inl ⟨hc,hb⟩
 · rw [if_neg hc] at hb; exact .inr ⟨hc,hb⟩
end Go.Proofs.Tryd.Am.Be
namespace Go.Proofs.Tryd.Am.Be
open Go.Proofs.Tryd.Am
open Go.Am Bq
set_option maxRecDepth 100000
set_option maxHeartbeats 4000000
def SmQ (q:Rat):Prop:=0≤q∧q≤1∧q.den≤720
theorem SmQ.num {q:Rat} (h:SmQ q):0≤q.num∧q.num≤720:=by
 have h0:=Rat.num_nonneg.2 h.1
 have h1:=h.2.1
 rw [Rat.le_iff] at h1
 have h2:=h.2.2
 have h3:q.num≤(q.den:Int):=by simpa using h1
 omega
theorem BelAt.ext {h h' : Zh} {w:Value} {b:List Rat} (hb:BelAt h w b) (hE:Ext (fun _=>False) h h'):BelAt h' w b:=by
 obtain ⟨bl,h1,h2⟩:=hb
 exact ⟨bl,h1,(hE.2 _ (Yb h2) id).trans h2⟩
end Go.Proofs.Tryd.Am.Be
namespace Go.Proofs.Tryd.Am.Be
open Go.Proofs.Tryd.Am
open Go.Am Bq
set_option maxRecDepth 100000
set_option maxHeartbeats 4000000
def ClS (h:Zh) (r:Value) (l:List (Int×Int)):Prop:=OwnP 51 h r l∨(l=[]∧∃ b,r = .slice (some ⟨b,0,none⟩) 0 0∧h[b]? = some (.ints [] 51 false))
theorem ClS.ext {h h' : Zh} {r:Value} {l:List (Int×Int)} (c:ClS h r l) (hE:Ext (fun _=>False) h h'):ClS h' r l:=by
 rcases c with c | ⟨rfl,b,rfl,hb⟩
 · exact .inl (c.ext hE)
 · exact .inr ⟨rfl,b,rfl,(hE.2 _ (Yb hb) id).trans hb⟩
theorem ClS.app [Tabs prog] {h:Zh} {r:Value} {l:List (Int×Int)} {x y:Int} {b2 c2:Nat} {c:Bool} (hc:ClS h r l) (hl:l.length*16≤140737488351232) (hb2:h[b2]? = some (.ints [x,y] 51 c)) {h0:Nat} (hb : ∀ b,Yc r=some b→h0≤b) {K:Value→Zh→Prop}
  (hk : ∀ v' h',OwnP 51 h' v' (l++[(x,y)])→Ext (fun b=>h0≤b) h h'→K v' h'):Ys prog h 46 46 r (.slice (some ⟨b2,0,none⟩) 1 c2) K:=by
 rcases hc with hc | ⟨rfl,b,rfl,hb0⟩
 · exact OwnP.appendW hc app_46_46 (by omega) hb2 fun v' h' ho hE _=>hk v' h' ho (hE.mono fun b hbb=>hb b hbb)
 · exact appendE app_46_46 hb0 hb2 fun v' h' ho hE=>hk v' h' ho (hE.mono fun _ hf=>hf.elim)
theorem cloneR_det [Tabs prog] {h:Zh} {v:Value} {l:List (Int×Int)} (hv:PairSl h v l) (hl:l.length*16≤140737488351232) :
  ∃ r h',ADet prog 28 [v] h r h'∧Ext (fun _=>False) h h'∧ClS h' r l∧∀ b,Yc r=some b→h.length≤b:=by
 have hv':=hv
 rcases hv with ⟨rfl,rfl⟩ | ⟨b,o,sp,cap,c,e,ro,rfl,hc,hb,hx⟩
 · refine ⟨.slice none 0 0,h,?_,Ext.refl _ _,.inl (.inl ⟨rfl,rfl⟩),fun b hb=>by cases hb⟩
   refine s28_call (by simp) ?_
   simp (maxSteps:=2000000) only [s28,↓Za,↓Zl,↓Zu,↓Zb,↓Zc,↓vdn,vup,cond_true,cond_false,aop,Zf,Zp,ev,sput,Ze,Yf,Nat.reduceBEq,Zs,Xn,tup,tyf,Option.isSome_some]
 · by_cases hnil:l=[]
   · subst hnil
     refine ⟨.slice (some ⟨h.length,0,none⟩) 0 0,h++[.ints [] 51 false],?_,Ext.app _ _ _,.inr ⟨rfl,_,rfl,Zr _ _⟩,fun b hb=>by cases hb; exact Nat.le_refl _⟩
     refine s28_call (by simp) ?_
     simp (maxSteps:=2000000) only [s28,↓Za,↓Zn,↓Zl,↓Zu,↓Zb,↓Zc,↓vdn,vup,List.map_cons,List.map_nil,cond_true,cond_false,aop,Zf,Zp,ev,sput,Ze,Yf,Zi,Nat.reduceBEq,Zs,Xn,tup,tyf,Option.isSome_some]
     simp only [Yj,el_46,zero_51,esz_51,reps,Vx,mkb,Yv]
     refine And.intro rfl (And.intro (by decide) (And.intro (Nat.zero_le _) ?_))
     refine (hv'.grow [.ints [] 51 false]).copyE app_46_46 ?_
     exact ⟨rfl,rfl⟩
   · refine ⟨.slice (some ⟨h.length+1,0,some 0⟩) l.length l.length,h++[.ints [] 51 false]++[.ints (Ye l) 51 false],?_,by rw [List.append_assoc]; exact Ext.app _ _ _,.inl (.inr ⟨h.length+1,[],by simp,?_⟩),fun b hb=>by cases hb; omega⟩
     · refine s28_call (by simp) ?_
       simp (maxSteps:=2000000) only [s28,↓Za,↓Zn,↓Zl,↓Zu,↓Zb,↓Zc,↓vdn,vup,List.map_cons,List.map_nil,cond_true,cond_false,aop,Zf,Zp,ev,sput,Ze,Yf,Zi,Nat.reduceBEq,Zs,Xn,tup,tyf,Option.isSome_some]
       simp only [Yj,el_46,zero_51,esz_51,reps,Vx,mkb,Yv]
       refine And.intro rfl (And.intro (by decide) (And.intro (Nat.zero_le _) ?_))
       refine (hv'.grow [.ints [] 51 false]).copyD hnil app_46_46 (by omega) (by rw [List.getElem?_append_right (Nat.le_refl _)]; simp) ?_
       simp only [List.length_append,List.length_singleton]
       exact ⟨trivial,trivial⟩
     · have:=Zr (h++[Blk.ints [] 51 false]) (Blk.ints (Ye l) 51 false)
       rw [List.length_append,List.length_singleton] at this
       rw [this]; simp [Ye]
end Go.Proofs.Tryd.Am.Be
namespace Ord
theorem perm_of_nodup {α:Type} {l1 l2:List α} (h1:l1.Nodup) (h2:l2.Nodup) (h : ∀ a,a∈l1↔a∈l2):l1.Perm l2:=by
 classical
 induction l1 generalizing l2 with
 | nil =>
   cases l2 with
   | nil=>exact List.Perm.nil
   | cons b l=>exact absurd ((h b).2 (by simp)) (by simp)
 | cons a l ih =>
   have ha:a∈l2:=(h a).1 (by simp)
   obtain ⟨s,t,rfl⟩:=List.append_of_mem ha
   refine List.Perm.trans ?_ (List.perm_middle).symm
   refine List.Perm.cons a (ih (List.nodup_cons.1 h1).2 ?_ ?_)
   · exact (List.nodup_cons.1 ((List.perm_middle).nodup_iff.1 h2)).2
   · intro b
     have hb:=h b
     simp only [List.mem_cons,List.mem_append] at hb ⊢
     have hna:a ∉ l:=(List.nodup_cons.1 h1).1
     have hnt:a ∉ s++t:=(List.nodup_cons.1 ((List.perm_middle).nodup_iff.1 h2)).1
     constructor
     · intro hl
       have hba:b≠a:=fun e=>hna (e▸hl)
       rcases hb.1 (.inr hl) with h | h | h
       · exact .inl h
       · exact absurd h hba
       · exact .inr h
     · intro hst
       have hba:b≠a:=fun e=>hnt (e▸List.mem_append.2 hst)
       rcases hb.2 (hst.elim .inl fun h=>.inr (.inr h)) with h | h
       · exact absurd h hba
       · exact h
def Jf (r:Nat→Nat→Bool) (S:List Nat):List Nat:=S.filter fun i=>S.all fun j=>!r j i
def lines (r:Nat→Nat→Bool):Nat→List Nat→List (List Nat)
 | 0,_=>[[]]
 | k+1,S=>(Jf r S).flatMap fun i=>(lines r k (S.erase i)).map (i :: ·)
def cnt (r:Nat→Nat→Bool):Nat→List Nat→Nat
 | 0,_=>1
 | k+1,S=>((Jf r S).map fun i=>cnt r k (S.erase i)).sum
theorem sum_map_len {α β:Type} (f:α→List β) : ∀ l:List α,(l.flatMap f).length=(l.map fun a=>(f a).length).sum
 | []=>rfl
 | a::l=>by simp [sum_map_len f l]
theorem cnt_len (r:Nat→Nat→Bool) : ∀ k S,(lines r k S).length=cnt r k S
 | 0,_=>rfl
 | k+1,S=>by
   rw [lines,cnt,sum_map_len]
   simp [cnt_len r k]
theorem Un {r:Nat→Nat→Bool} {S:List Nat} {i:Nat}:i∈Jf r S↔i∈S∧∀ j∈S,r j i=false:=by
 simp [Jf]
theorem Up {r:Nat→Nat→Bool} (hr : ∀ i,r i i=false) : ∀ {k:Nat} {S:List Nat},S.length=k→∀ l,l∈lines r k S↔l.Perm S∧l.Pairwise (fun a b=>r b a=false)
 | 0,S,hS,l=>by
   rw [List.length_eq_zero_iff] at hS
   subst hS
   simp [lines]
   intro h; subst h; exact List.Pairwise.nil
 | k+1,S,hS,l=>by
   simp only [lines,List.mem_flatMap,List.mem_map,Un]
   constructor
   · rintro ⟨i,⟨hi,hm⟩,l',hl',rfl⟩
     have hlen:(S.erase i).length=k:=by rw [List.length_erase_of_mem hi]; omega
     obtain ⟨hp,hw⟩:=(Up hr hlen l').1 hl'
     refine ⟨(List.Perm.cons i hp).trans (List.perm_cons_erase hi).symm,List.pairwise_cons.2 ⟨fun b hb=>hm b (List.mem_of_mem_erase (hp.mem_iff.1 hb)),hw⟩⟩
   · rintro ⟨hp,hw⟩
     cases l with
     | nil=>have:=hp.length_eq; simp [hS] at this
     | cons i l' =>
       obtain ⟨h1,h2⟩:=List.pairwise_cons.1 hw
       have hi:i∈S:=hp.mem_iff.1 (by simp)
       have hp' : l'.Perm (S.erase i):=(List.perm_cons i).1 (hp.trans (List.perm_cons_erase hi))
       have hlen:(S.erase i).length=k:=by rw [List.length_erase_of_mem hi]; omega
       refine ⟨i,⟨hi,fun j hj=>?_⟩,l',(Up hr hlen l').2 ⟨hp',h2⟩,rfl⟩
       rcases List.mem_cons.1 (hp.mem_iff.2 hj) with rfl | h
       · exact hr j
       · exact h1 j h
theorem nodup_lines {r:Nat→Nat→Bool} : ∀ {k:Nat} {S:List Nat},S.Nodup→(lines r k S).Nodup
 | 0,S,_=>by simp [lines]
 | k+1,S,hS=>by
   rw [lines]
   have hf:(Jf r S).Nodup:=hS.filter _
   generalize Jf r S=F at hf
   induction F with
   | nil=>simp
   | cons i F ih =>
     rw [List.flatMap_cons]
     refine List.nodup_append.2 ⟨?_,ih (List.nodup_cons.1 hf).2,?_⟩
     · refine List.Pairwise.map (R:=(·≠·)) _ (fun a b hab he=>hab (List.cons.inj he).2) (nodup_lines (hS.erase i))
     · intro a ha b hb hab
       subst hab
       obtain ⟨x,-,rfl⟩:=List.mem_map.1 ha
       obtain ⟨j,hj,hx⟩:=List.mem_flatMap.1 hb
       obtain ⟨y,-,he⟩:=List.mem_map.1 hx
       obtain ⟨rfl,-⟩:=List.cons.inj he
       exact (List.nodup_cons.1 hf).1 hj
theorem cnt_flip {r:Nat→Nat→Bool} (hr : ∀ i,r i i=false) {S:List Nat} (hS:S.Nodup):cnt (fun i j=>r j i) S.length S=cnt r S.length S:=by
 rw [← cnt_len,← cnt_len]
 have hp:((lines r S.length S).map List.reverse).Perm (lines (fun i j=>r j i) S.length S):=by
  refine perm_of_nodup ?_ (nodup_lines hS) fun l=>?_
  · exact List.Pairwise.map (R:=(·≠·)) _ (fun a b hab he=>hab (List.reverse_inj.1 he)) (nodup_lines hS)
  · rw [Up (r:=fun i j=>r j i) hr rfl l,List.mem_map]
    constructor
    · rintro ⟨x,hx,rfl⟩
      obtain ⟨h1,h2⟩:=(Up hr rfl x).1 hx
      exact ⟨(List.reverse_perm x).trans h1,List.pairwise_reverse.2 h2⟩
    · rintro ⟨h1,h2⟩
      refine ⟨l.reverse,(Up hr rfl _).2 ⟨(List.reverse_perm l).trans h1,?_⟩,List.reverse_reverse l⟩
      exact List.pairwise_reverse.2 h2
 have:=hp.length_eq
 rw [List.length_map] at this
 exact this.symm
def addR (r:Nat→Nat→Bool) (i j:Nat):Nat→Nat→Bool:=fun a b=>r a b || ((a==i || r a i)&&(b==j || r j b))
structure Po (r:Nat→Nat→Bool):Prop where
 irr : ∀ i,r i i=false
 tr : ∀ i j k,r i j=true→r j k=true→r i k=true
theorem addR_po {r:Nat→Nat→Bool} (h:Po r) {i j:Nat} (hn:i≠j) (hji:r j i=false):Po (addR r i j):=by
 constructor
 · intro a
   simp only [addR,h.irr,Bool.false_or,Bool.and_eq_false_iff,Bool.or_eq_false_iff]
   cases h1:(a==i || r a i) with
   | false=>simp only [Bool.or_eq_false_iff] at h1; exact .inl h1
   | true =>
     refine .inr ?_
     simp only [Bool.or_eq_true,beq_iff_eq] at h1
     constructor
     · rw [beq_eq_false_iff_ne]
       rintro rfl
       rcases h1 with h1 | h1
       · exact hn h1.symm
       · rw [hji] at h1; cases h1
     · cases h2:r j a with
       | false=>rfl
       | true =>
         rcases h1 with rfl | h1
         · rw [hji] at h2; cases h2
         · rw [h.tr _ _ _ h2 h1] at hji; cases hji
 · intro a b c hab hbc
   simp only [addR,Bool.or_eq_true,Bool.and_eq_true,beq_iff_eq] at *
   rcases hab with hab | ⟨h1,h2⟩
   · rcases hbc with hbc | ⟨h3,h4⟩
     · exact .inl (h.tr _ _ _ hab hbc)
     · refine .inr ⟨.inr ?_,h4⟩
       rcases h3 with rfl | h3
       · exact hab
       · exact h.tr _ _ _ hab h3
   · rcases hbc with hbc | ⟨h3,h4⟩
     · refine .inr ⟨h1,.inr ?_⟩
       rcases h2 with rfl | h2
       · exact hbc
       · exact h.tr _ _ _ h2 hbc
     · exact .inr ⟨h1,h4⟩
theorem idx_ne {x y:Nat} (l:List Nat) (h:x≠y):(x::l).idxOf y=l.idxOf y+1:=by
 rw [List.idxOf_cons,show (x==y)=false by simpa using h]; rfl
def bef (l:List Nat) (i j:Nat):Bool:=decide (l.idxOf i<l.idxOf j)
theorem bef_pw {R:Nat→Nat→Prop} {l:List Nat} (hl:l.Nodup):l.Pairwise R↔∀ a∈l,∀ b∈l,bef l a b=true→R a b:=by
 induction l with
 | nil=>simp
 | cons x l ih =>
   have hx:=List.nodup_cons.1 hl
   rw [List.pairwise_cons,ih hx.2]
   simp only [bef,decide_eq_true_eq]
   constructor
   · rintro ⟨h1,h2⟩ a ha b hb hab
     by_cases hbx:b=x
     · subst hbx; simp [List.idxOf_cons_self] at hab
     have hbl:b∈l:=(List.mem_cons.1 hb).resolve_left hbx
     by_cases hax:a=x
     · subst hax; exact h1 b hbl
     have hal:a∈l:=(List.mem_cons.1 ha).resolve_left hax
     rw [idx_ne l (Ne.symm hax),idx_ne l (Ne.symm hbx)] at hab
     exact h2 a hal b hbl (by omega)
   · intro H
     constructor
     · intro b hb
       have hbx:b≠x:=fun e=>hx.1 (e▸hb)
       refine H x (by simp) b (by simp [hb]) ?_
       rw [List.idxOf_cons_self,idx_ne l (Ne.symm hbx)]; omega
     · intro a ha b hb hab
       have hax:a≠x:=fun e=>hx.1 (e▸ha)
       have hbx:b≠x:=fun e=>hx.1 (e▸hb)
       refine H a (by simp [ha]) b (by simp [hb]) ?_
       rw [idx_ne l (Ne.symm hax),idx_ne l (Ne.symm hbx)]; omega
theorem idx_inj {l:List Nat} {a b:Nat} (ha:a∈l) (hb:b∈l) (h:l.idxOf a=l.idxOf b):a=b:=by
 have h1:=List.getElem_idxOf (List.idxOf_lt_length_of_mem ha)
 have h2:=List.getElem_idxOf (List.idxOf_lt_length_of_mem hb)
 rw [← h1,← h2]
 simp only [h]
theorem bef_not {l:List Nat} {i j:Nat} (hi:i∈l) (hj:j∈l) (hn:i≠j):bef l j i = !bef l i j:=by
 have:l.idxOf i≠l.idxOf j:=fun h=>hn (idx_inj hi hj h)
 rw [bef,bef]
 by_cases h:l.idxOf i<l.idxOf j
 · rw [decide_eq_true h,decide_eq_false (by omega)]; rfl
 · rw [decide_eq_false h,decide_eq_true (by omega)]; rfl
theorem cnt_add {r:Nat→Nat→Bool} (h:Po r) {i j:Nat} (hn:i≠j) (hji:r j i=false) {S:List Nat} (hS:S.Nodup) (hi:i∈S) (hj:j∈S) :
  cnt (addR r i j) S.length S=((lines r S.length S).filter fun l=>bef l i j).length:=by
 rw [← cnt_len]
 refine List.Perm.length_eq (perm_of_nodup (nodup_lines hS) ((nodup_lines hS).filter _) fun l=>?_)
 rw [Up (addR_po h hn hji).irr rfl,List.mem_filter,Up h.irr rfl]
 constructor
 · rintro ⟨hp,hw⟩
   have hl:l.Nodup:=hp.nodup_iff.2 hS
   rw [bef_pw hl] at hw
   refine ⟨⟨hp,(bef_pw hl).2 fun a ha b hb hab=>?_⟩,?_⟩
   · have:=hw a ha b hb hab
     simp only [addR,Bool.or_eq_false_iff] at this
     exact this.1
   · have hil:=hp.mem_iff.2 hi
     have hjl:=hp.mem_iff.2 hj
     cases e:bef l i j with
     | true=>rfl
     | false =>
       have:=hw j hjl i hil (by rw [bef_not hil hjl hn,e]; rfl)
       simp [addR] at this
 · rintro ⟨⟨hp,hw⟩,hb⟩
   have hl:l.Nodup:=hp.nodup_iff.2 hS
   rw [bef_pw hl] at hw
   refine ⟨hp,(bef_pw hl).2 fun a ha b hb' hab=>?_⟩
   have hil:=hp.mem_iff.2 hi
   have hjl:=hp.mem_iff.2 hj
   simp only [addR,Bool.or_eq_false_iff]
   refine ⟨hw a ha b hb' hab,?_⟩
   cases e:((b==i || r b i)&&(a==j || r j a)) with
   | false=>rfl
   | true =>
     exfalso
     simp only [Bool.and_eq_true,Bool.or_eq_true,beq_iff_eq] at e
     simp only [bef,decide_eq_true_eq] at hb hab hw
     have h1:l.idxOf b≤l.idxOf i:=by
      rcases e.1 with rfl | e1
      · exact Nat.le_refl _
      · apply Classical.byContradiction; intro hc
        have:=hw i hil b hb' (by omega)
        rw [e1] at this; cases this
     have h2:l.idxOf j≤l.idxOf a:=by
      rcases e.2 with rfl | e1
      · exact Nat.le_refl _
      · apply Classical.byContradiction; intro hc
        have:=hw a ha j hjl (by omega)
        rw [e1] at this; cases this
     omega
theorem firsts_ne {r:Nat→Nat→Bool} (h:Po r) {S:List Nat} (hS:S≠[]):Jf r S≠[]:=by
 have key : ∀ n (T:List Nat),T.length≤n→(∀ x∈T,x∈S)→T≠[]→(∀ x∈S,∀ y∈T,r x y=true→x∈T)→Jf r S≠[]:=by
  intro n
  induction n with
  | zero=>intro T hT _ hne _; exact absurd (List.length_eq_zero_iff.1 (by omega)) hne
  | succ n ih =>
    intro T hT hTS hne hdown
    obtain ⟨y,T',rfl⟩:=List.exists_cons_of_ne_nil hne
    by_cases hy : ∀ x∈S,r x y=false
    · intro he
      have:y∈Jf r S:=Un.2 ⟨hTS y (by simp),hy⟩
      rw [he] at this; cases this
    · have : ∃ x,x∈S∧r x y=true:=by
       apply Classical.byContradiction; intro hno
       exact hy fun x hx=>by
        cases e:r x y with
        | false=>rfl
        | true=>exact absurd ⟨x,hx,e⟩ hno
      obtain ⟨x,hx,hxy⟩:=this
      refine ih ((y::T').filter fun z=>r z y) ?_ (fun z hz=>hTS z (List.mem_filter.1 hz).1) ?_ ?_
      · have hlt:((y::T').filter fun z=>r z y).length<(y::T').length:=by
         rw [List.filter_cons,if_neg (by simp [h.irr])]
         have:=List.length_filter_le (fun z=>r z y) T'
         simp only [List.length_cons]; omega
        omega
      · intro he
        have:x∈(y::T').filter fun z=>r z y:=List.mem_filter.2 ⟨hdown x hx y (by simp) hxy,hxy⟩
        rw [he] at this; cases this
      · intro a ha b hb hab
        have hb':=List.mem_filter.1 hb
        exact List.mem_filter.2 ⟨hdown a ha b hb'.1 hab,h.tr _ _ _ hab hb'.2⟩
 exact key S.length S (Nat.le_refl _) (fun _ h=>h) hS fun x hx _ _ _=>hx
theorem cnt_pos {r:Nat→Nat→Bool} (h:Po r) : ∀ {k:Nat} {S:List Nat},S.length=k→0<cnt r k S
 | 0,_,_=>Nat.one_pos
 | k+1,S,hS=>by
   have hne:=firsts_ne h (S:=S) (by rintro rfl; simp at hS)
   rw [cnt]
   obtain ⟨i,F,hF⟩:=List.exists_cons_of_ne_nil hne
   have hi:i∈S:=(Un.1 (by rw [hF]; simp:i∈Jf r S)).1
   rw [hF,List.map_cons,List.sum_cons]
   have:=cnt_pos h (k:=k) (S:=S.erase i) (by rw [List.length_erase_of_mem hi]; omega)
   omega
end Ord
namespace Ord
open Go.Am
def bt (o:List Int) (i:Nat):Nat:=(o.getD i 0).toNat
def ab (o:List Int) (i j:Nat):Bool:=(bt o i).testBit j
def okO (o:List Int) (i:Nat):Bool :=
 decide (0≤o.getD i 0)&&decide (o.getD i 0<2 ^ o.length) && !ab o i i&&(List.range o.length).all fun j=>!ab o i j || (Vl .andNot .i64 (o.getD j 0) (o.getD i 0)==0)
def ord (o:List Int):Bool:=decide (1≤o.length)&&decide (o.length≤6)&&(List.range o.length).all (okO o)
theorem Wj {o:List Int} (h:ord o=true):1≤o.length∧o.length≤6:=by
 simp only [ord,Bool.and_eq_true,decide_eq_true_eq] at h; exact h.1
theorem pow6 {n:Nat} (h:n≤6):2 ^ n≤64∧0<2 ^ n:=⟨Nat.pow_le_pow_right (n:=2) (by decide) h,Nat.two_pow_pos n⟩
theorem ord_at {o:List Int} (h:ord o=true) {i:Nat} (hi:i<o.length):okO o i=true:=by
 simp only [ord,Bool.and_eq_true,List.all_eq_true,List.mem_range] at h; exact h.2 i hi
theorem ord_nat {o:List Int} (h:ord o=true) {i:Nat} (hi:i<o.length):o.getD i 0=(bt o i:Int)∧bt o i<2 ^ o.length:=by
 have h2:=ord_at h hi
 simp only [okO,Bool.and_eq_true,decide_eq_true_eq] at h2
 have e:((2 ^ o.length:Nat):Int)=2 ^ o.length:=by simp
 have h3:=h2.1.1.1
 have h4:=h2.1.1.2
 refine ⟨(Int.toNat_of_nonneg h3).symm,?_⟩
 rw [← Int.toNat_of_nonneg h3,← e] at h4
 exact Int.ofNat_lt.1 h4
theorem bt_out {o:List Int} {i:Nat} (hi:o.length≤i):bt o i=0:=by simp [bt,List.getD,List.getElem?_eq_none hi]
theorem ab_lt {o:List Int} (h:ord o=true) {i j:Nat} (hij:ab o i j=true):i<o.length∧j<o.length:=by
 have hi:i<o.length:=by
  rcases Nat.lt_or_ge i o.length with h | h
  · exact h
  · simp [ab,bt_out h] at hij
 refine ⟨hi,?_⟩
 rcases Nat.lt_or_ge j o.length with h' | h'
 · exact h'
 · have:=Nat.testBit_lt_two_pow (Nat.lt_of_lt_of_le (ord_nat h hi).2 (Nat.pow_le_pow_right (by decide) h'))
   rw [ab,this] at hij; cases hij
theorem less_zero {a b:Nat}:less a b=0↔∀ k,a.testBit k=true→b.testBit k=true:=by
 constructor
 · intro h k hk
   have:=Wy a b k
   rw [h,hk,Nat.zero_testBit] at this
   cases hb:b.testBit k with
   | true=>rfl
   | false=>rw [hb] at this; cases this
 · intro h
   apply Nat.eq_of_testBit_eq
   intro k
   rw [Wy,Nat.zero_testBit]
   cases ha:a.testBit k with
   | false=>rfl
   | true=>rw [h k ha]; rfl
theorem ord_po {o:List Int} (h:ord o=true):Po (ab o):=by
 have hlen:=Wj h
 have hp:=pow6 hlen.2
 constructor
 · intro i
   rcases Nat.lt_or_ge i o.length with hi | hi
   · have h2:=ord_at h hi
     simp only [okO,Bool.and_eq_true,Bool.not_eq_true'] at h2
     exact h2.1.2
   · simp [ab,bt_out hi]
 · intro i j k hij hjk
   obtain ⟨hi,hj⟩:=ab_lt h hij
   have h2:=ord_at h hi
   simp only [okO,Bool.and_eq_true,List.all_eq_true,List.mem_range] at h2
   have h3:=h2.2 j hj
   rw [hij,Bool.not_true,Bool.false_or,beq_iff_eq] at h3
   obtain ⟨e1,l1⟩:=ord_nat h hi
   obtain ⟨e2,l2⟩:=ord_nat h hj
   rw [e1,e2,Uv (by omega) (by omega)] at h3
   exact less_zero.1 (Int.ofNat.inj h3) k hjk
def dn (o:List Int) (i:Nat):Nat:=(List.range o.length).foldl (fun s j=>s ||| (if ab o j i then 2 ^ j else 0)) 0
theorem foldl_or_bit {f:Nat→Nat} {w:Nat} : ∀ (l:List Nat) (s:Nat),(l.foldl (fun r j=>r ||| f j) s).testBit w=(s.testBit w || l.any fun j=>(f j).testBit w)
 | [],s=>by simp
 | x::l,s=>by rw [List.foldl_cons,foldl_or_bit l,Nat.testBit_or,List.any_cons,Bool.or_assoc]
theorem dn_bit {o:List Int} {i j:Nat}:(dn o i).testBit j=(decide (j<o.length)&&ab o j i):=by
 rw [dn,foldl_or_bit,Nat.zero_testBit,Bool.false_or,Bool.eq_iff_iff,List.any_eq_true,Bool.and_eq_true,decide_eq_true_eq]
 constructor
 · rintro ⟨x,hx,hb⟩
   cases ha:ab o x i with
   | false=>simp [ha] at hb
   | true =>
     rw [ha,if_pos rfl,Nat.testBit_two_pow,decide_eq_true_eq] at hb
     subst hb
     exact ⟨List.mem_range.1 hx,ha⟩
 · rintro ⟨h1,h2⟩
   exact ⟨j,List.mem_range.2 h1,by rw [h2,if_pos rfl,Nat.testBit_two_pow_self]⟩
theorem dn_bit' {o:List Int} (h:ord o=true) {i j:Nat}:(dn o i).testBit j=ab o j i:=by
 rw [dn_bit]
 cases ha:ab o j i with
 | false=>simp
 | true=>simp [(ab_lt h ha).1]
theorem lt_of_bits {s n:Nat} (h : ∀ j,n≤j→s.testBit j=false):s<2 ^ n:=Nat.lt_pow_two_of_testBit s fun j hj=>h j hj
theorem dn_lt {o:List Int} {i:Nat}:dn o i<2 ^ o.length:=lt_of_bits fun j hj=>by rw [dn_bit,decide_eq_false (by omega)]; rfl
theorem bits_nodup (s:Nat):(bits s).Nodup:=(List.nodup_range).filter _
theorem bits_erase {s i:Nat} (hi:i<64):(bits s).erase i=bits (less s (2 ^ i)):=by
 rw [List.Nodup.erase_eq_filter (bits_nodup s),bits,bits,List.filter_filter]
 refine List.filter_congr fun j hj=>?_
 rw [Wy,Nat.testBit_two_pow,Bool.and_comm]
 by_cases h:j=i
 · subst h; simp
 · simp [h,Ne.symm h]
theorem bits_range {s n:Nat} (h:s<2 ^ n) (hn:n≤64):bits s=(List.range n).filter fun i=>s.testBit i:=by
 obtain ⟨d,hd⟩ : ∃ d,64=n+d:=⟨64-n,by omega⟩
 rw [bits,hd,List.range_add,List.filter_append]
 have:(List.map (n + ·) (List.range d)).filter (fun i=>s.testBit i)=[]:=by
  rw [List.filter_eq_nil_iff]
  intro a ha
  obtain ⟨k,-,rfl⟩:=List.mem_map.1 ha
  rw [Nat.testBit_lt_two_pow (Nat.lt_of_lt_of_le h (Nat.pow_le_pow_right (by decide) (Nat.le_add_right n k)))]
  decide
 rw [this,List.append_nil]
theorem bits_all {n:Nat} (hn:n≤64):bits (2 ^ n-1)=List.range n:=by
 rw [bits_range (n:=n) (by have:=Nat.two_pow_pos n; omega) hn,List.filter_eq_self]
 intro i hi
 rw [Nat.testBit_two_pow_sub_one,decide_eq_true (List.mem_range.1 hi)]
def okLast (o:List Int) (s i:Nat):Bool:=decide (less (dn o i) s=0)&&decide (bt o i &&& s=0)
def Wf (o:List Int):Nat→Nat→Nat
 | 0,_=>1
 | k+1,s=>(((bits s).filter (okLast o s)).map fun i=>Wf o k (less s (2 ^ i))).sum
def W (o:List Int) (s:Nat):Nat:=Wf o (bits s).length s
theorem W_zero (o:List Int):W o 0=1:=by
 have:bits 0=[]:=by decide
 rw [W,this]; rfl
theorem bits_ne {s:Nat} (h0:s≠0) (h:s<2 ^ 63):bits s≠[]:=by rw [bits_step s h h0]; exact List.cons_ne_nil _ _
theorem W_step {o:List Int} {s:Nat} (h0:s≠0) (h:s<2 ^ 63):W o s=(((bits s).filter (okLast o s)).map fun i=>W o (less s (2 ^ i))).sum:=by
 have hne:=bits_ne h0 h
 have hl : ∃ k,(bits s).length=k+1:=⟨(bits s).length-1,by have:=List.length_pos_iff.2 hne; omega⟩
 obtain ⟨k,hk⟩:=hl
 rw [W,hk,Wf]
 congr 1
 refine List.map_congr_left fun i hi=>?_
 have hib:=(List.mem_filter.1 hi).1
 rw [W,← bits_erase (Vd.1 hib).1,List.length_erase_of_mem hib,hk]; rfl
theorem Wf_le (o:List Int) : ∀ k s,s<64→Wf o k s≤6 ^ k
 | 0,_,_=>Nat.le_refl _
 | k+1,s,hs=>by
   rw [Wf]
   have hlen:((bits s).filter (okLast o s)).length≤6:=by
    have h1:=List.length_filter_le (okLast o s) (bits s)
    have h2:(bits s).length≤6:=by
     rw [bits_range (n:=6) hs (by decide)]
     have:=List.length_filter_le (fun i=>s.testBit i) (List.range 6)
     rw [List.length_range] at this; exact this
    omega
   have key : ∀ l:List Nat,(l.map fun i=>Wf o k (less s (2 ^ i))).sum≤l.length*6 ^ k:=by
    intro l
    induction l with
    | nil=>simp
    | cons a l ih =>
      rw [List.map_cons,List.sum_cons,List.length_cons,Nat.succ_mul]
      have:=Wf_le o k (less s (2 ^ a)) (less_lt (n:=6) hs)
      omega
   have h1:=key ((bits s).filter (okLast o s))
   have h2:=Nat.mul_le_mul_right (6 ^ k) hlen
   rw [Nat.pow_succ]
   omega
theorem bits_len6 {s:Nat} (hs:s<64):(bits s).length≤6:=by
 rw [bits_range (n:=6) hs (by decide)]
 have:=List.length_filter_le (fun i=>s.testBit i) (List.range 6)
 rw [List.length_range] at this; exact this
theorem W_le {o:List Int} {s:Nat} (hs:s<64):W o s≤46656 :=
 Nat.le_trans (Wf_le o _ s hs) (Nat.pow_le_pow_right (n:=6) (by decide) (bits_len6 hs))
theorem Wf_cnt {o:List Int} (h:ord o=true) : ∀ k s,(bits s).length=k→(∀ i j,s.testBit j=true→ab o i j=true→s.testBit i=true)→s<64→Wf o k s=cnt (fun i j=>ab o j i) k (bits s)
 | 0,_,_,_,_=>rfl
 | k+1,s,hk,hd,hs=>by
   rw [Wf,cnt]
   have e:(bits s).filter (okLast o s)=Jf (fun i j=>ab o j i) (bits s):=by
    refine List.filter_congr fun i hi=>?_
    rw [okLast,Bool.eq_iff_iff,Bool.and_eq_true,decide_eq_true_eq,decide_eq_true_eq,List.all_eq_true]
    have h1:less (dn o i) s=0:=less_zero.2 fun j hj=>hd j i (Vd.1 hi).2 (by rwa [dn_bit' h] at hj)
    constructor
    · rintro ⟨-,h2⟩ j hj
      have:=congrArg (fun x=>x.testBit j) h2
      simp only [Nat.testBit_and,(Vd.1 hj).2,Bool.and_true,Nat.zero_testBit] at this
      show (!ab o i j)=true
      rw [ab,this]; rfl
    · intro H
      refine ⟨h1,?_⟩
      apply Nat.eq_of_testBit_eq
      intro j
      rw [Nat.testBit_and,Nat.zero_testBit]
      cases hj:s.testBit j with
      | false=>simp
      | true =>
        have hj64:j<64:=by
         rcases Nat.lt_or_ge j 64 with h | h
         · exact h
         · rw [Nat.testBit_lt_two_pow (Nat.lt_of_lt_of_le hs (Nat.pow_le_pow_right (n:=2) (i:=6) (by decide) (by omega)))] at hj; cases hj
        have:=H j (Vd.2 ⟨hj64,hj⟩)
        simp only [Bool.not_eq_true',ab] at this
        rw [this]; rfl
   rw [e]
   congr 1
   refine List.map_congr_left fun i hi=>?_
   obtain ⟨hib,hm⟩:=Un.1 hi
   have hi64:=(Vd.1 hib).1
   rw [bits_erase hi64]
   refine Wf_cnt h k _ ?_ ?_ (less_lt (n:=6) hs)
   · rw [← bits_erase hi64,List.length_erase_of_mem hib]; omega
   · intro a b hb hab
     rw [Wy,Bool.and_eq_true,Nat.testBit_two_pow,Bool.not_eq_true',decide_eq_false_iff_not] at hb ⊢
     have ha:=hd a b hb.1 hab
     refine ⟨ha,fun he=>?_⟩
     subst he
     have hb64:b<64:=by have:=(ab_lt h hab).2; have:=Wj h; omega
     have:=hm b (Vd.2 ⟨hb64,hb.1⟩)
     rw [hab] at this; cases this
def cn (o:List Int):Nat:=cnt (ab o) o.length (List.range o.length)
theorem cn_len {o:List Int} (h:ord o=true):W o (2 ^ o.length-1)=cn o:=by
 have hlen:=Wj h
 have hp:=pow6 hlen.2
 have hb:=bits_all (n:=o.length) (by omega)
 rw [W,Wf_cnt h _ _ rfl ?_ (by omega),hb,cn]
 · have:=cnt_flip (ord_po h).irr (S:=List.range o.length) List.nodup_range
   rw [List.length_range] at this
   rw [List.length_range]; exact this
 · intro i j _ hij
   rw [Nat.testBit_two_pow_sub_one,decide_eq_true (ab_lt h hij).1]
theorem cn_le {o:List Int} (h:ord o=true):cn o≤46656:=by
 have:=pow6 (Wj h).2
 rw [← cn_len h]; exact W_le (by omega)
theorem cn_pos {o:List Int} (h:ord o=true):0<cn o:=cnt_pos (ord_po h) (by simp)
def addL (o:List Int) (i j:Nat):List Int:=(List.range o.length).map fun k=>if k=i∨ab o k i=true then ((bt o k ||| (bt o j ||| 2 ^ j):Nat):Int) else o.getD k 0
theorem addL_len {o:List Int} {i j:Nat}:(addL o i j).length=o.length:=by simp [addL]
theorem getD_map {f:Nat→Int} {n k:Nat}:((List.range n).map f).getD k 0=if k<n then f k else 0:=by
 by_cases hk:k<n <;> simp [List.getD,hk]
theorem addL_bt {o:List Int} {i j k:Nat}:bt (addL o i j) k=if k<o.length∧(k=i∨ab o k i=true) then bt o k ||| (bt o j ||| 2 ^ j) else bt o k:=by
 by_cases hk:k<o.length
 · by_cases hc:k=i∨ab o k i=true
   · rw [if_pos ⟨hk,hc⟩,bt,addL,getD_map,if_pos hk,if_pos hc,Int.toNat_natCast]
   · rw [if_neg (fun h=>hc h.2),bt,addL,getD_map,if_pos hk,if_neg hc]; rfl
 · rw [if_neg (fun h=>hk h.1),bt_out (by rw [addL_len]; omega),bt_out (by omega)]
theorem addL_ab {o:List Int} {i j:Nat} (hi:i<o.length) (h:ord o=true):ab (addL o i j)=addR (ab o) i j:=by
 funext a b
 rw [ab,addL_bt,addR]
 by_cases hc:a=i∨ab o a i=true
 · have ha:a<o.length:=hc.elim (fun e=>e▸hi) fun h'=>(ab_lt h h').1
   rw [if_pos ⟨ha,hc⟩,Nat.testBit_or,Nat.testBit_or,Nat.testBit_two_pow]
   have:(a==i || ab o a i)=true:=by rcases hc with h | h <;> simp [h]
   rw [this,Bool.true_and]
   show (ab o a b || (ab o j b || _))=(ab o a b || ((b==j) || ab o j b))
   congr 1
   rw [Bool.or_comm]
   congr 1
   by_cases hbj:j=b
   · subst hbj; simp
   · simp [hbj,Ne.symm hbj]
 · rw [if_neg (fun h=>hc h.2)]
   have:(a==i || ab o a i)=false:=by
    cases e:(a==i || ab o a i) with
    | false=>rfl
    | true=>simp only [Bool.or_eq_true,beq_iff_eq] at e; exact absurd e hc
   rw [this,Bool.false_and,Bool.or_false]; rfl
theorem ord_of {o:List Int} (h1:1≤o.length∧o.length≤6) (hb : ∀ i,i<o.length→∃ s:Nat,o.getD i 0=(s:Int)∧s<2 ^ o.length) (hp:Po (ab o)):ord o=true:=by
 have hp6:=pow6 h1.2
 simp only [ord,Bool.and_eq_true,decide_eq_true_eq,List.all_eq_true,List.mem_range]
 refine ⟨h1,fun i hi=>?_⟩
 obtain ⟨s,hs,hl⟩:=hb i hi
 have e:((2 ^ o.length:Nat):Int)=2 ^ o.length:=by simp
 simp only [okO,Bool.and_eq_true,decide_eq_true_eq,List.all_eq_true,List.mem_range,Bool.not_eq_true']
 refine ⟨⟨⟨by omega,by rw [hs,← e]; exact Int.ofNat_lt.2 hl⟩,hp.irr i⟩,fun j hj=>?_⟩
 obtain ⟨t,ht,hl2⟩:=hb j hj
 cases hij:ab o i j with
 | false=>rfl
 | true =>
   rw [Bool.not_true,Bool.false_or,hs,ht,Uv (by omega) (by omega)]
   have hz:less t s=0:=less_zero.2 fun k hk=>by
    have h2:ab o j k=true:=by rw [ab,bt,ht,Int.toNat_natCast]; exact hk
    have:=hp.tr i j k hij h2
    rwa [ab,bt,hs,Int.toNat_natCast] at this
   rw [hz]; rfl
theorem addL_ord {o:List Int} (h:ord o=true) {i j:Nat} (hi:i<o.length) (hj:j<o.length) (hn:i≠j) (hji:ab o j i=false):ord (addL o i j)=true:=by
 refine ord_of (by rw [addL_len]; exact Wj h) (fun k hk=>?_) (by rw [addL_ab hi h]; exact addR_po (ord_po h) hn hji)
 rw [addL_len] at hk ⊢
 obtain ⟨e1,l1⟩:=ord_nat h hk
 obtain ⟨e2,l2⟩:=ord_nat h hj
 have e:(addL o i j).getD k 0=if k=i∨ab o k i=true then ((bt o k ||| (bt o j ||| 2 ^ j):Nat):Int) else o.getD k 0:=by rw [addL,getD_map,if_pos hk]
 rw [e]
 split
 · exact ⟨_,rfl,Nat.or_lt_two_pow l1 (Nat.or_lt_two_pow l2 (Nat.pow_lt_pow_right (by decide) hj))⟩
 · exact ⟨_,e1,l1⟩
def fr (o:List Int) (i j:Nat):Bool:=decide (i≠j) && !ab o i j && !ab o j i
def low (o:List Int) (x:Nat):Bool:=(List.range o.length).all fun i=>!ab o i x
end Ord
namespace Go.Proofs.Tryd.Am.Or
open Go.Proofs.Tryd.Am
open Go.Am Ord
set_option maxRecDepth 100000
set_option maxHeartbeats 1000000
def sixs (o:List Int):List Int:=o++List.replicate (6-o.length) 0
def Vk (o:List Int):List Value:=Zd o.length::(sixs o).map Zd
def ordV (o:List Int):Value:=.agg (Vk o).toArray
theorem sixs_len {o:List Int} (h:o.length≤6):(sixs o).length=6:=by simp [sixs]; omega
theorem Wb {o:List Int} (h:o.length≤6):(Vk o).length=7:=by simp [Vk,sixs_len h]
theorem ordC_0 {o:List Int}:(Vk o)[0]? = some (Zd o.length):=rfl
theorem ordC_get {o:List Int} (h:o.length≤6) {i:Nat} (hi:i<6):(Vk o)[1+i]? = some (Zd (o.getD i 0)):=by
 rw [Vk,Nat.add_comm,List.getElem?_cons_succ,List.getElem?_map,sixs,List.getElem?_append]
 by_cases hl:i<o.length
 · simp [hl,List.getD]
 · rw [if_neg hl,List.getElem?_replicate,if_pos (by omega)]
   simp [List.getD,List.getElem?_eq_none (show o.length≤i by omega)]
theorem ordC_set {o:List Int} {i:Nat} (hi:i<o.length) (x:Int):(Vk o).set (1+i) (Zd x)=Vk (o.set i x):=by
 rw [Vk,Nat.add_comm,List.set_cons_succ,Vk,sixs,sixs,List.length_set,List.map_append,List.set_append_left _ _ (by simpa using hi),List.map_append,List.map_set]
theorem ordC_one (o:List Int):(Vk o).all one=true:=by
 rw [List.all_eq_true]
 intro x hx
 rcases List.mem_cons.1 hx with rfl | hx
 · rfl
 · obtain ⟨y,-,rfl⟩:=List.mem_map.1 hx; rfl
theorem Low.ordV (o:List Int):Low (ordV o):=.agg fun x hx=>by
 rcases List.mem_cons.1 hx with rfl | hx
 · exact .int _ _
 · obtain ⟨y,-,rfl⟩:=List.mem_map.1 hx; exact .int _ _
section
variable {P:Program} {h:Zh} {t:TypeId} {o o' : List Int} {b n:Nat} {ro:Bool} {e:TypeId}
theorem boxO {K:Value→Zh→Prop} (hs:esz P t=some n):boxK P h t (ordV o) K=K (Yg h) (h++[.cells (Vk o) t false]):=by
 have e1:cellsOf (ordV o)=Vk o:=rfl
 simp only [boxK,ordV,hs,Option.isSome_some,true_and]
 rw [show cellsOf (.agg (Vk o).toArray)=Vk o from rfl]
theorem loadO {K:Value→Prop} (hb:h[b]? = some (.cells (Vk o) e ro)) (hs:shp P t=some (some 7)) (hl:o.length≤6):Xs P h t (.pointer (some ⟨b,0,none⟩)) K=K (ordV o) :=
 loadA hb (by rw [hs,Wb hl])
theorem loadN {K:Value→Prop} (hb:h[b]? = some (.cells (Vk o) e ro)) (hs:shp P t=some none):Xs P h t (.pointer (some ⟨b,0,none⟩)) K=K (Zd o.length):=loadC hb hs ordC_0
theorem loadI {K:Value→Prop} (hb:h[b]? = some (.cells (Vk o) e ro)) (hs:shp P t=some none) (hl:o.length≤6) {i:Nat} (hi:i<6):Xs P h t (.pointer (some ⟨b,1+i,none⟩)) K=K (Zd (o.getD i 0)):=loadC hb hs (ordC_get hl hi)
theorem storeN {K:Zh→Prop} (hb:h[b]? = some (.cells (Vk o) e false)) (hs:shp P t=some none) (hl:o.length≤6) {i:Nat} (hi:i<o.length) (x:Int) :
  Xq P h t (.pointer (some ⟨b,1+i,none⟩)) (Zd x) K=K (h.set b (.cells (Vk (o.set i x)) e false)):=by
 rw [storeC hb hs rfl (by rw [Wb hl]; omega),ordC_set hi]
theorem storeO {K:Zh→Prop} {c:List Value} (hb:h[b]? = some (.cells c e false)) (hc:c.length=7) (hs:shp P t=some (some 7)) (hl:o.length≤6):Xq P h t (.pointer (some ⟨b,0,none⟩)) (ordV o) K=K (h.set b (.cells (Vk o) e false)) :=
 storeA hb (by rw [hs,Wb hl]) (ordC_one o) (by rw [hc,Wb hl])
end
theorem shl1 {n:Nat} (h:n≤62):shlV .i64 1 n=2 ^ n:=by
 have h2:2 ^ n≤2 ^ 62:=Nat.pow_le_pow_right (by decide) h
 have:=shlV_nat (a:=1) (y:=n) (by omega) (by omega)
 simpa using this
theorem Vm (n:Nat):((2 ^ n:Nat):Int)=2 ^ n:=by simp
theorem testO {o:List Int} (h:ord o=true) {i:Nat} (hi:i<o.length) (j:Nat):Vl .and .i64 (shrV .i64 (o.getD i 0) j) 1=if ab o i j then 1 else 0:=by
 have hl:=Wj h
 have:=pow6 hl.2
 obtain ⟨h1,h2⟩:=ord_nat h hi
 rw [h1]
 exact testV (by omega)
theorem beq1 (b:Bool):((if b then (1:Int) else 0)==1)=b:=by cases b <;> rfl
theorem beq0 (b:Bool):((if b then (1:Int) else 0)==0) = !b:=by cases b <;> rfl
theorem all_call [Tabs prog] {h:Zh} {o:List Int} (hl:o.length≤6):Xj prog 103 [ordV o] h (Zd ((2 ^ o.length-1:Nat):Int)):=by
 have hp:=pow6 hl
 have hs:subV .i64 (2 ^ o.length) 1=((2 ^ o.length-1:Nat):Int):=by rw [← Vm,subV_id (by omega) (by omega)]; omega
 refine ACall.forget (Low.int _ _) ?_
 refine s103_call (by simp) ?_
 simp (maxSteps:=2000000) only [s103,↓Za,↓Zl,↓Zu,↓Zb,↓Zc,vup,cond_true,cond_false,aop,Zf,Zp,ev,sput,Ze,Yf,Yi,Nat.reduceBEq,Zs,Xn,tup,tyf,boxO esz_97,fldA fld_97_0 Wm,loadN (Zr _ _) Yy,shl1 (show o.length≤62 by omega),hs]
 exact Ext.app _ _ _
theorem element_call [Tabs prog] {h:Zh} {o:List Int} {i:Int}:Xj prog 61 [ordV o,Zd i] h (.bool (decide (0≤i)&&decide (i<o.length))):=by
 refine ACall.forget (Low.bool _) ?_
 refine s61_call (by simp) ?_
 simp (maxSteps:=2000000) only [s61,↓Za,↓Zl,↓Zb,↓Zc,vup,cond_true,cond_false,aop,Zf,Zp,ev,sput,Ze,Yf,Yi,Nat.reduceBEq,Nat.reduceAdd,boxO esz_97]
 by_cases h0:0≤i
 · simp (maxSteps:=2000000) only [↓Zu,↓Zb,↓Zc,↓vdn,vup,cond_true,cond_false,aop,Zf,ev,sput,Ze,Yf,Yi,Nat.reduceBEq,Zs,Xn,tup,tyf,h0,fldA fld_97_0 Wm,loadN (Zr _ _) Yy,Bool.true_and]
   exact Ext.app _ _ _
 · simp (maxSteps:=2000000) only [↓Zu,↓Zb,↓Zc,↓vdn,vup,cond_true,cond_false,aop,Zf,ev,sput,Ze,Nat.reduceBEq,Zs,Xn,tup,h0,Bool.false_and]
   exact Ext.app _ _ _
theorem free_call [Tabs prog] {h:Zh} {o:List Int} (ho:ord o=true) {i j:Nat} (hi:i<o.length) (hj:j<o.length):Xj prog 109 [ordV o,Zd i,Zd j] h (.bool (fr o i j)):=by
 have hl:=Wj ho
 refine ACall.forget (Low.bool _) ?_
 refine s109_call (by simp) ?_
 simp (maxSteps:=2000000) only [s109,↓Za,↓Zl,↓Zb,↓Zc,vup,cond_true,cond_false,aop,Zf,Zp,ev,sput,Ze,Yf,Yi,Nat.reduceBEq,Nat.reduceAdd,boxO esz_97]
 by_cases hij:i=j
 · have h1:((i:Int) != j)=false:=by simp [hij]
   have h2:fr o i j=false:=by simp [fr,hij]
   simp (maxSteps:=2000000) only [↓Zu,↓Zb,↓Zc,↓vdn,vup,cond_true,cond_false,aop,Zf,ev,sput,Ze,Nat.reduceBEq,Zs,Xn,tup,h1,h2]
   exact Ext.app _ _ _
 · have h1:((i:Int) != j)=true:=by simp [bne]; omega
   have h2:fr o i j=(!ab o i j && !ab o j i):=by simp [fr,hij]
   simp (maxSteps:=2000000) only [↓Zc,↓vdn,vup,cond_true,cond_false,aop,ev,sput,Ze,Yf,Yi,Nat.reduceBEq,tyf,h1,h2,fldA Ua esz_95,idxA und_95 Wm (show i<6 by omega),loadI (Zr _ _) Yy hl.2 (show i<6 by omega),testO ho hi,beq0]
   cases hb:ab o i j with
   | true =>
     simp (maxSteps:=2000000) only [↓Zu,↓Zb,↓Zc,↓vdn,vup,cond_true,cond_false,aop,Zf,ev,sput,Ze,Nat.reduceBEq,Zs,Xn,tup,Bool.false_and]
     exact Ext.app _ _ _
   | false =>
     simp (maxSteps:=2000000) only [↓Zu,↓Zb,↓Zc,↓vdn,vup,cond_true,cond_false,aop,Zf,ev,sput,Ze,Yf,Yi,Nat.reduceBEq,Zs,Xn,tup,tyf,Bool.true_and,fldA Ua esz_95,idxA und_95 Wm (show j<6 by omega),loadI (Zr _ _) Yy hl.2 (show j<6 by omega),testO ho hj,beq0]
     exact Ext.app _ _ _
theorem above_call [Tabs prog] {h:Zh} {v:Value} {o:List Int} (hv:IntSl h v o) (ho:ord o=true) {i j:Nat} (hi:i<o.length):Xj prog 57 [v,Zd i,Zd j] h (.bool (ab o i j)):=by
 refine s57_call (by simp) ?_
 simp (maxSteps:=2000000) only [s57,↓Za,↓Zl,↓Zu,↓Zb,↓Zc,vup,cond_true,cond_false,aop,Zf,Zp,ev,sput,Ze,Yf,Yi,Nat.reduceBEq,Nat.reduceAdd,Zs,Xn,tup,tyf,hv.idx Vy Wm hi,hv.load Yy hi,Int.natCast_nonneg,testO ho hi,beq1]
theorem rfree_call [Tabs prog] {h:Zh} {v:Value} {o:List Int} (hv:IntSl h v o) (ho:ord o=true) {i j:Nat} (hi:i<o.length) (hj:j<o.length):Xj prog 19 [v,Zd i,Zd j] h (.bool (fr o i j)):=by
 refine s19_call (by simp) ?_
 by_cases hij:i=j
 · have h1:((i:Int) != j)=false:=by simp [hij]
   have h2:fr o i j=false:=by simp [fr,hij]
   simp (maxSteps:=2000000) only [s19,↓Za,↓Zl,↓Zu,↓Zb,↓Zc,↓vdn,vup,cond_true,cond_false,aop,Zf,Zp,ev,sput,Ze,Yf,Yi,Nat.reduceBEq,Nat.reduceAdd,Zs,Xn,tup,h1,h2]
 · have h1:((i:Int) != j)=true:=by simp [bne]; omega
   have h2:fr o i j=(!ab o i j && !ab o j i):=by simp [fr,hij]
   simp (maxSteps:=2000000) only [s19,↓Za,↓Zl,↓Zb,↓Zc,↓vdn,vup,List.map_cons,List.map_nil,cond_true,cond_false,aop,Zf,Zp,ev,sput,Ze,Yf,Yi,unK,Nat.reduceBEq,Nat.reduceAdd,h1,h2,Yn,List.nil_append,List.append_nil]
   refine (above_call hv ho hi).mono ?_
   rintro _ _ ⟨rfl,rfl⟩
   cases hb:ab o i j with
   | true=>simp (maxSteps:=2000000) only [↓Zu,↓Zb,↓Zc,↓vdn,vup,cond_true,cond_false,aop,Zf,ev,sput,Ze,Nat.reduceBEq,Zs,Xn,tup,Bool.false_and]
   | false =>
     simp (maxSteps:=2000000) only [↓Zu,↓Zb,↓Zc,↓vdn,vup,List.map_cons,List.map_nil,cond_true,cond_false,aop,Zf,ev,sput,Ze,unK,Nat.reduceBEq,Zs,Xn,tup,Bool.true_and,Yn,List.nil_append,List.append_nil]
     refine (above_call hv ho hj).mono ?_
     rintro _ _ ⟨rfl,rfl⟩
     simp (maxSteps:=2000000) only [vup]
theorem elements_call [Tabs prog] {h:Zh} {s:Int}:ACall prog 100 [Zd s] h fun r h'=>r = .func (.func 136) #[] #[Yg h]∧h' = h++[.cells [Zd s] 3 false]:=by
 refine s100_call (by simp) ?_
 simp (maxSteps:=2000000) only [s100,↓Za,↓Zl,↓Zu,↓Zb,↓Zc,vup,List.map_cons,List.map_nil,cond_true,cond_false,aop,Zf,Zp,ev,sput,Ze,Nat.reduceBEq,Zs,Xn,tup,tyf,boxK,cellsOf,Option.isSome_some,List.map_toArray]
def dnTo (o:List Int) (i:Nat):Nat→Nat
 | 0=>0
 | k+1=>dnTo o i k ||| (if ab o k i then 2 ^ k else 0)
theorem dnTo_all (o:List Int) (i:Nat):dnTo o i o.length=dn o i:=by
 have key : ∀ n,dnTo o i n=(List.range n).foldl (fun s j=>s ||| (if ab o j i then 2 ^ j else 0)) 0:=by
  intro n
  induction n with
  | zero=>rfl
  | succ n ih=>rw [dnTo,ih,List.range_succ,List.foldl_append]; rfl
 exact key _
theorem dnTo_lt (o:List Int) (i:Nat) : ∀ k,dnTo o i k<2 ^ k
 | 0=>by simp [dnTo]
 | k+1=>by
   have:=dnTo_lt o i k
   rw [dnTo]
   refine Nat.or_lt_two_pow (Nat.lt_of_lt_of_le this (Nat.pow_le_pow_right (by decide) (Nat.le_succ k))) ?_
   split
   · exact Nat.pow_lt_pow_right (by decide) (Nat.lt_succ_self k)
   · exact Nat.two_pow_pos _
theorem below_call [Tabs prog] {h:Zh} {o:List Int} (ho:ord o=true) {i:Nat}:Xj prog 104 [ordV o,Zd i] h (Zd (dn o i:Nat)):=by
 have hl:=Wj ho
 refine ACall.forget (Low.int _ _) ?_
 refine s104_call (by simp) ?_
 simp (maxSteps:=2000000) only [s104,↓Za,↓Zl,↓Yr,↓Zb,↓Zc,vup,cond_true,cond_false,aop,Zf,Zp,ev,sput,Ze,Nat.reduceBEq,Nat.reduceAdd,boxO esz_97,fldA fld_97_0 Wm,loadN (Zr _ _) Yy,↓Ui]
 refine Zy fun Q hQ=>?_
 refine aw_loop (γ:=Nat) (fun k=>k≤o.length)
  (fun k=>([(0,ordV o),(1,Zd i),(2,Yg h),(4,.int .i64 0),(5,Zd (dnTo o i k:Nat)),(8,Zd o.length),(9,Zd k)],h++[.cells (Vk o) 97 false])) (fun k=>o.length-k) 0 (Nat.zero_le _) (by simp (maxSteps:=2000000) only [vup,cond_true,cond_false,Nat.reduceBEq,Int.natCast_zero,dnTo]) rfl ?_
 intro k hk
 refine aw_hide fun Q2 hQ2=>?_
 by_cases hin:(k:Int)<o.length
 · have hin' : k<o.length:=by omega
   have hdl:=dnTo_lt o i k
   have hpk:2 ^ k≤64:=Nat.pow_le_pow_right (n:=2) (j:=6) (by decide) (by omega)
   have hsh:shlV .i64 (if ab o k i=true then (1:Int) else 0) k=((if ab o k i then 2 ^ k else 0:Nat):Int):=by
    split
    · rw [shl1 (by omega),Vm]
    · have:=shlV_nat (a:=0) (y:=k) (by omega) (by omega)
      simpa using this
   have hor:Vl .or .i64 ((dnTo o i k:Nat):Int) ((if ab o k i then 2 ^ k else 0:Nat):Int)=((dnTo o i (k+1):Nat):Int):=by
    rw [dnTo]; exact bitsV_or (by omega) (by split <;> omega)
   simp (maxSteps:=2000000) only [↓Za,↓Zn,↓Zl,↓Yr,↓Zb,↓Zc,↓vdn,vup,cond_true,cond_false,aop,Zf,Zo,ev,sput,Ze,Yf,Yi,Nat.reduceBEq,tyf,l104_0,hin,fldA Ua esz_95,idxA und_95 Wm (show k<6 by omega),loadI (Zr _ _) Yy hl.2 (show k<6 by omega),testO ho hin',hsh,hor,add1 (show k<9223372036854775807 by omega)]
   exact hQ2 _ _ _ ⟨k+1,by omega,by omega,by simp (maxSteps:=2000000) only [vup,cond_true,cond_false,Nat.reduceBEq],rfl⟩
 · obtain rfl:k=o.length:=by omega
   simp (maxSteps:=2000000) only [↓Za,↓Zl,↓Yo,↓Zb,↓Zc,↓vdn,vup,cond_true,cond_false,aop,Zf,ev,sput,Ze,Yf,Yi,Nat.reduceBEq,l104_0,Int.lt_irrefl]
   refine hQ2 _ _ _ (hQ _ _ _ ?_)
   simp (maxSteps:=2000000) only [↓Za,↓Zl,↓Zu,↓Zb,↓Zc,vup,cond_true,cond_false,aop,Zf,Zo,ev,sput,Ze,Nat.reduceBEq,Zs,Xn,tup,if_true,dnTo_all]
   exact Ext.app _ _ _
end Go.Proofs.Tryd.Am.Or
namespace Go.Proofs.Tryd.Ob
open Go.Proofs.Tryd
open Go.RowKit Go.Am
set_option maxHeartbeats 1000000 in
theorem tz64_core (x k idx:Nat) (w:World) (hx0:((x:Int)==0)=false)
  (key:IntKind.u64.wrap (bits BinOp.and IntKind.u64 (x:Int) (IntKind.u64.wrap (-(x:Int)))*285870213051353865) / 288230376151711744=(idx:Int))
  (hi:idx<64) (hk:k<64) (hcell:w.cell? ⟨0,idx,none⟩=some (.int .u8 k)) :
  Calls prog 98 #[.int .u64 x] w fun e w'=>e = .returned (.int .i64 k)∧w' = w:=by
 go_enter func98,ntmps98
 go_wp2_with (simp only [key])
 go_ret
 exact ⟨rfl,rfl⟩
theorem tz64_zero (w:World):Calls prog 98 #[.int .u64 0] w fun e w'=>e = .returned (.int .i64 64)∧w' = w:=by
 go_enter func98,ntmps98
 go_wp2
 go_ret
 exact ⟨rfl,rfl⟩
theorem tz64 (x:Nat) (hx:x<18446744073709551616) (w:World) (hT:x≠0→TabAt 0 Lib.deBruijn64tab w) :
  Calls prog 98 #[.int .u64 x] w fun e w'=>e = .returned (.int .i64 (Lib.ctz 64 x))∧w' = w:=by
 by_cases hx0:x=0
 · subst hx0; exact tz64_zero w
 · obtain ⟨hlow,hk⟩:=Lib.lowest_bit 64 x hx0 hx
   obtain ⟨hi,htab⟩:=Lib.deBruijn64_at _ hk
   have hcell:=hT hx0 _ hi
   rw [htab] at hcell
   exact tz64_core x _ _ w (by simp; omega) (tz64_key x _ hx hx0 hlow) hi hk hcell
theorem tz (x:Nat) (hx:x<18446744073709551616) (w:World) (hT:x≠0→TabAt 0 Lib.deBruijn64tab w) :
  Calls prog 137 #[.int .u64 x] w fun e w'=>e = .returned (.int .i64 (Lib.ctz 64 x))∧w' = w:=by
 have c64:=tz64 x hx w hT
 have e29 : ∀ args w,(callFunc 98 args).run prog w = .ok (.enter 98 args) w:=enters_of func98 (by kernel_rfl) rfl
 have hw:IntKind.u64.wrap (x:Int)=(x:Int):=by rw [IntKind.wrap_u64]; omega
 go_enter func137,ntmps137
 go_wp2_with (go_at_fn 98; refine c64.mono ?_; rintro e w' ⟨rfl,hw'⟩; rw [hw'])
 go_ret
 exact ⟨rfl,rfl⟩
theorem and_pred_lt (s:Nat) (h:s≠0):s &&& (s-1)<s:=Nat.lt_of_le_of_lt Nat.and_le_right (by omega)
def boxLeft (B:Nat) (w:World):Nat:=match w.cell? ⟨B,0,none⟩ with | some (.int _ n)=>n.toNat | _=>0
theorem boxLeft_eq {B s:Nat} {w:World} (h:w.cell? ⟨B,0,none⟩=some (.int .i64 s)):boxLeft B w=s:=by simp [boxLeft,h]
attribute [local go_sem] Oper.semAt_some
set_option maxRecDepth 100000 in
set_option maxHeartbeats 2000000 in
theorem elements1 (l B s:Nat) (J Jx:List Nat→World→Prop) (W:World) (hs:s<9223372036854775808) (hB:W.cell? ⟨B,0,none⟩=some (.int .i64 s)) (hfz:W.frozen? ⟨B,0,none⟩=false)
  (hT : ∀ pre W,J pre W→TabAt 0 Lib.deBruijn64tab W)
  (hst : ∀ pre W v,J pre W→J pre (W.setCell ⟨B,0,none⟩ v))
  (hY : ∀ pre (x:Nat) W,J pre W→pre++[x] <+: Am.bits s→YieldAt Fence.wide 0 prog l #[.int .i64 x] W fun en W' =>
   (en = .returned (.bool true)∧J (pre++[x]) W'∧W'.cell? ⟨B,0,none⟩=W.cell? ⟨B,0,none⟩∧W'.frozen? ⟨B,0,none⟩=W.frozen? ⟨B,0,none⟩)∨(en = .returned (.bool false)∧Jx (pre++[x]) W'))
  (h0:J [] W) :
  CallsIn Fence.wide 1 prog 136 #[.func (.yield l) #[] #[],.pointer (some ⟨B,0,none⟩)] W fun en W'=>(∃ v,en = .returned v)∧(J (Am.bits s) W'∨∃ pre,Jx pre W'):=by
 refine callsIn_of_wp func136 rfl trivial ?_ rfl
 simp only [ntmps136,List.size_toArray,List.length_cons,List.length_nil,Nat.reduceAdd,Nat.reduceSub,Array.replicate_succ,Array.replicate_zero,List.push_toArray,List.append_toArray,List.nil_append,List.cons_append]
 have e115 : ∀ args w,(callFunc 137 args).run prog w = .ok (.enter 137 args) w:=enters_of func137 (by kernel_rfl) rfl
 gi_wp2
 gi_loopw [3] (fun _ wr=>∃ (pre:List Nat) (t:Nat),t<9223372036854775808∧Am.bits s=pre++Am.bits t∧wr.cell? ⟨B,0,none⟩=some (.int .i64 t)∧wr.frozen? ⟨B,0,none⟩=false∧J pre wr)
  (fun _ wr=>boxLeft B wr)
 case atStart=>exact ⟨[],s,hs,rfl,hB,hfz,h0⟩
 case round =>
  obtain ⟨pre,t,ht,hx,hc,hf,hJ⟩:=hrel
  by_cases ht0:t=0
  · subst ht0
    gi_wp2
    go_end0
    exact ⟨⟨_,rfl⟩,.inl (by rw [hx,show Am.bits 0=[] from rfl,List.append_nil]; exact hJ)⟩
  · have hw:IntKind.u64.wrap (t:Int)=(t:Int):=by rw [IntKind.wrap_u64]; omega
    have htz:=tz t (by omega) wr (fun _=>hT _ _ hJ)
    have hy:=hY pre (Lib.ctz 64 t) wr hJ (by rw [hx,Am.bits_step t ht ht0]; simp)
    have hne:((t:Int)==0)=false:=by simpa using ht0
    have htz' : CallsIn Fence.wide 0 prog 137 #[.int .u64 t] wr fun e w'=>e = .returned (.int .i64 (Lib.ctz 64 t))∧w' = wr:=callsIn_wide.2 htz
    obtain ⟨fn,tmps,assign,body,hy1,hR⟩:=hy
    gi_wp2
    refine ⟨trivial,htz'.mono ?_⟩
    rintro e w2 ⟨rfl,rfl⟩
    gi_wp2
    refine hR.mono ?_
    rintro e W3 (⟨rfl,hJ3,hc3,hf3⟩ | ⟨rfl,hJx3⟩)
    · rw [hc] at hc3
      rw [hf] at hf3
      gi_wp2
      have hand:bits BinOp.and IntKind.i64 (t:Int) ((t:Int)-1)=((t &&& (t-1):Nat):Int):=by
       have:=bitsV_and (a:=t) (b:=t-1) ht (by omega)
       rw [← this,show ((t-1:Nat):Int)=(t:Int)-1 by omega]; rfl
      have hlt:=and_pred_lt t ht0
      rw [hand]
      have hcell:(W3.setCell ⟨B,0,none⟩ (.int .i64 ((t &&& (t-1):Nat):Int))).cell? ⟨B,0,none⟩=some (.int .i64 ((t &&& (t-1):Nat):Int)):=World.cell?_setCell_same' _ _ _ (by rw [hc3]; rfl)
      refine ⟨⟨_,_,_,_,_,_,_,_,_,_,_,_,⟨pre++[Lib.ctz 64 t],t &&& (t-1),by omega,by rw [hx,Am.bits_step t ht ht0]; simp,hcell,by rw [World.frozen?_setCell]; exact hf3,hst _ _ _ hJ3⟩,rfl⟩,?_⟩
      rw [boxLeft_eq hcell,boxLeft_eq hc]
      exact hlt
    · gi_wp2
      refine bodyPost_ret (results_none rfl _ _ _) rfl ?_
      exact ⟨⟨_,rfl⟩,.inr ⟨_,hJx3⟩⟩
theorem tabAt_of [T:BitTab prog 0] {w:World} (h : ∀ p∈Tabs.tabs prog,w.heap[p.1]? = some p.2):TabAt 0 Lib.deBruijn64tab w:=by
 intro j hj
 have:=h (0,_) (by rw [T.eq]; exact List.mem_singleton.2 rfl)
 simp only [World.cell?,this]
 simp [hj]
theorem bitIter [BitTab prog 0]:BitIter prog 136:=by
 refine ⟨enters_of func136 (by kernel_rfl) rfl,?_⟩
 intro r l B s J Jx W hs hB hfz hT hst hY h0
 cases r with
 | none=>exact elements1 l B s J Jx W hs hB hfz (fun pre W hJ=>tabAt_of (hT pre W hJ)) hst hY h0
 | some l0=>exact CallsIn.inRound l0 (elements1 l B s J Jx W hs hB hfz (fun pre W hJ=>tabAt_of (hT pre W hJ)) hst hY h0)
#print axioms bitIter
end Go.Proofs.Tryd.Ob
