/-
  sure: the first greatest code, as the program finds it.
  Printed by gen.py: the code of some functions, without what no step looks at; held against the program's own by the kernel.
  sure: the sets of neighbours, by the program and by the reference.
  sure: how many sets of neighbours are needed: the program's and the reference's table.
  Printed by gen.py: the code of some functions, without what no step looks at; held against the program's own by the kernel.
  bets: fractions as rational numbers: parts of a common multiple. Plain Lean, no program.
  bets: the common multiple of fractions that sum to one: its square divides the product. Plain Lean, no program.
  bets: fractions as they are handed in; their common multiple; a forecast's is small. Plain Lean, no program.
  bets: forecasts as numbers. Plain Lean, no program.
  bets: elimination, as the program does it: what it comes to. Plain Lean, no program.
  bets: determinants, by their first column. Plain Lean, no program.
  bets: elimination: what it keeps, how great its numbers are, what it tells. Plain Lean, no program.
  bets: corners, as the program finds them. Plain Lean, no program.
  bets: what a solution is; what it means that there is none. Plain Lean, no program.
  sure: Cramer's rule, and what a determinant of 0 means. Plain Lean, no program.
  sure: corners. Plain Lean, no program.
-/
import Derived.Test.YtaagkbbphgdcdaaDoorPk6
import Derived.Test.YtaagkbbphgdcdaaDoorPk3
import Derived.Test.YtaagkbbphgdcdaaDoorProg
import Derived.KernelRfl
import Derived.Shelf.Abstract
import Derived.Test.YtaagkbbphgdcdaaDoorPk5
set_option linter.all false
namespace Go.Proofs.Tryd.Am
open Go.Am Sr
set_option maxRecDepth 100000
set_option maxHeartbeats 1000000
theorem shrAll {m:Nat} (h:m≤64):shrV .u64 18446744073709551615 ((64-m:Nat):Int)=((2 ^ m-1:Nat):Int):=by
 have e : ∀ m,m≤64→18446744073709551615 / 2 ^ (64-m)=2 ^ m-1:=by decide
 have:=shrU' (a:=18446744073709551615) (k:=((64-m:Nat):Int)) (y:=64-m) rfl (by decide)
 rw [e m h] at this; exact this
theorem sub64 {m:Nat} (h:m≤64):subV .i64 64 (m:Int)=((64-m:Nat):Int):=by rw [Vk (by omega) (by omega)]; omega
theorem subN1 {n:Nat} (h1:1≤n) (h:n<9223372036854775808):subV .i64 (n:Int) 1=((n-1:Nat):Int):=by rw [Vk (by omega) (by omega)]; omega
theorem litI1 {h:Zh} {x:Int} (K:Value→Zh→Prop):Yo prog h 22 1 [(0,Zd x)] K=K (.slice (some ⟨h.length,0,none⟩) 1 1) (h++[.ints [x] 3 false]):=by
 simp only [Yo,Xt,zero_3,Xe,reps,fillL,mkb,Wl,cellsOf,List.length_singleton,Nat.mul_one,Nat.zero_add]
 exact propext ⟨fun h=>h.2.2.2,fun h=>⟨trivial,by decide,by decide,h⟩⟩
def RSI (h hp:Zh) (ov:Value) (xs:List Int):Prop:=OwnSl 3 hp ov xs∧Ext (fun _=>False) h hp∧∀ b,Ye ov=some b→h.length≤b
theorem RSI.nil (h:Zh):RSI h h (.slice none 0 0) []:=⟨.inl ⟨rfl,rfl⟩,Ext.refl _ _,fun b hb=>by cases hb⟩
theorem RSI.push {h hp:Zh} {ov:Value} {xs:List Int} (s:RSI h hp ov xs) {x:Int} (hn:xs.length<1099511627776) {K:Value→Zh→Prop} (hk : ∀ v' h',RSI h h' v' (xs++[x])→K v' h') :
  Ys prog (hp++[.ints [x] 3 false]) 22 22 ov (.slice (some ⟨hp.length,0,none⟩) 1 1) K:=by
 obtain ⟨hown,hE,hblk⟩:=s
 have hx1:Ext (fun _=>False) hp (hp++[.ints [x] 3 false]):=Ext.app _ _ _
 refine (hown.ext hx1 fun _ _=>id).append app_22_22 hn (Yp _ _) fun v' h' ho hE' hb=>hk v' h' ⟨ho,?_,fun b hbb=>?_⟩
 · have h1:=hE.1
   have h2:=hx1.1
   have h3:=hE'.1
   refine ⟨by omega,fun i hi _=>?_⟩
   rw [hE'.2 i (by omega) fun hbb=>by have:=hblk i hbb; omega,hx1.2 i (by omega) id]
   exact hE.2 i hi id
 · rcases hb with h1 | ⟨b',h1,h2⟩
   · exact hblk b (h1▸hbb)
   · rw [h1] at hbb; cases hbb; have:=hE.1; have:=hx1.1; omega
def codeR (h' : Zh) (xs:List Int) (k:Int) (r:Value):Prop :=
 if grs xs=true∧1≤k∧k≤3 then (if wn xs k.toNat≤64 then ∃ w,r = .tuple #[w,.int .i64 0]∧OwnSl 3 h' w ((codeL (nearL xs k.toNat)).map Int.ofNat) else r = .tuple #[.slice none 0 0,.int .i64 6]) else r = .tuple #[.slice none 0 0,.int .i64 2]
theorem code_loop [BitTab prog 0] {h:Zh} {b:Nat} {nr:List Nat} (w:WO h b nr) (g:Gr nr) {N:Env→Zh→Prop} {Q0:Exit→Env→Zh→Prop}
  (hN : ∀ hp ov e,RSI h hp ov ((codeL nr).map Int.ofNat)→ELe e [(4,.slice none 0 0),(5,.int .i64 0),(10,ov)]→N e hp) :
  aw prog 81 (.seq q19_9 (.block 0 (.loop l19_0))) (Zg N Q0) [(4,.slice none 0 0),(5,.int .i64 0),(6,pt b),(8,vu (2 ^ nr.length-1)),(9,Zd (A nr (2 ^ nr.length-1):Nat)),(10,.slice none 0 0)] h:=by
 have n64:=g.len
 have hnn : ∀ i:Nat,(0:Int)≤(i:Int):=Int.natCast_nonneg
 have w0:=w
 obtain ⟨nv0,hc0,hv0⟩:=w0
 have ldl : ∀ {K:Value→Prop},Xq prog h 3 (.pointer (some ⟨b,0,none⟩)) K=K (Zd nr.length):=fun {K}=>loadC (o:=0) hc0 Xf rfl
 simp (maxSteps:=2000000) only [↓Za,↓Zp,↓Yt,↓Zb,↓Zc,vup,cond_true,cond_false,aop,Zg,ev,sput,Zf,Nat.reduceBEq,nilK,fldA fld_62_0 Xe,ldl,↓Xr]
 refine Zm fun Q hQ=>?_
 refine aw_loop (γ:=Nat×Value×Zh) (fun s=>s.1≤nr.length∧RSI h s.2.2 s.2.1 ((cAt nr s.1).2.2.map Int.ofNat))
  (fun s=>([(4,.slice none 0 0),(5,.int .i64 0),(6,pt b),(8,vu (cAt nr s.1).1),(9,Zd ((cAt nr s.1).2.1:Nat)),(10,s.2.1),(44,Zd nr.length),(45,Zd s.1)],s.2.2)) (fun s=>nr.length-s.1) (0,.slice none 0 0,h) ⟨Nat.zero_le _,RSI.nil h⟩ (by simp (maxSteps:=2000000) only [vup,cond_true,cond_false,Nat.reduceBEq,Int.natCast_zero,cAt,List.range_zero,List.foldl_nil]) rfl ?_
 rintro ⟨i,ov,hp⟩ ⟨hi,hs⟩
 simp only at hi hs
 refine aw_hide fun Q2 hQ2=>?_
 by_cases hin:(i:Int)<nr.length
 · have hi' : i<nr.length:=by omega
   obtain ⟨i1,i2,i3⟩:=cAt_inv g i
   have es:=cAt_succ nr i
   generalize cAt nr i=c at i1 i2 i3 es hs
   obtain ⟨left,need,out⟩:=c
   simp only at i1 i2 i3 hs
   have hl64:=lt64 g i1
   have hnd:=A_le nr left
   rw [← i2] at hnd
   cases hb:left.testBit i with
   | false =>
     have e:cAt nr (i+1)=(left,need,out):=by rw [es,cStep,if_neg (by simp only [hb]; decide)]
     simp (maxSteps:=2000000) only [↓Za,↓Zn,↓Zp,↓Yt,↓Yi,↓Zb,↓Zc,↓vdn,vup,cond_true,cond_false,aop,Zg,Zl,ev,sput,Zf,Zv,Zx,Nat.reduceBEq,Int.reduceBEq,l19_0,hin,hnn,testU hl64,hb,Bool.false_eq_true,if_false,Wx (show i<9223372036854775807 by omega)]
     exact hQ2 _ _ _ ⟨(i+1,ov,hp),⟨by simp only; omega,by simp only [e]; exact hs⟩,by simp only; omega,by simp (maxSteps:=2000000) only [vup,cond_true,cond_false,Nat.reduceBEq,e],rfl⟩
   | true =>
     obtain ⟨nv,hc,hv⟩:=w.ext hs.2.1
     have ldn : ∀ {K:Value→Prop},Xq prog hp 60 (.pointer (some ⟨b,1,none⟩)) K=K nv:=fun {K}=>loadC (o:=1) hc shp_60 rfl
     have ix : ∀ {K:Value→Prop},Yy prog 60 nv (Zd i) K=K (Wb nv 1 i):=fun {K}=>hv.idx el_60 esz_63 (by rw [List.length_map]; exact hi') K
     have ld : ∀ {K:Value→Prop},Xq prog hp 63 (Wb nv 1 i) K=K (vu (nb nr i)):=fun {K}=>by
      rw [hv.load shp_63 (by rw [List.length_map]; exact hi'),getD_vu hi']
     have hi64:i<64:=by omega
     have hcutU:Wj .andNot .u64 ((less left (2 ^ i):Nat):Int) ((nb nr i:Nat):Int)=((cut nr left i:Nat):Int):=by
      rw [lessU (lt64 g (less_lt i1)) (nb64 g i),cut_swap]
     have hmo:=most_call (w.ext hs.2.1) g (cut nr left i) (cut_lt i1)
     have hp1:=A_pos g (Nat.lt_of_lt_of_le i1 (Nat.pow_le_pow_right (by decide) g.len)) hb
     have a1:=A_le nr (cut nr left i)
     have e1:addV .i64 1 ((A nr (cut nr left i):Nat):Int)=((1+A nr (cut nr left i):Nat):Int):=by rw [Wf (by omega) (by omega)]; omega
     simp (maxSteps:=2000000) only [↓Za,↓Zn,↓Zp,↓Yt,↓Zb,↓Zc,↓vdn,vup,List.map_cons,List.map_nil,cond_true,cond_false,aop,Zg,ev,sput,Zf,Zv,Zx,Nat.reduceBEq,Int.reduceBEq,tyf,l19_0,hin,hnn,testU hl64,hb,if_true,shlU1 hi64,lessU hl64 (bit64 hi64),nilK,fldA fld_62_1 esz_60,ldn,ix,ld,hcutU,Yz,List.nil_append,List.append_nil]
     refine hmo.mono ?_
     rintro _ hp ⟨rfl,rfl⟩
     by_cases hq:1+A nr (cut nr left i)=need
     · have e:cAt nr (i+1)=(cut nr left i,need-1,out++[i]):=by rw [es,cStep,if_pos (by exact hb),if_pos (by exact hq)]
       have hq2:(((1+A nr (cut nr left i):Nat):Int)==((need:Nat):Int))=true:=by rw [hq]; exact beq_self_eq_true _
       simp (maxSteps:=2000000) only [↓Za,↓Zp,↓Zb,↓Zc,↓vdn,vup,List.map_cons,List.map_nil,cond_true,cond_false,aop,Zg,Zl,ev,sput,Zf,Zv,Zx,Zi,Nat.reduceBEq,e1,hq2,litI1]
       refine hs.push (by rw [List.length_map]; omega) fun v' h' s'=>?_
       simp (maxSteps:=2000000) only [subN1 (show 1≤need by omega) (show need<9223372036854775808 by omega),Wx (show i<9223372036854775807 by omega)]
       have em:(out++[i]).map Int.ofNat=out.map Int.ofNat++[(i:Int)]:=by rw [List.map_append]; rfl
       exact hQ2 _ _ _ ⟨(i+1,v',h'),⟨by simp only; omega,by simp only [e,em]; exact s'⟩,by simp only; omega,by simp (maxSteps:=2000000) only [vup,cond_true,cond_false,Nat.reduceBEq,e],rfl⟩
     · have e:cAt nr (i+1)=(less left (2 ^ i),need,out):=by rw [es,cStep,if_pos (by exact hb),if_neg (by exact hq)]
       have hq2:(((1+A nr (cut nr left i):Nat):Int)==((need:Nat):Int))=false:=by
        rw [beq_eq_false_iff_ne]; omega
       simp (maxSteps:=2000000) only [↓Za,↓Zn,↓Zb,↓Zc,↓vdn,vup,cond_true,cond_false,aop,Zg,Zl,ev,sput,Zf,Zv,Zx,Nat.reduceBEq,e1,hq2,Wx (show i<9223372036854775807 by omega)]
       exact hQ2 _ _ _ ⟨(i+1,ov,hp),⟨by simp only; omega,by simp only [e]; exact hs⟩,by simp only; omega,by simp (maxSteps:=2000000) only [vup,cond_true,cond_false,Nat.reduceBEq,e],rfl⟩
 · obtain rfl:i=nr.length:=by omega
   simp (maxSteps:=2000000) only [↓Za,↓Zp,↓Yi,↓Zb,↓Zc,↓vdn,vup,cond_true,cond_false,aop,Zg,ev,sput,Zf,Zv,Zx,Nat.reduceBEq,l19_0,Int.lt_irrefl]
   refine hQ2 _ _ _ (hQ _ _ _ ?_)
   simp (maxSteps:=2000000) only [Zg,Zl,if_true]
   exact hN hp ov _ hs (by simp (maxSteps:=2000000) only [vup,cond_true,cond_false,Nat.reduceBEq])
theorem s19_callW [Tabs Tryd.prog] {args:List Value} {h:Zh} {Q:Value→Zh→Prop} (hsz:args.length≤81) (hk:AWS Tryd.prog 81 s19 (Zu Tryd.prog [.tmp 4,.tmp 5] Q) (Zt 0 args) h):ACall Tryd.prog 19 args h Q :=
 Xd Tryd.func19 rfl (enters_of Tryd.func19 (by kernel_rfl) rfl) rfl rfl (by decide) s19_strip s19_ok hsz hk
theorem code_call [BitTab prog 0] {h:Zh} {v:Value} {xs:List Int} (hv:IntSl h v xs) (hl:xs.length<9223372036854775808) (hx : ∀ x∈xs,-9223372036854775808≤x∧x<9223372036854775808) {k:Int} :
  ACall prog 19 [v,Zd k] h fun r h'=>Ext (fun _=>False) h h'∧codeR h' xs k r:=by
 have hval:=valid_call hv hl hx
 refine s19_callW (by simp) ?_
 simp only [s19]
 refine Ze fun N hN=>?_
 simp (maxSteps:=2000000) only [↓Za,↓Zb,↓Zc,vup,cond_false,aop,Zg,Zt,ev,sput,Zf,Nat.reduceBEq,Nat.reduceAdd]
 refine hN [(0,v),(1,Zd k),(4,.slice none 0 0),(5,.int .i64 0)] _ _ ?_ (by simp (maxSteps:=2000000) only [vup,cond_true,cond_false,Nat.reduceBEq])
 clear hN N
 refine Ze fun N hN=>?_
 simp (maxSteps:=2000000) only [↓Za,↓Zp,↓Zc,vup,List.map_cons,List.map_nil,cond_true,cond_false,aop,ev,sput,Zf,unK,Nat.reduceBEq,Yz,List.nil_append,List.append_nil]
 refine hval.mono ?_
 rintro _ h ⟨rfl,rfl⟩
 cases hg:grs xs with
 | false =>
   simp (maxSteps:=2000000) only [↓Za,↓Zp,↓Ya,↓Zb,↓Zc,↓vdn,vup,cond_true,cond_false,aop,Zg,ev,sput,Zf,Nat.reduceBEq,Zu,Xu,tup]
   exact ⟨Ext.refl _ _,by rw [codeR,if_neg (by rw [hg]; exact fun h=>by cases h.1)]⟩
 | true =>
 have g:=grs_iff.1 hg
 by_cases k1:k<1
 · simp (maxSteps:=2000000) only [↓Za,↓Zp,↓Ya,↓Zb,↓Zc,↓vdn,vup,cond_true,cond_false,aop,Zg,ev,sput,Zf,Zv,Zx,Nat.reduceBEq,Zu,Xu,tup,k1]
   exact ⟨Ext.refl _ _,by rw [codeR,if_neg (by omega)]⟩
 by_cases k3:3<k
 · simp (maxSteps:=2000000) only [↓Za,↓Zp,↓Ya,↓Zb,↓Zc,↓vdn,vup,cond_true,cond_false,aop,Zg,ev,sput,Zf,Zv,Zx,Nat.reduceBEq,Zu,Xu,tup,k1,k3]
   exact ⟨Ext.refl _ _,by rw [codeR,if_neg (by omega)]⟩
 simp (maxSteps:=2000000) only [↓Zn,↓Zb,↓Zc,↓vdn,vup,cond_true,cond_false,aop,Zg,ev,sput,Zf,Zv,Zx,Nat.reduceBEq,k1,k3]
 obtain ⟨n,rfl⟩ : ∃ n:Nat,k=(n:Int):=⟨k.toNat,by omega⟩
 refine hN [(0,v),(1,Zd n),(4,.slice none 0 0),(5,.int .i64 0)] _ _ ?_ (by simp (maxSteps:=2000000) only [vup,cond_true,cond_false,Nat.reduceBEq])
 clear hN N
 have hcr : ∀ h' r,(if wn xs n≤64 then ∃ w,r = .tuple #[w,.int .i64 0]∧OwnSl 3 h' w ((codeL (nearL xs n)).map Int.ofNat) else r = .tuple #[.slice none 0 0,.int .i64 6])→codeR h' xs n r:=fun h' r hr=>by
  rw [codeR,if_pos ⟨hg,by omega,by omega⟩]; exact hr
 refine Ze fun N hN=>?_
 simp (maxSteps:=2000000) only [↓Za,↓Zb,↓Zc,vup,List.map_cons,List.map_nil,cond_true,cond_false,aop,Zg,ev,sput,Zf,Nat.reduceBEq,Yz,List.nil_append,List.append_nil]
 refine (words_call hv g (show n≤6 by omega)).mono ?_
 rintro r h1 ⟨hE,hr⟩
 by_cases hw:wn xs n≤64
 · rw [if_pos hw] at hr
   obtain ⟨b,rfl,w⟩:=hr
   have gr:=nearL_gr g hw
   simp (maxSteps:=2000000) only [extr_20,extr_21]
   refine hN [(0,v),(1,Zd n),(4,.slice none 0 0),(5,.int .i64 0),(6,pt b),(7,.bool true)] _ _ ?_ (by simp (maxSteps:=2000000) only [vup,cond_true,cond_false,Nat.reduceBEq])
   clear hN N
   refine Ze fun N hN=>?_
   simp (maxSteps:=2000000) only [↓Za,↓Zn,↓Zp,↓Zb,↓Zc,↓vdn,vup,cond_true,cond_false,aop,Zg,ev,sput,Zf,unK,Nat.reduceBEq]
   refine hN [(0,v),(1,Zd n),(4,.slice none 0 0),(5,.int .i64 0),(6,pt b)] _ _ ?_ (by simp (maxSteps:=2000000) only [vup,cond_true,cond_false,Nat.reduceBEq])
   clear hN N
   have w0:=w
   obtain ⟨nv0,hc0,hv0⟩:=w0
   have ldl : ∀ {K:Value→Prop},Xq prog h1 3 (.pointer (some ⟨b,0,none⟩)) K=K (Zd (nearL xs n).length):=fun {K}=>loadC (o:=0) hc0 Xf rfl
   refine Ze fun N hN=>?_
   have n64:=gr.len
   have hnn:(0:Int)≤((64-(nearL xs n).length:Nat):Int):=Int.natCast_nonneg _
   simp (maxSteps:=2000000) only [↓Za,↓Zb,↓Zc,vup,cond_true,cond_false,aop,Zg,ev,sput,Zf,Zv,Zx,Nat.reduceBEq,tyf,nilK,fldA fld_62_0 Xe,ldl,sub64 n64,hnn,shrAll n64]
   refine hN [(4,.slice none 0 0),(5,.int .i64 0),(6,pt b),(8,vu (2 ^ (nearL xs n).length-1))] _ _ ?_ (by simp (maxSteps:=2000000) only [vup,cond_true,cond_false,Nat.reduceBEq])
   clear hN N
   refine Ze fun N hN=>?_
   simp (maxSteps:=2000000) only [↓Za,↓Zb,↓Zc,vup,List.map_cons,List.map_nil,cond_true,cond_false,aop,Zg,ev,sput,Zf,Nat.reduceBEq,Yz,List.nil_append,List.append_nil]
   refine (most_call w gr (2 ^ (nearL xs n).length-1) (by have:=Nat.two_pow_pos (nearL xs n).length; omega)).mono ?_
   rintro _ h1 ⟨rfl,rfl⟩
   refine hN [(4,.slice none 0 0),(5,.int .i64 0),(6,pt b),(8,vu (2 ^ (nearL xs n).length-1)),(9,Zd (A (nearL xs n) (2 ^ (nearL xs n).length-1):Nat))] _ _ ?_ (by simp (maxSteps:=2000000) only [vup,cond_true,cond_false,Nat.reduceBEq])
   clear hN N
   refine Ze fun N hN=>?_
   simp (maxSteps:=2000000) only [↓Za,↓Zb,↓Zc,vup,cond_false,aop,Zg,ev,sput,Zf,Nat.reduceBEq]
   refine hN [(4,.slice none 0 0),(5,.int .i64 0),(6,pt b),(8,vu (2 ^ (nearL xs n).length-1)),(9,Zd (A (nearL xs n) (2 ^ (nearL xs n).length-1):Nat)),(10,.slice none 0 0)] _ _ ?_ (by simp (maxSteps:=2000000) only [vup,cond_true,cond_false,Nat.reduceBEq])
   clear hN N
   refine Ze fun N hN=>?_
   refine code_loop w gr fun hp ov e hs he=>hN [(4,.slice none 0 0),(5,.int .i64 0),(10,ov)] _ _ ?_ he
   clear hN N
   refine Zj ?_
   simp (maxSteps:=2000000) only [↓Za,↓Zp,↓Ya,↓Zb,↓Zc,vup,cond_true,cond_false,aop,Zg,ev,sput,Zf,Nat.reduceBEq,Zu,Xu,tup]
   exact ⟨hE.trans hs.2.1,hcr _ _ (by rw [if_pos hw]; exact ⟨ov,rfl,hs.1⟩)⟩
 · rw [if_neg hw] at hr
   subst hr
   simp (maxSteps:=2000000) only [extr_20,extr_21]
   refine hN [(0,v),(1,Zd n),(4,.slice none 0 0),(5,.int .i64 0),(6,.pointer none),(7,.bool false)] _ _ ?_ (by simp (maxSteps:=2000000) only [vup,cond_true,cond_false,Nat.reduceBEq])
   clear hN N
   refine Zj ?_
   simp (maxSteps:=2000000) only [↓Za,↓Zp,↓Ya,↓Zb,↓Zc,↓vdn,vup,cond_true,cond_false,aop,Zg,ev,sput,Zf,unK,Nat.reduceBEq,Zu,Xu,tup]
   exact ⟨hE,hcr _ _ (by rw [if_neg hw])⟩
end Go.Proofs.Tryd.Am
namespace Go.Proofs.Tryd.Am
open Go.Am
set_option maxRecDepth 100000
/-! 72: slices.Contains[[]int,int] -/
@[reducible] def q72_0:SCode:=.region [⟨some 4,.assign (.const (.bool false)),none⟩]
@[reducible] def q72_1:SCode:=.region [⟨some 5,.move (.tmp 0),none⟩,
  ⟨some 6,.move (.tmp 1),none⟩,
  ⟨some 7,.call { callee:=.value (.func 94),args:=#[.tmp 5,.tmp 6],argTypes:=#[22,3] },none⟩,
  ⟨some 8,.binOp .geq 3 (.tmp 7) (.const (.int .i64 0)) 3,none⟩,
  ⟨some 4,.assign (.tmp 8),none⟩]
def s72:SCode:=(.seq q72_0 (.seq q72_1 .ret))
theorem s72_strip:Zy (Zw Tryd.f72)=s72:=by kernel_rfl
theorem s72_ok:Yn 9 (Zw Tryd.f72)=true:=by kernel_rfl
/-! 94: slices.Index[[]int,int] -/
@[reducible] def q94_0:SCode:=.region [⟨some 4,.assign (.const (.int .i64 0)),none⟩]
@[reducible] def q94_1:SCode:=.region [⟨some 6,.move (.tmp 0),none⟩,
  ⟨some 7,.call { callee:=.builtin .len,args:=#[.tmp 6],argTypes:=#[22] },none⟩,
  ⟨some 8,.move (.const (.int .i64 0)),none⟩]
@[reducible] def q94_2:SCode:=.region [⟨some 9,.binOp .lss 3 (.tmp 8) (.tmp 7) 3,none⟩]
@[reducible] def q94_3:SCode:=.region [⟨some 10,.move (.tmp 8),none⟩,
  ⟨some 5,.assign (.tmp 10),none⟩]
@[reducible] def q94_4:SCode:=.region [⟨some 11,.move (.tmp 1),none⟩,
  ⟨some 12,.move (.tmp 0),none⟩,
  ⟨some 13,.move (.tmp 5),none⟩,
  ⟨some 14,.indexAddr 22 (.tmp 12) (.tmp 13),none⟩,
  ⟨some 15,.load 3 (.tmp 14),none⟩,
  ⟨some 16,.binOp .eql 3 (.tmp 11) (.tmp 15) 3,none⟩]
@[reducible] def q94_5:SCode:=.region [⟨some 17,.move (.tmp 5),none⟩,
  ⟨some 4,.assign (.tmp 17),none⟩]
@[reducible] def q94_6:SCode:=.region [⟨some 18,.binOp .add 3 (.tmp 8) (.const (.int .i64 1)) 3,none⟩,
  ⟨some 8,.move (.tmp 18),none⟩]
def l94_0:SCode:=(.seq q94_2 (.seq (.cond (.tmp 9) .skip (.exit 0)) (.seq (.block 1 (.seq q94_3 (.seq q94_4 (.cond (.tmp 16) (.seq q94_5 .ret) .skip)))) q94_6)))
@[reducible] def q94_7:SCode:=.region [⟨some 4,.assign (.const (.int .i64 (-1))),none⟩]
def s94:SCode:=(.seq q94_0 (.seq (.seq q94_1 (.block 0 (.loop l94_0))) (.seq q94_7 .ret)))
theorem s94_strip:Zy (Zw Tryd.f94)=s94:=by kernel_rfl
theorem s94_ok:Yn 19 (Zw Tryd.f94)=true:=by kernel_rfl
end Go.Proofs.Tryd.Am
namespace Go.Proofs.Tryd.Am
open Go.Am Sr
set_option maxRecDepth 100000
set_option maxHeartbeats 1000000
def gn (xs:List Int) (i:Nat):Nat:=(xs.getD i 0).toNat
def cq (xs:List Int) (s i:Nat):Bool:=!s.testBit i || (less s (gn xs i)==2 ^ i)
def isC (xs:List Int) (s:Nat):Bool:=(List.range xs.length).all (cq xs s)
def clqTo (xs:List Int) (t:Nat):List Nat:=(List.range t).filter fun s=>decide (0<s)&&isC xs s
def clq (xs:List Int):List Nat:=clqTo xs (2 ^ xs.length)
theorem pow6N {n:Nat} (h:n≤6):2 ^ n≤64:=Nat.pow_le_pow_right (n:=2) (by decide) h
theorem shlI1 {n:Nat} (h:n≤62):shlV .i64 1 (n:Int)=((2 ^ n:Nat):Int):=by
 have h2:2 ^ n≤2 ^ 62:=Nat.pow_le_pow_right (by decide) h
 have:=shlV_nat (a:=1) (y:=n) (by omega) (by omega)
 simpa using this
end Go.Proofs.Tryd.Am
namespace Go.Proofs.Tryd.Am
open Go.Am Sr
set_option maxRecDepth 100000
set_option maxHeartbeats 1000000
def mn (a b:Nat):Nat:=if b<a then b else a
def cvS (s:Nat) (L:List Nat) (c:Nat):List Nat:=if c &&& s=0 then L else L.set s (mn (L.getD s 0) (1+L.getD (less s c) 0))
def cvJ (C:List Nat) (n s:Nat) (L:List Nat) (j:Nat):List Nat:=(C.take j).foldl (cvS s) (L.set s n)
theorem getD_setN {L:List Nat} {s x i:Nat} (hs:s<L.length):(L.set s x).getD i 0=if i=s then x else L.getD i 0:=by
 rw [List.getD,List.getElem?_set]
 by_cases h:s=i
 · subst h; simp [hs]
 · rw [if_neg h,if_neg (Ne.symm h)]; rfl
structure CvB (M n:Nat) (L:List Nat):Prop where
 len:L.length=M
 le : ∀ i,L.getD i 0≤n
theorem CvB.set {M n s x:Nat} {L:List Nat} (b:CvB M n L) (hs:s<M) (hx:x≤n):CvB M n (L.set s x) :=
 ⟨by rw [List.length_set]; exact b.len,fun i=>by rw [getD_setN (by rw [b.len]; exact hs)]; split; exact hx; exact b.le i⟩
theorem CvB.step {M n s:Nat} {L:List Nat} (b:CvB M n L) (hs:s<M) (c:Nat):CvB M n (cvS s L c):=by
 unfold cvS
 split
 · exact b
 · refine b.set hs ?_
   have:=b.le s
   unfold mn; split <;> omega
theorem cvJ_zero (C:List Nat) (n s:Nat) (L:List Nat):cvJ C n s L 0=L.set s n:=by rw [cvJ,List.take_zero]; rfl
theorem cvJ_succ {C:List Nat} (n s:Nat) (L:List Nat) {j:Nat} (hj:j<C.length):cvJ C n s L (j+1)=cvS s (cvJ C n s L j) (C.getD j 0):=by
 rw [cvJ,List.take_succ_eq_append_getElem hj,List.foldl_append,cvJ,List.getD,List.getElem?_eq_getElem hj]; rfl
theorem CvB.run {C:List Nat} {M n s:Nat} {L:List Nat} (b:CvB M n L) (hs:s<M) : ∀ j,j≤C.length→CvB M n (cvJ C n s L j)
 | 0,_=>by rw [cvJ_zero]; exact b.set hs (Nat.le_refl _)
 | j+1,h=>by rw [cvJ_succ n s L (by omega)]; exact (b.run hs j (by omega)).step hs _
abbrev iL (L:List Nat):List Int:=L.map Int.ofNat
theorem iL_len (L:List Nat):(iL L).length=L.length:=by simp
theorem iL_get (L:List Nat) (i:Nat):(iL L).getD i 0=((L.getD i 0:Nat):Int):=by
 rw [List.getD,List.getElem?_map,List.getD]; cases L[i]? <;> rfl
theorem iL_set (L:List Nat) (i x:Nat):(iL L).set i ((x:Nat):Int)=iL (L.set i x):=by simp only [iL,List.map_set]; rfl
theorem bneZ {a:Nat}:(((a:Nat):Int) != 0) = !(a==0):=bneN (b:=0)
abbrev tv (b M:Nat):Value:=.slice (some ⟨b,0,none⟩) M M
section tab
variable {hp:Zh} {b M:Nat} {L:List Nat}
theorem tab_load (hb:hp[b]? = some (.ints (iL L) 3 false)) (hL:L.length=M) {i:Nat} (hi:i<M) {K:Value→Prop}:Xq prog hp 3 (.pointer (some ⟨b,i,none⟩)) K=K (Zd (L.getD i 0:Nat)):=by
 have h1:=intSl_blk hb
 rw [iL_len,hL] at h1
 have:=h1.load Xf (i:=i) (by rw [iL_len,hL]; exact hi) K
 rw [elemP_new,iL_get] at this
 exact this
theorem tab_store (hb:hp[b]? = some (.ints (iL L) 3 false)) (hL:L.length=M) {i x:Nat} (hi:i<M) {K:Zh→Prop}:Xh prog hp 3 (.pointer (some ⟨b,i,none⟩)) (Zd (x:Nat)) K=K (hp.set b (.ints (iL (L.set i x)) 3 false)):=by
 rw [storeBI hb Xf (by rw [iL_len,hL]; exact hi),iL_set]
end tab
end Go.Proofs.Tryd.Am
namespace Go.Proofs.Tryd.Am
open Go.Am
set_option maxRecDepth 100000
/-! 61: planchet sure.packing -/
@[reducible] def q61_0:SCode:=.region [⟨some 2,.box 3 (.tmp 0),none⟩,
  ⟨some 3,.box 22 (.tmp 1),none⟩,
  ⟨some 4,.alloc 44,none⟩]
@[reducible] def q61_1:SCode:=.region [⟨some 14,.load 22 (.tmp 3),none⟩,
  ⟨some 15,.call { callee:=.value (.func 26),args:=#[.tmp 14],argTypes:=#[22] },none⟩,
  ⟨some 16,.makeFunc (.func 82) #[] #[.tmp 3],none⟩,
  ⟨some 17,.call { callee:=.value (.func 81),args:=#[.tmp 15,.tmp 16],argTypes:=#[22,81] },none⟩,
  ⟨none,.store 22 (.tmp 3) (.tmp 17),none⟩]
@[reducible] def q61_2:SCode:=.region [⟨some 5,.alloc 82,none⟩]
@[reducible] def q61_3:SCode:=.region [⟨some 18,.load 22 (.tmp 3),none⟩,
  ⟨some 19,.call { callee:=.builtin .len,args:=#[.tmp 18],argTypes:=#[22] },none⟩,
  ⟨some 20,.move (.const (.int .i64 0)),none⟩]
@[reducible] def q61_4:SCode:=.region [⟨some 21,.binOp .lss 3 (.tmp 20) (.tmp 19) 3,none⟩]
@[reducible] def q61_5:SCode:=.region [⟨some 22,.indexAddr 22 (.tmp 18) (.tmp 20),none⟩,
  ⟨some 23,.load 3 (.tmp 22),none⟩,
  ⟨some 7,.assign (.tmp 23),none⟩]
@[reducible] def q61_6:SCode:=.region [⟨some 8,.assign (.const (.slice none 0 0)),none⟩]
@[reducible] def q61_7:SCode:=.region [⟨some 24,.load 3 (.tmp 2),none⟩,
  ⟨some 25,.move (.const (.int .i64 0)),none⟩]
@[reducible] def q61_8:SCode:=.region [⟨some 26,.binOp .lss 3 (.tmp 25) (.tmp 24) 3,none⟩]
@[reducible] def q61_9:SCode:=.region [⟨some 27,.move (.tmp 25),none⟩,
  ⟨some 9,.assign (.tmp 27),none⟩]
@[reducible] def q61_10:SCode:=.region [⟨some 28,.move (.tmp 8),none⟩,
  ⟨some 29,.move (.tmp 7),none⟩,
  ⟨some 30,.move (.tmp 9),none⟩,
  ⟨some 31,.binOp .shr 3 (.tmp 29) (.tmp 30) 3,none⟩,
  ⟨some 32,.binOp .and 3 (.tmp 31) (.const (.int .i64 1)) 3,none⟩,
  ⟨some 33,.buildSlice 22 1 #[(0,.tmp 32)],none⟩,
  ⟨some 34,.call { callee:=.builtin .append,args:=#[.tmp 28,.tmp 33],argTypes:=#[22,22] },none⟩,
  ⟨some 8,.assign (.tmp 34),none⟩]
@[reducible] def q61_11:SCode:=.region [⟨some 35,.binOp .add 3 (.tmp 25) (.const (.int .i64 1)) 3,none⟩,
  ⟨some 25,.move (.tmp 35),none⟩]
def l61_0:SCode:=(.seq q61_8 (.seq (.cond (.tmp 26) .skip (.exit 2)) (.seq (.block 3 (.seq q61_9 q61_10)) q61_11)))
def q61_12:SCode:=.draw [⟨some 36,.load 82 (.tmp 5),none⟩,
    ⟨some 37,.move (.tmp 8),none⟩,
    ⟨some 38,.buildSlice 22 1 #[(0,.const (.int .i64 1))],none⟩,
    ⟨some 39,.call { callee:=.builtin .append,args:=#[.tmp 37,.tmp 38],argTypes:=#[22,22] },none⟩,
    ⟨some 40,.buildSlice 82 1 #[(0,.tmp 39)],none⟩,
    ⟨some 41,.call { callee:=.builtin .append,args:=#[.tmp 36,.tmp 40],argTypes:=#[82,82] },none⟩,
    ⟨none,.store 82 (.tmp 5) (.tmp 41),none⟩]
  [[],[],[],[1,2],[3],[0,4,3],[5,5,0,1,2,3,4,5]]
@[reducible] def q61_13:SCode:=.region [⟨some 42,.binOp .add 3 (.tmp 20) (.const (.int .i64 1)) 3,none⟩,
  ⟨some 20,.move (.tmp 42),none⟩]
def l61_1:SCode:=(.seq q61_4 (.seq (.cond (.tmp 21) .skip (.exit 0)) (.seq (.block 1 (.seq q61_5 (.seq q61_6 (.seq (.seq q61_7 (.block 2 (.loop l61_0))) q61_12)))) q61_13)))
@[reducible] def q61_14:SCode:=.region [⟨some 43,.load 3 (.tmp 2),none⟩,
  ⟨some 44,.move (.const (.int .i64 0)),none⟩]
@[reducible] def q61_15:SCode:=.region [⟨some 45,.binOp .lss 3 (.tmp 44) (.tmp 43) 3,none⟩]
@[reducible] def q61_16:SCode:=.region [⟨some 46,.move (.tmp 44),none⟩,
  ⟨some 10,.assign (.tmp 46),none⟩]
@[reducible] def q61_17:SCode:=.region [⟨some 47,.load 3 (.tmp 2),none⟩,
  ⟨some 48,.binOp .add 3 (.tmp 47) (.const (.int .i64 1)) 3,none⟩,
  ⟨some 49,.makeSlice 22 (.tmp 48) (.tmp 48),none⟩,
  ⟨some 11,.assign (.tmp 49),none⟩]
@[reducible] def q61_18:SCode:=.region [⟨some 50,.move (.tmp 11),none⟩,
  ⟨some 51,.move (.tmp 10),none⟩,
  ⟨some 52,.indexAddr 22 (.tmp 50) (.tmp 51),none⟩,
  ⟨none,.store 3 (.tmp 52) (.const (.int .i64 1)),none⟩]
@[reducible] def q61_19:SCode:=.region [⟨some 53,.load 82 (.tmp 5),none⟩,
  ⟨some 54,.move (.tmp 11),none⟩,
  ⟨some 55,.buildSlice 82 1 #[(0,.tmp 54)],none⟩,
  ⟨some 56,.call { callee:=.builtin .append,args:=#[.tmp 53,.tmp 55],argTypes:=#[82,82] },none⟩,
  ⟨none,.store 82 (.tmp 5) (.tmp 56),none⟩]
@[reducible] def q61_20:SCode:=.region [⟨some 57,.binOp .add 3 (.tmp 44) (.const (.int .i64 1)) 3,none⟩,
  ⟨some 44,.move (.tmp 57),none⟩]
def l61_2:SCode:=(.seq q61_15 (.seq (.cond (.tmp 45) .skip (.exit 4)) (.seq (.block 5 (.seq q61_16 (.seq q61_17 (.seq q61_18 q61_19)))) q61_20)))
@[reducible] def q61_21:SCode:=.region [⟨some 58,.build 44 #[(0,.const (.int .i64 0)),(1,.const (.int .i64 1))],none⟩,
  ⟨some 12,.alloc 44,none⟩,
  ⟨none,.store 44 (.tmp 12) (.tmp 58),none⟩]
@[reducible] def q61_22:SCode:=.region [⟨some 13,.alloc 83,none⟩]
@[reducible] def q61_23:SCode:=.region [⟨some 59,.makeFunc (.func 85) #[] #[.tmp 2,.tmp 5,.tmp 13,.tmp 3,.tmp 12],none⟩,
  ⟨none,.store 83 (.tmp 13) (.tmp 59),none⟩]
@[reducible] def q61_24:SCode:=.region [⟨some 60,.load 83 (.tmp 13),none⟩,
  ⟨some 61,.call { callee:=.value (.tmp 60),args:=#[.const (.int .i64 0),.const (.slice none 0 0)],argTypes:=#[3,84] },none⟩]
@[reducible] def q61_25:SCode:=.region [⟨some 62,.load 44 (.tmp 12),none⟩,
  ⟨none,.store 44 (.tmp 4) (.tmp 62),none⟩]
def s61:SCode:=(.seq q61_0 (.seq q61_1 (.seq q61_2 (.seq (.seq q61_3 (.block 0 (.loop l61_1))) (.seq (.seq q61_14 (.block 4 (.loop l61_2))) (.seq q61_21 (.seq q61_22 (.seq q61_23 (.seq q61_24 (.seq q61_25 .ret))))))))))
theorem s61_strip:Zy (Zw Tryd.f61)=s61:=by kernel_rfl
theorem s61_ok:Yn 63 (Zw Tryd.f61)=true:=by kernel_rfl
/-! 66: planchet sure.less -/
@[reducible] def q66_0:SCode:=.region [⟨some 2,.box 44 (.tmp 0),none⟩,
  ⟨some 3,.box 44 (.tmp 1),none⟩,
  ⟨some 4,.assign (.const (.bool false)),none⟩]
@[reducible] def q66_1:SCode:=.region [⟨some 5,.fieldAddr 44 (.tmp 2) 0,none⟩,
  ⟨some 6,.load 3 (.tmp 5),none⟩,
  ⟨some 7,.fieldAddr 44 (.tmp 3) 1,none⟩,
  ⟨some 8,.load 3 (.tmp 7),none⟩,
  ⟨some 9,.binOp .mul 3 (.tmp 6) (.tmp 8) 3,none⟩,
  ⟨some 10,.fieldAddr 44 (.tmp 3) 0,none⟩,
  ⟨some 11,.load 3 (.tmp 10),none⟩,
  ⟨some 12,.fieldAddr 44 (.tmp 2) 1,none⟩,
  ⟨some 13,.load 3 (.tmp 12),none⟩,
  ⟨some 14,.binOp .mul 3 (.tmp 11) (.tmp 13) 3,none⟩,
  ⟨some 15,.binOp .lss 3 (.tmp 9) (.tmp 14) 3,none⟩,
  ⟨some 4,.assign (.tmp 15),none⟩]
def s66:SCode:=(.seq q66_0 (.seq q66_1 .ret))
theorem s66_strip:Zy (Zw Tryd.f66)=s66:=by kernel_rfl
theorem s66_ok:Yn 16 (Zw Tryd.f66)=true:=by kernel_rfl
theorem s66_call [Tabs Tryd.prog] {args:List Value} {h:Zh} {Q:Value→Zh→Prop} (hsz:args.length≤16) (hk:aw Tryd.prog 16 s66 (Zu Tryd.prog [.tmp 4] Q) (Zt 0 args) h):ACall Tryd.prog 66 args h Q :=
 Ww Tryd.func66 rfl (enters_of Tryd.func66 (by kernel_rfl) rfl) rfl rfl (by decide) s66_strip s66_ok hsz hk
/-! 81: slices.DeleteFunc[[]int,int] -/
@[reducible] def q81_0:SCode:=.region [⟨some 4,.assign (.const (.slice none 0 0)),none⟩]
@[reducible] def q81_1:SCode:=.region [⟨some 8,.move (.tmp 0),none⟩,
  ⟨some 9,.move (.tmp 1),none⟩,
  ⟨some 10,.call { callee:=.value (.func 98),args:=#[.tmp 8,.tmp 9],argTypes:=#[22,81] },none⟩,
  ⟨some 5,.assign (.tmp 10),none⟩]
@[reducible] def q81_2:SCode:=.region [⟨some 11,.move (.tmp 5),none⟩,
  ⟨some 12,.binOp .eql 3 (.tmp 11) (.const (.int .i64 (-1))) 3,none⟩]
@[reducible] def q81_3:SCode:=.region [⟨some 13,.move (.tmp 0),none⟩,
  ⟨some 4,.assign (.tmp 13),none⟩]
@[reducible] def q81_4:SCode:=.region [⟨some 14,.move (.tmp 5),none⟩,
  ⟨some 15,.binOp .add 3 (.tmp 14) (.const (.int .i64 1)) 3,none⟩,
  ⟨some 6,.assign (.tmp 15),none⟩]
@[reducible] def q81_5:SCode:=.region [⟨some 16,.move (.tmp 6),none⟩,
  ⟨some 17,.move (.tmp 0),none⟩,
  ⟨some 18,.call { callee:=.builtin .len,args:=#[.tmp 17],argTypes:=#[22] },none⟩,
  ⟨some 19,.binOp .lss 3 (.tmp 16) (.tmp 18) 3,none⟩]
@[reducible] def q81_7:SCode:=.region [⟨some 22,.move (.tmp 0),none⟩,
  ⟨some 23,.move (.tmp 6),none⟩,
  ⟨some 24,.indexAddr 22 (.tmp 22) (.tmp 23),none⟩,
  ⟨some 25,.load 3 (.tmp 24),none⟩,
  ⟨some 7,.assign (.tmp 25),none⟩]
@[reducible] def q81_8:SCode:=.region [⟨some 26,.move (.tmp 1),none⟩,
  ⟨some 27,.move (.tmp 7),none⟩,
  ⟨some 28,.call { callee:=.value (.tmp 26),args:=#[.tmp 27],argTypes:=#[3] },none⟩,
  ⟨some 29,.unOp .not 4 (.tmp 28),none⟩]
@[reducible] def q81_9:SCode:=.region [⟨some 30,.move (.tmp 0),none⟩,
  ⟨some 31,.move (.tmp 5),none⟩,
  ⟨some 32,.move (.tmp 7),none⟩,
  ⟨some 33,.indexAddr 22 (.tmp 30) (.tmp 31),none⟩,
  ⟨none,.store 3 (.tmp 33) (.tmp 32),none⟩]
@[reducible] def q81_10:SCode:=.region [⟨some 34,.move (.tmp 5),none⟩,
  ⟨some 35,.binOp .add 3 (.tmp 34) (.const (.int .i64 1)) 3,none⟩,
  ⟨some 5,.assign (.tmp 35),none⟩]
@[reducible] def q81_6:SCode:=.region [⟨some 20,.move (.tmp 6),none⟩,
  ⟨some 21,.binOp .add 3 (.tmp 20) (.const (.int .i64 1)) 3,none⟩,
  ⟨some 6,.assign (.tmp 21),none⟩]
def l81_0:SCode:=(.seq (.seq q81_5 (.cond (.tmp 19) .skip (.exit 0))) (.seq (.block 1 (.seq q81_7 (.seq q81_8 (.cond (.tmp 29) (.seq q81_9 q81_10) .skip)))) q81_6))
@[reducible] def q81_11:SCode:=.region [⟨some 36,.move (.tmp 0),none⟩,
  ⟨some 37,.move (.tmp 5),none⟩,
  ⟨some 38,.slice 22 (.tmp 36) (some (.tmp 37)) none none,none⟩,
  ⟨none,.call { callee:=.builtin .clear,args:=#[.tmp 38],argTypes:=#[22] },none⟩]
@[reducible] def q81_12:SCode:=.region [⟨some 39,.move (.tmp 0),none⟩,
  ⟨some 40,.move (.tmp 5),none⟩,
  ⟨some 41,.slice 22 (.tmp 39) none (some (.tmp 40)) none,none⟩,
  ⟨some 4,.assign (.tmp 41),none⟩]
def s81:SCode:=(.seq q81_0 (.seq q81_1 (.seq (.seq q81_2 (.cond (.tmp 12) (.seq q81_3 .ret) .skip)) (.seq (.seq q81_4 (.block 0 (.loop l81_0))) (.seq q81_11 (.seq q81_12 .ret))))))
theorem s81_strip:Zy (Zw Tryd.f81)=s81:=by kernel_rfl
theorem s81_ok:Yn 42 (Zw Tryd.f81)=true:=by kernel_rfl
/-! 82: planchet sure.packing$1 -/
@[reducible] def q82_0:SCode:=.region [⟨some 2,.box 3 (.tmp 0),none⟩,
  ⟨some 3,.assign (.const (.bool false)),none⟩]
@[reducible] def q82_1:SCode:=.region [⟨some 4,.load 22 (.tmp 1),none⟩,
  ⟨some 5,.makeFunc (.func 84) #[] #[.tmp 2],none⟩,
  ⟨some 6,.call { callee:=.value (.func 83),args:=#[.tmp 4,.tmp 5],argTypes:=#[22,81] },none⟩,
  ⟨some 3,.assign (.tmp 6),none⟩]
def s82:SCode:=(.seq q82_0 (.seq q82_1 .ret))
theorem s82_strip:Zy (Zw Tryd.f82)=s82:=by kernel_rfl
theorem s82_ok:Yn 7 (Zw Tryd.f82)=true:=by kernel_rfl
/-! 83: slices.ContainsFunc[[]int,int] -/
@[reducible] def q83_0:SCode:=.region [⟨some 4,.assign (.const (.bool false)),none⟩]
@[reducible] def q83_1:SCode:=.region [⟨some 5,.move (.tmp 0),none⟩,
  ⟨some 6,.move (.tmp 1),none⟩,
  ⟨some 7,.call { callee:=.value (.func 98),args:=#[.tmp 5,.tmp 6],argTypes:=#[22,81] },none⟩,
  ⟨some 8,.binOp .geq 3 (.tmp 7) (.const (.int .i64 0)) 3,none⟩,
  ⟨some 4,.assign (.tmp 8),none⟩]
def s83:SCode:=(.seq q83_0 (.seq q83_1 .ret))
theorem s83_strip:Zy (Zw Tryd.f83)=s83:=by kernel_rfl
theorem s83_ok:Yn 9 (Zw Tryd.f83)=true:=by kernel_rfl
/-! 84: planchet sure.packing$1$1 -/
@[reducible] def q84_0:SCode:=.region [⟨some 3,.assign (.const (.bool false)),none⟩]
@[reducible] def q84_1:SCode:=.region [⟨some 4,.load 3 (.tmp 1),none⟩,
  ⟨some 5,.move (.tmp 0),none⟩,
  ⟨some 6,.binOp .neq 3 (.tmp 4) (.tmp 5) 3,none⟩,
  ⟨some 7,.move (.tmp 6),none⟩,
  ⟨some 8,.load 3 (.tmp 1),some (7,true)⟩,
  ⟨some 9,.move (.tmp 0),some (7,true)⟩,
  ⟨some 10,.binOp .andNot 3 (.tmp 8) (.tmp 9) 3,some (7,true)⟩,
  ⟨some 11,.binOp .eql 3 (.tmp 10) (.const (.int .i64 0)) 3,some (7,true)⟩,
  ⟨some 12,.pick (.tmp 7) (.tmp 11) (.const (.bool false)),none⟩,
  ⟨some 3,.assign (.tmp 12),none⟩]
def s84:SCode:=(.seq q84_0 (.seq q84_1 .ret))
theorem s84_strip:Zy (Zw Tryd.f84)=s84:=by kernel_rfl
theorem s84_ok:Yn 13 (Zw Tryd.f84)=true:=by kernel_rfl
theorem s84_call [Tabs Tryd.prog] {args:List Value} {h:Zh} {Q:Value→Zh→Prop} (hsz:args.length≤13) (hk:aw Tryd.prog 13 s84 (Zu Tryd.prog [.tmp 3] Q) (Zt 0 args) h):ACall Tryd.prog 84 args h Q :=
 Ww Tryd.func84 rfl (enters_of Tryd.func84 (by kernel_rfl) rfl) rfl rfl (by decide) s84_strip s84_ok hsz hk
/-! 85: planchet sure.packing$2 -/
@[reducible] def q85_0:SCode:=.region [⟨some 22,.move (.tmp 1),none⟩,
  ⟨some 23,.call { callee:=.builtin .len,args:=#[.tmp 22],argTypes:=#[84] },none⟩,
  ⟨some 24,.load 3 (.tmp 2),none⟩,
  ⟨some 25,.binOp .lss 3 (.tmp 23) (.tmp 24) 3,none⟩]
@[reducible] def q85_1:SCode:=.region [⟨some 26,.move (.tmp 0),none⟩,
  ⟨some 9,.assign (.tmp 26),none⟩]
@[reducible] def q85_2:SCode:=.region [⟨some 27,.move (.tmp 9),none⟩,
  ⟨some 28,.load 82 (.tmp 3),none⟩,
  ⟨some 29,.call { callee:=.builtin .len,args:=#[.tmp 28],argTypes:=#[82] },none⟩,
  ⟨some 30,.binOp .lss 3 (.tmp 27) (.tmp 29) 3,none⟩]
def q85_4:SCode:=.draw [⟨some 33,.load 83 (.tmp 4),none⟩,
    ⟨some 34,.move (.tmp 9),none⟩,
    ⟨some 35,.binOp .add 3 (.tmp 34) (.const (.int .i64 1)) 3,none⟩,
    ⟨some 36,.move (.tmp 1),none⟩,
    ⟨some 37,.move (.tmp 1),none⟩,
    ⟨some 38,.call { callee:=.builtin .len,args:=#[.tmp 37],argTypes:=#[84] },none⟩,
    ⟨some 39,.move (.tmp 1),none⟩,
    ⟨some 40,.call { callee:=.builtin .len,args:=#[.tmp 39],argTypes:=#[84] },none⟩,
    ⟨some 41,.slice 84 (.tmp 36) none (some (.tmp 38)) (some (.tmp 40)),none⟩,
    ⟨some 42,.load 82 (.tmp 3),none⟩,
    ⟨some 43,.move (.tmp 9),none⟩,
    ⟨some 44,.indexAddr 82 (.tmp 42) (.tmp 43),none⟩,
    ⟨some 45,.load 22 (.tmp 44),none⟩,
    ⟨some 46,.buildSlice 84 1 #[(0,.tmp 45)],none⟩,
    ⟨some 47,.call { callee:=.builtin .append,args:=#[.tmp 41,.tmp 46],argTypes:=#[84,84] },none⟩,
    ⟨some 48,.call { callee:=.value (.tmp 33),args:=#[.tmp 35,.tmp 47],argTypes:=#[3,84] },none⟩]
  [[],[],[1],[],[],[4],[],[6],[3,5,7],[],[],[9,10],[11],[12],[8,13],[0,2,14,14]]
@[reducible] def q85_3:SCode:=.region [⟨some 31,.move (.tmp 9),none⟩,
  ⟨some 32,.binOp .add 3 (.tmp 31) (.const (.int .i64 1)) 3,none⟩,
  ⟨some 9,.assign (.tmp 32),none⟩]
def l85_0:SCode:=(.seq (.seq q85_2 (.cond (.tmp 30) .skip (.exit 0))) (.seq (.block 1 q85_4) q85_3))
@[reducible] def q85_5:SCode:=.region [⟨some 50,.move (.tmp 1),none⟩,
  ⟨some 51,.call { callee:=.value (.func 86),args:=#[.tmp 50],argTypes:=#[84] },none⟩,
  ⟨some 49,.move (.tmp 51),none⟩,
  ⟨some 52,.extract (.tmp 49) 0,none⟩,
  ⟨some 53,.extract (.tmp 49) 1,none⟩,
  ⟨some 54,.extract (.tmp 49) 2,none⟩,
  ⟨some 10,.assign (.tmp 52),none⟩,
  ⟨some 11,.assign (.tmp 53),none⟩,
  ⟨some 12,.assign (.tmp 54),none⟩]
@[reducible] def q85_6:SCode:=.region [⟨some 55,.move (.tmp 12),none⟩,
  ⟨some 56,.unOp .not 4 (.tmp 55),none⟩,
  ⟨some 57,.move (.tmp 56),none⟩,
  ⟨some 58,.move (.tmp 10),some (57,false)⟩,
  ⟨some 59,.call { callee:=.value (.func 87),args:=#[.tmp 58],argTypes:=#[22] },some (57,false)⟩,
  ⟨some 60,.binOp .lss 3 (.tmp 59) (.const (.int .i64 0)) 3,some (57,false)⟩,
  ⟨some 61,.pick (.tmp 57) (.const (.bool true)) (.tmp 60),none⟩]
@[reducible] def q85_7:SCode:=.region [⟨some 13,.assign (.const (.int .i64 0)),none⟩]
@[reducible] def q85_8:SCode:=.region [⟨some 62,.move (.tmp 10),none⟩,
  ⟨some 63,.call { callee:=.builtin .len,args:=#[.tmp 62],argTypes:=#[22] },none⟩,
  ⟨some 64,.move (.const (.int .i64 0)),none⟩]
@[reducible] def q85_9:SCode:=.region [⟨some 65,.binOp .lss 3 (.tmp 64) (.tmp 63) 3,none⟩]
@[reducible] def q85_10:SCode:=.region [⟨some 66,.indexAddr 22 (.tmp 62) (.tmp 64),none⟩,
  ⟨some 67,.load 3 (.tmp 66),none⟩,
  ⟨some 15,.assign (.tmp 67),none⟩]
@[reducible] def q85_11:SCode:=.region [⟨some 68,.move (.tmp 13),none⟩,
  ⟨some 69,.move (.tmp 15),none⟩,
  ⟨some 70,.binOp .add 3 (.tmp 68) (.tmp 69) 3,none⟩,
  ⟨some 13,.assign (.tmp 70),none⟩]
@[reducible] def q85_12:SCode:=.region [⟨some 71,.binOp .add 3 (.tmp 64) (.const (.int .i64 1)) 3,none⟩,
  ⟨some 64,.move (.tmp 71),none⟩]
def l85_1:SCode:=(.seq q85_9 (.seq (.cond (.tmp 65) .skip (.exit 2)) (.seq (.block 3 (.seq q85_10 q85_11)) q85_12)))
@[reducible] def q85_13:SCode:=.region [⟨some 72,.load 22 (.tmp 5),none⟩,
  ⟨some 73,.call { callee:=.builtin .len,args:=#[.tmp 72],argTypes:=#[22] },none⟩,
  ⟨some 74,.move (.const (.int .i64 0)),none⟩]
@[reducible] def q85_14:SCode:=.region [⟨some 75,.binOp .lss 3 (.tmp 74) (.tmp 73) 3,none⟩]
@[reducible] def q85_15:SCode:=.region [⟨some 76,.indexAddr 22 (.tmp 72) (.tmp 74),none⟩,
  ⟨some 77,.load 3 (.tmp 76),none⟩,
  ⟨some 17,.assign (.tmp 77),none⟩]
@[reducible] def q85_16:SCode:=.region [⟨some 18,.assign (.const (.int .i64 0)),none⟩]
@[reducible] def q85_17:SCode:=.region [⟨some 78,.move (.tmp 10),none⟩,
  ⟨some 79,.call { callee:=.builtin .len,args:=#[.tmp 78],argTypes:=#[22] },none⟩,
  ⟨some 80,.move (.const (.int .i64 0)),none⟩]
@[reducible] def q85_18:SCode:=.region [⟨some 81,.binOp .lss 3 (.tmp 80) (.tmp 79) 3,none⟩]
@[reducible] def q85_19:SCode:=.region [⟨some 82,.move (.tmp 80),none⟩,
  ⟨some 83,.indexAddr 22 (.tmp 78) (.tmp 80),none⟩,
  ⟨some 84,.load 3 (.tmp 83),none⟩,
  ⟨some 19,.assign (.tmp 82),none⟩,
  ⟨some 20,.assign (.tmp 84),none⟩]
@[reducible] def q85_20:SCode:=.region [⟨some 85,.move (.tmp 18),none⟩,
  ⟨some 86,.move (.tmp 17),none⟩,
  ⟨some 87,.move (.tmp 19),none⟩,
  ⟨some 88,.binOp .shr 3 (.tmp 86) (.tmp 87) 3,none⟩,
  ⟨some 89,.binOp .and 3 (.tmp 88) (.const (.int .i64 1)) 3,none⟩,
  ⟨some 90,.move (.tmp 20),none⟩,
  ⟨some 91,.binOp .mul 3 (.tmp 89) (.tmp 90) 3,none⟩,
  ⟨some 92,.binOp .add 3 (.tmp 85) (.tmp 91) 3,none⟩,
  ⟨some 18,.assign (.tmp 92),none⟩]
@[reducible] def q85_21:SCode:=.region [⟨some 93,.binOp .add 3 (.tmp 80) (.const (.int .i64 1)) 3,none⟩,
  ⟨some 80,.move (.tmp 93),none⟩]
def l85_2:SCode:=(.seq q85_18 (.seq (.cond (.tmp 81) .skip (.exit 6)) (.seq (.block 7 (.seq q85_19 q85_20)) q85_21)))
@[reducible] def q85_22:SCode:=.region [⟨some 94,.move (.tmp 18),none⟩,
  ⟨some 95,.move (.tmp 11),none⟩,
  ⟨some 96,.binOp .gtr 3 (.tmp 94) (.tmp 95) 3,none⟩]
@[reducible] def q85_23:SCode:=.region [⟨some 97,.binOp .add 3 (.tmp 74) (.const (.int .i64 1)) 3,none⟩,
  ⟨some 74,.move (.tmp 97),none⟩]
def l85_3:SCode:=(.seq q85_14 (.seq (.cond (.tmp 75) .skip (.exit 4)) (.seq (.block 5 (.seq q85_15 (.seq q85_16 (.seq (.seq q85_17 (.block 6 (.loop l85_2))) (.seq q85_22 (.cond (.tmp 96) .ret .skip)))))) q85_23)))
@[reducible] def q85_24:SCode:=.region [⟨some 98,.move (.tmp 13),none⟩,
  ⟨some 99,.move (.tmp 11),none⟩,
  ⟨some 100,.call { callee:=.value (.func 88),args:=#[.tmp 98,.tmp 99],argTypes:=#[3,3] },none⟩,
  ⟨some 21,.alloc 44,none⟩,
  ⟨none,.store 44 (.tmp 21) (.tmp 100),none⟩]
@[reducible] def q85_25:SCode:=.region [⟨some 101,.load 44 (.tmp 6),none⟩,
  ⟨some 102,.load 44 (.tmp 21),none⟩,
  ⟨some 103,.call { callee:=.value (.func 66),args:=#[.tmp 101,.tmp 102],argTypes:=#[44,44] },none⟩]
@[reducible] def q85_26:SCode:=.region [⟨some 104,.load 44 (.tmp 21),none⟩,
  ⟨none,.store 44 (.tmp 6) (.tmp 104),none⟩]
def s85:SCode:=(.seq (.seq q85_0 (.cond (.tmp 25) (.seq (.seq q85_1 (.block 0 (.loop l85_0))) .ret) .skip)) (.seq q85_5 (.seq (.seq q85_6 (.cond (.tmp 61) .ret .skip)) (.seq q85_7 (.seq (.seq q85_8 (.block 2 (.loop l85_1))) (.seq (.seq q85_13 (.block 4 (.loop l85_3))) (.seq q85_24 (.seq q85_25 (.cond (.tmp 103) q85_26 .skip)))))))))
theorem s85_strip:Zy (Zw Tryd.f85)=s85:=by kernel_rfl
theorem s85_ok:Yn 105 (Zw Tryd.f85)=true:=by kernel_rfl
/-! 86: (planchet sure.system).solve -/
@[reducible] def q86_0:SCode:=.region [⟨some 2,.assign (.const (.slice none 0 0)),none⟩,
  ⟨some 3,.assign (.const (.int .i64 0)),none⟩,
  ⟨some 4,.assign (.const (.bool false)),none⟩]
@[reducible] def q86_1:SCode:=.region [⟨some 11,.move (.tmp 0),none⟩,
  ⟨some 12,.call { callee:=.builtin .len,args:=#[.tmp 11],argTypes:=#[84] },none⟩,
  ⟨some 5,.assign (.tmp 12),none⟩]
@[reducible] def q86_2:SCode:=.region [⟨some 13,.move (.tmp 0),none⟩,
  ⟨some 14,.move (.tmp 5),none⟩,
  ⟨some 15,.call { callee:=.value (.func 99),args:=#[.tmp 13,.tmp 14],argTypes:=#[84,3] },none⟩,
  ⟨some 3,.assign (.tmp 15),none⟩]
@[reducible] def q86_3:SCode:=.region [⟨some 16,.move (.tmp 3),none⟩,
  ⟨some 17,.binOp .eql 3 (.tmp 16) (.const (.int .i64 0)) 3,none⟩]
@[reducible] def q86_4:SCode:=.region [⟨some 2,.assign (.const (.slice none 0 0)),none⟩,
  ⟨some 3,.assign (.const (.int .i64 0)),none⟩,
  ⟨some 4,.assign (.const (.bool false)),none⟩]
@[reducible] def q86_5:SCode:=.region [⟨some 18,.move (.tmp 5),none⟩,
  ⟨some 19,.move (.const (.int .i64 0)),none⟩]
@[reducible] def q86_6:SCode:=.region [⟨some 20,.binOp .lss 3 (.tmp 19) (.tmp 18) 3,none⟩]
@[reducible] def q86_7:SCode:=.region [⟨some 21,.move (.tmp 19),none⟩,
  ⟨some 6,.assign (.tmp 21),none⟩]
@[reducible] def q86_8:SCode:=.region [⟨some 7,.assign (.const (.slice none 0 0)),none⟩]
@[reducible] def q86_9:SCode:=.region [⟨some 22,.move (.tmp 0),none⟩,
  ⟨some 23,.call { callee:=.builtin .len,args:=#[.tmp 22],argTypes:=#[84] },none⟩,
  ⟨some 24,.move (.const (.int .i64 0)),none⟩]
@[reducible] def q86_10:SCode:=.region [⟨some 25,.binOp .lss 3 (.tmp 24) (.tmp 23) 3,none⟩]
@[reducible] def q86_11:SCode:=.region [⟨some 26,.indexAddr 84 (.tmp 22) (.tmp 24),none⟩,
  ⟨some 27,.load 22 (.tmp 26),none⟩,
  ⟨some 9,.assign (.tmp 27),none⟩]
@[reducible] def q86_12:SCode:=.region [⟨some 28,.move (.tmp 9),none⟩,
  ⟨some 29,.call { callee:=.value (.func 26),args:=#[.tmp 28],argTypes:=#[22] },none⟩,
  ⟨some 9,.assign (.tmp 29),none⟩]
@[reducible] def q86_13:SCode:=.region [⟨some 30,.move (.tmp 9),none⟩,
  ⟨some 31,.move (.tmp 6),none⟩,
  ⟨some 32,.move (.tmp 9),none⟩,
  ⟨some 33,.move (.tmp 5),none⟩,
  ⟨some 34,.indexAddr 22 (.tmp 32) (.tmp 33),none⟩,
  ⟨some 35,.load 3 (.tmp 34),none⟩,
  ⟨some 36,.indexAddr 22 (.tmp 30) (.tmp 31),none⟩,
  ⟨none,.store 3 (.tmp 36) (.tmp 35),none⟩]
@[reducible] def q86_14:SCode:=.region [⟨some 37,.move (.tmp 7),none⟩,
  ⟨some 38,.move (.tmp 9),none⟩,
  ⟨some 39,.buildSlice 84 1 #[(0,.tmp 38)],none⟩,
  ⟨some 40,.call { callee:=.builtin .append,args:=#[.tmp 37,.tmp 39],argTypes:=#[84,84] },none⟩,
  ⟨some 7,.assign (.tmp 40),none⟩]
@[reducible] def q86_15:SCode:=.region [⟨some 41,.binOp .add 3 (.tmp 24) (.const (.int .i64 1)) 3,none⟩,
  ⟨some 24,.move (.tmp 41),none⟩]
def l86_0:SCode:=(.seq q86_10 (.seq (.cond (.tmp 25) .skip (.exit 2)) (.seq (.block 3 (.seq q86_11 (.seq q86_12 (.seq q86_13 q86_14)))) q86_15)))
@[reducible] def q86_16:SCode:=.region [⟨some 42,.move (.tmp 2),none⟩,
  ⟨some 43,.move (.tmp 7),none⟩,
  ⟨some 44,.move (.tmp 5),none⟩,
  ⟨some 45,.call { callee:=.value (.func 99),args:=#[.tmp 43,.tmp 44],argTypes:=#[84,3] },none⟩,
  ⟨some 46,.buildSlice 22 1 #[(0,.tmp 45)],none⟩,
  ⟨some 47,.call { callee:=.builtin .append,args:=#[.tmp 42,.tmp 46],argTypes:=#[22,22] },none⟩,
  ⟨some 2,.assign (.tmp 47),none⟩]
@[reducible] def q86_17:SCode:=.region [⟨some 48,.binOp .add 3 (.tmp 19) (.const (.int .i64 1)) 3,none⟩,
  ⟨some 19,.move (.tmp 48),none⟩]
def l86_1:SCode:=(.seq q86_6 (.seq (.cond (.tmp 20) .skip (.exit 0)) (.seq (.block 1 (.seq q86_7 (.seq q86_8 (.seq (.seq q86_9 (.block 2 (.loop l86_0))) q86_16)))) q86_17)))
@[reducible] def q86_18:SCode:=.region [⟨some 49,.move (.tmp 3),none⟩,
  ⟨some 50,.binOp .lss 3 (.tmp 49) (.const (.int .i64 0)) 3,none⟩]
@[reducible] def q86_19:SCode:=.region [⟨some 51,.move (.tmp 3),none⟩,
  ⟨some 52,.unOp .neg 3 (.tmp 51),none⟩,
  ⟨some 3,.assign (.tmp 52),none⟩]
@[reducible] def q86_20:SCode:=.region [⟨some 53,.move (.tmp 2),none⟩,
  ⟨some 54,.call { callee:=.builtin .len,args:=#[.tmp 53],argTypes:=#[22] },none⟩,
  ⟨some 55,.move (.const (.int .i64 0)),none⟩]
@[reducible] def q86_21:SCode:=.region [⟨some 56,.binOp .lss 3 (.tmp 55) (.tmp 54) 3,none⟩]
@[reducible] def q86_22:SCode:=.region [⟨some 57,.move (.tmp 55),none⟩,
  ⟨some 10,.assign (.tmp 57),none⟩]
@[reducible] def q86_23:SCode:=.region [⟨some 58,.move (.tmp 2),none⟩,
  ⟨some 59,.move (.tmp 10),none⟩,
  ⟨some 60,.move (.tmp 2),none⟩,
  ⟨some 61,.move (.tmp 10),none⟩,
  ⟨some 62,.indexAddr 22 (.tmp 60) (.tmp 61),none⟩,
  ⟨some 63,.load 3 (.tmp 62),none⟩,
  ⟨some 64,.unOp .neg 3 (.tmp 63),none⟩,
  ⟨some 65,.indexAddr 22 (.tmp 58) (.tmp 59),none⟩,
  ⟨none,.store 3 (.tmp 65) (.tmp 64),none⟩]
@[reducible] def q86_24:SCode:=.region [⟨some 66,.binOp .add 3 (.tmp 55) (.const (.int .i64 1)) 3,none⟩,
  ⟨some 55,.move (.tmp 66),none⟩]
def l86_2:SCode:=(.seq q86_21 (.seq (.cond (.tmp 56) .skip (.exit 4)) (.seq (.block 5 (.seq q86_22 q86_23)) q86_24)))
@[reducible] def q86_25:SCode:=.region [⟨some 67,.move (.tmp 2),none⟩,
  ⟨some 68,.move (.tmp 3),none⟩,
  ⟨some 2,.assign (.tmp 67),none⟩,
  ⟨some 3,.assign (.tmp 68),none⟩,
  ⟨some 4,.assign (.const (.bool true)),none⟩]
def s86:SCode:=(.seq q86_0 (.seq q86_1 (.seq q86_2 (.seq (.seq q86_3 (.cond (.tmp 17) (.seq q86_4 .ret) .skip)) (.seq (.seq q86_5 (.block 0 (.loop l86_1))) (.seq (.seq q86_18 (.cond (.tmp 50) (.seq q86_19 (.seq q86_20 (.block 4 (.loop l86_2)))) .skip)) (.seq q86_25 .ret)))))))
theorem s86_strip:Zy (Zw Tryd.f86)=s86:=by kernel_rfl
theorem s86_ok:Yn 69 (Zw Tryd.f86)=true:=by kernel_rfl
/-! 87: slices.Min[[]int,int] -/
@[reducible] def q87_0:SCode:=.region [⟨some 2,.assign (.const (.int .i64 0)),none⟩]
@[reducible] def q87_1:SCode:=.region [⟨some 5,.move (.tmp 0),none⟩,
  ⟨some 6,.call { callee:=.builtin .len,args:=#[.tmp 5],argTypes:=#[22] },none⟩,
  ⟨some 7,.binOp .lss 3 (.tmp 6) (.const (.int .i64 1)) 3,none⟩]
@[reducible] def q87_2:SCode:=.region [⟨some 8,.makeInterface 9 (.const (.string { data:=#[115,108,105,99,101,115,46,77,105,110,58,32,101,109,112,116,121,32,108,105,115,116] })),none⟩,
  ⟨none,.panic (.tmp 8),none⟩]
@[reducible] def q87_3:SCode:=.region [⟨some 9,.move (.tmp 0),none⟩,
  ⟨some 10,.indexAddr 22 (.tmp 9) (.const (.int .i64 0)),none⟩,
  ⟨some 11,.load 3 (.tmp 10),none⟩,
  ⟨some 3,.assign (.tmp 11),none⟩]
@[reducible] def q87_4:SCode:=.region [⟨some 4,.assign (.const (.int .i64 1)),none⟩]
@[reducible] def q87_5:SCode:=.region [⟨some 12,.move (.tmp 4),none⟩,
  ⟨some 13,.move (.tmp 0),none⟩,
  ⟨some 14,.call { callee:=.builtin .len,args:=#[.tmp 13],argTypes:=#[22] },none⟩,
  ⟨some 15,.binOp .lss 3 (.tmp 12) (.tmp 14) 3,none⟩]
@[reducible] def q87_7:SCode:=.region [⟨some 18,.move (.tmp 3),none⟩,
  ⟨some 19,.move (.tmp 0),none⟩,
  ⟨some 20,.move (.tmp 4),none⟩,
  ⟨some 21,.indexAddr 22 (.tmp 19) (.tmp 20),none⟩,
  ⟨some 22,.load 3 (.tmp 21),none⟩,
  ⟨some 23,.call { callee:=.builtin .min,args:=#[.tmp 18,.tmp 22],argTypes:=#[3,3] },none⟩,
  ⟨some 3,.assign (.tmp 23),none⟩]
@[reducible] def q87_6:SCode:=.region [⟨some 16,.move (.tmp 4),none⟩,
  ⟨some 17,.binOp .add 3 (.tmp 16) (.const (.int .i64 1)) 3,none⟩,
  ⟨some 4,.assign (.tmp 17),none⟩]
def l87_0:SCode:=(.seq (.seq q87_5 (.cond (.tmp 15) .skip (.exit 0))) (.seq (.block 1 q87_7) q87_6))
@[reducible] def q87_8:SCode:=.region [⟨some 24,.move (.tmp 3),none⟩,
  ⟨some 2,.assign (.tmp 24),none⟩]
def s87:SCode:=(.seq q87_0 (.seq (.seq q87_1 (.cond (.tmp 7) q87_2 .skip)) (.seq q87_3 (.seq (.seq q87_4 (.block 0 (.loop l87_0))) (.seq q87_8 .ret)))))
theorem s87_strip:Zy (Zw Tryd.f87)=s87:=by kernel_rfl
theorem s87_ok:Yn 25 (Zw Tryd.f87)=true:=by kernel_rfl
/-! 88: planchet sure.frac -/
@[reducible] def q88_0:SCode:=.region [⟨some 4,.alloc 44,none⟩]
@[reducible] def q88_1:SCode:=.region [⟨some 6,.move (.tmp 1),none⟩,
  ⟨some 7,.binOp .lss 3 (.tmp 6) (.const (.int .i64 0)) 3,none⟩]
@[reducible] def q88_2:SCode:=.region [⟨some 8,.move (.tmp 0),none⟩,
  ⟨some 9,.unOp .neg 3 (.tmp 8),none⟩,
  ⟨some 10,.move (.tmp 1),none⟩,
  ⟨some 11,.unOp .neg 3 (.tmp 10),none⟩,
  ⟨some 0,.assign (.tmp 9),none⟩,
  ⟨some 1,.assign (.tmp 11),none⟩]
@[reducible] def q88_3:SCode:=.region [⟨some 12,.move (.tmp 0),none⟩,
  ⟨some 13,.move (.tmp 1),none⟩,
  ⟨some 14,.call { callee:=.value (.func 90),args:=#[.tmp 12,.tmp 13],argTypes:=#[3,3] },none⟩,
  ⟨some 5,.assign (.tmp 14),none⟩]
def q88_4:SCode:=.draw [⟨some 15,.move (.tmp 0),none⟩,
    ⟨some 16,.move (.tmp 5),none⟩,
    ⟨some 17,.binOp .quo 3 (.tmp 15) (.tmp 16) 3,none⟩,
    ⟨some 18,.move (.tmp 1),none⟩,
    ⟨some 19,.move (.tmp 5),none⟩,
    ⟨some 20,.binOp .quo 3 (.tmp 18) (.tmp 19) 3,none⟩,
    ⟨some 21,.build 44 #[(0,.tmp 17),(1,.tmp 20)],none⟩,
    ⟨none,.store 44 (.tmp 4) (.tmp 21),none⟩]
  [[],[],[0,1],[],[],[3,4],[2,5],[6,0,1,2,3,4,5,6]]
def s88:SCode:=(.seq q88_0 (.seq (.seq q88_1 (.cond (.tmp 7) q88_2 .skip)) (.seq q88_3 (.seq q88_4 .ret))))
theorem s88_strip:Zy (Zw Tryd.f88)=s88:=by kernel_rfl
theorem s88_ok:Yn 22 (Zw Tryd.f88)=true:=by kernel_rfl
/-! 90: planchet sure.gcd -/
@[reducible] def q90_0:SCode:=.region [⟨some 4,.assign (.const (.int .i64 0)),none⟩]
@[reducible] def q90_1:SCode:=.region [⟨some 5,.move (.tmp 1),none⟩,
  ⟨some 6,.binOp .neq 3 (.tmp 5) (.const (.int .i64 0)) 3,none⟩]
def q90_2:SCode:=.draw [⟨some 7,.move (.tmp 1),none⟩,
    ⟨some 8,.move (.tmp 0),none⟩,
    ⟨some 9,.move (.tmp 1),none⟩,
    ⟨some 10,.binOp .rem 3 (.tmp 8) (.tmp 9) 3,none⟩,
    ⟨some 0,.assign (.tmp 7),none⟩,
    ⟨some 1,.assign (.tmp 10),none⟩]
  [[],[],[],[1,2],[0,0,1],[3,4,0,1,2,3,4]]
def l90_0:SCode:=(.seq (.seq q90_1 (.cond (.tmp 6) .skip (.exit 0))) (.block 1 q90_2))
@[reducible] def q90_3:SCode:=.region [⟨some 11,.move (.tmp 0),none⟩,
  ⟨some 12,.move (.tmp 0),none⟩,
  ⟨some 13,.unOp .neg 3 (.tmp 12),none⟩,
  ⟨some 14,.call { callee:=.builtin .max,args:=#[.tmp 11,.tmp 13],argTypes:=#[3,3] },none⟩,
  ⟨some 4,.assign (.tmp 14),none⟩]
def s90:SCode:=(.seq q90_0 (.seq (.block 0 (.loop l90_0)) (.seq q90_3 .ret)))
theorem s90_strip:Zy (Zw Tryd.f90)=s90:=by kernel_rfl
theorem s90_ok:Yn 15 (Zw Tryd.f90)=true:=by kernel_rfl
theorem s90_call [Tabs Tryd.prog] {args:List Value} {h:Zh} {Q:Value→Zh→Prop} (hsz:args.length≤15) (hk:aw Tryd.prog 15 s90 (Zu Tryd.prog [.tmp 4] Q) (Zt 0 args) h):ACall Tryd.prog 90 args h Q :=
 Ww Tryd.func90 rfl (enters_of Tryd.func90 (by kernel_rfl) rfl) rfl rfl (by decide) s90_strip s90_ok hsz hk
/-! 98: slices.IndexFunc[[]int,int] -/
@[reducible] def q98_0:SCode:=.region [⟨some 4,.assign (.const (.int .i64 0)),none⟩]
@[reducible] def q98_1:SCode:=.region [⟨some 6,.move (.tmp 0),none⟩,
  ⟨some 7,.call { callee:=.builtin .len,args:=#[.tmp 6],argTypes:=#[22] },none⟩,
  ⟨some 8,.move (.const (.int .i64 0)),none⟩]
@[reducible] def q98_2:SCode:=.region [⟨some 9,.binOp .lss 3 (.tmp 8) (.tmp 7) 3,none⟩]
@[reducible] def q98_3:SCode:=.region [⟨some 10,.move (.tmp 8),none⟩,
  ⟨some 5,.assign (.tmp 10),none⟩]
@[reducible] def q98_4:SCode:=.region [⟨some 11,.move (.tmp 1),none⟩,
  ⟨some 12,.move (.tmp 0),none⟩,
  ⟨some 13,.move (.tmp 5),none⟩,
  ⟨some 14,.indexAddr 22 (.tmp 12) (.tmp 13),none⟩,
  ⟨some 15,.load 3 (.tmp 14),none⟩,
  ⟨some 16,.call { callee:=.value (.tmp 11),args:=#[.tmp 15],argTypes:=#[3] },none⟩]
@[reducible] def q98_5:SCode:=.region [⟨some 17,.move (.tmp 5),none⟩,
  ⟨some 4,.assign (.tmp 17),none⟩]
@[reducible] def q98_6:SCode:=.region [⟨some 18,.binOp .add 3 (.tmp 8) (.const (.int .i64 1)) 3,none⟩,
  ⟨some 8,.move (.tmp 18),none⟩]
def l98_0:SCode:=(.seq q98_2 (.seq (.cond (.tmp 9) .skip (.exit 0)) (.seq (.block 1 (.seq q98_3 (.seq q98_4 (.cond (.tmp 16) (.seq q98_5 .ret) .skip)))) q98_6)))
@[reducible] def q98_7:SCode:=.region [⟨some 4,.assign (.const (.int .i64 (-1))),none⟩]
def s98:SCode:=(.seq q98_0 (.seq (.seq q98_1 (.block 0 (.loop l98_0))) (.seq q98_7 .ret)))
theorem s98_strip:Zy (Zw Tryd.f98)=s98:=by kernel_rfl
theorem s98_ok:Yn 19 (Zw Tryd.f98)=true:=by kernel_rfl
/-! 99: (planchet sure.system).det -/
@[reducible] def q99_0:SCode:=.region [⟨some 4,.assign (.const (.int .i64 0)),none⟩]
@[reducible] def q99_1:SCode:=.region [⟨some 10,.move (.tmp 1),none⟩,
  ⟨some 11,.binOp .eql 3 (.tmp 10) (.const (.int .i64 0)) 3,none⟩]
@[reducible] def q99_2:SCode:=.region [⟨some 4,.assign (.const (.int .i64 1)),none⟩]
@[reducible] def q99_3:SCode:=.region [⟨some 5,.assign (.const (.int .i64 0)),none⟩,
  ⟨some 6,.assign (.const (.int .i64 1)),none⟩]
@[reducible] def q99_4:SCode:=.region [⟨some 12,.move (.tmp 0),none⟩,
  ⟨some 13,.call { callee:=.builtin .len,args:=#[.tmp 12],argTypes:=#[84] },none⟩,
  ⟨some 14,.move (.const (.int .i64 0)),none⟩]
@[reducible] def q99_5:SCode:=.region [⟨some 15,.binOp .lss 3 (.tmp 14) (.tmp 13) 3,none⟩]
@[reducible] def q99_6:SCode:=.region [⟨some 16,.move (.tmp 14),none⟩,
  ⟨some 17,.indexAddr 84 (.tmp 12) (.tmp 14),none⟩,
  ⟨some 18,.load 22 (.tmp 17),none⟩,
  ⟨some 7,.assign (.tmp 16),none⟩,
  ⟨some 8,.assign (.tmp 18),none⟩]
@[reducible] def q99_7:SCode:=.region [⟨some 19,.move (.tmp 8),none⟩,
  ⟨some 20,.move (.tmp 1),none⟩,
  ⟨some 21,.binOp .sub 3 (.tmp 20) (.const (.int .i64 1)) 3,none⟩,
  ⟨some 22,.indexAddr 22 (.tmp 19) (.tmp 21),none⟩,
  ⟨some 23,.load 3 (.tmp 22),none⟩,
  ⟨some 24,.binOp .neq 3 (.tmp 23) (.const (.int .i64 0)) 3,none⟩]
@[reducible] def q99_8:SCode:=.region [⟨some 9,.assign (.const (.slice none 0 0)),none⟩]
def q99_9:SCode:=.draw [⟨some 25,.move (.tmp 9),none⟩,
    ⟨some 26,.move (.tmp 0),none⟩,
    ⟨some 27,.move (.tmp 7),none⟩,
    ⟨some 28,.slice 84 (.tmp 26) none (some (.tmp 27)) none,none⟩,
    ⟨some 29,.call { callee:=.builtin .append,args:=#[.tmp 25,.tmp 28],argTypes:=#[84,84] },none⟩,
    ⟨some 30,.move (.tmp 0),none⟩,
    ⟨some 31,.move (.tmp 7),none⟩,
    ⟨some 32,.binOp .add 3 (.tmp 31) (.const (.int .i64 1)) 3,none⟩,
    ⟨some 33,.slice 84 (.tmp 30) (some (.tmp 32)) none none,none⟩,
    ⟨some 34,.call { callee:=.builtin .append,args:=#[.tmp 29,.tmp 33],argTypes:=#[84,84] },none⟩,
    ⟨some 9,.assign (.tmp 34),none⟩]
  [[],[],[],[1,2],[0,3],[],[],[6],[5,7],[4,8,4],[9,9,0,1,2,3,4,5,6,7,8,9]]
@[reducible] def q99_10:SCode:=.region [⟨some 35,.move (.tmp 7),none⟩,
  ⟨some 36,.move (.tmp 1),none⟩,
  ⟨some 37,.binOp .add 3 (.tmp 35) (.tmp 36) 3,none⟩,
  ⟨some 38,.binOp .sub 3 (.tmp 37) (.const (.int .i64 1)) 3,none⟩,
  ⟨some 39,.binOp .rem 3 (.tmp 38) (.const (.int .i64 2)) 3,none⟩,
  ⟨some 40,.binOp .eql 3 (.tmp 39) (.const (.int .i64 0)) 3,none⟩]
@[reducible] def q99_11:SCode:=.region [⟨some 6,.assign (.const (.int .i64 1)),none⟩]
@[reducible] def q99_12:SCode:=.region [⟨some 6,.assign (.const (.int .i64 (-1))),none⟩]
def q99_13:SCode:=.draw [⟨some 41,.move (.tmp 5),none⟩,
    ⟨some 42,.move (.tmp 6),none⟩,
    ⟨some 43,.move (.tmp 8),none⟩,
    ⟨some 44,.move (.tmp 1),none⟩,
    ⟨some 45,.binOp .sub 3 (.tmp 44) (.const (.int .i64 1)) 3,none⟩,
    ⟨some 46,.indexAddr 22 (.tmp 43) (.tmp 45),none⟩,
    ⟨some 47,.load 3 (.tmp 46),none⟩,
    ⟨some 48,.binOp .mul 3 (.tmp 42) (.tmp 47) 3,none⟩,
    ⟨some 49,.move (.tmp 9),none⟩,
    ⟨some 50,.move (.tmp 1),none⟩,
    ⟨some 51,.binOp .sub 3 (.tmp 50) (.const (.int .i64 1)) 3,none⟩,
    ⟨some 52,.call { callee:=.value (.func 99),args:=#[.tmp 49,.tmp 51],argTypes:=#[84,3] },none⟩,
    ⟨some 53,.binOp .mul 3 (.tmp 48) (.tmp 52) 3,none⟩,
    ⟨some 54,.binOp .add 3 (.tmp 41) (.tmp 53) 3,none⟩,
    ⟨some 5,.assign (.tmp 54),none⟩]
  [[],[],[],[],[3],[2,4],[5],[1,6],[],[],[9],[8,10],[7,11],[0,12],[13,11,0,1,2,3,4,5,6,7,8,9,10,11,12,13]]
@[reducible] def q99_14:SCode:=.region [⟨some 55,.binOp .add 3 (.tmp 14) (.const (.int .i64 1)) 3,none⟩,
  ⟨some 14,.move (.tmp 55),none⟩]
def l99_0:SCode:=(.seq q99_5 (.seq (.cond (.tmp 15) .skip (.exit 0)) (.seq (.block 1 (.seq q99_6 (.seq q99_7 (.cond (.tmp 24) (.seq q99_8 (.seq q99_9 (.seq (.seq q99_10 (.cond (.tmp 40) q99_11 q99_12)) q99_13))) .skip)))) q99_14)))
@[reducible] def q99_15:SCode:=.region [⟨some 56,.move (.tmp 5),none⟩,
  ⟨some 4,.assign (.tmp 56),none⟩]
def s99:SCode:=(.seq q99_0 (.seq (.seq q99_1 (.cond (.tmp 11) (.seq q99_2 .ret) .skip)) (.seq q99_3 (.seq (.seq q99_4 (.block 0 (.loop l99_0))) (.seq q99_15 .ret)))))
theorem s99_strip:Zy (Zw Tryd.f99)=s99:=by kernel_rfl
theorem s99_ok:Yn 57 (Zw Tryd.f99)=true:=by kernel_rfl
theorem s99_call [Tabs Tryd.prog] {args:List Value} {h:Zh} {Q:Value→Zh→Prop} (hsz:args.length≤57) (hk:aw Tryd.prog 57 s99 (Zu Tryd.prog [.tmp 4] Q) (Zt 0 args) h):ACall Tryd.prog 99 args h Q :=
 Ww Tryd.func99 rfl (enters_of Tryd.func99 (by kernel_rfl) rfl) rfl rfl (by decide) s99_strip s99_ok hsz hk
end Go.Proofs.Tryd.Am
namespace Bq
theorem mul_den (q:Rat):q*(q.den:Rat)=(q.num:Rat):=by
 have h:=Rat.num_divInt_den q
 rw [Rat.divInt_eq_div] at h
 have h0:(q.den:Rat)≠0:=by
  have:=q.den_nz
  intro hc
  exact this (by exact_mod_cast hc)
 conv=>lhs; lhs; rw [← h]
 rw [Rat.intCast_natCast]
 exact Rat.div_mul_cancel h0
theorem divInt_of_mul {x y:Int} {q:Rat} (hy:y≠0) (h:q*(y:Rat)=(x:Rat)):Rat.divInt x y=q:=by
 have h0:(y:Rat)≠0:=fun hc=>hy (by exact_mod_cast hc)
 rw [Rat.divInt_eq_div,← h]
 exact Rat.mul_div_cancel h0
theorem divInt_mul {x y:Int} (hy:y≠0):Rat.divInt x y*(y:Rat)=(x:Rat):=by
 have h0:(y:Rat)≠0:=fun hc=>hy (by exact_mod_cast hc)
 rw [Rat.divInt_eq_div]
 exact Rat.div_mul_cancel h0
def Rp (N:Nat) (x:Int) (q:Rat):Prop:=0<N∧q*(N:Rat)=(x:Rat)
section
variable {N M:Nat} {x y k:Int} {a b q:Rat}
theorem Rp.pos (h:Rp N x q):0<N:=h.1
theorem Rp.int (h:Rp N x q):q.num*N=x*q.den:=by
 have h1:=h.2
 have h2:=mul_den q
 have:(q.num:Rat)*(N:Rat)=(x:Rat)*(q.den:Rat):=by grind
 exact_mod_cast this
theorem Rp.dvd (h:Rp N x q):q.den∣N:=by
 have h1:=h.int
 have h2:(q.den:Int)∣q.num*(N:Int):=⟨x,by rw [h1,Int.mul_comm]⟩
 have h3:q.den∣q.num.natAbs*N:=by
  have:=Int.natAbs_dvd_natAbs.2 h2
  simpa [Int.natAbs_mul] using this
 exact Nat.Coprime.dvd_of_dvd_mul_left (Nat.Coprime.symm q.reduced) h3
theorem Rp.num (h:Rp N x q):q.num*((N / q.den:Nat):Int)=x:=by
 obtain ⟨t,ht⟩:=h.dvd
 have hd:0<q.den:=q.den_pos
 have h1:=h.int
 have e:N / q.den=t:=by rw [ht]; exact Nat.mul_div_cancel_left _ hd
 rw [e]
 have h2:(q.den:Int)*(q.num*t)=q.den*x:=by
  rw [Int.mul_comm (q.den:Int) x,← h1,ht]
  push_cast
  grind
 exact Int.eq_of_mul_eq_mul_left (by omega) h2
theorem Rp.le (h:Rp N x q):q.num.natAbs≤x.natAbs:=by
 rw [← h.num,Int.natAbs_mul,Int.natAbs_natCast]
 refine Nat.le_mul_of_pos_right _ ?_
 exact Nat.div_pos (Nat.le_of_dvd h.pos h.dvd) q.den_pos
theorem Rp.den_le (h:Rp N x q):q.den≤N:=Nat.le_of_dvd h.pos h.dvd
theorem Rp.own (q:Rat):Rp q.den q.num q:=⟨q.den_pos,mul_den q⟩
theorem Rp.whole (hN:0<N) (k:Int):Rp N (k*N) (k:Rat):=⟨hN,by push_cast; rfl⟩
theorem Rp.up (h:Rp N x q) (t:Nat) (ht:0<t):Rp (N*t) (x*t) q:=⟨Nat.mul_pos h.1 ht,by have:=h.2; push_cast; grind⟩
theorem Rp.up' (h:Rp N x q) (hd:N∣M) (hM:0<M):Rp M (x*((M / N:Nat):Int)) q:=by
 obtain ⟨t,rfl⟩:=hd
 have ht:0<t:=Nat.pos_of_mul_pos_left hM
 rw [Nat.mul_div_cancel_left _ h.1]
 exact h.up t ht
theorem Rp.plus (ha:Rp N x a) (hb:Rp N y b) (k:Int):Rp N (x+k*y) (a+k*b):=⟨ha.1,by have:=ha.2; have:=hb.2; push_cast; grind⟩
theorem Rp.mul (ha:Rp N x a) (hb:Rp M y b):Rp (N*M) (x*y) (a*b):=⟨Nat.mul_pos ha.1 hb.1,by have:=ha.2; have:=hb.2; push_cast; grind⟩
theorem Rp.uniq (ha:Rp N x a) (hb:Rp N x b):a=b:=by
 have h0:(N:Rat)≠0:=fun hc=>by have:=ha.1; have:N=0:=by exact_mod_cast hc
                               omega
 have h1:a*(N:Rat)=b*N:=by rw [ha.2,hb.2]
 have:=congrArg (· / (N:Rat)) h1
 simpa [Rat.mul_div_cancel h0] using this
theorem Rp.frac (h:Rp N x q):Rat.divInt x N=q:=divInt_of_mul (by have:=h.1; omega) (by rw [Rat.intCast_natCast]; exact h.2)
theorem Rp.neg (h:Rp N x q):Rp N (-x) (-q):=⟨h.1,by have:=h.2; push_cast; grind⟩
theorem Rp.lt (ha:Rp N x a) (hb:Rp N y b):a<b↔x<y:=by
 have h0:(0:Rat)<N:=by exact_mod_cast ha.1
 rw [← Rat.mul_lt_mul_right h0,ha.2,hb.2]
 exact Rat.intCast_lt_intCast
end
theorem natAbs_divInt_num_le (x:Int) {y:Int} (hy:y≠0):(Rat.divInt x y).num.natAbs≤x.natAbs∧(Rat.divInt x y).den≤y.natAbs:=by
 have h:Rp y.natAbs (x*y.sign) (Rat.divInt x y):=by
  refine ⟨by omega,?_⟩
  have h1:=divInt_mul (x:=x) hy
  have h2:((y.natAbs:Nat):Rat)=((y*y.sign:Int):Rat):=by
   have:y*y.sign=(y.natAbs:Int):=Int.mul_sign_self y
   rw [this,Rat.intCast_natCast]
  rw [h2]; push_cast; grind
 refine ⟨?_,h.den_le⟩
 have:=h.le
 rw [Int.natAbs_mul,Int.natAbs_sign_of_ne_zero hy,Nat.mul_one] at this
 exact this
end Bq
namespace Bq
def lcmL (l:List Nat):Nat:=l.foldl Nat.lcm 1
theorem foldl_lcm_dvd {l:List Nat} {m:Nat}:m∣l.foldl Nat.lcm m:=by
 induction l generalizing m with
 | nil=>exact Nat.dvd_refl _
 | cons d l ih=>exact Nat.dvd_trans (Nat.dvd_lcm_left m d) ih
theorem foldl_lcm_mem {l:List Nat} {m d:Nat} (h:d∈l):d∣l.foldl Nat.lcm m:=by
 induction l generalizing m with
 | nil=>cases h
 | cons e l ih =>
   rcases List.mem_cons.1 h with rfl | h
   · exact Nat.dvd_trans (Nat.dvd_lcm_right m d) foldl_lcm_dvd
   · exact ih h
end Bq
namespace Bq
def okP (p:Int×Int):Bool:=decide (1≤p.2)&&decide (p.2≤10000000000)&&decide (0≤p.1)&&(Nat.gcd p.1.natAbs p.2.natAbs==1)
def mulTo:List (Int×Int)→Nat→Nat
 | [],m=>m
 | p::ps,m=>if okP p=true∧Nat.lcm m p.2.natAbs≤10000000000 then mulTo ps (Nat.lcm m p.2.natAbs) else 0
def mult (ps:List (Int×Int)):Nat:=mulTo ps 1
def toQ (p:Int×Int):Rat:=Rat.divInt p.1 p.2
def ofQ (q:Rat):Int×Int:=(q.num,(q.den:Int))
theorem ofQ_toQ {p:Int×Int} (h1:1≤p.2) (h2:Nat.gcd p.1.natAbs p.2.natAbs=1):ofQ (toQ p)=p:=by
 obtain ⟨x,y⟩:=p
 simp only at h1 h2
 obtain ⟨n,rfl⟩ : ∃ n:Nat,y=n:=⟨y.toNat,by omega⟩
 have hn:n≠0:=by omega
 have e:toQ (x,(n:Int))=⟨x,n,hn,by simpa using h2⟩:=by
  rw [toQ,Rat.divInt_ofNat]
  exact (Rat.mk_eq_mkRat x n hn _).symm
 rw [e]; rfl
theorem okP_ofQ {p:Int×Int} (h:okP p=true):ofQ (toQ p)=p:=by
 simp only [okP,Bool.and_eq_true,decide_eq_true_eq,beq_iff_eq] at h
 exact ofQ_toQ h.1.1.1 h.2
theorem mulTo_spec : ∀ (ps:List (Int×Int)) (m:Nat),mulTo ps m≠0→m≤10000000000→(∀ p∈ps,okP p=true)∧mulTo ps m=(ps.map fun p=>p.2.natAbs).foldl Nat.lcm m∧mulTo ps m≤10000000000
 | [],m,h,hm=>⟨(fun _ h=>by cases h),rfl,hm⟩
 | p::ps,m,h,hm=>by
   rw [mulTo] at h ⊢
   split at h
   · rename_i hc
     rw [if_pos hc]
     obtain ⟨h1,h2,h3⟩:=mulTo_spec ps _ h hc.2
     refine ⟨fun q hq=>?_,h2,h3⟩
     rcases List.mem_cons.1 hq with rfl | hq
     · exact hc.1
     · exact h1 q hq
   · exact absurd rfl h
theorem mult_spec {ps:List (Int×Int)} (h:mult ps≠0):(∀ p∈ps,okP p=true)∧mult ps=lcmL (ps.map fun p=>p.2.natAbs)∧mult ps≤10000000000:=mulTo_spec ps 1 h (by decide)
theorem mult_dvd {ps:List (Int×Int)} (h:mult ps≠0) {p:Int×Int} (hp:p∈ps):(toQ p).den∣mult ps:=by
 obtain ⟨h1,h2,h3⟩:=mult_spec h
 have e:=okP_ofQ (h1 p hp)
 have e2:(toQ p).den=p.2.natAbs:=by
  have:=congrArg Prod.snd e
  simp only [ofQ] at this
  rw [← this]; rfl
 rw [h2,e2]
 exact foldl_lcm_mem (List.mem_map.2 ⟨p,hp,rfl⟩)
theorem okP_pos {p:Int×Int} (h:okP p=true):0≤toQ p:=by
 simp only [okP,Bool.and_eq_true,decide_eq_true_eq] at h
 exact Rat.divInt_nonneg h.1.2 (by omega)
theorem okP_le {p:Int×Int} (h:okP p=true):toQ p≤1↔p.1≤p.2:=by
 have hp:=okP_ofQ h
 have h1:(toQ p).num=p.1:=congrArg Prod.fst hp
 have h2:((toQ p).den:Int)=p.2:=congrArg Prod.snd hp
 rw [Rat.le_iff,h1,h2]
 simp
def sumTo (g:Nat→Rat):Nat→Rat
 | 0=>0
 | k+1=>sumTo g k+g k
section
variable {g f:Nat→Rat}
theorem sumTo_nonneg {n:Nat} (h : ∀ i,i<n→0≤g i):0≤sumTo g n:=by
 induction n with
 | zero=>exact Rat.le_refl
 | succ n ih=>exact Rat.add_nonneg (ih fun i hi=>h i (by omega)) (h n (by omega))
theorem sumTo_mono {k n:Nat} (hk:k≤n) (h : ∀ i,i<n→0≤g i):sumTo g k≤sumTo g n:=by
 induction n with
 | zero=>rw [Nat.le_zero.1 hk]; exact Rat.le_refl
 | succ n ih =>
   rcases Nat.lt_or_ge n k with h1 | h1
   · rw [show k=n+1 by omega]; exact Rat.le_refl
   · have h2:=ih h1 fun i hi=>h i (by omega)
     have h3:=h n (by omega)
     rw [sumTo]; grind
theorem sumTo_one {k n:Nat} (hk:k<n) (h : ∀ i,i<n→0≤g i):g k≤sumTo g n:=by
 have h1:=sumTo_mono (show k+1≤n by omega) h
 have h2:=sumTo_nonneg (n:=k) fun i hi=>h i (by omega)
 rw [sumTo] at h1; grind
theorem sumTo_le {n:Nat} (h : ∀ i,i<n→f i≤g i):sumTo f n≤sumTo g n:=by
 induction n with
 | zero=>exact Rat.le_refl
 | succ n ih =>
   have h1:=ih fun i hi=>h i (by omega)
   have h2:=h n (by omega)
   rw [sumTo,sumTo]; grind
theorem sumTo_congr {n:Nat} (h : ∀ i,i<n→f i=g i):sumTo f n=sumTo g n:=by
 induction n with
 | zero=>rfl
 | succ n ih=>rw [sumTo,sumTo,ih fun i hi=>h i (by omega),h n (by omega)]
theorem Xm (f g:Nat→Rat) (n:Nat):sumTo (fun i=>f i+g i) n=sumTo f n+sumTo g n:=by
 induction n with
 | zero=>exact (Rat.zero_add _).symm
 | succ n ih=>simp only [sumTo,ih]; grind
theorem Yb (c:Rat) (g:Nat→Rat) (n:Nat):sumTo (fun i=>c*g i) n=c*sumTo g n:=by
 induction n with
 | zero=>exact (Rat.mul_zero _).symm
 | succ n ih=>simp only [sumTo,ih]; grind
end
theorem Rp.bound {N C:Nat} {x:Int} {q:Rat} (h:Rp N x q) (h1 : -(C:Rat)≤q) (h2:q≤C):x.natAbs≤C*N:=by
 have hN:(0:Rat)≤N:=Rat.natCast_nonneg
 have e:=h.2
 have u1:=Rat.mul_le_mul_of_nonneg_right h2 hN
 have u2:=Rat.mul_le_mul_of_nonneg_right h1 hN
 rw [e] at u1 u2
 have v1:x≤((C*N:Nat):Int):=by
  rw [← Rat.intCast_le_intCast]; push_cast; exact u1
 have v2 : -((C*N:Nat):Int)≤x:=by
  rw [← Rat.intCast_le_intCast]; push_cast
  rw [Rat.neg_mul] at u2; exact u2
 omega
end Bq
namespace Bq
def fq (ps:List (Int×Int)) (w:Nat):Rat:=toQ (ps.getD w (0,0))
theorem getD_mem {ps:List (Int×Int)} {k:Nat} (hk:k<ps.length):ps.getD k (0,0)∈ps:=by
 rw [List.getD,List.getElem?_eq_getElem hk]; exact List.getElem_mem hk
def chB (m:Int) (p:Int×Int):Bool:=(decide (1≤p.2)&&(decide (p.2≤m)&&(Nat.gcd p.1.natAbs p.2.natAbs==1)))&&(decide (0≤p.1)&&decide (p.1≤p.2))
structure Chn (ps:List (Int×Int)):Prop where
 m:mult ps≠0
 le : ∀ p∈ps,p.1≤p.2
theorem Chn.ok {ps:List (Int×Int)} (c:Chn ps) {p:Int×Int} (hp:p∈ps):okP p=true:=(mult_spec c.m).1 p hp
theorem Chn.rp {ps:List (Int×Int)} (c:Chn ps) {p:Int×Int} (hp:p∈ps):Rp (mult ps) ((mult ps:Int) / p.2*p.1) (toQ p)∧0≤(mult ps:Int) / p.2*p.1∧(mult ps:Int) / p.2*p.1≤mult ps∧1≤p.2∧0≤p.1∧(p.2∣(mult ps:Int)):=by
 have hok:=c.ok hp
 have hd:=mult_dvd c.m hp
 have e:=okP_ofQ hok
 have e1:(toQ p).num=p.1:=congrArg Prod.fst e
 have e2:((toQ p).den:Int)=p.2:=congrArg Prod.snd e
 have hle:=c.le p hp
 simp only [okP,Bool.and_eq_true,decide_eq_true_eq] at hok
 have r:=Rp.up' (Rp.own (toQ p)) hd (Nat.pos_of_ne_zero c.m)
 have e3:(mult ps:Int) / p.2*p.1=(toQ p).num*((mult ps / (toQ p).den:Nat):Int):=by
  rw [e1,Int.natCast_ediv,e2,Int.mul_comm]
 rw [e3]
 have hn:0≤(toQ p).num*((mult ps / (toQ p).den:Nat):Int):=Int.mul_nonneg (by omega) (Int.natCast_nonneg _)
 refine ⟨r,hn,?_,by omega,by omega,?_⟩
 · have hb:=r.bound (C:=1) (by have:=okP_pos (c.ok hp); have h2:(0:Rat)≤((1:Nat):Rat):=Rat.natCast_nonneg; have : -((1:Nat):Rat)≤0:=by decide
                               exact Rat.le_trans this ‹0≤toQ p›) ((okP_le (c.ok hp)).2 hle)
   omega
 · rw [← e2]; exact Int.natCast_dvd_natCast.2 hd
theorem Chn.unit {ps:List (Int×Int)} (c:Chn ps) {k:Nat} (hk:k<ps.length):0≤fq ps k∧fq ps k≤1∧(fq ps k).den∣mult ps :=
 ⟨okP_pos (c.ok (getD_mem hk)),(okP_le (c.ok (getD_mem hk))).2 (c.le _ (getD_mem hk)),mult_dvd c.m (getD_mem hk)⟩
structure Fc (ps:List (Int×Int)):Prop where
 len:2≤ps.length∧ps.length≤5
 c:Chn ps
 den : ∀ p∈ps,p.2≤60
 sum:sumTo (fq ps) ps.length=1
 small:mult ps≤27885
theorem Fc.unit {ps:List (Int×Int)} (c:Fc ps) {k:Nat} (hk:k<ps.length):0≤fq ps k∧fq ps k≤1:=⟨(c.c.unit hk).1,(c.c.unit hk).2.1⟩
end Bq
namespace Bq
abbrev SysT:=Nat→Nat→Rat
def swapT (a p:Nat) (T:SysT):SysT:=fun i=>if i=a then T p else if i=p then T a else T i
def normT (a:Nat) (T:SysT):SysT:=fun i c=>if i=a then T a c / T a a else T i c
def elimT (a:Nat) (T:SysT):SysT:=fun i c=>if i=a then T a c else T i c-T i a*T a c
def findP (m a:Nat) (T:SysT):Option Nat:=(List.range m).find? fun p=>decide (a≤p)&&decide (T p a≠0)
def elimStep (m a:Nat) (T:SysT):Option SysT:=(findP m a T).map fun p=>elimT a (normT a (swapT a p T))
def We (m:Nat) (T:SysT):Nat→Option SysT
 | 0=>some T
 | j+1=>(We m T j).bind (elimStep m j)
def restT (m k:Nat) (T:SysT):Bool:=(List.range m).any fun i=>decide (k≤i)&&decide (T i k≠0)
def solveT (m k:Nat) (T:SysT):Option (List Rat):=(We m T k).bind fun S=>if restT m k S then none else some ((List.range k).map fun i=>S i k)
theorem find_spec {n:Nat} {F:Nat→Bool} {k:Nat} (hk:k<n) (hF:F k=true) (hlo : ∀ i,i<k→F i=false):(List.range n).find? F=some k:=by
 rw [List.find?_eq_some_iff_append]
 refine ⟨hF,List.range k,(List.range' (k+1) (n-(k+1))),?_,fun a ha=>by simp [hlo a (List.mem_range.1 ha)]⟩
 apply List.ext_getElem?
 intro i
 rw [List.getElem?_append,List.length_range]
 by_cases h:i<k
 · simp [h,show i<n by omega]
 · rw [if_neg h]
   rcases Nat.eq_or_lt_of_le (Nat.not_lt.1 h) with h1 | h1
   · subst h1; simp [hk]
   · rw [show i-k=(i-(k+1))+1 by omega,List.getElem?_cons_succ]
     by_cases h2:i<n
     · rw [List.getElem?_range h2,List.getElem?_range' (by omega)]; congr 1; omega
     · rw [List.getElem?_eq_none (by simp; omega),List.getElem?_eq_none (by simp; omega)]
theorem find_none {n:Nat} {F:Nat→Bool} (h : ∀ i,i<n→F i=false):(List.range n).find? F=none:=by
 rw [List.find?_eq_none]
 intro x hx
 simp [h x (List.mem_range.1 hx)]
theorem find_some {n:Nat} {F:Nat→Bool} {k:Nat} (h:(List.range n).find? F=some k):k<n∧F k=true∧∀ i,i<k→F i=false:=by
 have h1:=List.find?_some h
 have h2:=List.mem_of_find?_eq_some h
 refine ⟨List.mem_range.1 h2,h1,fun i hi=>?_⟩
 cases hF:F i with
 | false=>rfl
 | true =>
   exfalso
   have hin:=List.mem_range.1 h2
   have key : ∀ i,i<k→F i=true→(∀ j,j<i→F j=false)→False:=fun i hi hF hlo=>by
    have:=find_spec (show i<n by omega) hF hlo
    rw [h] at this; cases this; omega
   induction i using Nat.strongRecOn with
   | _ i ih =>
     exact key i hi hF fun j hj=>by
      cases hb:F j with
      | false=>rfl
      | true=>exact (ih j hj (by omega) hb).elim
theorem findP_some {m a p:Nat} {T:SysT} (h:findP m a T=some p):p<m∧a≤p∧T p a≠0∧∀ i,a≤i→i<p→T i a=0:=by
 obtain ⟨h1,h2,h3⟩:=find_some h
 simp only [Bool.and_eq_true,decide_eq_true_eq] at h2
 refine ⟨h1,h2.1,h2.2,fun i ha hi=>?_⟩
 have:=h3 i hi
 simp only [Bool.and_eq_false_iff,decide_eq_false_iff_not] at this
 rcases this with h4 | h4
 · omega
 · exact Decidable.not_not.1 h4
end Bq
namespace Bq
def skp (i r:Nat):Nat:=if r<i then r else r+1
def sgn:Nat→Rat
 | 0=>1
 | n+1=>- sgn n
def det:Nat→(Nat→Nat→Rat)→Rat
 | 0,_=>1
 | n+1,M=>sumTo (fun i=>sgn i*M 0 i*det n (fun c r=>M (c+1) (skp i r))) (n+1)
theorem skp_lt {i r n:Nat} (h:r<n):skp i r<n+1:=by rw [skp]; split <;> omega
theorem Xl : ∀ (n:Nat) {M N:Nat→Nat→Rat},(∀ c r,c<n→r<n→M c r=N c r)→det n M=det n N
 | 0,_,_,_=>rfl
 | n+1,M,N,h=>by
   rw [det,det]
   refine sumTo_congr fun i hi=>?_
   rw [h 0 i (by omega) hi,Xl n fun c r hc hr=>h (c+1) (skp i r) (by omega) (skp_lt hr)]
theorem det_lin {n:Nat} {M:Nat→Nat→Rat} (a b:Nat→Rat) (s:Rat) (h : ∀ r,r<n+1→M 0 r=a r+s*b r) :
  det (n+1) M=det (n+1) (fun c=>if c=0 then a else M c)+s*det (n+1) (fun c=>if c=0 then b else M c):=by
 simp only [det,if_true]
 rw [← Yb,← Xm]
 refine sumTo_congr fun i hi=>?_
 simp only [show ∀ c,(c+1=0)=False from fun c=>by simp,if_false]
 rw [h i hi]; grind
theorem Yk {g:Nat→Rat} {n:Nat} (h : ∀ i,i<n→g i=0):sumTo g n=0:=by
 induction n with
 | zero=>rfl
 | succ n ih=>rw [sumTo,ih fun i hi=>h i (by omega),h n (by omega)]; exact Rat.zero_add _
theorem det_zero {n:Nat} {M:Nat→Nat→Rat} (h : ∀ r,r<n+1→M 0 r=0):det (n+1) M=0:=by
 rw [det]
 refine Yk fun i hi=>?_
 rw [h i hi]; grind
theorem sgn_add (a b:Nat):sgn (a+b)=sgn a*sgn b:=by
 induction b with
 | zero=>rw [Nat.add_zero,sgn,Rat.mul_one]
 | succ b ih=>rw [← Nat.add_assoc,sgn,sgn,ih]; grind
theorem sgn_sq (a:Nat):sgn a*sgn a=1:=by
 induction a with
 | zero=>rw [sgn,Rat.mul_one]
 | succ a ih=>rw [sgn]; grind
theorem sum_pairs (t:Nat→Nat→Rat) : ∀ N,sumTo (fun i=>sumTo (fun j=>t i j) N) (N+1)=sumTo (fun i=>sumTo (fun j=>t i j+t j (i-1)) i) (N+1)
 | 0=>rfl
 | N+1=>by
   have ih:=sum_pairs t N
   rw [sumTo]
   have e:sumTo (fun i=>sumTo (fun j=>t i j) (N+1)) (N+1)=sumTo (fun i=>sumTo (fun j=>t i j) N+t i N) (N+1):=sumTo_congr fun i hi=>rfl
   rw [e,Xm,ih]
   conv=>rhs; rw [sumTo]
   rw [Xm (fun j=>t (N+1) j) (fun j=>t j (N+1-1)) (N+1),show N+1-1=N from rfl]
   grind
theorem skp_skp {i j r:Nat} (h:j<i):skp i (skp j r)=skp j (skp (i-1) r):=by
 simp only [skp]
 by_cases h1:r<j
 · simp [h1,show r<i by omega,show r<i-1 by omega]
 · by_cases h2:r<i-1
   · simp [h1,h2,show r+1<i by omega]
   · simp [h1,h2,show ¬ r+1<i by omega,show ¬ r+1<j by omega]
def swp (a:Nat) (c:Nat):Nat:=if c=a then a+1 else if c=a+1 then a else c
theorem det_two (n:Nat) (M:Nat→Nat→Rat):det (n+2) M=sumTo (fun i=>sumTo (fun j=>sgn i*sgn j*(M 0 i*M 1 j-M 0 j*M 1 i)*det n (fun c r=>M (c+2) (skp i (skp j r)))) i) (n+2):=by
 have e1:det (n+2) M=sumTo (fun i=>sumTo (fun j=>sgn i*M 0 i*(sgn j*M 1 (skp i j)*det n (fun c r=>M (c+2) (skp i (skp j r))))) (n+1)) (n+2):=by
  rw [det]
  refine sumTo_congr fun i hi=>?_
  rw [det,Yb]
 rw [e1,sum_pairs]
 refine sumTo_congr fun i hi=>sumTo_congr fun j hj=>?_
 have h1:skp i j=j:=by rw [skp,if_pos hj]
 have h2:skp j (i-1)=i:=by rw [skp,if_neg (by omega)]; omega
 have h3:det n (fun c r=>M (c+2) (skp j (skp (i-1) r)))=det n (fun c r=>M (c+2) (skp i (skp j r))):=Xl n fun c r hc hr=>by rw [skp_skp hj]
 have h4:sgn i = - sgn (i-1):=by
  obtain ⟨i,rfl⟩ : ∃ k,i=k+1:=⟨i-1,by omega⟩
  rfl
 rw [h1,h2,h3,h4]; grind
theorem det_swp : ∀ (a n:Nat) (M:Nat→Nat→Rat),a+1<n→det n (fun c=>M (swp a c)) = - det n M
 | 0,n,M,h=>by
   obtain ⟨n,rfl⟩ : ∃ k,n=k+2:=⟨n-2,by omega⟩
   rw [det_two,det_two]
   have e : - sumTo (fun i=>sumTo (fun j=>sgn i*sgn j*(M 0 i*M 1 j-M 0 j*M 1 i)*det n (fun c r=>M (c+2) (skp i (skp j r)))) i) (n+2)=sumTo (fun i=>sumTo (fun j=>sgn i*sgn j*(M 1 i*M 0 j-M 1 j*M 0 i)*det n (fun c r=>M (c+2) (skp i (skp j r)))) i) (n+2):=by
    have:=Yb (-1) (fun i=>sumTo (fun j=>sgn i*sgn j*(M 0 i*M 1 j-M 0 j*M 1 i)*det n (fun c r=>M (c+2) (skp i (skp j r)))) i) (n+2)
    rw [show ∀ x:Rat,-x = -1*x from fun x=>by grind,← this]
    refine sumTo_congr fun i hi=>?_
    rw [← Yb]
    refine sumTo_congr fun j hj=>?_
    grind
   rw [e]
   refine sumTo_congr fun i hi=>sumTo_congr fun j hj=>?_
   have e0:swp 0 0=1:=rfl
   have e1:swp 0 1=0:=rfl
   have e2 : ∀ c,swp 0 (c+2)=c+2:=fun c=>by simp [swp]
   simp only [e0,e1,e2]
 | a+1,n,M,h=>by
   obtain ⟨n,rfl⟩ : ∃ k,n=k+1:=⟨n-1,by omega⟩
   rw [det,det]
   have:=Yb (-1) (fun i=>sgn i*M 0 i*det n (fun c r=>M (c+1) (skp i r))) (n+1)
   rw [show ∀ x:Rat,-x = -1*x from fun x=>by grind,← this]
   refine sumTo_congr fun i hi=>?_
   have e0:swp (a+1) 0=0:=by simp [swp]
   have e1 : ∀ c,swp (a+1) (c+1)=swp a c+1:=fun c=>by
    simp only [swp]
    by_cases h1:c=a
    · simp [h1]
    · by_cases h2:c=a+1
      · simp [h2]
      · simp [h1,h2]
   have ih:=det_swp a n (fun c r=>M (c+1) (skp i r)) (by omega)
   simp only [e0,e1]
   rw [ih]; grind
theorem det_same : ∀ (n t:Nat) (M:Nat→Nat→Rat),t+1<n→(∀ r,r<n→M 0 r=M (t+1) r)→det n M=0
 | 0,t,M,h,_=>by omega
 | n+1,0,M,h,he=>by
   have h1:=det_swp 0 (n+1) M h
   have h2:det (n+1) (fun c=>M (swp 0 c))=det (n+1) M:=Xl _ fun c r hc hr=>by
    simp only [swp]
    by_cases h3:c=0
    · subst h3; simp only [if_true]; exact (he r hr).symm
    · by_cases h4:c=0+1
      · subst h4; simp only [show ¬ (0+1=0) by omega,if_false,if_true]; exact he r hr
      · simp only [h3,h4,if_false]
   rw [h2] at h1
   grind
 | n+1,t+1,M,h,he=>by
   have h1:=det_swp 0 (n+1) M (by omega)
   have h2:det (n+1) (fun c=>M (swp 0 c))=0:=by
    rw [det]
    refine Yk fun i hi=>?_
    have h0:det n (fun c r=>M (swp 0 (c+1)) (skp i r))=0:=by
     refine det_same n t _ (by omega) fun r hr=>?_
     have e1:swp 0 (0+1)=0:=rfl
     have e2:swp 0 (t+1+1)=t+1+1:=by simp [swp]
     simp only [e1,e2]
     exact he _ (skp_lt hr)
    rw [h0]; grind
   rw [h2] at h1
   grind
theorem det_last {n:Nat} {M:Nat→Nat→Rat} (h : ∀ r,r<n→M 0 r=0):det (n+1) M=sgn n*M 0 n*det n (fun c r=>M (c+1) r):=by
 rw [det,sumTo,Yk fun i hi=>by rw [h i hi]; grind,Rat.zero_add]
 rw [Xl n fun c r hc hr=>by rw [skp,if_pos hr]]
def Wi (t c:Nat):Nat:=if c=0 then t else if c≤t then c-1 else c
theorem det_bring : ∀ (t n:Nat) (M:Nat→Nat→Rat),t<n→det n (fun c=>M (Wi t c))=sgn t*det n M
 | 0,n,M,h=>by
   rw [sgn,Rat.one_mul]
   refine Xl n fun c r hc hr=>?_
   have:Wi 0 c=c:=by simp only [Wi]; split <;> (try split) <;> omega
   rw [this]
 | t+1,n,M,h=>by
   have h1:=det_bring t n (fun c=>M (swp t c)) (by omega)
   have h2:=det_swp t n M h
   rw [h2] at h1
   have h3:det n (fun c=>M (Wi (t+1) c))=det n (fun c=>M (swp t (Wi t c))):=Xl n fun c r hc hr=>by
    have:Wi (t+1) c=swp t (Wi t c):=by
     simp only [Wi,swp]
     by_cases h0:c=0
     · simp [h0]
     · by_cases h4:c≤t
       · simp [h0,h4,show c≤t+1 by omega,show c-1≠t by omega,show c-1≠t+1 by omega]
       · by_cases h5:c=t+1
         · simp [h5]
         · simp [h0,h4,show ¬ c≤t+1 by omega,show c≠t by omega,h5]
    rw [this]
   rw [h3,h1,sgn]; grind
/-! Sizes. -/
def Zq (b:Nat) (q:Rat):Prop:=∃ z:Int,q=(z:Rat)∧z.natAbs≤b
theorem Zq.add {a b:Nat} {p q:Rat} (h1:Zq a p) (h2:Zq b q):Zq (a+b) (p+q):=by
 obtain ⟨x,rfl,hx⟩:=h1
 obtain ⟨y,rfl,hy⟩:=h2
 exact ⟨x+y,(Rat.intCast_add x y).symm,by omega⟩
theorem Zq.mul {a b:Nat} {p q:Rat} (h1:Zq a p) (h2:Zq b q):Zq (a*b) (p*q):=by
 obtain ⟨x,rfl,hx⟩:=h1
 obtain ⟨y,rfl,hy⟩:=h2
 exact ⟨x*y,(Rat.intCast_mul x y).symm,by rw [Int.natAbs_mul]; exact Nat.mul_le_mul hx hy⟩
theorem Zq.mono {a b:Nat} {p:Rat} (h:Zq a p) (hab:a≤b):Zq b p:=by
 obtain ⟨x,e,hx⟩:=h
 exact ⟨x,e,by omega⟩
theorem Zq.zero (b:Nat):Zq b 0:=⟨0,rfl,by simp⟩
theorem Zq.sgn (i:Nat):Zq 1 (sgn i):=by
 induction i with
 | zero=>exact ⟨1,rfl,by decide⟩
 | succ i ih =>
   obtain ⟨x,e,hx⟩:=ih
   refine ⟨-x,?_,by omega⟩
   rw [Bq.sgn,e,Rat.intCast_neg]
theorem Zq.sum {b:Nat} {g:Nat→Rat} {n:Nat} (h : ∀ i,i<n→Zq b (g i)):Zq (n*b) (sumTo g n):=by
 induction n with
 | zero=>exact Zq.zero _
 | succ n ih =>
   rw [Nat.succ_mul]
   exact (ih fun i hi=>h i (by omega)).add (h n (by omega))
theorem det_Zq {b0 F:Nat} {n:Nat} {M:Nat→Nat→Rat} (h0 : ∀ r,r<n+1→Zq b0 (M 0 r)) (hF : ∀ i,i<n+1→Zq F (det n (fun c r=>M (c+1) (skp i r)))):Zq ((n+1)*(b0*F)) (det (n+1) M):=by
 rw [det]
 refine Zq.sum fun i hi=>?_
 have:=((Zq.sgn i).mul (h0 i hi)).mul (hF i hi)
 rwa [Nat.one_mul] at this
def facB (b:Nat):Nat→Nat
 | 0=>1
 | n+1=>(n+1)*(b*facB b n)
theorem det_fac {b:Nat} : ∀ (n:Nat) {M:Nat→Nat→Rat},(∀ c r,c<n→r<n→Zq b (M c r))→Zq (facB b n) (det n M)
 | 0,M,_=>⟨1,rfl,Nat.le_refl _⟩
 | n+1,M,h=>det_Zq (fun r hr=>h 0 r (by omega) hr) fun i hi=>det_fac n fun c r hc hr=>h (c+1) (skp i r) (by omega) (skp_lt hr)
def is01 (q:Rat):Prop:=q=0∨q=1
theorem is01.zq {q:Rat} (h:is01 q):Zq 1 q:=by
 rcases h with rfl | rfl
 · exact ⟨0,rfl,by decide⟩
 · exact ⟨1,rfl,by decide⟩
end Bq
namespace Bq
/-! Sums. -/
theorem sumTo_pick {n t:Nat} (g:Nat→Rat) (h:t<n):sumTo (fun c=>if c=t then g c else 0) n=g t:=by
 induction n with
 | zero=>omega
 | succ n ih =>
   rw [sumTo]
   by_cases h1:t=n
   · subst h1
     rw [Yk fun i hi=>by rw [if_neg (by omega)],if_pos rfl,Rat.zero_add]
   · rw [ih (by omega),if_neg (by omega),Rat.add_zero]
theorem Wd (f:Nat→Nat→Rat) (m:Nat) : ∀ n,sumTo (fun i=>sumTo (fun j=>f i j) m) n=sumTo (fun j=>sumTo (fun i=>f i j) n) m
 | 0=>(Yk fun i hi=>rfl).symm
 | n+1=>by
   rw [sumTo,Wd f m n,← Xm]; rfl
theorem det_comb {n:Nat} (a:Nat→Nat→Rat) (s:Nat→Rat) (e:Nat→Rat) : ∀ (J:Nat) {M:Nat→Nat→Rat},(∀ r,r<n+1→M 0 r=sumTo (fun t=>s t*a t r) J+e r) →
  (∀ t,t<J→s t=0∨det (n+1) (fun c=>if c=0 then a t else M c)=0)→det (n+1) M=det (n+1) (fun c=>if c=0 then e else M c)
 | 0,M,h,_=>Xl _ fun c r hc hr=>by
   by_cases h0:c=0
   · subst h0; rw [if_pos rfl,h r hr,sumTo,Rat.zero_add]
   · rw [if_neg h0]
 | J+1,M,h,hz=>by
   have h1:=det_lin (M:=M) (fun r=>sumTo (fun t=>s t*a t r) J+e r) (a J) (s J) fun r hr=>by rw [h r hr,sumTo]; grind
   have h2:s J*det (n+1) (fun c=>if c=0 then a J else M c)=0:=by
    rcases hz J (by omega) with h3 | h3 <;> rw [h3] <;> grind
   rw [h2,Rat.add_zero] at h1
   rw [h1]
   have h4 : ∀ v:Nat→Rat,(fun c=>if c=0 then v else (fun c=>if c=0 then (fun r=>sumTo (fun t=>s t*a t r) J+e r) else M c) c)=fun c=>if c=0 then v else M c:=fun v=>by
    funext c
    by_cases h0:c=0 <;> simp [h0]
   have ih:=det_comb a s e J (M:=fun c=>if c=0 then (fun r=>sumTo (fun t=>s t*a t r) J+e r) else M c) (fun r hr=>by simp) fun t ht=>by
    rcases hz t (by omega) with h3 | h3
    · exact .inl h3
    · refine .inr ?_
      rw [h4]; exact h3
   rw [ih,h4]
theorem det_scale {n:Nat} (M:Nat→Nat→Rat) (a:Nat→Rat) (s:Rat):det (n+1) (fun c=>if c=0 then (fun r=>s*a r) else M c)=s*det (n+1) (fun c=>if c=0 then a else M c):=by
 have h:=det_lin (n:=n) (M:=fun c=>if c=0 then (fun r=>s*a r) else M c) (fun _=>0) a s fun r hr=>by simp [Rat.zero_add]
 have e1 : ∀ v:Nat→Rat,(fun c=>if c=0 then v else (fun c=>if c=0 then (fun r=>s*a r) else M c) c)=fun c=>if c=0 then v else M c:=fun v=>by
  funext c
  by_cases h0:c=0 <;> simp [h0]
 rw [e1,e1] at h
 rw [h,det_zero (fun r hr=>rfl),Rat.zero_add]
structure GI (m:Nat) (T0:SysT) (j:Nat) (S:SysT) (π:Nat→Nat):Prop where
 lt : ∀ i,i<m→π i<m
 jm:j≤m
 row : ∀ i c,i<m→T0 (π i) c=sumTo (fun t=>T0 (π i) t*S t c) j+(if j≤i then S i c else 0)
 unit : ∀ i t,i<m→t<j→S i t=if i=t then 1 else 0
 dt:det j (fun c r=>T0 (π r) c)≠0
theorem GI.init (m:Nat) (T0:SysT):GI m T0 0 T0 id where
 lt i hi:=hi
 jm:=Nat.zero_le _
 row i c hi:=by rw [sumTo,if_pos (Nat.zero_le _),Rat.zero_add]; rfl
 unit i t hi ht:=by omega
 dt:=by rw [det]; decide
section
variable {m j:Nat} {T0 S:SysT} {π:Nat→Nat} (g:GI m T0 j S π)
include g
theorem GI.minor {i c:Nat} (hi:i<m) (hj:j≤i):det (j+1) (fun c' r=>T0 (if r<j then π r else π i) (if c' = 0 then c else c' - 1))=sgn j*S i c*det j (fun c r=>T0 (π r) c):=by
 have h:=det_comb (n:=j) (fun t r=>T0 (if r<j then π r else π i) t) (fun t=>S t c) (fun r=>if r<j then 0 else S i c) j (M:=fun c' r=>T0 (if r<j then π r else π i) (if c' = 0 then c else c' - 1)) (fun r hr=>by
  simp only [if_true]
  by_cases h1:r<j
  · simp only [h1,if_true]
    rw [g.row r c (by have:=g.jm; omega),if_neg (by omega)]
    congr 1
    exact sumTo_congr fun t ht=>Rat.mul_comm _ _
  · simp only [h1,if_false]
    rw [g.row i c hi,if_pos hj]
    congr 1
    exact sumTo_congr fun t ht=>Rat.mul_comm _ _) fun t ht=>.inr (by
  refine det_same _ t _ (by omega) fun r hr=>?_
  simp)
 rw [h,det_last (fun r hr=>by simp only [if_true,hr])]
 simp only [if_true,Nat.lt_irrefl,if_false]
 congr 1
 refine Xl _ fun c' r hc hr=>?_
 simp [hr]
theorem GI.cramer {t c:Nat} (ht:t<j):det j (fun c' r=>T0 (π r) (if c' = 0 then c else Wi t c'))=S t c*(sgn t*det j (fun c r=>T0 (π r) c)):=by
 have hb:=det_bring t j (fun c r=>T0 (π r) c) ht
 obtain ⟨n,rfl⟩ : ∃ n,j=n+1:=⟨j-1,by omega⟩
 have hbr : ∀ s,s<n+1→s≠t→∃ c',c' + 1<n+1∧Wi t (c' + 1)=s:=fun s hs hst=>by
  by_cases h1:s<t
  · exact ⟨s,by omega,by simp [Wi,show s+1≤t by omega]⟩
  · exact ⟨s-1,by omega,by simp only [Wi]; rw [if_neg (by omega),if_neg (by omega)]; omega⟩
 have h:=det_comb (n:=n) (fun s r=>T0 (π r) s) (fun s=>if s=t then 0 else S s c) (fun r=>S t c*T0 (π r) t) (n+1) (M:=fun c' r=>T0 (π r) (if c' = 0 then c else Wi t c')) (fun r hr=>by
  simp only [if_true]
  rw [g.row r c (by have:=g.jm; omega),if_neg (by omega),Rat.add_zero]
  have e:sumTo (fun s=>T0 (π r) s*S s c) (n+1)=sumTo (fun s=>(if s=t then 0 else S s c)*T0 (π r) s) (n+1)+sumTo (fun s=>if s=t then S s c*T0 (π r) s else 0) (n+1):=by
   rw [← Xm]
   refine sumTo_congr fun s hs=>?_
   by_cases h1:s=t
   · simp only [h1,if_true]; grind
   · simp only [h1,if_false]; grind
  rw [e,sumTo_pick _ ht]) fun s hs=>by
  by_cases h1:s=t
  · exact .inl (by simp [h1])
  · refine .inr ?_
    obtain ⟨c',h2,h3⟩:=hbr s hs h1
    refine det_same _ c' _ h2 fun r hr=>?_
    simp [h3]
 rw [h,det_scale]
 congr 1
end
theorem swapT_at (a p:Nat) (T:SysT):swapT a p T a=T p:=by simp [swapT]
theorem GI.step {m j p:Nat} {T0 S:SysT} {π:Nat→Nat} (g:GI m T0 j S π) (hp:p<m) (hjp:j≤p) (h0:S p j≠0) :
  ∃ π',GI m T0 (j+1) (elimT j (normT j (swapT j p S))) π':=by
 have hj:j<m:=by omega
 -- the rows changed
 obtain ⟨π',hπ⟩ : ∃ π' : Nat→Nat,π' = fun i=>if i=j then π p else if i=p then π j else π i:=⟨_,rfl⟩
 obtain ⟨S',hS⟩ : ∃ S',S' = swapT j p S:=⟨_,rfl⟩
 have hS1:S' j=S p:=by rw [hS,swapT_at]
 have hS2 : ∀ t,t<j→S' t=S t:=fun t ht=>by rw [hS,swapT]; simp only [show t≠j by omega,show t≠p by omega,if_false]
 have hπ2 : ∀ t,t<j→π' t=π t:=fun t ht=>by rw [hπ]; simp only [show t≠j by omega,show t≠p by omega,if_false]
 have hsel : ∀ i,i<m→∃ i',i' < m∧π' i=π i'∧S' i=S i'∧(j≤i↔j≤i')∧(i<j→i' = i):=fun i hi=>by
  by_cases h1:i=j
  · exact ⟨p,hp,by rw [hπ]; simp [h1],by rw [h1,hS1],by omega,by omega⟩
  · by_cases h2:i=p
    · refine ⟨j,hj,by rw [hπ]; simp only [h2,if_true]; rw [if_neg (by omega)],?_,by omega,by omega⟩
      rw [hS,swapT]; simp only [h1,if_false]; rw [if_pos h2]
    · refine ⟨i,hi,by rw [hπ]; simp [h1,h2],?_,Iff.rfl,fun _=>rfl⟩
      rw [hS,swapT]; simp [h1,h2]
 have g' : GI m T0 j S' π':=by
  refine ⟨fun i hi=>?_,g.jm,fun i c hi=>?_,fun i t hi ht=>?_,?_⟩
  · obtain ⟨i',h1,h2,-⟩:=hsel i hi
    rw [h2]; exact g.lt i' h1
  · obtain ⟨i',h1,h2,h3,h4,-⟩:=hsel i hi
    rw [h2,h3,g.row i' c h1]
    congr 1
    · exact sumTo_congr fun t ht=>by rw [hS2 t ht]
    · by_cases h5:j≤i
      · rw [if_pos h5,if_pos (h4.1 h5)]
      · rw [if_neg h5,if_neg fun h=>h5 (h4.2 h)]
  · obtain ⟨i',h1,h2,h3,h4,h5⟩:=hsel i hi
    rw [h3,g.unit i' t h1 ht]
    by_cases h6:i<j
    · rw [h5 h6]
    · have:=h4.1 (by omega)
      rw [if_neg (by omega),if_neg (by omega)]
  · have:det j (fun c r=>T0 (π' r) c)=det j (fun c r=>T0 (π r) c):=Xl _ fun c r hc hr=>by rw [hπ2 r hr]
    rw [this]; exact g.dt
 have hv:S' j j≠0:=by rw [hS1]; exact h0
 rw [← hS]
 clear hsel hπ2 hS2 hS1 hS hπ g h0
 refine ⟨π',g'.lt,by omega,fun i c hi=>?_,fun i t hi ht=>?_,?_⟩
 · -- rows
   have r1:=g'.row i c hi
   have r2:=g'.row i j hi
   obtain ⟨v,hvv⟩ : ∃ v,S' j j=v:=⟨_,rfl⟩
   rw [hvv] at hv
   obtain ⟨q,hq⟩ : ∃ q,S' j c / v=q:=⟨_,rfl⟩
   have hqv:S' j c=q*v:=by rw [← hq]; exact (Rat.div_mul_cancel hv).symm
   have e1 : ∀ i',elimT j (normT j S') i' c=if i' = j then q else S' i' c-S' i' j*q:=fun i'=>by
    simp only [elimT,normT,if_true,hvv,hq]
    by_cases h1:i' = j
    · simp only [h1,if_true]
    · simp only [h1,if_false]
   rw [sumTo]
   have e2:sumTo (fun t=>T0 (π' i) t*elimT j (normT j S') t c) j=sumTo (fun t=>T0 (π' i) t*S' t c) j+(-q)*sumTo (fun t=>T0 (π' i) t*S' t j) j:=by
    rw [← Yb,← Xm]
    refine sumTo_congr fun t ht=>?_
    rw [e1,if_neg (by omega)]; grind
   rw [e2,e1 j,if_pos rfl,e1 i]
   generalize sumTo (fun t=>T0 (π' i) t*S' t c) j=A at *
   generalize sumTo (fun t=>T0 (π' i) t*S' t j) j=B at *
   rcases Nat.lt_trichotomy i j with h1 | h1 | h1
   · rw [if_neg (by omega)] at r1 r2
     rw [if_neg (by omega)]
     rw [r1,r2]; grind
   · subst h1
     rw [if_pos (Nat.le_refl _)] at r1 r2
     rw [if_neg (by omega)]
     rw [hvv] at r2
     rw [r1,r2,hqv]; grind
   · rw [if_pos (by omega)] at r1 r2
     rw [if_pos (by omega),if_neg (by omega)]
     rw [r1,r2]; grind
 · -- unit
   simp only [elimT,normT,if_true]
   by_cases h1:t=j
   · subst h1
     by_cases h2:i=t
     · subst h2
       rw [if_pos rfl,if_pos rfl,Rat.div_def,Rat.mul_inv_cancel _ hv]
     · rw [if_neg h2,if_neg h2,if_neg h2,Rat.div_def,Rat.mul_inv_cancel _ hv]; grind
   · have u1:=g'.unit j t hj (by omega)
     rw [if_neg (by omega)] at u1
     have u2:=g'.unit i t hi (by omega)
     by_cases h2:i=j
     · subst h2
       rw [if_pos rfl,u1,if_neg (by omega),Rat.div_def,Rat.zero_mul]
     · rw [if_neg h2,if_neg h2,if_neg h2,u1,u2,Rat.div_def,Rat.zero_mul,Rat.mul_zero]; grind
 · -- the determinant
   have hm:=g'.minor (i:=j) (c:=j) hj (Nat.le_refl _)
   have hb:=det_bring j (j+1) (fun c r=>T0 (π' r) c) (by omega)
   have e:det (j+1) (fun c' r=>T0 (if r<j then π' r else π' j) (if c' = 0 then j else c' - 1))=det (j+1) (fun c r=>T0 (π' r) (Wi j c)):=Xl _ fun c r hc hr=>by
    have h1:(if r<j then π' r else π' j)=π' r:=by
     by_cases h2:r<j
     · rw [if_pos h2]
     · rw [if_neg h2,show r=j by omega]
    have h3:(if c=0 then j else c-1)=Wi j c:=by
     simp only [Wi]
     by_cases h0:c=0
     · rw [if_pos h0,if_pos h0]
     · rw [if_neg h0,if_neg h0,if_pos (by omega)]
    rw [h1,h3]
   rw [e,hb] at hm
   intro hc
   rw [hc,Rat.mul_zero] at hm
   rcases Rat.mul_eq_zero.1 hm.symm with h1 | h1
   · rcases Rat.mul_eq_zero.1 h1 with h2 | h2
     · have:=sgn_sq j; rw [h2] at this; exact absurd this (by decide +kernel)
     · exact hv h2
   · exact g'.dt h1
theorem elim_gi {m:Nat} {T0:SysT} : ∀ {j:Nat} {S:SysT},We m T0 j=some S→∃ π,GI m T0 j S π
 | 0,S,h=>by cases h; exact ⟨id,GI.init m _⟩
 | j+1,S,h=>by
   rw [We] at h
   cases hr:We m T0 j with
   | none=>rw [hr] at h; cases h
   | some S1 =>
     rw [hr] at h
     simp only [Option.bind_some,elimStep] at h
     obtain ⟨π,g⟩:=elim_gi hr
     cases hf:findP m j S1 with
     | none=>rw [hf] at h; cases h
     | some p =>
       rw [hf] at h
       cases h
       obtain ⟨h1,h2,h3,_⟩:=findP_some hf
       exact g.step h1 h2 h3
/-! How great. -/
theorem Zq.rp {b:Nat} {D z:Int} {q:Rat} {s:Rat} (hD:D≠0) {N:Nat} (hN:0<N) (hs:Zq 1 s) (hq:Zq b (q*D*N*s)) (hss:s*s=1) : ∃ x:Int,Rp (D.natAbs*N) x q∧x.natAbs≤b:=by
 obtain ⟨y,hy,hyb⟩:=hq
 obtain ⟨u,hu,hub⟩:=hs
 have hD0:0<D.natAbs:=by omega
 have h1:q*(D:Rat)*(N:Rat)=(y:Rat)*s:=by
  rw [← hy]
  generalize q*(D:Rat)*(N:Rat)=A
  have:A*s*s=A*(s*s):=by grind
  rw [this,hss,Rat.mul_one]
 rcases Int.lt_or_le D 0 with h | h
 · refine ⟨-(y*u),⟨Nat.mul_pos hD0 hN,?_⟩,?_⟩
   · have e:((D.natAbs:Nat):Rat) = -(D:Rat):=by
      rw [← Rat.intCast_natCast,← Rat.intCast_neg]; congr 1; omega
     rw [Rat.natCast_mul,e,Rat.intCast_neg,Rat.intCast_mul,← hu,← h1]; grind
   · rw [Int.natAbs_neg,Int.natAbs_mul]
     exact Nat.le_trans (Nat.mul_le_mul hyb hub) (by omega)
 · refine ⟨y*u,⟨Nat.mul_pos hD0 hN,?_⟩,?_⟩
   · have e:((D.natAbs:Nat):Rat)=(D:Rat):=by
      rw [← Rat.intCast_natCast]; congr 1; omega
     rw [Rat.natCast_mul,e,Rat.intCast_mul,← hu,← h1]; grind
   · rw [Int.natAbs_mul]
     exact Nat.le_trans (Nat.mul_le_mul hyb hub) (by omega)
theorem GI.parts {P:Rat→Prop} {F:Nat→Nat} (hF : ∀ n M,(∀ c r,c<n→r<n→P (M c r))→Zq (F n) (det n M)) {m k j N B X:Nat} {T0 S:SysT} {π:Nat→Nat} (g:GI m T0 j S π) (hjk:j≤k) (hN:0<N)
  (hP : ∀ i c,i<m→c<k→P (T0 i c)) (hR : ∀ i,i<m→Zq B (T0 i k*N)) (hX1 : ∀ n,n≤k→F n*N≤X) (hX2 : ∀ n,n≤k→(n+1)*(B*F n)≤X) :
  ∃ D,0<D∧D≤F j*N∧∀ i c,i<m→c≤k→∃ x:Int,Rp D x (S i c)∧x.natAbs≤X:=by
 have hj:=g.jm
 obtain ⟨d,hd,hdb⟩:=hF j (fun c r=>T0 (π r) c) fun c r hc hr=>hP _ _ (g.lt r (by omega)) (by omega)
 have hd0:d≠0:=fun h=>g.dt (by rw [hd,h]; rfl)
 refine ⟨d.natAbs*N,Nat.mul_pos (by omega) hN,Nat.mul_le_mul_right _ hdb,fun i c hi hc=>?_⟩
 by_cases hcj:c<j
 · -- a column that is done
   rw [g.unit i c hi hcj]
   have hX:=hX1 j hjk
   have hdX:d.natAbs*N≤X:=Nat.le_trans (Nat.mul_le_mul_right _ hdb) hX
   by_cases h1:i=c
   · refine ⟨((d.natAbs*N:Nat):Int),⟨Nat.mul_pos (by omega) hN,?_⟩,by rw [Int.natAbs_natCast]; exact hdX⟩
     rw [if_pos h1,Rat.one_mul,Rat.intCast_natCast]
   · refine ⟨0,⟨Nat.mul_pos (by omega) hN,?_⟩,by simp⟩
     rw [if_neg h1,Rat.zero_mul]; rfl
 by_cases hij:i<j
 · -- a pivot's row
   have hcr:=g.cramer (c:=c) hij
   rw [hd] at hcr
   obtain ⟨n,rfl⟩ : ∃ n,j=n+1:=⟨j-1,by omega⟩
   have hbl : ∀ c',c' + 1<n+1→Wi i (c' + 1)<n+1:=fun c' hc'=>by
    simp only [Wi]; split
    · omega
    · split <;> omega
   have key:Zq X (S i c*(d:Rat)*(N:Rat)*sgn i):=by
    have e:S i c*(d:Rat)*(N:Rat)*sgn i=(N:Rat)*det (n+1) (fun c' r=>T0 (π r) (if c' = 0 then c else Wi i c')):=by rw [hcr]; grind
    rw [e]
    by_cases hck:c=k
    · subst hck
      have e2:(N:Rat)*det (n+1) (fun c' r=>T0 (π r) (if c' = 0 then c else Wi i c'))=det (n+1) (fun c'=>if c' = 0 then (fun r=>(N:Rat)*T0 (π r) c) else fun r=>T0 (π r) (Wi i c')):=by
       rw [det_scale (fun c' r=>T0 (π r) (Wi i c')) (fun r=>T0 (π r) c) (N:Rat)]
       congr 1
      rw [e2]
      refine (det_Zq (b0:=B) (F:=F n) (fun r hr=>?_) fun i' hi'=>hF n _ fun c' r hc' hr=>?_).mono (hX2 n (by omega))
      · simp only [if_true]; rw [Rat.mul_comm]; exact hR _ (g.lt r (by omega))
      · simp only [show ¬ (c' + 1=0) by omega,if_false]
        exact hP _ _ (g.lt _ (by have:=skp_lt (i:=i') hr; omega)) (by have:=hbl c' (by omega); omega)
    · refine Zq.mono (Zq.mul ⟨(N:Int),(Rat.intCast_natCast N).symm,Nat.le_refl _⟩ (hF (n+1) _ fun c' r hc' hr=>?_)) (by rw [Int.natAbs_natCast,Nat.mul_comm]; exact hX1 (n+1) hjk)
      refine hP _ _ (g.lt r (by omega)) ?_
      by_cases h0:c' = 0
      · rw [if_pos h0]; omega
      · rw [if_neg h0]
        obtain ⟨c',rfl⟩ : ∃ t,c' = t+1:=⟨c' - 1,by omega⟩
        have:=hbl c' hc'; omega
   exact Zq.rp (z:=0) hd0 hN (Zq.sgn i) key (sgn_sq i)
 · -- a row below
   have hmn:=g.minor (c:=c) hi (by omega)
   rw [hd] at hmn
   have key:Zq X (S i c*(d:Rat)*(N:Rat)*sgn j):=by
    have e:S i c*(d:Rat)*(N:Rat)*sgn j=(N:Rat)*det (j+1) (fun c' r=>T0 (if r<j then π r else π i) (if c' = 0 then c else c' - 1)):=by rw [hmn]; grind
    rw [e]
    have hρ : ∀ r,(if r<j then π r else π i)<m:=fun r=>by
     split
     · exact g.lt r (by omega)
     · exact g.lt i hi
    by_cases hck:c=k
    · subst hck
      have e2:(N:Rat)*det (j+1) (fun c' r=>T0 (if r<j then π r else π i) (if c' = 0 then c else c' - 1))=det (j+1) (fun c'=>if c' = 0 then (fun r=>(N:Rat)*T0 (if r<j then π r else π i) c) else fun r=>T0 (if r<j then π r else π i) (c' - 1)):=by
       rw [det_scale (fun c' r=>T0 (if r<j then π r else π i) (c' - 1)) (fun r=>T0 (if r<j then π r else π i) c) (N:Rat)]
       congr 1
      rw [e2]
      refine (det_Zq (b0:=B) (F:=F j) (fun r hr=>?_) fun i' hi'=>hF j _ fun c' r hc' hr=>?_).mono (hX2 j hjk)
      · simp only [if_true]; rw [Rat.mul_comm]; exact hR _ (hρ r)
      · simp only [show ¬ (c' + 1=0) by omega,if_false]
        exact hP _ _ (hρ _) (by omega)
    · refine Zq.mono (Zq.mul ⟨(N:Int),(Rat.intCast_natCast N).symm,Nat.le_refl _⟩ (hF (j+1) _ fun c' r hc' hr=>?_)) (by rw [Int.natAbs_natCast,Nat.mul_comm]; exact hX1 (j+1) (by omega))
      refine hP _ _ (hρ r) ?_
      by_cases h0:c' = 0
      · rw [if_pos h0]; omega
      · rw [if_neg h0]; omega
   exact Zq.rp (z:=0) hd0 hN (Zq.sgn j) key (sgn_sq j)
end Bq
namespace Bq
def bitQ (e w:Nat):Rat:=if e.testBit w then 1 else 0
theorem solveT_len {m k:Nat} {T:SysT} {x:List Rat} (h:solveT m k T=some x):x.length=k:=by
 rw [solveT] at h
 cases hr:We m T k with
 | none=>rw [hr] at h; cases h
 | some S =>
   rw [hr] at h
   simp only [Option.bind_some] at h
   split at h
   · cases h
   · cases h; simp
end Bq
namespace Bq
def Nul (m K:Nat) (T:SysT) (y:Nat→Rat):Prop:=∀ i,i<m→sumTo (fun c=>T i c*y c) K=0
theorem nul_swap {m K a p:Nat} {T:SysT} {y:Nat→Rat} (ha:a<m) (hp:p<m):Nul m K (swapT a p T) y↔Nul m K T y:=by
 have key : ∀ T:SysT,Nul m K T y→Nul m K (swapT a p T) y:=fun T h i hi=>by
  by_cases h1:i=a
  · subst h1; rw [swapT_at]; exact h p hp
  · by_cases h2:i=p
    · have:swapT a p T i=T a:=by simp only [swapT,h1,if_false]; rw [if_pos h2]
      rw [this]; exact h a ha
    · have:swapT a p T i=T i:=by simp only [swapT,h1,h2,if_false]
      rw [this]; exact h i hi
 refine ⟨fun h=>?_,key T⟩
 have h2:=key _ h
 have e:swapT a p (swapT a p T)=T:=by
  funext i
  simp only [swapT]
  by_cases h1:i=a
  · subst h1
    simp only [if_true]
    by_cases h3:p=i
    · rw [if_pos h3,h3]
    · rw [if_neg h3]
  · simp only [h1,if_false]
    by_cases h3:i=p
    · subst h3; simp
    · simp [h3]
 rwa [e] at h2
theorem nul_norm {m K a:Nat} {T:SysT} {y:Nat→Rat} (ha:a<m) (h0:T a a≠0):Nul m K (normT a T) y↔Nul m K T y:=by
 have e:sumTo (fun c=>normT a T a c*y c) K=(T a a)⁻¹*sumTo (fun c=>T a c*y c) K:=by
  rw [← Yb]
  refine sumTo_congr fun c hc=>?_
  simp only [normT,if_true,Rat.div_def]; grind
 have e2 : ∀ i,i≠a→sumTo (fun c=>normT a T i c*y c) K=sumTo (fun c=>T i c*y c) K:=fun i hi=>sumTo_congr fun c hc=>by simp only [normT,hi,if_false]
 constructor
 · intro h i hi
   by_cases h1:i=a
   · subst h1
     have:=h i hi
     rw [e] at this
     rcases Rat.mul_eq_zero.1 this with h2 | h2
     · have h3:=Rat.mul_inv_cancel _ h0
       rw [h2,Rat.mul_zero] at h3; exact absurd h3 (by decide +kernel)
     · exact h2
   · rw [← e2 i h1]; exact h i hi
 · intro h i hi
   by_cases h1:i=a
   · subst h1; rw [e,h i hi,Rat.mul_zero]
   · rw [e2 i h1]; exact h i hi
theorem nul_elim {m K a:Nat} {T:SysT} {y:Nat→Rat} (ha:a<m):Nul m K (elimT a T) y↔Nul m K T y:=by
 have e : ∀ i,i≠a→sumTo (fun c=>elimT a T i c*y c) K=sumTo (fun c=>T i c*y c) K+(-(T i a))*sumTo (fun c=>T a c*y c) K:=fun i hi=>by
  rw [← Yb,← Xm]
  refine sumTo_congr fun c hc=>?_
  simp only [elimT,hi,if_false]; grind
 have e2:sumTo (fun c=>elimT a T a c*y c) K=sumTo (fun c=>T a c*y c) K:=sumTo_congr fun c hc=>by simp only [elimT,if_true]
 constructor
 · intro h i hi
   have h2:=h a ha
   rw [e2] at h2
   by_cases h1:i=a
   · subst h1; exact h2
   · have:=h i hi
     rw [e i h1,h2,Rat.mul_zero,Rat.add_zero] at this; exact this
 · intro h i hi
   by_cases h1:i=a
   · subst h1; rw [e2]; exact h i hi
   · rw [e i h1,h i hi,h a ha,Rat.mul_zero,Rat.add_zero]
theorem nul_run {m K:Nat} {T:SysT} {y:Nat→Rat} : ∀ {j:Nat} {S:SysT},We m T j=some S→(Nul m K S y↔Nul m K T y)
 | 0,S,h=>by cases h; exact Iff.rfl
 | j+1,S,h=>by
   rw [We] at h
   cases hr:We m T j with
   | none=>rw [hr] at h; cases h
   | some S1 =>
     rw [hr] at h
     simp only [Option.bind_some,elimStep] at h
     cases hf:findP m j S1 with
     | none=>rw [hf] at h; cases h
     | some p =>
       rw [hf] at h
       cases h
       obtain ⟨h1,h2,h3,_⟩:=findP_some hf
       have hj:j<m:=by omega
       rw [nul_elim hj,nul_norm hj (by rw [swapT_at]; exact h3),nul_swap hj h1]
       exact nul_run hr
def Sol (m k:Nat) (T:SysT) (x:Nat→Rat):Prop:=∀ i,i<m→sumTo (fun c=>T i c*x c) k=T i k
def Ker (m k:Nat) (T:SysT) (x:Nat→Rat):Prop:=∀ i,i<m→sumTo (fun c=>T i c*x c) k=0
def ext1 (k:Nat) (x:Nat→Rat) (s:Rat):Nat→Rat:=fun c=>if c<k then x c else s
theorem sum_ext1 (T:SysT) (i k:Nat) (x:Nat→Rat) (s:Rat):sumTo (fun c=>T i c*ext1 k x s c) (k+1)=sumTo (fun c=>T i c*x c) k+T i k*s:=by
 rw [sumTo]
 have e:ext1 k x s k=s:=by simp [ext1]
 simp only [e]
 congr 1
 exact sumTo_congr fun c hc=>by simp only [ext1,hc,if_true]
theorem sol_nul {m k:Nat} {T:SysT} {x:Nat→Rat}:Sol m k T x↔Nul m (k+1) T (ext1 k x (-1)):=by
 constructor
 · intro h i hi
   rw [sum_ext1,h i hi]; grind
 · intro h i hi
   have:=h i hi
   rw [sum_ext1] at this
   generalize sumTo (fun c=>T i c*x c) k=A at *
   grind
theorem ker_nul {m k:Nat} {T:SysT} {x:Nat→Rat}:Ker m k T x↔Nul m (k+1) T (ext1 k x 0):=by
 constructor
 · intro h i hi
   rw [sum_ext1,h i hi]; grind
 · intro h i hi
   have:=h i hi
   rw [sum_ext1] at this
   generalize sumTo (fun c=>T i c*x c) k=A at *
   grind
theorem sum_unit {n t:Nat} (x:Nat→Rat) (h:t<n):sumTo (fun c=>(if t=c then 1 else 0)*x c) n=x t:=by
 rw [← sumTo_pick x h]
 refine sumTo_congr fun c hc=>?_
 by_cases h1:t=c
 · rw [if_pos h1,if_pos h1.symm,Rat.one_mul]
 · rw [if_neg h1,if_neg (Ne.symm h1),Rat.zero_mul]
theorem solve_some {m k:Nat} {T:SysT} {xs:List Rat} (h:solveT m k T=some xs):xs.length=k∧∀ y,Sol m k T y↔∀ t,t<k→y t=xs.getD t 0:=by
 refine ⟨solveT_len h,fun y=>?_⟩
 rw [solveT] at h
 cases hr:We m T k with
 | none=>rw [hr] at h; cases h
 | some S =>
   rw [hr] at h
   simp only [Option.bind_some] at h
   split at h
   · cases h
   · next hrest =>
     cases h
     obtain ⟨π,g⟩:=elim_gi hr
     rw [sol_nul,← nul_run hr,← sol_nul]
     have hu : ∀ i,i<m→sumTo (fun c=>S i c*y c) k=if i<k then y i else 0:=fun i hi=>by
      rw [sumTo_congr (g:=fun c=>(if i=c then 1 else 0)*y c) fun c hc=>by rw [g.unit i c hi hc]]
      by_cases h1:i<k
      · rw [if_pos h1,sum_unit y h1]
      · rw [if_neg h1]
        exact Yk fun c hc=>by rw [if_neg (by omega),Rat.zero_mul]
     have hget : ∀ t,t<k→((List.range k).map fun i=>S i k).getD t 0=S t k:=fun t ht=>by simp [List.getD,ht]
     constructor
     · intro h t ht
       rw [hget t ht]
       have:=h t (by have:=g.jm; omega)
       rw [hu t (by have:=g.jm; omega),if_pos ht] at this
       exact this
     · intro h i hi
       rw [hu i hi]
       by_cases h1:i<k
       · rw [if_pos h1,h i h1,hget i h1]
       · rw [if_neg h1]
         have : ¬ restT m k S=true:=hrest
         rw [restT,List.any_eq_true] at this
         rcases Decidable.em (S i k=0) with h2 | h2
         · exact h2.symm
         · exact absurd ⟨i,List.mem_range.2 hi,by simp [h2]; omega⟩ this
theorem run_none {m k:Nat} {T:SysT} : ∀ {j:Nat},j≤k→We m T j=none→∃ δ,Ker m k T δ∧∃ c,c<k∧δ c≠0
 | 0,_,h=>by cases h
 | j+1,hj,h=>by
   rw [We] at h
   cases hr:We m T j with
   | none=>exact run_none (by omega) hr
   | some S =>
     rw [hr] at h
     simp only [Option.bind_some,elimStep] at h
     cases hf:findP m j S with
     | some p=>rw [hf] at h; cases h
     | none =>
       obtain ⟨π,g⟩:=elim_gi hr
       have h0 : ∀ i,i<m→j≤i→S i j=0:=fun i hi hji=>by
        rw [findP,List.find?_eq_none] at hf
        have:=hf i (List.mem_range.2 hi)
        simpa [hji] using this
       refine ⟨fun c=>if c<j then-S c j else if c=j then 1 else 0,?_,j,by omega,by simp⟩
       rw [ker_nul,← nul_run hr,← ker_nul]
       intro i hi
       have e : ∀ K,K≤k→sumTo (fun c=>S i c*(if c<j then-S c j else if c=j then 1 else 0)) K=if j<K then sumTo (fun c=>S i c*(- S c j)) j+S i j else sumTo (fun c=>S i c*(- S c j)) K:=by
        intro K
        induction K with
        | zero=>intro _; rw [if_neg (by omega)]; rfl
        | succ K ih =>
          intro hK
          rw [sumTo,ih (by omega)]
          rcases Nat.lt_trichotomy K j with h1 | h1 | h1
          · rw [if_neg (show ¬ j<K by omega),if_pos h1,if_neg (show ¬ j<K+1 by omega)]; rfl
          · subst h1
            rw [if_neg (show ¬ K<K by omega),if_pos (show K<K+1 by omega),if_neg (show ¬ K<K by omega),if_pos rfl,Rat.mul_one]
          · rw [if_pos (show j<K by omega),if_pos (show j<K+1 by omega),if_neg (show ¬ K<j by omega),if_neg (show ¬ K=j by omega),Rat.mul_zero,Rat.add_zero]
       rw [e k (Nat.le_refl _),if_pos (by omega)]
       rw [sumTo_congr (g:=fun c=>(if i=c then 1 else 0)*(- S c j)) fun c hc=>by rw [g.unit i c hi hc]]
       by_cases h1:i<j
       · rw [sum_unit (fun c=>- S c j) h1]; grind
       · rw [Yk fun c hc=>by rw [if_neg (by omega),Rat.zero_mul],h0 i hi (by omega),Rat.zero_add]
theorem solve_none {m k:Nat} {T:SysT} (h:solveT m k T=none):(∀ y,¬ Sol m k T y)∨∃ δ,Ker m k T δ∧∃ c,c<k∧δ c≠0:=by
 rw [solveT] at h
 cases hr:We m T k with
 | none=>exact .inr (run_none (Nat.le_refl _) hr)
 | some S =>
   rw [hr] at h
   simp only [Option.bind_some] at h
   split at h
   · next hrest =>
     refine .inl fun y hy=>?_
     obtain ⟨π,g⟩:=elim_gi hr
     rw [sol_nul,← nul_run hr,← sol_nul] at hy
     rw [restT,List.any_eq_true] at hrest
     obtain ⟨i,hi,h1⟩:=hrest
     simp only [Bool.and_eq_true,decide_eq_true_eq] at h1
     have:=hy i (List.mem_range.1 hi)
     rw [Yk fun c hc=>by rw [g.unit i c (List.mem_range.1 hi) hc,if_neg (by omega),Rat.zero_mul]] at this
     exact h1.2 this.symm
   · cases h
theorem Sol.add {m k:Nat} {T:SysT} {x δ:Nat→Rat} (h:Sol m k T x) (hd:Ker m k T δ) (s:Rat):Sol m k T (fun c=>x c+s*δ c):=fun i hi=>by
 rw [sumTo_congr (g:=fun c=>T i c*x c+s*(T i c*δ c)) fun c hc=>by grind,Xm,Yb,h i hi,hd i hi,Rat.mul_zero,Rat.add_zero]
theorem solve_wide {m k:Nat} {T:SysT} (h:m<k):solveT m k T=none:=by
 have key : ∀ j,m<j→We m T j=none:=by
  intro j
  induction j with
  | zero=>intro h; omega
  | succ j ih =>
    intro hj
    rw [We]
    by_cases h1:m<j
    · rw [ih h1]; rfl
    · obtain rfl:j=m:=by omega
      cases hr:We j T j with
      | none=>rfl
      | some S =>
        simp only [Option.bind_some,elimStep]
        have:findP j j S=none:=find_none fun i hi=>by simp; omega
        rw [this]; rfl
 rw [solveT,key k h]; rfl
end Bq
namespace Bq
theorem sgn_ne (a:Nat):sgn a≠0:=fun h=>by
 have:=sgn_sq a
 rw [h] at this; simp at this
theorem bring_ne {j c:Nat} (h:c≠0):Wi j c≠j:=by
 rw [Wi,if_neg h]
 split <;> omega
theorem bring_at {j t:Nat} (h:t≠j):Wi j ((if t<j then t else t-1)+1)=t:=by
 rw [Wi,if_neg (by omega)]
 by_cases h1:t<j
 · rw [if_pos h1,if_pos (by omega)]; omega
 · rw [if_neg h1,if_neg (by omega)]; omega
def putC (M:Nat→Nat→Rat) (j:Nat) (b:Nat→Rat):Nat→Nat→Rat:=fun c=>if c=j then b else M c
theorem cramer {n j:Nat} {M:Nat→Nat→Rat} {b x:Nat→Rat} (hj:j<n) (hx : ∀ r,r<n→sumTo (fun c=>x c*M c r) n=b r):det n (putC M j b)=x j*det n M:=by
 obtain ⟨n,rfl⟩ : ∃ k,n=k+1:=⟨n-1,by omega⟩
 have h1:=det_bring j (n+1) (putC M j b) hj
 have h2:=det_bring j (n+1) M hj
 have hs:sumTo (fun c=>if c=j then x c*(fun r=>fun c=>M c r) 0 c else 0) (n+1)=x j*M j 0:=sumTo_pick _ hj
 have hB : ∀ c,c≠0→putC M j b (Wi j c)=M (Wi j c):=fun c hc=>by rw [putC,if_neg (bring_ne hc)]
 have hB0:putC M j b (Wi j 0)=b:=by rw [Wi,if_pos rfl,putC,if_pos rfl]
 have h3:=det_comb (n:=n) (fun t=>M t) (fun t=>if t=j then 0 else x t) (fun r=>x j*M j r) (n+1) (M:=fun c=>putC M j b (Wi j c)) (fun r hr=>by
  rw [hB0,← hx r hr]
  have hp:sumTo (fun c=>if c=j then x c*M c r else 0) (n+1)=x j*M j r:=sumTo_pick _ hj
  rw [← hp,← Xm]
  refine sumTo_congr fun c _=>?_
  by_cases h:c=j
  · rw [if_pos h,if_pos h]; grind
  · rw [if_neg h,if_neg h]; grind) (fun t ht=>by
  by_cases h:t=j
  · exact .inl (if_pos h)
  · refine .inr (det_same (n+1) (if t<j then t else t-1) _ (by split <;> omega) fun r hr=>?_)
    rw [if_pos rfl,if_neg (by omega),hB _ (by omega),bring_at h])
 have h4:=det_scale (n:=n) (fun c=>putC M j b (Wi j c)) (M j) (x j)
 have h5:det (n+1) (fun c=>if c=0 then M j else putC M j b (Wi j c))=det (n+1) (fun c=>M (Wi j c)):=Xl _ fun c r hc hr=>by
  by_cases h:c=0
  · rw [if_pos h,h,Wi,if_pos rfl]
  · rw [if_neg h,hB c h]
 rw [h3,h4,h5,h2] at h1
 have hq:=sgn_sq j
 have h6:sgn j*(x j*(sgn j*det (n+1) M))=sgn j*(sgn j*det (n+1) (putC M j b)):=by rw [h1]
 have h7:sgn j*(sgn j*det (n+1) (putC M j b))=det (n+1) (putC M j b):=by rw [← Rat.mul_assoc,hq,Rat.one_mul]
 have h8:sgn j*(x j*(sgn j*det (n+1) M))=x j*det (n+1) M:=by
  have:sgn j*(x j*(sgn j*det (n+1) M))=(sgn j*sgn j)*(x j*det (n+1) M):=by grind
  rw [this,hq,Rat.one_mul]
 rw [← h7,← h6,h8]
theorem put_zero {n j:Nat} {M:Nat→Nat→Rat} (hj:j<n):det n (putC M j fun _=>0)=0:=by
 obtain ⟨n,rfl⟩ : ∃ k,n=k+1:=⟨n-1,by omega⟩
 have h1:=det_bring j (n+1) (putC M j fun _=>0) hj
 rw [det_zero (fun r _=>by rw [Wi,if_pos rfl,putC,if_pos rfl])] at h1
 have h2:sgn j*(sgn j*det (n+1) (putC M j fun _=>0))=0:=by rw [← h1]; exact Rat.mul_zero _
 rw [← Rat.mul_assoc,sgn_sq,Rat.one_mul] at h2
 exact h2
theorem ker_det {n j:Nat} {M:Nat→Nat→Rat} {x:Nat→Rat} (hj:j<n) (h0:x j≠0) (hx : ∀ r,r<n→sumTo (fun c=>x c*M c r) n=0):det n M=0:=by
 have h1:=cramer (b:=fun _=>0) hj hx
 rw [put_zero hj] at h1
 rcases Rat.mul_eq_zero.1 h1.symm with h | h
 · exact absurd h h0
 · exact h
theorem sol_ex {n:Nat} {M:Nat→Nat→Rat} (h:det n M≠0) (b:Nat→Rat) : ∃ x:Nat→Rat,∀ r,r<n→sumTo (fun c=>x c*M c r) n=b r:=by
 obtain ⟨T,hT⟩ : ∃ T:SysT,T=fun r c=>if c<n then M c r else b r:=⟨_,rfl⟩
 have hsum : ∀ (x:Nat→Rat) r,sumTo (fun c=>T r c*x c) n=sumTo (fun c=>x c*M c r) n:=fun x r=>sumTo_congr fun c hc=>by rw [hT]; simp only [if_pos hc]; exact Rat.mul_comm _ _
 cases he:We n T n with
 | none =>
   obtain ⟨δ,hk,c,hc,h0⟩:=run_none (Nat.le_refl n) he
   exact absurd (ker_det hc h0 fun r hr=>by rw [← hsum]; exact hk r hr) h
 | some S =>
   have hr:restT n n S=false:=by
    rw [restT,List.any_eq_false]
    intro i hi
    rw [List.mem_range] at hi
    simp; omega
   have hs:solveT n n T=some ((List.range n).map fun i=>S i n):=by
    rw [solveT,he,Option.bind_some,hr]; rfl
   obtain ⟨_,h2⟩:=solve_some hs
   have h3:=(h2 fun t=>((List.range n).map fun i=>S i n).getD t 0).2 fun t _=>rfl
   refine ⟨fun t=>((List.range n).map fun i=>S i n).getD t 0,fun r hr=>?_⟩
   have:=h3 r hr
   rw [hsum] at this
   rw [this,hT]
   simp only [Nat.lt_irrefl,if_false]
/-! ### A determinant of 0: the rows depend on each other -/
theorem sum_skp (g:Nat→Rat) {i:Nat} : ∀ {n:Nat},i≤n→sumTo g (n+1)=sumTo (fun r=>g (skp i r)) n+g i
 | 0,h=>by
   obtain rfl:i=0:=by omega
   simp only [sumTo]
 | n+1,h=>by
   rcases Nat.lt_or_ge n i with h1 | h1
   · obtain rfl:i=n+1:=by omega
     rw [sumTo]
     congr 1
     exact sumTo_congr fun r hr=>by rw [skp,if_pos hr]
   · rw [sumTo,sum_skp g h1,sumTo,show skp i n=n+1 by rw [skp,if_neg (by omega)]]
     grind
def lift (i:Nat) (u:Nat→Rat):Nat→Rat:=fun r=>if r=i then 0 else if r<i then u r else u (r-1)
theorem lift_skp (i r:Nat) (u:Nat→Rat):lift i u (skp i r)=u r:=by
 rw [lift,skp]
 by_cases h:r<i
 · rw [if_pos h,if_neg (by omega),if_pos h]
 · rw [if_neg h,if_neg (by omega),if_neg (by omega)]; rfl
theorem lift_at (i:Nat) (u:Nat→Rat):lift i u i=0:=if_pos rfl
theorem sum_lift {i n:Nat} (hi:i≤n) (u g:Nat→Rat):sumTo (fun r=>lift i u r*g r) (n+1)=sumTo (fun r=>u r*g (skp i r)) n:=by
 rw [sum_skp _ hi,lift_at,Rat.zero_mul,Rat.add_zero]
 exact sumTo_congr fun r _=>by rw [lift_skp]
theorem det_col {n:Nat} (M:Nat→Nat→Rat) (a:Nat→Rat):sumTo (fun i=>sgn i*det n (fun c r=>M (c+1) (skp i r))*a i) (n+1)=det (n+1) fun c=>if c=0 then a else M c:=by
 rw [det]
 refine sumTo_congr fun i _=>?_
 rw [if_pos rfl]
 have:det n (fun c r=>(if c+1=0 then a else M (c+1)) (skp i r))=det n (fun c r=>M (c+1) (skp i r)):=Xl _ fun c r _ _=>by rw [if_neg (by omega)]
 rw [this]; grind
theorem left_ker : ∀ (n:Nat) (M:Nat→Nat→Rat),det n M=0→∃ u:Nat→Rat,(∃ r,r<n∧u r≠0)∧∀ c,c<n→sumTo (fun r=>u r*M c r) n=0
 | 0,M,h=>by rw [det] at h; exact absurd h (by decide)
 | n+1,M,h=>by
   obtain ⟨C,hC⟩ : ∃ C:Nat→Rat,C=fun i=>det n (fun c r=>M (c+1) (skp i r)):=⟨_,rfl⟩
   have hv : ∀ c,c<n+1→sumTo (fun i=>sgn i*C i*M c i) (n+1)=0:=fun c hc=>by
    rw [hC,det_col M (M c)]
    by_cases h0:c=0
    · rw [h0,← h]
      exact Xl _ fun c' r _ _=>by
       by_cases h1:c' = 0
       · rw [if_pos h1,h1]
       · rw [if_neg h1]
    · obtain ⟨t,rfl⟩ : ∃ t,c=t+1:=⟨c-1,by omega⟩
      exact det_same (n+1) t _ hc fun r _=>by rw [if_pos rfl,if_neg (by omega)]
   by_cases hex : ∃ i,i<n+1∧C i≠0
   · obtain ⟨i,hi,h0⟩:=hex
     exact ⟨fun i=>sgn i*C i,⟨i,hi,fun hc=>by
      rcases Rat.mul_eq_zero.1 hc with h | h
      · exact sgn_ne i h
      · exact h0 h⟩,hv⟩
   · have hz : ∀ i,i<n+1→C i=0:=fun i hi=>Classical.byContradiction fun hc=>hex ⟨i,hi,hc⟩
     have hmk : ∀ i,i<n+1→∃ w:Nat→Rat,(∃ r,r<n+1∧w r≠0)∧w i=0∧∀ c,c<n→sumTo (fun r=>w r*M (c+1) r) (n+1)=0:=fun i hi=>by
      have h1:=hz i hi
      rw [hC] at h1
      obtain ⟨u,⟨r,hr,h2⟩,h3⟩:=left_ker n _ h1
      exact ⟨lift i u,⟨skp i r,skp_lt hr,by rw [lift_skp]; exact h2⟩,lift_at i u,fun c hc=>by rw [sum_lift (by omega)]; exact h3 c hc⟩
     obtain ⟨w,⟨r1,hr1,hw1⟩,_,hwc⟩:=hmk n (Nat.lt_succ_self n)
     obtain ⟨w',⟨r2,hr2,hw2⟩,hz1,hwc'⟩:=hmk r1 hr1
     obtain ⟨α,hα⟩ : ∃ α,α=sumTo (fun r=>w r*M 0 r) (n+1):=⟨_,rfl⟩
     obtain ⟨β,hβ⟩ : ∃ β,β=sumTo (fun r=>w' r*M 0 r) (n+1):=⟨_,rfl⟩
     have fin : ∀ z:Nat→Rat,sumTo (fun r=>z r*M 0 r) (n+1)=0→(∀ c,c<n→sumTo (fun r=>z r*M (c+1) r) (n+1)=0)→∀ c,c<n+1→sumTo (fun r=>z r*M c r) (n+1)=0:=fun z h0 h1 c hc=>by
      rcases Nat.eq_zero_or_pos c with rfl | h2
      · exact h0
      · obtain ⟨t,rfl⟩ : ∃ t,c=t+1:=⟨c-1,by omega⟩
        exact h1 t (by omega)
     by_cases hb:β=0
     · exact ⟨w',⟨r2,hr2,hw2⟩,fin w' (hβ▸hb) hwc'⟩
     · have hcomb : ∀ c,sumTo (fun r=>(β*w r-α*w' r)*M c r) (n+1)=β*sumTo (fun r=>w r*M c r) (n+1)+(-α)*sumTo (fun r=>w' r*M c r) (n+1):=fun c=>by
        rw [← Yb,← Yb,← Xm]
        exact sumTo_congr fun r _=>by grind
       refine ⟨fun r=>β*w r-α*w' r,⟨r1,hr1,?_⟩,fin _ ?_ fun c hc=>?_⟩
       · intro hc
         have:β*w r1=0:=by grind
         rcases Rat.mul_eq_zero.1 this with h | h
         · exact hb h
         · exact hw1 h
       · rw [hcomb,← hα,← hβ]; grind
       · rw [hcomb,hwc c hc,hwc' c hc]; grind
end Bq
namespace Bq
def cntN (p:Nat→Rat):Nat→Nat
 | 0=>0
 | k+1=>cntN p k+if p k=0 then 0 else 1
theorem cntN_lt {p q:Nat→Rat} {w:Nat} : ∀ n,(∀ v,v<n→q v≠0→p v≠0)→(w<n→q w=0∧p w≠0→cntN q n<cntN p n)∧cntN q n≤cntN p n
 | 0,_=>⟨fun h=>by omega,Nat.le_refl _⟩
 | n+1,h=>by
   obtain ⟨h1,h2⟩:=cntN_lt (w:=w) n fun v hv=>h v (by omega)
   have h3:=h n (by omega)
   simp only [cntN]
   refine ⟨fun hw hq=>?_,?_⟩
   · by_cases hwn:w=n
     · subst hwn
       rw [if_pos hq.1,if_neg hq.2]; omega
     · have:=h1 (by omega) hq
       by_cases h4:q n=0
       · rw [if_pos h4]; split <;> omega
       · rw [if_neg h4,if_neg (h3 h4)]; omega
   · by_cases h4:q n=0
     · rw [if_pos h4]; split <;> omega
     · rw [if_neg h4,if_neg (h3 h4)]; omega
theorem least_of (P:Nat→Prop) (r:Nat→Rat) : ∀ n,(∃ w,w<n∧P w)→∃ w,w<n∧P w∧∀ v,v<n→P v→r w≤r v
 | 0,⟨w,h,_⟩=>by omega
 | n+1,⟨w,h,hp⟩=>by
   by_cases hex : ∃ w,w<n∧P w
   · obtain ⟨u,h1,h2,h3⟩:=least_of P r n hex
     by_cases hn:P n∧r n<r u
     · refine ⟨n,by omega,hn.1,fun v hv hpv=>?_⟩
       by_cases hvn:v=n
       · subst hvn; exact Rat.le_refl
       · exact Rat.le_trans (Rat.le_of_lt hn.2) (h3 v (by omega) hpv)
     · refine ⟨u,by omega,h2,fun v hv hpv=>?_⟩
       by_cases hvn:v=n
       · subst hvn
         rw [← Rat.not_lt]
         exact fun hc=>hn ⟨hpv,hc⟩
       · exact h3 v (by omega) hpv
   · have hwn:w=n:=by
      rcases Nat.lt_or_ge w n with h1 | h1
      · exact absurd ⟨w,h1,hp⟩ hex
      · omega
     subst hwn
     refine ⟨w,by omega,hp,fun v hv hpv=>?_⟩
     by_cases hvn:v=w
     · subst hvn; exact Rat.le_refl
     · exact absurd ⟨v,by omega,hpv⟩ hex
def dot (a x:Nat→Rat) (n:Nat):Rat:=sumTo (fun i=>a i*x i) n
theorem dot_add (a x y:Nat→Rat) (s:Rat) (n:Nat):dot a (fun i=>x i+s*y i) n=dot a x n+s*dot a y n:=by
 rw [dot,dot,dot,← Yb,← Xm]
 exact sumTo_congr fun i _=>by grind
theorem dot_neg (a x:Nat→Rat) (n:Nat):dot a (fun i=>- x i) n = - dot a x n:=by
 have:dot a (fun i=>- x i) n=(-1)*dot a x n:=by
  rw [dot,dot,← Yb]
  exact sumTo_congr fun i _=>by grind
 rw [this]; grind
theorem vert {n m:Nat} (A:Nat→Nat→Rat) (b:Nat→Rat) (w:Nat→Rat) (hb : ∀ d:Nat→Rat,(∃ i,i<n∧d i≠0)→0≤dot w d n→∃ k,k<m∧0<dot (A k) d n) :
  ∀ (N:Nat) (x:Nat→Rat),cntN (fun k=>b k-dot (A k) x n) m≤N→(∀ k,k<m→dot (A k) x n≤b k) →
    ∃ v:Nat→Rat,(∀ k,k<m→dot (A k) v n≤b k)∧dot w x n≤dot w v n∧∀ d:Nat→Rat,(∀ k,k<m→dot (A k) v n=b k→dot (A k) d n=0)→∀ i,i<n→d i=0:=by
 intro N
 induction N with
 | zero =>
   intro x hc hx
   refine ⟨x,hx,Rat.le_refl,fun d hd i hi=>Classical.byContradiction fun h0=>?_⟩
   have key : ∀ d' : Nat→Rat,d' i≠0→0≤dot w d' n→(∀ k,k<m→dot (A k) x n=b k→dot (A k) d' n=0)→False:=fun d' h1 h2 h3=>by
    obtain ⟨k,hk,hp⟩:=hb d' ⟨i,hi,h1⟩ h2
    by_cases ht:dot (A k) x n=b k
    · have:=h3 k hk ht; grind
    · have h4:=(cntN_lt (p:=fun k=>b k-dot (A k) x n) (q:=fun _=>0) (w:=k) m fun v _ h=>absurd rfl h).1 hk ⟨rfl,fun h=>ht (by grind)⟩
      omega
   rcases Rat.le_total (a:=0) (b:=dot w d n) with h | h
   · exact key d h0 h hd
   · refine key (fun i=>- d i) (fun hc=>h0 (by grind)) (by rw [dot_neg]; grind) fun k hk ht=>by rw [dot_neg,hd k hk ht]; grind
 | succ N ih =>
   intro x hc hx
   by_cases hall : ∀ d:Nat→Rat,(∀ k,k<m→dot (A k) x n=b k→dot (A k) d n=0)→∀ i,i<n→d i=0
   · exact ⟨x,hx,Rat.le_refl,hall⟩
   have hex : ∃ d:Nat→Rat,(∀ k,k<m→dot (A k) x n=b k→dot (A k) d n=0)∧(∃ i,i<n∧d i≠0)∧0≤dot w d n:=by
    refine Classical.byContradiction fun hno=>hall fun d hd i hi=>Classical.byContradiction fun h0=>?_
    rcases Rat.le_total (a:=0) (b:=dot w d n) with h | h
    · exact hno ⟨d,hd,⟨i,hi,h0⟩,h⟩
    · exact hno ⟨fun i=>- d i,fun k hk ht=>by rw [dot_neg,hd k hk ht]; grind,⟨i,hi,fun hc=>h0 (by grind)⟩,by rw [dot_neg]; grind⟩
   obtain ⟨d,hd,hne,hw⟩:=hex
   obtain ⟨k0,hk0,hp0⟩:=hb d hne hw
   obtain ⟨k,hk,hpk,hmin⟩:=least_of (fun k=>0<dot (A k) d n) (fun k=>(b k-dot (A k) x n) / dot (A k) d n) m ⟨k0,hk0,hp0⟩
   obtain ⟨t,ht⟩ : ∃ t,t=(b k-dot (A k) x n) / dot (A k) d n:=⟨_,rfl⟩
   have hne0 : ∀ k,0<dot (A k) d n→dot (A k) d n≠0:=fun k h hc=>by rw [hc] at h; exact absurd h (by decide)
   have hdiv : ∀ k,0<dot (A k) d n→(b k-dot (A k) x n) / dot (A k) d n*dot (A k) d n=b k-dot (A k) x n:=fun k h=>by
    rw [Rat.div_def,Rat.mul_assoc,Rat.inv_mul_cancel _ (hne0 k h),Rat.mul_one]
   have htk:t*dot (A k) d n=b k-dot (A k) x n:=by rw [ht]; exact hdiv k hpk
   have htp : ∀ k',k' < m→0<dot (A k') d n→t*dot (A k') d n≤b k' - dot (A k') x n:=fun k' h1 h2=>by
    rw [← hdiv k' h2]
    exact Rat.mul_le_mul_of_nonneg_right (by rw [ht]; exact hmin k' h1 h2) (Rat.le_of_lt h2)
   have ht0:0≤t:=by
    rw [ht,Rat.div_def]
    refine Rat.mul_nonneg ?_ (Rat.le_of_lt (Rat.inv_pos.2 hpk))
    have:=hx k hk; grind
   have hx' : ∀ k',k' < m→dot (A k') (fun i=>x i+t*d i) n≤b k':=fun k' h1=>by
    rw [dot_add]
    have h2:=hx k' h1
    rcases Rat.le_total (a:=dot (A k') d n) (b:=0) with h | h
    · have:t*dot (A k') d n≤0:=by
       have:=Rat.mul_nonneg ht0 (show 0≤- dot (A k') d n by grind)
       grind
      grind
    · by_cases h3:dot (A k') d n=0
      · rw [h3]; grind
      · have:=htp k' h1 (by grind); grind
   have hnt:dot (A k) x n≠b k:=fun h=>by have:=hd k hk h; exact hne0 k hpk this
   obtain ⟨v,v1,v2,v3⟩:=ih (fun i=>x i+t*d i) (by
    have h4:=(cntN_lt (p:=fun k=>b k-dot (A k) x n) (q:=fun k'=>b k' - dot (A k') (fun i=>x i+t*d i) n) (w:=k) m fun v hv h h'=>h (by
     have h5:dot (A v) x n=b v:=by grind
     simp only [dot_add,hd v hv h5]; grind)).1 hk ⟨by simp only [dot_add,htk]; grind,fun h=>hnt (by grind)⟩
    omega) hx'
   exact ⟨v,v1,by rw [dot_add] at v2; have:=Rat.mul_nonneg ht0 hw; grind,v3⟩
/-! ### Rows that do not depend on each other -/
/-- A row of the list, by its place. -/
def Wq (A:Nat→Nat→Rat) (B:List Nat) (r:Nat):Nat→Rat:=A (B.getD r 0)
def Ind (A:Nat→Nat→Rat) (n:Nat) (B:List Nat):Prop:=∀ u:Nat→Rat,(∀ i,i<n→sumTo (fun r=>u r*Wq A B r i) B.length=0)→∀ r,r<B.length→u r=0
def Span (A:Nat→Nat→Rat) (n:Nat) (B:List Nat) (k:Nat):Prop:=∃ u:Nat→Rat,∀ i,i<n→sumTo (fun r=>u r*Wq A B r i) B.length=A k i
theorem rowOf_app {A:Nat→Nat→Rat} {B:List Nat} {k r:Nat} (h:r<B.length):Wq A (B++[k]) r=Wq A B r:=by
 rw [Wq,Wq,List.getD,List.getElem?_append_left h,List.getD]
theorem rowOf_end (A:Nat→Nat→Rat) (B:List Nat) (k:Nat):Wq A (B++[k]) B.length=A k:=by
 rw [Wq,List.getD,List.getElem?_append_right (Nat.le_refl _)]; simp
theorem sum_snoc (A:Nat→Nat→Rat) (B:List Nat) (k i:Nat) (u:Nat→Rat):sumTo (fun r=>u r*Wq A (B++[k]) r i) (B++[k]).length=sumTo (fun r=>u r*Wq A B r i) B.length+u B.length*A k i:=by
 rw [List.length_append,List.length_singleton,sumTo,rowOf_end]
 congr 1
 exact sumTo_congr fun r hr=>by rw [rowOf_app hr]
theorem sum_one {n t:Nat} (g:Nat→Rat) (h:t<n):sumTo (fun r=>(if r=t then 1 else 0)*g r) n=g t:=by
 have:=sumTo_pick (n:=n) (t:=t) g h
 rw [← this]
 exact sumTo_congr fun r _=>by split <;> grind
theorem basis (A:Nat→Nat→Rat) (n:Nat) : ∀ L:List Nat,∃ B:List Nat,B.Sublist L∧Ind A n B∧∀ k∈L,Span A n B k:=by
 suffices h : ∀ L:List Nat,∃ B:List Nat,B.Sublist L.reverse∧Ind A n B∧∀ k∈L.reverse,Span A n B k from fun L=>by
  have:=h L.reverse
  rwa [List.reverse_reverse] at this
 intro L
 induction L with
 | nil=>exact ⟨[],.slnil,fun u _ r hr=>absurd hr (Nat.not_lt_zero r),fun k hk=>by cases hk⟩
 | cons k L ih =>
   obtain ⟨B,h1,h2,h3⟩:=ih
   rw [List.reverse_cons]
   by_cases hs:Span A n B k
   · refine ⟨B,h1.trans (List.sublist_append_left _ _),h2,fun k' hk=>?_⟩
     rcases List.mem_append.1 hk with hk | hk
     · exact h3 k' hk
     · rw [List.mem_singleton.1 hk]; exact hs
   · refine ⟨B++[k],h1.append (List.Sublist.refl _),fun u hu r hr=>?_,fun k' hk=>?_⟩
     · have hk0:u B.length=0:=Classical.byContradiction fun hc=>hs ⟨fun r=>- u r / u B.length,fun i hi=>by
        have h4:=hu i hi
        rw [sum_snoc] at h4
        have h5:sumTo (fun r=>- u r / u B.length*Wq A B r i) B.length=(- 1 / u B.length)*sumTo (fun r=>u r*Wq A B r i) B.length:=by
         rw [← Yb]
         exact sumTo_congr fun r _=>by rw [Rat.div_def,Rat.div_def]; grind
        have h6:sumTo (fun r=>u r*Wq A B r i) B.length = - (u B.length*A k i):=by grind
        rw [h5,h6,Rat.div_def]
        have h7:=Rat.mul_inv_cancel _ hc
        grind⟩
       rw [List.length_append,List.length_singleton] at hr
       rcases Nat.lt_or_ge r B.length with h4 | h4
       · refine h2 u (fun i hi=>?_) r h4
         have:=hu i hi
         rw [sum_snoc,hk0] at this; grind
       · obtain rfl:r=B.length:=by omega
         exact hk0
     · rcases List.mem_append.1 hk with hk | hk
       · obtain ⟨u,hu⟩:=h3 k' hk
         refine ⟨fun r=>if r<B.length then u r else 0,fun i hi=>?_⟩
         rw [sum_snoc,if_neg (Nat.lt_irrefl _),← hu i hi]
         have:sumTo (fun r=>(if r<B.length then u r else 0)*Wq A B r i) B.length=sumTo (fun r=>u r*Wq A B r i) B.length:=sumTo_congr fun r hr=>by rw [if_pos hr]
         rw [this]; grind
       · refine ⟨fun r=>if r=B.length then 1 else 0,fun i hi=>?_⟩
         rw [List.mem_singleton.1 hk,sum_snoc,if_pos rfl]
         have:sumTo (fun r=>(if r=B.length then (1:Rat) else 0)*Wq A B r i) B.length=0:=Yk fun r hr=>by rw [if_neg (by omega)]; grind
         rw [this]; grind
theorem wide_ker {m k:Nat} (T:Nat→Nat→Rat) (h:m<k) : ∃ d:Nat→Rat,(∃ c,c<k∧d c≠0)∧∀ i,i<m→sumTo (fun c=>T i c*d c) k=0:=by
 obtain ⟨S,hS⟩ : ∃ S:SysT,S=fun i c=>if c<k then T i c else 0:=⟨_,rfl⟩
 have hsum : ∀ (d:Nat→Rat) i,sumTo (fun c=>S i c*d c) k=sumTo (fun c=>T i c*d c) k:=fun d i=>sumTo_congr fun c hc=>by rw [hS]; simp only [if_pos hc]
 rcases solve_none (solve_wide (T:=S) h) with h1 | ⟨d,h1,h2⟩
 · refine absurd (fun i _=>?_) (h1 fun _=>0)
   rw [hS]
   simp only [Nat.lt_irrefl,if_false]
   exact Yk fun c _=>Rat.mul_zero _
 · exact ⟨d,h2,fun i hi=>by rw [← hsum]; exact h1 i hi⟩
theorem pick_rows {A:Nat→Nat→Rat} {n:Nat} {L:List Nat} (h : ∀ d:Nat→Rat,(∀ k∈L,dot (A k) d n=0)→∀ i,i<n→d i=0) :
  ∃ B:List Nat,B.Sublist L∧B.length=n∧det n (fun c r=>Wq A B r c)≠0:=by
 obtain ⟨B,h1,h2,h3⟩:=basis A n L
 have hle:n≤B.length:=Classical.byContradiction fun hc=>by
  obtain ⟨d,⟨c,hc1,hc2⟩,hd⟩:=wide_ker (fun r i=>Wq A B r i) (show B.length<n by omega)
  refine hc2 (h d (fun k hk=>?_) c hc1)
  obtain ⟨u,hu⟩:=h3 k hk
  have e:dot (A k) d n=sumTo (fun i=>sumTo (fun r=>u r*Wq A B r i*d i) B.length) n:=sumTo_congr fun i hi=>by
   rw [← hu i hi,Rat.mul_comm,← Yb]
   exact sumTo_congr fun r _=>by grind
  rw [e,Wd]
  exact Yk fun r hr=>by
   have e2:sumTo (fun i=>u r*Wq A B r i*d i) n=u r*sumTo (fun i=>Wq A B r i*d i) n:=by
    rw [← Yb]; exact sumTo_congr fun i _=>by grind
   rw [e2,hd r hr]; grind
 have hge:B.length≤n:=Classical.byContradiction fun hc=>by
  obtain ⟨u,⟨r,hr,hu⟩,hd⟩:=wide_ker (fun i r=>Wq A B r i) (show n<B.length by omega)
  exact hu (h2 u (fun i hi=>by rw [← hd i hi]; exact sumTo_congr fun r _=>Rat.mul_comm _ _) r hr)
 have hl:B.length=n:=by omega
 refine ⟨B,h1,hl,fun hdet=>?_⟩
 obtain ⟨u,⟨r,hr,hu⟩,hc⟩:=left_ker n _ hdet
 exact hu (h2 u (fun i hi=>by rw [hl]; exact hc i hi) r (by omega))
end Bq
