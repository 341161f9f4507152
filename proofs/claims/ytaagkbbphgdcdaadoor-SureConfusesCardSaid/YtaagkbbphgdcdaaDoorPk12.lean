/-
  sure: Confusions and Back.
  sure: Back, and the law SureBack.
  sure: the reference's Confusions, and its Back.
  sure: the law SureConfuses.
-/
import Derived.Test.YtaagkbbphgdcdaaDoorPk11
import Derived.Test.YtaagkbbphgdcdaaDoorPk10
set_option linter.all false
namespace Go.Proofs.Tryd.Am
open Go.Am Sr
set_option maxRecDepth 100000
set_option maxHeartbeats 4000000
theorem minT_le {xs:List Int} {z:Int} : ∀ k,1≤k→(z≤minT xs k↔∀ i,i<k→z≤xs.getD i 0)
 | 0,h=>absurd h (by decide)
 | 1,_=>by
   rw [minT_one]
   exact ⟨fun h i hi=>by rw [show i=0 by omega]; exact h,fun h=>h 0 (by decide)⟩
 | k+2,_=>by
   have ih:=minT_le (xs:=xs) (z:=z) (k+1) (by omega)
   have e:minT xs (k+2)=if xs.getD (k+1) 0<minT xs (k+1) then xs.getD (k+1) 0 else minT xs (k+1):=rfl
   rw [e]
   constructor
   · intro h i hi
     split at h
     · next hlt =>
       by_cases hik:i=k+1
       · rw [hik]; exact h
       · exact ih.1 (by omega) i (by omega)
     · next hlt =>
       by_cases hik:i=k+1
       · rw [hik]; omega
       · exact ih.1 h i (by omega)
   · intro h
     have h1:=ih.2 fun i hi=>h i (by omega)
     have h2:=h (k+1) (by omega)
     split <;> omega
def maxT (xs:List Int):Nat→Int
 | 0=>0
 | 1=>xs.getD 0 0
 | k+2=>if xs.getD (k+1) 0 > maxT xs (k+1) then xs.getD (k+1) 0 else maxT xs (k+1)
theorem maxT_one (xs:List Int):maxT xs 1=xs.getD 0 0:=rfl
theorem maxT_succ {xs:List Int} {k:Nat} (h:1≤k):maxT xs (k+1)=if xs.getD k 0 > maxT xs k then xs.getD k 0 else maxT xs k:=by
 obtain ⟨j,rfl⟩ : ∃ j,k=j+1:=⟨k-1,by omega⟩
 rfl
theorem maxT_le {xs:List Int} {z:Int} : ∀ k,1≤k→(maxT xs k≤z↔∀ i,i<k→xs.getD i 0≤z)
 | 0,h=>absurd h (by decide)
 | 1,_=>by
   rw [maxT_one]
   exact ⟨fun h i hi=>by rw [show i=0 by omega]; exact h,fun h=>h 0 (by decide)⟩
 | k+2,_=>by
   have ih:=maxT_le (xs:=xs) (z:=z) (k+1) (by omega)
   have e:maxT xs (k+2)=if xs.getD (k+1) 0 > maxT xs (k+1) then xs.getD (k+1) 0 else maxT xs (k+1):=rfl
   rw [e]
   constructor
   · intro h i hi
     split at h
     · next hlt =>
       by_cases hik:i=k+1
       · rw [hik]; exact h
       · exact ih.1 (by omega) i (by omega)
     · next hlt =>
       by_cases hik:i=k+1
       · rw [hik]; omega
       · exact ih.1 h i (by omega)
   · intro h
     have h1:=ih.2 fun i hi=>h i (by omega)
     have h2:=h (k+1) (by omega)
     split <;> omega
theorem s93_callW [Tabs Tryd.prog] {args:List Value} {h:Zh} {Q:Value→Zh→Prop} (hsz:args.length≤25) (hk:AWS Tryd.prog 25 s93 (Zu Tryd.prog [.tmp 2] Q) (Zt 0 args) h):ACall Tryd.prog 93 args h Q :=
 Xd Tryd.func93 rfl (enters_of Tryd.func93 (by kernel_rfl) rfl) rfl rfl (by decide) s93_strip s93_ok hsz hk
theorem max_call [Tabs prog] {h:Zh} {v:Value} {xs:List Int} (hv:IntSl h v xs) (h0:xs≠[]) (hl:xs.length<9223372036854775807):Wo prog 93 [v] h (Zd (maxT xs xs.length)):=by
 have hpos:=List.length_pos_iff.2 h0
 refine s93_callW (by simp) ?_
 simp only [s93]
 refine Ze fun N1 hN1=>?_
 simp (maxSteps:=2000000) only [↓Za,↓Zb,↓Zc,vup,cond_false,aop,Zg,Zt,ev,sput,Zf,Nat.reduceBEq]
 refine hN1 [(0,v),(2,.int .i64 0)] _ _ ?_ (by simp (maxSteps:=2000000) only [vup,cond_true,cond_false,Nat.reduceBEq])
 clear hN1
 try clear N1
 have hlt : ¬ ((xs.length:Int)<1):=by omega
 refine Zk fun M hM=>?_
 refine Ze fun N2 hN2=>?_
 simp (maxSteps:=2000000) only [↓Za,↓Zb,↓Zc,vup,List.map_cons,List.map_nil,cond_true,cond_false,aop,Zg,ev,sput,Zf,Zv,Zx,Zi,Nat.reduceBEq,tyf,hv.len,hlt]
 refine hN2 [(0,v),(2,.int .i64 0),(7,.bool false)] _ _ ?_ (by simp (maxSteps:=2000000) only [vup,cond_true,cond_false,Nat.reduceBEq])
 clear hN2
 try clear N2
 refine Yg rfl ?_
 refine Zj ?_
 simp (maxSteps:=2000000) only [↓Zn,Zg]
 refine hM [(0,v),(2,.int .i64 0)] _ _ ?_ (by simp (maxSteps:=2000000) only [vup,cond_true,cond_false,Nat.reduceBEq])
 clear hM
 try clear M
 have hi0 : ∀ K:Value→Prop,Yy prog 22 v (.int .i64 0) K=K (Wb v 1 0):=fun K=>hv.idx (k:=.i64) (i:=0) Xt Xe hpos K
 refine Ze fun N3 hN3=>?_
 simp (maxSteps:=2000000) only [↓Za,↓Zb,↓Zc,vup,cond_true,cond_false,aop,Zg,ev,sput,Zf,Nat.reduceBEq,hi0,hv.load Xf hpos,← maxT_one]
 refine hN3 [(0,v),(2,.int .i64 0),(3,Zd (maxT xs 1))] _ _ ?_ (by simp (maxSteps:=2000000) only [vup,cond_true,cond_false,Nat.reduceBEq])
 clear hN3
 try clear N3
 refine Zk fun Z hZ=>?_
 refine Ze fun N4 hN4=>?_
 simp (maxSteps:=2000000) only [↓Za,↓Zb,↓Zc,vup,cond_false,aop,Zg,ev,sput,Zf,Nat.reduceBEq]
 refine hN4 [(0,v),(2,.int .i64 0),(3,Zd (maxT xs 1)),(4,.int .i64 1)] _ _ ?_ (by simp (maxSteps:=2000000) only [vup,cond_true,cond_false,Nat.reduceBEq])
 clear hN4
 try clear N4
 refine Zo ?_
 refine Zm fun Q hQ=>?_
 refine Yl (γ:=Nat) (fun k=>1≤k∧k≤xs.length) (fun k=>([(0,v),(2,.int .i64 0),(3,Zd (maxT xs k)),(4,Zd (k:Nat))],h)) (fun k=>xs.length-k) 1 ⟨Nat.le_refl _,hpos⟩ (by simp (maxSteps:=2000000) only [vup,cond_true,cond_false,Nat.reduceBEq,Int.natCast_one]) rfl ?_
 rintro k ⟨hk1,hk⟩
 refine Zm fun Q2 hQ2=>?_
 simp only [l93_0]
 by_cases hkin:(k:Int)<xs.length
 · have hk' : k<xs.length:=by omega
   refine Zk fun A hA=>?_
   refine Ze fun N5 hN5=>?_
   simp (maxSteps:=2000000) only [↓Za,↓Zb,↓Zc,vup,List.map_cons,List.map_nil,cond_true,cond_false,aop,Zg,ev,sput,Zf,Zv,Zx,Zi,Nat.reduceBEq,tyf,hv.len,hkin]
   refine hN5 [(0,v),(2,.int .i64 0),(3,Zd (maxT xs k)),(4,Zd (k:Nat)),(15,.bool true)] _ _ ?_ (by simp (maxSteps:=2000000) only [vup,cond_true,cond_false,Nat.reduceBEq])
   clear hN5
   try clear N5
   refine Yx rfl ?_
   refine Zj ?_
   simp (maxSteps:=2000000) only [↓Zn,Zg]
   refine hA [(0,v),(2,.int .i64 0),(3,Zd (maxT xs k)),(4,Zd (k:Nat))] _ _ ?_ (by simp (maxSteps:=2000000) only [vup,cond_true,cond_false,Nat.reduceBEq])
   clear hA
   try clear A
   refine Zk fun B hB=>?_
   refine Zo ?_
   refine Zj ?_
   simp (maxSteps:=2000000) only [↓Za,↓Zb,↓Zc,vup,List.map_cons,List.map_nil,cond_true,cond_false,aop,Zg,Zl,ev,sput,Zf,Zi,Nat.reduceBEq,hv.idx Xt Xe hk',hv.load Xf hk',mmK,if_true,← maxT_succ hk1]
   refine hB [(0,v),(2,.int .i64 0),(3,Zd (maxT xs (k+1))),(4,Zd (k:Nat))] _ _ ?_ (by simp (maxSteps:=2000000) only [vup,cond_true,cond_false,Nat.reduceBEq])
   clear hB
   try clear B
   refine Zj ?_
   simp (maxSteps:=2000000) only [↓Za,↓Zb,↓Zc,vup,cond_true,cond_false,aop,ev,sput,Zf,Zv,Zx,Nat.reduceBEq,Wx (show k<9223372036854775807 by omega)]
   exact hQ2 _ _ _ ⟨k+1,⟨by omega,hk'⟩,by omega,by simp (maxSteps:=2000000) only [vup,cond_true,cond_false,Nat.reduceBEq],rfl⟩
 obtain rfl:k=xs.length:=by omega
 refine Zk fun A hA=>?_
 refine Ze fun N6 hN6=>?_
 simp (maxSteps:=2000000) only [↓Za,↓Zb,↓Zc,vup,List.map_cons,List.map_nil,cond_true,cond_false,aop,Zg,ev,sput,Zf,Zv,Zx,Zi,Nat.reduceBEq,tyf,hv.len,hkin]
 refine hN6 [(0,v),(2,.int .i64 0),(3,Zd (maxT xs xs.length)),(4,Zd xs.length),(15,.bool false)] _ _ ?_ (by simp (maxSteps:=2000000) only [vup,cond_true,cond_false,Nat.reduceBEq])
 clear hN6
 try clear N6
 refine Yg rfl ?_
 refine Zj ?_
 simp (maxSteps:=2000000) only [↓Yi,Zg]
 refine hQ2 _ _ _ (hQ _ _ _ ?_)
 simp (maxSteps:=2000000) only [Zg,Zl,Zu,if_true]
 refine hZ [(0,v),(2,.int .i64 0),(3,Zd (maxT xs xs.length))] _ _ ?_ (by simp (maxSteps:=2000000) only [vup,cond_true,cond_false,Nat.reduceBEq])
 clear hZ
 try clear Z
 refine Zj ?_
 simp (maxSteps:=2000000) only [↓Za,↓Zp,↓Ya,↓Zb,↓Zc,vup,cond_true,cond_false,aop,Zg,ev,sput,Zf,Nat.reduceBEq,Zu,Xu,tup]
theorem s70_callW [Tabs Tryd.prog] {args:List Value} {h:Zh} {Q:Value→Zh→Prop} (hsz:args.length≤21) (hk:AWS Tryd.prog 21 s70 (Zu Tryd.prog [.tmp 2] Q) (Zt 0 args) h):ACall Tryd.prog 70 args h Q :=
 Xd Tryd.func70 rfl (enters_of Tryd.func70 (by kernel_rfl) rfl) rfl rfl (by decide) s70_strip s70_ok hsz hk
theorem ischan_call [Tabs prog] {h:Zh} {v:Value} {xs:List Int} (hv:IntSl h v xs) (hl:xs.length<9223372036854775807):Wo prog 70 [v] h (.bool (chB xs)):=by
 refine s70_callW (by simp) ?_
 simp only [s70]
 refine Ze fun N7 hN7=>?_
 simp (maxSteps:=2000000) only [↓Za,↓Zb,↓Zc,vup,cond_false,aop,Zg,Zt,ev,sput,Zf,Nat.reduceBEq]
 refine hN7 [(0,v),(2,.bool false)] _ _ ?_ (by simp (maxSteps:=2000000) only [vup,cond_true,cond_false,Nat.reduceBEq])
 clear hN7
 try clear N7
 refine Zj ?_
 by_cases h1:1≤(xs.length:Int)
 · by_cases h6:(xs.length:Int)≤6
   · have hne:xs≠[]:=fun hc=>by rw [hc] at h1; simp at h1
     refine aw_cut fun N hN=>?_
     simp (maxSteps:=2000000) only [↓Za,↓Zc,↓vdn,vup,List.map_cons,List.map_nil,cond_true,cond_false,aop,ev,sput,Zf,Zv,Zx,Zi,Nat.reduceBEq,tyf,hv.len,h1,h6,Yz,List.nil_append,List.append_nil]
     refine (min_call hv hne hl).mono ?_
     rintro _ h ⟨rfl,rfl⟩
     have e1:1≤minT xs xs.length↔∀ i,i<xs.length→1≤xs.getD i 0:=minT_le _ (by omega)
     by_cases hm:1≤minT xs xs.length
     · simp (maxSteps:=2000000) only [↓Zb,↓Zc,↓vdn,vup,List.map_cons,List.map_nil,cond_true,cond_false,aop,Zg,ev,sput,Zf,Zv,Zx,Nat.reduceBEq,tyf,hm,Yz,List.nil_append,List.append_nil]
       refine (max_call hv hne hl).mono ?_
       rintro _ h ⟨rfl,rfl⟩
       have e2:maxT xs xs.length≤255↔∀ i,i<xs.length→xs.getD i 0≤255:=maxT_le _ (by omega)
       have e:decide (maxT xs xs.length≤255)=chB xs:=by
        rw [Bool.eq_iff_iff,decide_eq_true_eq,Vl,e2]
        exact ⟨fun h=>⟨by omega,by omega,fun i hi=>⟨e1.1 hm i hi,h i hi⟩⟩,fun h i hi=>(h.2.2 i hi).2⟩
       simp (maxSteps:=2000000) only [vup,e]
       refine hN _ _ ?_
       simp (maxSteps:=2000000) only [↓Ya,vup,cond_true,cond_false,Nat.reduceBEq,Zu,Xu,tup]
     · have e:chB xs=false:=by
        rw [← Bool.not_eq_true,Vl]
        exact fun h=>hm (e1.2 fun i hi=>(h.2.2 i hi).1)
       simp (maxSteps:=2000000) only [↓Zb,↓Zc,↓vdn,vup,cond_true,cond_false,aop,Zg,ev,sput,Zf,Nat.reduceBEq,hm]
       refine hN _ _ ?_
       simp (maxSteps:=2000000) only [↓Ya,vup,cond_true,cond_false,Nat.reduceBEq,Zu,Xu,tup]
       rw [e]
   · have e:chB xs=false:=by
      rw [← Bool.not_eq_true,Vl]
      exact fun h=>h6 (by have:=h.2.1; omega)
     simp (maxSteps:=2000000) only [↓Za,↓Zp,↓Ya,↓Zb,↓Zc,↓vdn,vup,List.map_cons,List.map_nil,cond_true,cond_false,aop,Zg,ev,sput,Zf,Zv,Zx,Zi,Nat.reduceBEq,Zu,Xu,tup,tyf,hv.len,h1,h6]
     rw [e]
 · have e:chB xs=false:=by
    rw [← Bool.not_eq_true,Vl]
    exact fun h=>h1 (by have:=h.1; omega)
   simp (maxSteps:=2000000) only [↓Za,↓Zp,↓Ya,↓Zb,↓Zc,↓vdn,vup,List.map_cons,List.map_nil,cond_true,cond_false,aop,Zg,ev,sput,Zf,Zv,Zx,Zi,Nat.reduceBEq,Zu,Xu,tup,tyf,hv.len,h1]
   rw [e]
theorem s46_callW [Tabs Tryd.prog] {args:List Value} {h:Zh} {Q:Value→Zh→Prop} (hsz:args.length≤26) (hk:AWS Tryd.prog 26 s46 (Zu Tryd.prog [.tmp 2] Q) (Zt 0 args) h):ACall Tryd.prog 46 args h Q :=
 Xd Tryd.func46 rfl (enters_of Tryd.func46 (by kernel_rfl) rfl) rfl rfl (by decide) s46_strip s46_ok hsz hk
theorem rchan_call [Tabs prog] {h:Zh} {v:Value} {xs:List Int} (hv:IntSl h v xs) (hl:xs.length<9223372036854775808):Wo prog 46 [v] h (.bool (chB xs)):=by
 refine s46_callW (by simp) ?_
 simp only [s46]
 refine Ze fun N8 hN8=>?_
 simp (maxSteps:=2000000) only [↓Za,↓Zb,↓Zc,vup,cond_false,aop,Zg,Zt,ev,sput,Zf,Nat.reduceBEq]
 refine hN8 [(0,v),(2,.bool false)] _ _ ?_ (by simp (maxSteps:=2000000) only [vup,cond_true,cond_false,Nat.reduceBEq])
 clear hN8
 try clear N8
 refine Zk fun Z hZ=>?_
 refine Ze fun N9 hN9=>?_
 simp (maxSteps:=2000000) only [↓Za,↓Zb,↓Zc,vup,List.map_cons,List.map_nil,cond_true,cond_false,aop,Zg,ev,sput,Zf,Zi,Nat.reduceBEq,tyf,hv.len]
 refine hN9 [(0,v),(2,.bool false),(5,v),(6,Zd xs.length),(7,.int .i64 0)] _ _ ?_ (by simp (maxSteps:=2000000) only [vup,cond_true,cond_false,Nat.reduceBEq])
 clear hN9
 try clear N9
 refine Zo ?_
 refine Zm fun Q hQ=>?_
 refine Yl (γ:=Nat) (fun k=>k≤xs.length∧∀ i,i<k→1≤xs.getD i 0∧xs.getD i 0≤255) (fun k=>([(0,v),(2,.bool false),(5,v),(6,Zd xs.length),(7,Zd (k:Nat))],h)) (fun k=>xs.length-k) 0 ⟨Nat.zero_le _,fun i hi=>absurd hi (Nat.not_lt_zero i)⟩ (by simp (maxSteps:=2000000) only [vup,cond_true,cond_false,Nat.reduceBEq,Int.natCast_zero]) rfl ?_
 rintro k ⟨hk,hall⟩
 refine Zm fun Q2 hQ2=>?_
 simp only [l46_0]
 by_cases hkin:(k:Int)<xs.length
 · have hk' : k<xs.length:=by omega
   have no : ¬ (1≤xs.getD k 0∧xs.getD k 0≤255)→chB xs=false:=fun h=>by
    rw [← Bool.not_eq_true,Vl]
    exact fun hc=>h (hc.2.2 k hk')
   refine Ze fun N10 hN10=>?_
   simp (maxSteps:=2000000) only [↓Za,↓Zb,↓Zc,vup,cond_true,cond_false,aop,Zg,ev,sput,Zf,Zv,Zx,Nat.reduceBEq,hkin]
   refine hN10 [(0,v),(2,.bool false),(5,v),(6,Zd xs.length),(7,Zd (k:Nat)),(8,.bool true)] _ _ ?_ (by simp (maxSteps:=2000000) only [vup,cond_true,cond_false,Nat.reduceBEq])
   clear hN10
   try clear N10
   refine Ze fun N11 hN11=>?_
   simp (maxSteps:=2000000) only [↓Zn,↓vdn,vup,cond_true,cond_false,Zg,ev,Nat.reduceBEq]
   refine hN11 [(0,v),(2,.bool false),(5,v),(6,Zd xs.length),(7,Zd (k:Nat))] _ _ ?_ (by simp (maxSteps:=2000000) only [vup,cond_true,cond_false,Nat.reduceBEq])
   clear hN11
   try clear N11
   refine Zk fun B hB=>?_
   refine Zo ?_
   refine Ze fun N12 hN12=>?_
   simp (maxSteps:=2000000) only [↓Za,↓Zb,↓Zc,vup,cond_true,cond_false,aop,Zg,ev,sput,Zf,Nat.reduceBEq,hv.idx Xt Xe hk',hv.load Xf hk']
   refine hN12 [(0,v),(2,.bool false),(4,Zd (xs.getD k 0)),(5,v),(6,Zd xs.length),(7,Zd (k:Nat))] _ _ ?_ (by simp (maxSteps:=2000000) only [vup,cond_true,cond_false,Nat.reduceBEq])
   clear hN12
   try clear N12
   refine Zj ?_
   by_cases h1:xs.getD k 0<1
   · simp (maxSteps:=2000000) only [↓Za,↓Zp,↓Ya,↓Zb,↓Zc,↓vdn,vup,cond_true,cond_false,aop,Zg,Zl,ev,sput,Zf,Zv,Zx,Nat.reduceBEq,h1]
     refine hQ2 _ _ _ (hQ _ _ _ ?_)
     simp (maxSteps:=2000000) only [vup,cond_true,cond_false,Zg,Zl,Nat.reduceBEq,Zu,Xu,tup,no (by omega)]
   · by_cases h2:255<xs.getD k 0
     · simp (maxSteps:=2000000) only [↓Za,↓Zp,↓Ya,↓Zb,↓Zc,↓vdn,vup,cond_true,cond_false,aop,Zg,Zl,ev,sput,Zf,Zv,Zx,Nat.reduceBEq,h1,h2]
       refine hQ2 _ _ _ (hQ _ _ _ ?_)
       simp (maxSteps:=2000000) only [vup,cond_true,cond_false,Zg,Zl,Nat.reduceBEq,Zu,Xu,tup,no (by omega)]
     · simp (maxSteps:=2000000) only [↓Za,↓Zn,↓Zp,↓Zb,↓Zc,↓vdn,vup,cond_true,cond_false,aop,Zg,Zl,ev,sput,Zf,Zv,Zx,Nat.reduceBEq,h1,h2]
       refine hB [(0,v),(2,.bool false),(5,v),(6,Zd xs.length),(7,Zd (k:Nat))] _ _ ?_ (by simp (maxSteps:=2000000) only [vup,cond_true,cond_false,Nat.reduceBEq])
       clear hB
       try clear B
       refine Zj ?_
       simp (maxSteps:=2000000) only [↓Za,↓Zb,↓Zc,vup,cond_true,cond_false,aop,ev,sput,Zf,Zv,Zx,Nat.reduceBEq,Wx (show k<9223372036854775807 by omega)]
       refine hQ2 _ _ _ ⟨k+1,⟨hk',fun i hi=>?_⟩,by omega,by simp (maxSteps:=2000000) only [vup,cond_true,cond_false,Nat.reduceBEq],rfl⟩
       by_cases hik:i=k
       · rw [hik]; omega
       · exact hall i (by omega)
 obtain rfl:k=xs.length:=by omega
 refine Ze fun N13 hN13=>?_
 simp (maxSteps:=2000000) only [↓Za,↓Zb,↓Zc,vup,cond_true,cond_false,aop,Zg,ev,sput,Zf,Zv,Zx,Nat.reduceBEq,hkin]
 refine hN13 [(0,v),(2,.bool false),(5,v),(6,Zd xs.length),(7,Zd xs.length),(8,.bool false)] _ _ ?_ (by simp (maxSteps:=2000000) only [vup,cond_true,cond_false,Nat.reduceBEq])
 clear hN13
 try clear N13
 refine Ze fun N14 hN14=>?_
 simp (maxSteps:=2000000) only [↓Yi,↓vdn,vup,cond_true,cond_false,Zg,ev,Nat.reduceBEq]
 refine hQ2 _ _ _ (hQ _ _ _ ?_)
 simp (maxSteps:=2000000) only [Zg,Zl,Zu,if_true]
 refine hZ [(0,v),(2,.bool false)] _ _ ?_ (by simp (maxSteps:=2000000) only [vup,cond_true,cond_false,Nat.reduceBEq])
 clear hZ
 try clear Z
 have hch:chB xs=(decide (1≤(xs.length:Int))&&decide ((xs.length:Int)≤6)):=by
  rw [Bool.eq_iff_iff,Vl,Bool.and_eq_true,decide_eq_true_eq,decide_eq_true_eq]
  exact ⟨fun h=>⟨by have:=h.1; omega,by have:=h.2.1; omega⟩,fun h=>⟨by omega,by omega,hall⟩⟩
 refine Zj ?_
 by_cases h1:1≤(xs.length:Int)
 · simp (maxSteps:=2000000) only [↓Za,↓Zp,↓Ya,↓Zb,↓Zc,↓vdn,vup,List.map_cons,List.map_nil,cond_true,cond_false,aop,Zg,ev,sput,Zf,Zv,Zx,Zi,Nat.reduceBEq,Zu,Xu,tup,tyf,hv.len,h1,hch,Bool.true_and]
 · simp (maxSteps:=2000000) only [↓Za,↓Zp,↓Ya,↓Zb,↓Zc,↓vdn,vup,List.map_cons,List.map_nil,cond_true,cond_false,aop,Zg,ev,sput,Zf,Zv,Zx,Zi,Nat.reduceBEq,Zu,Xu,tup,tyf,hv.len,h1,hch,Bool.false_and]
theorem conf1_call [Tabs prog] {h:Zh} {v:Value} {xs:List Int} {b:Nat} (hb:h[b]? = some (.cells [v] 22 false)) (hv:IntSl h v xs) (c:Chn xs) {i j:Nat} (hi:i<xs.length) (hj:j<xs.length):Wo prog 71 [Zd i,Zd j,.pointer (some ⟨b,0,none⟩)] h (.bool (cfP xs i j)):=by
 obtain ⟨a1,_,a3⟩:=chn_gn c hi
 obtain ⟨b1,_,b3⟩:=chn_gn c hj
 have hand:=bitsV_and (a:=gn xs i) (b:=gn xs j) (by omega) (by omega)
 refine s71_call (by simp) ?_
 simp only [s71]
 simp (maxSteps:=2000000) only [↓Za,↓Zp,↓Zb,↓Zc,vup,cond_false,aop,Zg,Zt,ev,sput,Zf,Nat.reduceBEq,Nat.reduceAdd]
 refine Xp [] (by kernel_rfl) (by kernel_rfl) (by kernel_rfl) (by kernel_rfl) ?_
 simp (maxSteps:=2000000) only [↓Ya,↓Yw,↓vdn,vup,cond_true,cond_false,aop,Zg,ev,sput,Zf,Zv,Zx,Nat.reduceBEq,Nat.reduceAdd,Zu,Xu,tup,tyf,load1 hb shp_22,hv.idx Xt Xe hi,hv.idx Xt Xe hj,hv.load Xf hi,hv.load Xf hj,a1,b1,hand,bneZ]
 rfl
theorem s44_callW [Tabs Tryd.prog] {args:List Value} {h:Zh} {Q:Value→Zh→Prop} (hsz:args.length≤11) (hk:AWS Tryd.prog 11 s44 (Zu Tryd.prog [.tmp 2,.tmp 3] Q) (Zt 0 args) h):ACall Tryd.prog 44 args h Q :=
 Xd Tryd.func44 rfl (enters_of Tryd.func44 (by kernel_rfl) rfl) rfl rfl (by decide) s44_strip s44_ok hsz hk
theorem conf_call [Tabs prog] {h:Zh} {v:Value} {xs:List Int} (hv:IntSl h v xs) (hl:xs.length<9223372036854775807) :
  ACall prog 44 [v] h fun r h'=>Ext (fun _=>False) h h'∧if chB xs=true then ∃ w,r = .tuple #[w,.int .i64 0]∧IntSl h' w (cfL xs) else r = .tuple #[.slice none 0 0,.int .i64 2]:=by
 obtain ⟨H,hH⟩ : ∃ H,H=h++[Blk.cells [v] 22 false]:=⟨_,rfl⟩
 have hE:Ext (fun _=>False) h H:=by rw [hH]; exact Ext.app _ _ _
 have hb:H[h.length]? = some (.cells [v] 22 false):=by rw [hH]; exact Yp _ _
 have hvH:IntSl H v xs:=Xn hv hE
 refine s44_callW (by simp) ?_
 simp only [s44]
 refine Ze fun N15 hN15=>?_
 simp (maxSteps:=2000000) only [↓Za,↓Zb,↓Zc,vup,cond_true,cond_false,aop,Zg,Zt,ev,sput,Zf,Nat.reduceBEq,boxV22 hv,Xc,← hH]
 refine hN15 [(0,v),(1,.pointer (some ⟨h.length,0,none⟩)),(2,.slice none 0 0),(3,.int .i64 0)] _ _ ?_ (by simp (maxSteps:=2000000) only [vup,cond_true,cond_false,Nat.reduceBEq])
 clear hN15
 try clear N15
 refine Zk fun M hM=>?_
 refine Ze fun N16 hN16=>?_
 simp (maxSteps:=2000000) only [↓Za,↓Zb,↓Zc,vup,List.map_cons,List.map_nil,cond_true,cond_false,aop,Zg,ev,sput,Zf,unK,Nat.reduceBEq,Yz,List.nil_append,List.append_nil,load1 hb shp_22]
 refine (ischan_call hvH hl).mono ?_
 rintro _ H ⟨rfl,rfl⟩
 cases hc:chB xs with
 | false =>
   simp (maxSteps:=2000000) only [vup]
   refine hN16 [(0,v),(1,.pointer (some ⟨h.length,0,none⟩)),(2,.slice none 0 0),(3,.int .i64 0),(6,.bool true)] _ _ ?_ (by simp (maxSteps:=2000000) only [vup,cond_true,cond_false,Nat.reduceBEq])
   clear hN16
   try clear N16
   refine Yx rfl ?_
   refine Zj ?_
   simp (maxSteps:=2000000) only [↓Za,↓Zp,↓Ya,↓Zb,↓Zc,vup,cond_true,cond_false,aop,Zg,ev,sput,Zf,Nat.reduceBEq,Zu,Xu,tup]
   exact ⟨hE,by rw [hc,if_neg (by decide)]; trivial⟩
 | true =>
   have c:=Vl.1 hc
   simp (maxSteps:=2000000) only [vup]
   refine hN16 [(0,v),(1,.pointer (some ⟨h.length,0,none⟩)),(2,.slice none 0 0),(3,.int .i64 0),(6,.bool false)] _ _ ?_ (by simp (maxSteps:=2000000) only [vup,cond_true,cond_false,Nat.reduceBEq])
   clear hN16
   try clear N16
   refine Yg rfl ?_
   refine Zj ?_
   simp (maxSteps:=2000000) only [↓Zn,Zg]
   refine hM [(0,v),(1,.pointer (some ⟨h.length,0,none⟩)),(2,.slice none 0 0),(3,.int .i64 0)] _ _ ?_ (by simp (maxSteps:=2000000) only [vup,cond_true,cond_false,Nat.reduceBEq])
   clear hM
   try clear M
   refine Zj ?_
   have hE0 : ∀ {hp:Zh},Ext (fun _=>False) H hp→∀ i j:Nat,i<xs.length→j<xs.length→∀ {K:Value→Zh→Prop},K (.bool (cfP xs i j)) hp→Yz prog false (.func (.func 71) #[] #[.pointer (some ⟨h.length,0,none⟩)]) [Zd i,Zd j] hp K:=fun {hp} hE1 i j hi hj {K} hk=>by
    refine (conf1_call ((hE1.2 _ (Zz hb) id).trans hb) (Xn hvH hE1) c hi hj).mono ?_
    rintro _ _ ⟨rfl,rfl⟩
    exact hk
   simp (maxSteps:=2000000) only [↓Za,↓Zp,↓Ya,↓Zb,↓Zc,vup,List.map_cons,List.map_nil,cond_true,cond_false,aop,Zg,ev,sput,Zf,Zi,Nat.reduceBEq,Zu,Xu,tup,tyf,load1 hb shp_22,hvH.len,List.map_toArray,Yz,List.nil_append,List.append_nil]
   refine (made_call (p:=cfP xs) c.2.1 hE0).mono ?_
   rintro r h' ⟨hr,hE1⟩
   exact ⟨hE.trans hE1,by rw [hc,if_pos rfl]; exact ⟨r,rfl,hr⟩⟩
theorem s94_callW [Tabs Tryd.prog] {args:List Value} {h:Zh} {Q:Value→Zh→Prop} (hsz:args.length≤19) (hk:AWS Tryd.prog 19 s94 (Zu Tryd.prog [.tmp 4] Q) (Zt 0 args) h):ACall Tryd.prog 94 args h Q :=
 Xd Tryd.func94 rfl (enters_of Tryd.func94 (by kernel_rfl) rfl) rfl rfl (by decide) s94_strip s94_ok hsz hk
theorem idx_call [Tabs prog] {h:Zh} {v:Value} {xs:List Int} {z:Int} (hv:IntSl h v xs) (hl:xs.length<9223372036854775807):ACall prog 94 [v,Zd z] h fun r h'=>h' = h∧∃ i:Int,r=Zd i∧decide (0≤i)=xs.contains z:=by
 refine s94_callW (by simp) ?_
 simp only [s94]
 refine Ze fun N17 hN17=>?_
 simp (maxSteps:=2000000) only [↓Za,↓Zb,↓Zc,vup,cond_false,aop,Zg,Zt,ev,sput,Zf,Nat.reduceBEq,Nat.reduceAdd]
 refine hN17 [(0,v),(1,Zd z),(4,.int .i64 0)] _ _ ?_ (by simp (maxSteps:=2000000) only [vup,cond_true,cond_false,Nat.reduceBEq])
 clear hN17
 try clear N17
 refine Zk fun Z hZ=>?_
 refine Ze fun N18 hN18=>?_
 simp (maxSteps:=2000000) only [↓Za,↓Zb,↓Zc,vup,List.map_cons,List.map_nil,cond_true,cond_false,aop,Zg,ev,sput,Zf,Zi,Nat.reduceBEq,tyf,hv.len]
 refine hN18 [(0,v),(1,Zd z),(4,.int .i64 0),(6,v),(7,Zd xs.length),(8,.int .i64 0)] _ _ ?_ (by simp (maxSteps:=2000000) only [vup,cond_true,cond_false,Nat.reduceBEq])
 clear hN18
 try clear N18
 refine Zo ?_
 refine Zm fun Q hQ=>?_
 refine Yl (γ:=Nat) (fun k=>k≤xs.length∧∀ i,i<k→xs.getD i 0≠z) (fun k=>([(0,v),(1,Zd z),(4,.int .i64 0),(6,v),(7,Zd xs.length),(8,Zd (k:Nat))],h)) (fun k=>xs.length-k) 0 ⟨Nat.zero_le _,fun i hi=>absurd hi (Nat.not_lt_zero i)⟩ (by simp (maxSteps:=2000000) only [vup,cond_true,cond_false,Nat.reduceBEq,Int.natCast_zero]) rfl ?_
 rintro k ⟨hk,hno⟩
 refine Zm fun Q2 hQ2=>?_
 simp only [l94_0]
 by_cases hkin:(k:Int)<xs.length
 · have hk' : k<xs.length:=by omega
   have hmem:xs.getD k 0∈xs:=by rw [List.getD,List.getElem?_eq_getElem hk']; exact List.getElem_mem _
   refine Ze fun N19 hN19=>?_
   simp (maxSteps:=2000000) only [↓Za,↓Zb,↓Zc,vup,cond_true,cond_false,aop,Zg,ev,sput,Zf,Zv,Zx,Nat.reduceBEq,hkin]
   refine hN19 [(0,v),(1,Zd z),(4,.int .i64 0),(6,v),(7,Zd xs.length),(8,Zd (k:Nat)),(9,.bool true)] _ _ ?_ (by simp (maxSteps:=2000000) only [vup,cond_true,cond_false,Nat.reduceBEq])
   clear hN19
   try clear N19
   refine Ze fun N20 hN20=>?_
   simp (maxSteps:=2000000) only [↓Zn,↓vdn,vup,cond_true,cond_false,Zg,ev,Nat.reduceBEq]
   refine hN20 [(0,v),(1,Zd z),(4,.int .i64 0),(6,v),(7,Zd xs.length),(8,Zd (k:Nat))] _ _ ?_ (by simp (maxSteps:=2000000) only [vup,cond_true,cond_false,Nat.reduceBEq])
   clear hN20
   try clear N20
   refine Zk fun B hB=>?_
   refine Zo ?_
   refine Ze fun N21 hN21=>?_
   simp (maxSteps:=2000000) only [↓Za,↓Zb,↓Zc,vup,cond_true,cond_false,aop,Zg,ev,sput,Zf,Nat.reduceBEq]
   refine hN21 [(0,v),(1,Zd z),(4,.int .i64 0),(5,Zd (k:Nat)),(6,v),(7,Zd xs.length),(8,Zd (k:Nat))] _ _ ?_ (by simp (maxSteps:=2000000) only [vup,cond_true,cond_false,Nat.reduceBEq])
   clear hN21
   try clear N21
   refine Zj ?_
   by_cases he:z=xs.getD k 0
   · have hb:(z==xs.getD k 0)=true:=by rw [beq_iff_eq]; exact he
     simp (maxSteps:=2000000) only [↓Za,↓Zn,↓Zp,↓Ya,↓Zb,↓Zc,↓vdn,vup,cond_true,cond_false,aop,Zg,Zl,ev,sput,Zf,Zv,Zx,Nat.reduceBEq,tyf,hv.idx Xt Xe hk',hv.load Xf hk',hb]
     refine hQ2 _ _ _ (hQ _ _ _ ?_)
     simp (maxSteps:=2000000) only [vup,cond_true,cond_false,Zg,Zl,Nat.reduceBEq,Zu,Xu,tup]
     exact ⟨(k:Int),rfl,by rw [List.contains_iff_mem.2 (he▸hmem)]; simp⟩
   · have hb:(z==xs.getD k 0)=false:=by rw [beq_eq_false_iff_ne]; exact he
     simp (maxSteps:=2000000) only [↓Za,↓Zn,↓Zp,↓Ya,↓Zb,↓Zc,↓vdn,vup,cond_true,cond_false,aop,Zg,Zl,ev,sput,Zf,Zv,Zx,Nat.reduceBEq,tyf,hv.idx Xt Xe hk',hv.load Xf hk',hb]
     refine hB [(0,v),(1,Zd z),(4,.int .i64 0),(6,v),(7,Zd xs.length),(8,Zd (k:Nat))] _ _ ?_ (by simp (maxSteps:=2000000) only [vup,cond_true,cond_false,Nat.reduceBEq])
     clear hB
     try clear B
     refine Zj ?_
     simp (maxSteps:=2000000) only [↓Za,↓Zb,↓Zc,vup,cond_true,cond_false,aop,ev,sput,Zf,Zv,Zx,Nat.reduceBEq,Wx (show k<9223372036854775807 by omega)]
     refine hQ2 _ _ _ ⟨k+1,⟨hk',fun i hi=>?_⟩,by omega,by simp (maxSteps:=2000000) only [vup,cond_true,cond_false,Nat.reduceBEq],rfl⟩
     by_cases hik:i=k
     · rw [hik]; exact fun h=>he h.symm
     · exact hno i (by omega)
 obtain rfl:k=xs.length:=by omega
 refine Ze fun N22 hN22=>?_
 simp (maxSteps:=2000000) only [↓Za,↓Zb,↓Zc,vup,cond_true,cond_false,aop,Zg,ev,sput,Zf,Zv,Zx,Nat.reduceBEq,hkin]
 refine hN22 [(0,v),(1,Zd z),(4,.int .i64 0),(6,v),(7,Zd xs.length),(8,Zd xs.length),(9,.bool false)] _ _ ?_ (by simp (maxSteps:=2000000) only [vup,cond_true,cond_false,Nat.reduceBEq])
 clear hN22
 try clear N22
 refine Ze fun N23 hN23=>?_
 simp (maxSteps:=2000000) only [↓Yi,↓vdn,vup,cond_true,cond_false,Zg,ev,Nat.reduceBEq]
 refine hQ2 _ _ _ (hQ _ _ _ ?_)
 simp (maxSteps:=2000000) only [Zg,Zl,Zu,if_true]
 refine hZ [(0,v),(1,Zd z),(4,.int .i64 0)] _ _ ?_ (by simp (maxSteps:=2000000) only [vup,cond_true,cond_false,Nat.reduceBEq])
 clear hZ
 try clear Z
 refine Zj ?_
 simp (maxSteps:=2000000) only [↓Za,↓Zp,↓Ya,↓Zb,↓Zc,vup,cond_true,cond_false,aop,Zg,ev,sput,Zf,Nat.reduceBEq,Zu,Xu,tup]
 refine ⟨-1,rfl,?_⟩
 have:xs.contains z=false:=by
  rw [← Bool.not_eq_true,List.contains_iff_mem]
  intro hm
  obtain ⟨i,hi,e⟩:=List.mem_iff_getElem.1 hm
  refine hno i hi ?_
  rw [List.getD,List.getElem?_eq_getElem hi]; exact e
 rw [this]; rfl
theorem s72_callW [Tabs Tryd.prog] {args:List Value} {h:Zh} {Q:Value→Zh→Prop} (hsz:args.length≤9) (hk:AWS Tryd.prog 9 s72 (Zu Tryd.prog [.tmp 4] Q) (Zt 0 args) h):ACall Tryd.prog 72 args h Q :=
 Xd Tryd.func72 rfl (enters_of Tryd.func72 (by kernel_rfl) rfl) rfl rfl (by decide) s72_strip s72_ok hsz hk
theorem cont_call [Tabs prog] {h:Zh} {v:Value} {xs:List Int} {z:Int} (hv:IntSl h v xs) (hl:xs.length<9223372036854775807):Wo prog 72 [v,Zd z] h (.bool (xs.contains z)):=by
 refine s72_callW (by simp) ?_
 simp only [s72]
 refine Ze fun N24 hN24=>?_
 simp (maxSteps:=2000000) only [↓Za,↓Zb,↓Zc,vup,cond_false,aop,Zg,Zt,ev,sput,Zf,Nat.reduceBEq,Nat.reduceAdd]
 refine hN24 [(0,v),(1,Zd z),(4,.bool false)] _ _ ?_ (by simp (maxSteps:=2000000) only [vup,cond_true,cond_false,Nat.reduceBEq])
 clear hN24
 try clear N24
 refine Zj ?_
 refine aw_cut fun N hN=>?_
 simp (maxSteps:=2000000) only [↓Za,↓Zb,↓Zc,vup,List.map_cons,List.map_nil,cond_true,cond_false,aop,Zg,ev,sput,Zf,Zv,Zx,Nat.reduceBEq,tyf,Yz,List.nil_append,List.append_nil]
 refine (idx_call hv hl).mono ?_
 rintro _ h ⟨rfl,i,rfl,hi⟩
 simp (maxSteps:=2000000) only [vup,hi]
 refine hN _ _ ?_
 simp (maxSteps:=2000000) only [↓Ya,vup,cond_true,cond_false,Nat.reduceBEq,Zu,Xu,tup]
end Go.Proofs.Tryd.Am
namespace Go.Proofs.Tryd.Am
open Go.Am Sr
set_option maxRecDepth 100000
set_option maxHeartbeats 4000000
def setT (xs:List Int) (o i:Nat):Nat:=mk (fun j=>(gn xs j).testBit o) i
theorem setT_succ (xs:List Int) (o i:Nat):setT xs o (i+1)=setT xs o i ||| (if (gn xs i).testBit o then 2 ^ i else 0):=by
 rw [setT,setT,mk]
 split
 · rfl
 · exact (Nat.or_zero _).symm
theorem setT_lt (xs:List Int) (o:Nat) {i:Nat} (h:i≤6):setT xs o i<64:=Nat.lt_of_lt_of_le (mk_lt _ _) (pow6N h)
theorem iL_mem {L:List Nat} {s:Nat}:(iL L).contains ((s:Nat):Int)=decide (s∈L):=by
 rw [Bool.eq_iff_iff,List.contains_iff_mem,decide_eq_true_eq]
 constructor
 · intro h
   obtain ⟨t,ht,e⟩:=List.mem_map.1 h
   have:t=s:=by have e' : ((t:Nat):Int)=(s:Nat):=e; omega
   rw [← this]; exact ht
 · intro h; exact List.mem_map.2 ⟨s,h,rfl⟩
theorem s45_callW [Tabs Tryd.prog] {args:List Value} {h:Zh} {Q:Value→Zh→Prop} (hsz:args.length≤55) (hk:AWS Tryd.prog 55 s45 (Zu Tryd.prog [.cell 2 44,.tmp 3] Q) (Zt 0 args) h):ACall Tryd.prog 45 args h Q :=
 Xd Tryd.func45 rfl (enters_of Tryd.func45 (by kernel_rfl) rfl) rfl rfl (by decide) s45_strip s45_ok hsz hk
theorem back_call [Tabs prog] {h:Zh} {v:Value} {xs:List Int} (hv:IntSl h v xs) (hl:xs.length<9223372036854775807) :
  ACall prog 45 [v] h fun r h'=>Ext (fun _=>False) h h'∧if chB xs=true then ∃ q:Rat,r = .tuple #[frV q.den q.num,.int .i64 0]∧BQ xs q else r = .tuple #[frV 0 0,.int .i64 2]:=by
 obtain ⟨H,hH⟩ : ∃ H,H=h++[Blk.cells [.int .i64 0,.int .i64 0] 44 false]:=⟨_,rfl⟩
 have hc:H[h.length]? = some (.cells [.int .i64 0,.int .i64 0] 44 false):=by rw [hH]; exact Yp _ _
 have hv0:IntSl H v xs:=hH▸hv.grow _
 have hE0:Ext (fun _=>False) h H:=hH▸Ext.app _ _ _
 refine s45_callW (by simp) ?_
 simp only [s45]
 refine Ze fun N1 hN1=>?_
 simp (maxSteps:=2000000) only [↓Za,↓Zb,↓Zc,vup,cond_false,aop,Zg,Zt,ev,sput,Zf,Nat.reduceBEq,tyf,Xv,Xc,← hH]
 refine hN1 [(0,v),(2,.pointer (some ⟨h.length,0,none⟩)),(3,.int .i64 0)] _ _ ?_ (by simp (maxSteps:=2000000) only [vup,cond_true,cond_false,Nat.reduceBEq])
 clear hN1
 try clear N1
 refine Zk fun M hM=>?_
 refine Ze fun N2 hN2=>?_
 simp (maxSteps:=2000000) only [↓Za,↓Zb,↓Zc,vup,List.map_cons,List.map_nil,cond_true,cond_false,aop,Zg,ev,sput,Zf,unK,Nat.reduceBEq,Yz,List.nil_append,List.append_nil]
 refine (ischan_call hv0 hl).mono ?_
 rintro _ H ⟨rfl,rfl⟩
 cases hch:chB xs with
 | false =>
   simp (maxSteps:=2000000) only [vup]
   refine hN2 [(0,v),(2,.pointer (some ⟨h.length,0,none⟩)),(3,.int .i64 0),(12,.bool true)] _ _ ?_ (by simp (maxSteps:=2000000) only [vup,cond_true,cond_false,Nat.reduceBEq])
   clear hN2
   try clear N2
   refine Yx rfl ?_
   refine Zj ?_
   have hst : ∀ {K:Zh→Prop},Xh prog H 44 (.pointer (some ⟨h.length,0,none⟩)) (.agg #[Zd 0,Zd 0]) K=K (H.set h.length (.cells [Zd 0,Zd 0] 44 false)):=fun {K}=>Wy hc rfl
   simp (maxSteps:=2000000) only [↓Za,↓Zp,↓Ya,↓Zb,↓Zc,vup,List.map_nil,cond_true,cond_false,aop,Zg,ev,sput,Zf,Nat.reduceBEq,Zu,Xu,tup,bldF0,hst,Vj (Xj (Zz hc) _)]
   exact ⟨hE0.set_ge (Nat.le_refl _) _,by rw [hch,if_neg (by decide)]; rfl⟩
 | true =>
   have c:=Vl.1 hch
   have h6:=c.2.1
   have h1n:=c.1
   simp (maxSteps:=2000000) only [vup]
   refine hN2 [(0,v),(2,.pointer (some ⟨h.length,0,none⟩)),(3,.int .i64 0),(12,.bool false)] _ _ ?_ (by simp (maxSteps:=2000000) only [vup,cond_true,cond_false,Nat.reduceBEq])
   clear hN2
   try clear N2
   refine Yg rfl ?_
   refine Zj ?_
   simp (maxSteps:=2000000) only [↓Zn,Zg]
   refine hM [(0,v),(2,.pointer (some ⟨h.length,0,none⟩)),(3,.int .i64 0)] _ _ ?_ (by simp (maxSteps:=2000000) only [vup,cond_true,cond_false,Nat.reduceBEq])
   clear hM
   try clear M
   refine Ze fun N3 hN3=>?_
   simp (maxSteps:=2000000) only [↓Za,↓Zb,↓Zc,vup,cond_false,aop,Zg,ev,sput,Zf,Nat.reduceBEq]
   refine hN3 [(0,v),(2,.pointer (some ⟨h.length,0,none⟩)),(3,.int .i64 0),(4,.slice none 0 0)] _ _ ?_ (by simp (maxSteps:=2000000) only [vup,cond_true,cond_false,Nat.reduceBEq])
   clear hN3
   try clear N3
   refine Zk fun Z hZ=>?_
   refine Ze fun N4 hN4=>?_
   simp (maxSteps:=2000000) only [↓Za,↓Zb,↓Zc,vup,cond_false,aop,Zg,ev,sput,Zf,Nat.reduceBEq]
   refine hN4 [(0,v),(2,.pointer (some ⟨h.length,0,none⟩)),(3,.int .i64 0),(4,.slice none 0 0),(14,.int .i64 0)] _ _ ?_ (by simp (maxSteps:=2000000) only [vup,cond_true,cond_false,Nat.reduceBEq])
   clear hN4
   try clear N4
   refine Zo ?_
   refine Zm fun Q hQ=>?_
   refine Yl (γ:=Nat×Zh×Value) (fun g=>g.1≤8∧RSI H g.2.1 g.2.2 (iL (bsTo xs g.1)))
    (fun g=>([(0,v),(2,.pointer (some ⟨h.length,0,none⟩)),(3,.int .i64 0),(4,g.2.2),(14,Zd (g.1:Nat))],g.2.1)) (fun g=>8-g.1) (0,H,.slice none 0 0) ⟨Nat.zero_le _,RSI.nil H⟩ (by simp (maxSteps:=2000000) only [vup,cond_true,cond_false,Nat.reduceBEq,Int.natCast_zero]) rfl ?_
   rintro ⟨o,G,sv⟩ ⟨ho,hsv⟩
   simp only at ho hsv
   refine Zm fun Q2 hQ2=>?_
   simp only [l45_1]
   have hvG:IntSl G v xs:=Xn hv0 hsv.2.1
   by_cases hon:(o:Int)<8
   · have ho' : o<8:=by omega
     refine Ze fun N5 hN5=>?_
     simp (maxSteps:=2000000) only [↓Za,↓Zb,↓Zc,vup,cond_true,cond_false,aop,Zg,ev,sput,Zf,Zv,Zx,Nat.reduceBEq,hon]
     refine hN5 [(0,v),(2,.pointer (some ⟨h.length,0,none⟩)),(3,.int .i64 0),(4,sv),(14,Zd (o:Nat)),(15,.bool true)] _ _ ?_ (by simp (maxSteps:=2000000) only [vup,cond_true,cond_false,Nat.reduceBEq])
     clear hN5
     try clear N5
     refine Ze fun N6 hN6=>?_
     simp (maxSteps:=2000000) only [↓Zn,↓vdn,vup,cond_true,cond_false,Zg,ev,Nat.reduceBEq]
     refine hN6 [(0,v),(2,.pointer (some ⟨h.length,0,none⟩)),(3,.int .i64 0),(4,sv),(14,Zd (o:Nat))] _ _ ?_ (by simp (maxSteps:=2000000) only [vup,cond_true,cond_false,Nat.reduceBEq])
     clear hN6
     try clear N6
     refine Zk fun B hB=>?_
     refine Zo ?_
     refine Ze fun N7 hN7=>?_
     simp (maxSteps:=2000000) only [↓Za,↓Zb,↓Zc,vup,cond_true,cond_false,aop,Zg,ev,sput,Zf,Nat.reduceBEq]
     refine hN7 [(0,v),(2,.pointer (some ⟨h.length,0,none⟩)),(3,.int .i64 0),(4,sv),(5,Zd (o:Nat)),(14,Zd (o:Nat))] _ _ ?_ (by simp (maxSteps:=2000000) only [vup,cond_true,cond_false,Nat.reduceBEq])
     clear hN7
     try clear N7
     refine Ze fun N8 hN8=>?_
     simp (maxSteps:=2000000) only [↓Za,↓Zb,↓Zc,vup,cond_false,aop,Zg,ev,sput,Zf,Nat.reduceBEq]
     refine hN8 [(0,v),(2,.pointer (some ⟨h.length,0,none⟩)),(3,.int .i64 0),(4,sv),(5,Zd (o:Nat)),(6,.int .i64 0),(14,Zd (o:Nat))] _ _ ?_ (by simp (maxSteps:=2000000) only [vup,cond_true,cond_false,Nat.reduceBEq])
     clear hN8
     try clear N8
     refine Zk fun A hA=>?_
     refine Ze fun N9 hN9=>?_
     simp (maxSteps:=2000000) only [↓Za,↓Zb,↓Zc,vup,List.map_cons,List.map_nil,cond_true,cond_false,aop,Zg,ev,sput,Zf,Zi,Nat.reduceBEq,tyf,hvG.len]
     refine hN9 [(0,v),(2,.pointer (some ⟨h.length,0,none⟩)),(3,.int .i64 0),(4,sv),(5,Zd (o:Nat)),(6,.int .i64 0),(14,Zd (o:Nat)),(17,v),(18,Zd xs.length),(19,.int .i64 0)] _ _ ?_ (by simp (maxSteps:=2000000) only [vup,cond_true,cond_false,Nat.reduceBEq])
     clear hN9
     try clear N9
     refine Zo ?_
     refine Zm fun Qa hQa=>?_
     refine Yl (γ:=Nat) (fun i=>i≤xs.length) (fun i=>([(0,v),(2,.pointer (some ⟨h.length,0,none⟩)),(3,.int .i64 0),(4,sv),(5,Zd (o:Nat)),(6,Zd (setT xs o i:Nat)),(14,Zd (o:Nat)),(17,v),(18,Zd xs.length),(19,Zd (i:Nat))],G)) (fun i=>xs.length-i) 0 (Nat.zero_le _) (by simp (maxSteps:=2000000) only [vup,cond_true,cond_false,Nat.reduceBEq,Int.natCast_zero,show setT xs o 0=0 from rfl]) rfl ?_
     rintro i hi
     refine Zm fun Qb hQb=>?_
     simp only [l45_0]
     by_cases hin:(i:Int)<xs.length
     · have hi' : i<xs.length:=by omega
       obtain ⟨a1,_,a3⟩:=chn_gn c hi'
       have hnn : ∀ i:Nat,(0:Int)≤(i:Int):=Int.natCast_nonneg
       have htst:=@testV (gn xs i) o (by omega)
       have hlt:=setT_lt xs o (i:=i) (by omega)
       have hp:2 ^ i<64:=Nat.lt_of_lt_of_le (Nat.pow_lt_pow_right (by decide) hi') (pow6N h6)
       have hsh:shlV .i64 (if (gn xs i).testBit o=true then 1 else 0) (i:Int)=(((if (gn xs i).testBit o=true then 2 ^ i else 0):Nat):Int):=by
        split
        · exact shlI1 (by omega)
        · have:=shlV_nat (a:=0) (y:=i) (by simp) (by omega)
          simpa using this
       have hor:Wj .or .i64 ((setT xs o i:Nat):Int) (((if (gn xs i).testBit o=true then 2 ^ i else 0):Nat):Int)=((setT xs o (i+1):Nat):Int):=by
        rw [bitsV_or (by omega) (by split <;> omega),setT_succ]
       refine Ze fun N10 hN10=>?_
       simp (maxSteps:=2000000) only [↓Za,↓Zb,↓Zc,vup,cond_true,cond_false,aop,Zg,ev,sput,Zf,Zv,Zx,Nat.reduceBEq,hin]
       refine hN10 [(0,v),(2,.pointer (some ⟨h.length,0,none⟩)),(3,.int .i64 0),(4,sv),(5,Zd (o:Nat)),(6,Zd (setT xs o i:Nat)),(14,Zd (o:Nat)),(17,v),(18,Zd xs.length),(19,Zd (i:Nat)),(20,.bool true)] _ _ ?_ (by simp (maxSteps:=2000000) only [vup,cond_true,cond_false,Nat.reduceBEq])
       clear hN10
       try clear N10
       refine Ze fun N11 hN11=>?_
       simp (maxSteps:=2000000) only [↓Zn,↓vdn,vup,cond_true,cond_false,Zg,ev,Nat.reduceBEq]
       refine hN11 [(0,v),(2,.pointer (some ⟨h.length,0,none⟩)),(3,.int .i64 0),(4,sv),(5,Zd (o:Nat)),(6,Zd (setT xs o i:Nat)),(14,Zd (o:Nat)),(17,v),(18,Zd xs.length),(19,Zd (i:Nat))] _ _ ?_ (by simp (maxSteps:=2000000) only [vup,cond_true,cond_false,Nat.reduceBEq])
       clear hN11
       try clear N11
       refine Zk fun D hD=>?_
       refine Zo ?_
       refine Ze fun N12 hN12=>?_
       simp (maxSteps:=2000000) only [↓Za,↓Zb,↓Zc,vup,cond_true,cond_false,aop,Zg,ev,sput,Zf,Nat.reduceBEq,hvG.idx Xt Xe hi',hvG.load Xf hi',a1]
       refine hN12 [(0,v),(2,.pointer (some ⟨h.length,0,none⟩)),(3,.int .i64 0),(4,sv),(5,Zd (o:Nat)),(6,Zd (setT xs o i:Nat)),(7,Zd (i:Nat)),(8,Zd (gn xs i:Nat)),(14,Zd (o:Nat)),(17,v),(18,Zd xs.length),(19,Zd (i:Nat))] _ _ ?_ (by simp (maxSteps:=2000000) only [vup,cond_true,cond_false,Nat.reduceBEq])
       clear hN12
       try clear N12
       refine Zj ?_
       simp (maxSteps:=2000000) only [↓Za,↓Zb,↓Zc,vup,cond_true,cond_false,aop,Zg,Zl,ev,sput,Zf,Zv,Zx,Nat.reduceBEq,hnn,htst,hsh,hor]
       refine hD [(0,v),(2,.pointer (some ⟨h.length,0,none⟩)),(3,.int .i64 0),(4,sv),(5,Zd (o:Nat)),(6,Zd (setT xs o (i+1):Nat)),(14,Zd (o:Nat)),(17,v),(18,Zd xs.length),(19,Zd (i:Nat))] _ _ ?_ (by simp (maxSteps:=2000000) only [vup,cond_true,cond_false,Nat.reduceBEq])
       clear hD
       try clear D
       refine Zj ?_
       simp (maxSteps:=2000000) only [↓Za,↓Zb,↓Zc,vup,cond_true,cond_false,aop,ev,sput,Zf,Zv,Zx,Nat.reduceBEq,Wx (show i<9223372036854775807 by omega)]
       exact hQb _ _ _ ⟨i+1,hi',by omega,by simp (maxSteps:=2000000) only [vup,cond_true,cond_false,Nat.reduceBEq],rfl⟩
     obtain rfl:i=xs.length:=by omega
     refine Ze fun N13 hN13=>?_
     simp (maxSteps:=2000000) only [↓Za,↓Zb,↓Zc,vup,cond_true,cond_false,aop,Zg,ev,sput,Zf,Zv,Zx,Nat.reduceBEq,hin]
     refine hN13 [(0,v),(2,.pointer (some ⟨h.length,0,none⟩)),(3,.int .i64 0),(4,sv),(5,Zd (o:Nat)),(6,Zd (setT xs o xs.length:Nat)),(14,Zd (o:Nat)),(17,v),(18,Zd xs.length),(19,Zd xs.length),(20,.bool false)] _ _ ?_ (by simp (maxSteps:=2000000) only [vup,cond_true,cond_false,Nat.reduceBEq])
     clear hN13
     try clear N13
     refine Ze fun N14 hN14=>?_
     simp (maxSteps:=2000000) only [↓Yi,↓vdn,vup,cond_true,cond_false,Zg,ev,Nat.reduceBEq]
     refine hQb _ _ _ (hQa _ _ _ ?_)
     simp (maxSteps:=2000000) only [Zg,Zl,if_true]
     refine hA [(0,v),(2,.pointer (some ⟨h.length,0,none⟩)),(3,.int .i64 0),(4,sv),(5,Zd (o:Nat)),(6,Zd (setT xs o xs.length:Nat)),(14,Zd (o:Nat))] _ _ ?_ (by simp (maxSteps:=2000000) only [vup,cond_true,cond_false,Nat.reduceBEq])
     clear hA
     try clear A
     clear hQa hQb
     have hset:setT xs o xs.length=setO xs o:=rfl
     rw [hset]
     have nxt : ∀ G' sv',RSI H G' sv' (iL (bsTo xs (o+1)))→∀ e,ELe e [(0,v),(2,.pointer (some ⟨h.length,0,none⟩)),(3,.int .i64 0),(4,sv'),(14,Zd (o:Nat))]→B e G':=by
      intro G' sv' hs' e he
      refine hB [(0,v),(2,.pointer (some ⟨h.length,0,none⟩)),(3,.int .i64 0),(4,sv'),(14,Zd (o:Nat))] _ _ ?_ he
      refine Zj ?_
      simp (maxSteps:=2000000) only [↓Za,↓Zb,↓Zc,vup,cond_true,cond_false,aop,ev,sput,Zf,Zv,Zx,Nat.reduceBEq,Wx (show o<9223372036854775807 by omega)]
      exact hQ2 _ _ _ ⟨(o+1,G',sv'),⟨ho',hs'⟩,by simp only; omega,by simp (maxSteps:=2000000) only [vup,cond_true,cond_false,Nat.reduceBEq],rfl⟩
     by_cases h0:setO xs o=0
     · have hz:(((setO xs o:Nat):Int) != 0)=false:=by rw [h0]; rfl
       have e:bsTo xs (o+1)=bsTo xs o:=by rw [bsTo,if_neg fun h=>h.1 h0]
       refine Ze fun N15 hN15=>?_
       simp (maxSteps:=2000000) only [↓Za,↓Zb,↓Zc,↓vdn,vup,cond_true,cond_false,aop,Zg,ev,sput,Zf,Zv,Zx,Nat.reduceBEq,hz]
       refine hN15 [(0,v),(2,.pointer (some ⟨h.length,0,none⟩)),(3,.int .i64 0),(4,sv),(5,Zd (o:Nat)),(6,Zd (setO xs o:Nat)),(14,Zd (o:Nat)),(40,.bool false)] _ _ ?_ (by simp (maxSteps:=2000000) only [vup,cond_true,cond_false,Nat.reduceBEq])
       clear hN15
       try clear N15
       refine Yg rfl ?_
       refine Zj ?_
       simp (maxSteps:=2000000) only [↓Zn,Zg,Zl]
       exact nxt G sv (e▸hsv) _ (by simp (maxSteps:=2000000) only [vup,cond_true,cond_false,Nat.reduceBEq])
     · have hz:(((setO xs o:Nat):Int) != 0)=true:=by rw [bneZ,Bool.not_eq_true',beq_eq_false_iff_ne]; exact h0
       have hlen:(iL (bsTo xs o)).length≤8:=by rw [iL_len]; have:=bsTo_len xs o; omega
       refine Ze fun N16 hN16=>?_
       simp (maxSteps:=2000000) only [↓Za,↓Zb,↓Zc,↓vdn,vup,List.map_cons,List.map_nil,cond_true,cond_false,aop,Zg,ev,sput,Zf,Zv,Zx,unK,Nat.reduceBEq,Yz,List.nil_append,List.append_nil,hz]
       refine (cont_call (z:=((setO xs o:Nat):Int)) hsv.1.int (by omega)).mono ?_
       rintro _ G ⟨rfl,rfl⟩
       rw [iL_mem]
       by_cases hm:setO xs o∈bsTo xs o
       · have e:bsTo xs (o+1)=bsTo xs o:=by rw [bsTo,if_neg fun h=>h.2 hm]
         rw [decide_eq_true hm]
         simp (maxSteps:=2000000) only [vup]
         refine hN16 [(0,v),(2,.pointer (some ⟨h.length,0,none⟩)),(3,.int .i64 0),(4,sv),(5,Zd (o:Nat)),(6,Zd (setO xs o:Nat)),(14,Zd (o:Nat)),(40,.bool false)] _ _ ?_ (by simp (maxSteps:=2000000) only [vup,cond_true,cond_false,Nat.reduceBEq])
         clear hN16
         try clear N16
         refine Yg rfl ?_
         refine Zj ?_
         simp (maxSteps:=2000000) only [↓Zn,Zg,Zl]
         exact nxt _ sv (e▸hsv) _ (by simp (maxSteps:=2000000) only [vup,cond_true,cond_false,Nat.reduceBEq])
       · have e:bsTo xs (o+1)=bsTo xs o++[setO xs o]:=by rw [bsTo,if_pos ⟨h0,hm⟩]
         rw [decide_eq_false hm]
         simp (maxSteps:=2000000) only [vup]
         refine hN16 [(0,v),(2,.pointer (some ⟨h.length,0,none⟩)),(3,.int .i64 0),(4,sv),(5,Zd (o:Nat)),(6,Zd (setO xs o:Nat)),(14,Zd (o:Nat)),(40,.bool true)] _ _ ?_ (by simp (maxSteps:=2000000) only [vup,cond_true,cond_false,Nat.reduceBEq])
         clear hN16
         try clear N16
         refine Yx rfl ?_
         refine Zj ?_
         simp (maxSteps:=2000000) only [↓Za,↓Zb,↓Zc,vup,List.map_cons,List.map_nil,cond_true,cond_false,aop,Zg,Zl,ev,sput,Zf,Zi,Nat.reduceBEq,litI1]
         refine hsv.push (by omega) fun sv' G' hs'=>?_
         refine nxt G' sv' ?_ _ (by simp (maxSteps:=2000000) only [vup,cond_true,cond_false,Nat.reduceBEq])
         rw [e,iL,List.map_append]; exact hs'
   obtain rfl:o=8:=by omega
   refine Ze fun N17 hN17=>?_
   simp (maxSteps:=2000000) only [↓Za,↓Zb,↓Zc,vup,cond_true,cond_false,aop,Zg,ev,sput,Zf,Zv,Zx,Nat.reduceBEq,hon]
   refine hN17 [(0,v),(2,.pointer (some ⟨h.length,0,none⟩)),(3,.int .i64 0),(4,sv),(14,Zd (8:Nat)),(15,.bool false)] _ _ ?_ (by simp (maxSteps:=2000000) only [vup,cond_true,cond_false,Nat.reduceBEq])
   clear hN17
   try clear N17
   refine Ze fun N18 hN18=>?_
   simp (maxSteps:=2000000) only [↓Yi,↓vdn,vup,cond_true,cond_false,Zg,ev,Nat.reduceBEq]
   refine hQ2 _ _ _ (hQ _ _ _ ?_)
   simp (maxSteps:=2000000) only [Zg,Zl,Zu,if_true]
   refine hZ [(0,v),(2,.pointer (some ⟨h.length,0,none⟩)),(3,.int .i64 0),(4,sv)] _ _ ?_ (by simp (maxSteps:=2000000) only [vup,cond_true,cond_false,Nat.reduceBEq])
   clear hZ
   try clear Z
   clear hQ hQ2
   have hcG:=(hsv.2.1.2 _ (Zz hc) id).trans hc
   refine Ze fun N19 hN19=>?_
   simp (maxSteps:=2000000) only [↓Za,↓Zb,↓Zc,vup,List.map_cons,List.map_nil,cond_true,cond_false,aop,Zg,ev,sput,Zf,Zi,Nat.reduceBEq,tyf,Yz,List.nil_append,List.append_nil,hvG.len]
   refine (packing_call (n:=xs.length) (sets:=bsTo xs 8) hsv.1.int (bs_ne c) h1n h6 bs_lt (by have:=bsTo_len xs 8; omega) (bs_cover c)).mono ?_
   rintro r1 h1 ⟨hE1,q,hq1,hq,_⟩
   subst hq1
   simp (maxSteps:=2000000) only [tyf,qV,frV,Xv,Xc,newF]
   have hE2:Ext (fun _=>False) H (h1++[Blk.cells [Zd q.num,Zd q.den] 44 false]):=(hsv.2.1.trans hE1).trans (Ext.app _ _ _)
   have c9:=Yp h1 (Blk.cells [Zd q.num,Zd q.den] 44 false)
   generalize h1++[Blk.cells [Zd q.num,Zd q.den] 44 false]=H1 at hE2 c9 ⊢
   generalize h1.length=b9 at c9 ⊢
   refine hN19 [(0,v),(2,.pointer (some ⟨h.length,0,none⟩)),(3,.int .i64 0),(4,sv),(9,.pointer (some ⟨b9,0,none⟩))] _ _ ?_ (by simp (maxSteps:=2000000) only [vup,cond_true,cond_false,Nat.reduceBEq])
   clear hN19
   try clear N19
   have hc1:=(hE2.2 _ (Zz hc) id).trans hc
   refine Zj ?_
   simp (maxSteps:=2000000) only [↓Za,↓Zp,↓Ya,↓Zb,↓Zc,vup,List.map_cons,List.map_nil,cond_true,cond_false,aop,Zg,ev,sput,Zf,Nat.reduceBEq,Zu,Xu,tup,fA0,fA1,loadF0 c9,loadF1 c9,bldF,Wy hc1 rfl,Vj (Xj (Zz hc1) _)]
   exact ⟨(hE0.trans hE2).set_ge (Nat.le_refl _) _,by rw [hch,if_pos rfl]; exact ⟨q,rfl,hq⟩⟩
end Go.Proofs.Tryd.Am
namespace Go.Proofs.Tryd.Am
open Go.Am Sr
set_option maxRecDepth 100000
set_option maxHeartbeats 8000000
theorem s47_callW [Tabs Tryd.prog] {args:List Value} {h:Zh} {Q:Value→Zh→Prop} (hsz:args.length≤45) (hk:AWS Tryd.prog 45 s47 (Zu Tryd.prog [.tmp 2] Q) (Zt 0 args) h):ACall Tryd.prog 47 args h Q :=
 Xd Tryd.func47 rfl (enters_of Tryd.func47 (by kernel_rfl) rfl) rfl rfl (by decide) s47_strip s47_ok hsz hk
theorem rconf_call [Tabs prog] {h:Zh} {v:Value} {xs:List Int} (hv:IntSl h v xs) (c:Chn xs) :
  ACall prog 47 [v] h fun r h'=>IntSl h' r (cfL xs)∧Ext (fun _=>False) h h':=by
 have hnn : ∀ i:Nat,(0:Int)≤(i:Int):=Int.natCast_nonneg
 have h6:=c.2.1
 obtain ⟨m,hm⟩ : ∃ m,m=xs.length:=⟨_,rfl⟩
 obtain ⟨p,hp⟩ : ∃ p,p=cfP xs:=⟨_,rfl⟩
 have hlen:=hv.len
 rw [← hm] at hlen
 refine s47_callW (by simp) ?_
 simp only [s47]
 refine Ze fun N1 hN1=>?_
 simp (maxSteps:=2000000) only [↓Za,↓Zb,↓Zc,vup,cond_false,aop,Zg,Zt,ev,sput,Zf,Nat.reduceBEq]
 refine hN1 [(0,v),(2,.slice none 0 0)] _ _ ?_ (by simp (maxSteps:=2000000) only [vup,cond_true,cond_false,Nat.reduceBEq])
 clear hN1
 try clear N1
 have hr0:List.replicate m (0:Int)=iL (Wu (rwM p) m 0 0):=by rw [rowsN_zero rfl]; simp [iL]
 refine Ze fun N2 hN2=>?_
 simp (maxSteps:=2000000) only [↓Za,↓Zb,↓Zc,vup,List.map_cons,List.map_nil,cond_true,cond_false,aop,Zg,ev,sput,Zf,Zi,Nat.reduceBEq,tyf,hlen,makeI Xt zero_3 info_3 (Int.natCast_nonneg m) (show ((m:Nat):Int)≤35184372088832 by omega),Int.toNat_natCast,hr0]
 refine hN2 [(0,v),(2,.slice none 0 0),(3,tv h.length m)] _ _ ?_ (by simp (maxSteps:=2000000) only [vup,cond_true,cond_false,Nat.reduceBEq])
 clear hN2
 try clear N2
 have hE : ∀ i j,Ext (fun _=>False) h (tabH h (Wu (rwM p) m i j)):=fun i j=>Ext.app _ _ _
 have hv1 : ∀ i j,IntSl (tabH h (Wu (rwM p) m i j)) v xs:=fun i j=>Xn hv (hE i j)
 refine Zk fun Z hZ=>?_
 refine Ze fun N3 hN3=>?_
 simp (maxSteps:=2000000) only [↓Za,↓Zb,↓Zc,vup,List.map_cons,List.map_nil,cond_true,cond_false,aop,Zg,ev,sput,Zf,Zi,Nat.reduceBEq,tyf,hlen]
 refine hN3 [(0,v),(2,.slice none 0 0),(3,tv h.length m),(11,v),(12,Zd (m:Nat)),(13,.int .i64 0)] _ _ ?_ (by simp (maxSteps:=2000000) only [vup,cond_true,cond_false,Nat.reduceBEq])
 clear hN3
 try clear N3
 refine Zo ?_
 refine Zm fun Q hQ=>?_
 refine Yl (γ:=Nat) (fun i=>i≤m)
  (fun i=>([(0,v),(2,.slice none 0 0),(3,tv h.length m),(11,v),(12,Zd (m:Nat)),(13,Zd (i:Nat))],tabH h (Wu (rwM p) m i 0))) (fun i=>m-i) 0 (Nat.zero_le _) (by simp (maxSteps:=2000000) only [vup,cond_true,cond_false,Nat.reduceBEq,Int.natCast_zero]) rfl ?_
 intro i hi
 refine Zm fun Q2 hQ2=>?_
 simp only [l47_1]
 by_cases hin:(i:Int)<(m:Int)
 · have hi' : i<m:=by omega
   have hix:i<xs.length:=by omega
   obtain ⟨a1,a2,a3⟩:=chn_gn c hix
   refine Ze fun N4 hN4=>?_
   simp (maxSteps:=2000000) only [↓Za,↓Zb,↓Zc,vup,cond_true,cond_false,aop,Zg,ev,sput,Zf,Zv,Zx,Nat.reduceBEq,hin]
   refine hN4 [(0,v),(2,.slice none 0 0),(3,tv h.length m),(11,v),(12,Zd (m:Nat)),(13,Zd (i:Nat)),(14,.bool true)] _ _ ?_ (by simp (maxSteps:=2000000) only [vup,cond_true,cond_false,Nat.reduceBEq])
   clear hN4
   try clear N4
   refine Ze fun N5 hN5=>?_
   simp (maxSteps:=2000000) only [↓Zn,↓vdn,vup,cond_true,cond_false,Zg,ev,Nat.reduceBEq]
   refine hN5 [(0,v),(2,.slice none 0 0),(3,tv h.length m),(11,v),(12,Zd (m:Nat)),(13,Zd (i:Nat))] _ _ ?_ (by simp (maxSteps:=2000000) only [vup,cond_true,cond_false,Nat.reduceBEq])
   clear hN5
   try clear N5
   refine Zk fun B hB=>?_
   refine Zo ?_
   refine Ze fun N6 hN6=>?_
   simp (maxSteps:=2000000) only [↓Za,↓Zb,↓Zc,vup,cond_true,cond_false,aop,Zg,ev,sput,Zf,Nat.reduceBEq,(hv1 i 0).idx Xt Xe hix,(hv1 i 0).load Xf hix,a1]
   refine hN6 [(0,v),(2,.slice none 0 0),(3,tv h.length m),(4,Zd (i:Nat)),(5,Zd (gn xs i:Nat)),(11,v),(12,Zd (m:Nat)),(13,Zd (i:Nat))] _ _ ?_ (by simp (maxSteps:=2000000) only [vup,cond_true,cond_false,Nat.reduceBEq])
   clear hN6
   try clear N6
   refine Ze fun N7 hN7=>?_
   simp (maxSteps:=2000000) only [↓Za,↓Zb,↓Zc,vup,List.map_cons,List.map_nil,cond_true,cond_false,aop,Zg,ev,sput,Zf,Zi,Nat.reduceBEq,tyf,hlen]
   refine hN7 [(0,v),(2,.slice none 0 0),(3,tv h.length m),(4,Zd (i:Nat)),(5,Zd (gn xs i:Nat)),(11,v),(12,Zd (m:Nat)),(13,Zd (i:Nat)),(18,v),(19,Zd (m:Nat)),(20,.int .i64 0)] _ _ ?_ (by simp (maxSteps:=2000000) only [vup,cond_true,cond_false,Nat.reduceBEq])
   clear hN7
   try clear N7
   refine Zo ?_
   refine Zm fun Qa hQa=>?_
   refine Yl (γ:=Nat) (fun j=>j≤m)
    (fun j=>([(0,v),(2,.slice none 0 0),(3,tv h.length m),(4,Zd (i:Nat)),(5,Zd (gn xs i:Nat)),(11,v),(12,Zd (m:Nat)),(13,Zd (i:Nat)),(18,v),(19,Zd (m:Nat)),(20,Zd (j:Nat))],tabH h (Wu (rwM p) m i j))) (fun j=>m-j) 0 (Nat.zero_le _) (by simp (maxSteps:=2000000) only [vup,cond_true,cond_false,Nat.reduceBEq,Int.natCast_zero]) rfl ?_
   intro j hj
   refine Zm fun Qb hQb=>?_
   simp only [l47_0]
   by_cases hjn:(j:Int)<(m:Int)
   · have hj' : j<m:=by omega
     have hjx:j<xs.length:=by omega
     obtain ⟨b1,b2,b3⟩:=chn_gn c hjx
     have hand:Wj .and .i64 ((gn xs i:Nat):Int) ((gn xs j:Nat):Int)=((gn xs i &&& gn xs j:Nat):Int):=bitsV_and (by omega) (by omega)
     have hne:(((gn xs i &&& gn xs j:Nat):Int) != 0)=p i j:=by rw [bneZ,hp,cfP]; rfl
     refine Ze fun N8 hN8=>?_
     simp (maxSteps:=2000000) only [↓Za,↓Zb,↓Zc,vup,cond_true,cond_false,aop,Zg,ev,sput,Zf,Zv,Zx,Nat.reduceBEq,hjn]
     refine hN8 [(0,v),(2,.slice none 0 0),(3,tv h.length m),(4,Zd (i:Nat)),(5,Zd (gn xs i:Nat)),(11,v),(12,Zd (m:Nat)),(13,Zd (i:Nat)),(18,v),(19,Zd (m:Nat)),(20,Zd (j:Nat)),(21,.bool true)] _ _ ?_ (by simp (maxSteps:=2000000) only [vup,cond_true,cond_false,Nat.reduceBEq])
     clear hN8
     try clear N8
     refine Ze fun N9 hN9=>?_
     simp (maxSteps:=2000000) only [↓Zn,↓vdn,vup,cond_true,cond_false,Zg,ev,Nat.reduceBEq]
     refine hN9 [(0,v),(2,.slice none 0 0),(3,tv h.length m),(4,Zd (i:Nat)),(5,Zd (gn xs i:Nat)),(11,v),(12,Zd (m:Nat)),(13,Zd (i:Nat)),(18,v),(19,Zd (m:Nat)),(20,Zd (j:Nat))] _ _ ?_ (by simp (maxSteps:=2000000) only [vup,cond_true,cond_false,Nat.reduceBEq])
     clear hN9
     try clear N9
     refine Zk fun D hD=>?_
     refine Zo ?_
     refine Ze fun N10 hN10=>?_
     simp (maxSteps:=2000000) only [↓Za,↓Zb,↓Zc,vup,cond_true,cond_false,aop,Zg,ev,sput,Zf,Nat.reduceBEq,(hv1 i j).idx Xt Xe hjx,(hv1 i j).load Xf hjx,b1]
     refine hN10 [(0,v),(2,.slice none 0 0),(3,tv h.length m),(4,Zd (i:Nat)),(5,Zd (gn xs i:Nat)),(6,Zd (j:Nat)),(7,Zd (gn xs j:Nat)),(11,v),(12,Zd (m:Nat)),(13,Zd (i:Nat)),(18,v),(19,Zd (m:Nat)),(20,Zd (j:Nat))] _ _ ?_ (by simp (maxSteps:=2000000) only [vup,cond_true,cond_false,Nat.reduceBEq])
     clear hN10
     try clear N10
     have fin : ∀ G,G=tabH h (Wu (rwM p) m i (j+1))→∀ e,ELe e [(0,v),(2,.slice none 0 0),(3,tv h.length m),(4,Zd (i:Nat)),(5,Zd (gn xs i:Nat)),(11,v),(12,Zd (m:Nat)),(13,Zd (i:Nat)),(18,v),(19,Zd (m:Nat)),(20,Zd (j:Nat))]→D e G:=by
      rintro _ rfl e he
      refine hD [(0,v),(2,.slice none 0 0),(3,tv h.length m),(4,Zd (i:Nat)),(5,Zd (gn xs i:Nat)),(11,v),(12,Zd (m:Nat)),(13,Zd (i:Nat)),(18,v),(19,Zd (m:Nat)),(20,Zd (j:Nat))] _ _ ?_ he
      refine Zj ?_
      simp (maxSteps:=2000000) only [↓Za,↓Zb,↓Zc,vup,cond_true,cond_false,aop,ev,sput,Zf,Zv,Zx,Nat.reduceBEq,Wx (show j<9223372036854775807 by omega)]
      exact hQb _ _ _ ⟨j+1,hj',by omega,by simp (maxSteps:=2000000) only [vup,cond_true,cond_false,Nat.reduceBEq],rfl⟩
     have same:(i==j)=true∨p i j=false→tabH h (Wu (rwM p) m i j)=tabH h (Wu (rwM p) m i (j+1)):=fun h1=>by
      rw [tabH,tabH,← rowsN_set (j:=j) (k:=j+1),rwM_no h1,rowsN_set]
     cases hij:(i==j) with
     | true =>
       refine Ze fun N11 hN11=>?_
       simp (maxSteps:=2000000) only [↓Za,↓Zb,↓Zc,↓vdn,vup,cond_true,cond_false,aop,Zg,ev,sput,Zf,Zv,Zx,Nat.reduceBEq,bneN,hij]
       refine hN11 [(0,v),(2,.slice none 0 0),(3,tv h.length m),(4,Zd (i:Nat)),(5,Zd (gn xs i:Nat)),(6,Zd (j:Nat)),(7,Zd (gn xs j:Nat)),(11,v),(12,Zd (m:Nat)),(13,Zd (i:Nat)),(18,v),(19,Zd (m:Nat)),(20,Zd (j:Nat)),(33,.bool false)] _ _ ?_ (by simp (maxSteps:=2000000) only [vup,cond_true,cond_false,Nat.reduceBEq])
       clear hN11
       try clear N11
       refine Yg rfl ?_
       refine Zj ?_
       simp (maxSteps:=2000000) only [↓Zn,Zg,Zl]
       exact fin _ (same (.inl hij)) _ (by simp (maxSteps:=2000000) only [vup,cond_true,cond_false,Nat.reduceBEq])
     | false =>
       cases hpp:p i j with
       | false =>
         rw [hpp] at hne
         refine Ze fun N12 hN12=>?_
         simp (maxSteps:=2000000) only [↓Za,↓Zb,↓Zc,↓vdn,vup,cond_true,cond_false,aop,Zg,ev,sput,Zf,Zv,Zx,Nat.reduceBEq,bneN,hij,hand,hne]
         refine hN12 [(0,v),(2,.slice none 0 0),(3,tv h.length m),(4,Zd (i:Nat)),(5,Zd (gn xs i:Nat)),(6,Zd (j:Nat)),(7,Zd (gn xs j:Nat)),(11,v),(12,Zd (m:Nat)),(13,Zd (i:Nat)),(18,v),(19,Zd (m:Nat)),(20,Zd (j:Nat)),(33,.bool false)] _ _ ?_ (by simp (maxSteps:=2000000) only [vup,cond_true,cond_false,Nat.reduceBEq])
         clear hN12
         try clear N12
         refine Yg rfl ?_
         refine Zj ?_
         simp (maxSteps:=2000000) only [↓Zn,Zg,Zl]
         exact fin _ (same (.inr hpp)) _ (by simp (maxSteps:=2000000) only [vup,cond_true,cond_false,Nat.reduceBEq])
       | true =>
         rw [hpp] at hne
         refine Ze fun N13 hN13=>?_
         simp (maxSteps:=2000000) only [↓Za,↓Zb,↓Zc,↓vdn,vup,cond_true,cond_false,aop,Zg,ev,sput,Zf,Zv,Zx,Nat.reduceBEq,bneN,hij,hand,hne]
         refine hN13 [(0,v),(2,.slice none 0 0),(3,tv h.length m),(4,Zd (i:Nat)),(5,Zd (gn xs i:Nat)),(6,Zd (j:Nat)),(7,Zd (gn xs j:Nat)),(11,v),(12,Zd (m:Nat)),(13,Zd (i:Nat)),(18,v),(19,Zd (m:Nat)),(20,Zd (j:Nat)),(33,.bool true)] _ _ ?_ (by simp (maxSteps:=2000000) only [vup,cond_true,cond_false,Nat.reduceBEq])
         clear hN13
         try clear N13
         refine Yx rfl ?_
         refine Zj ?_
         have p1:=rwM_lt p i j
         have p2:2 ^ (j+1)≤2 ^ 6:=Nat.pow_le_pow_right (by decide) (by omega)
         have p3:2 ^ (j+1)=2 ^ j*2:=Nat.pow_succ ..
         have hor:Wj .or .i64 ((rwM p i j:Nat):Int) ((2 ^ j:Nat):Int)=((rwM p i (j+1):Nat):Int):=by
          rw [bitsV_or (by omega) (by omega),rwM_yes hij hpp]
         refine Xp [] (by kernel_rfl) (by kernel_rfl) (by kernel_rfl) (by kernel_rfl) ?_
         simp (maxSteps:=2000000) only [↓Yw,↓vdn,vup,cond_true,cond_false,aop,Zg,Zl,ev,sput,Zf,Zv,Zx,Nat.reduceBEq,Nat.reduceAdd,tyf,tH_idx Xt hi',tH_load hi',hnn,shlI1 (show j≤62 by omega),hor,tH_store hi']
         exact fin _ rfl _ (by simp (maxSteps:=2000000) only [vup,cond_true,cond_false,Nat.reduceBEq])
   · obtain rfl:j=m:=by omega
     refine Ze fun N14 hN14=>?_
     simp (maxSteps:=2000000) only [↓Za,↓Zb,↓Zc,vup,cond_true,cond_false,aop,Zg,ev,sput,Zf,Zv,Zx,Nat.reduceBEq,hjn]
     refine hN14 [(0,v),(2,.slice none 0 0),(3,tv h.length j),(4,Zd (i:Nat)),(5,Zd (gn xs i:Nat)),(11,v),(12,Zd (j:Nat)),(13,Zd (i:Nat)),(18,v),(19,Zd (j:Nat)),(20,Zd (j:Nat)),(21,.bool false)] _ _ ?_ (by simp (maxSteps:=2000000) only [vup,cond_true,cond_false,Nat.reduceBEq])
     clear hN14
     try clear N14
     refine Ze fun N15 hN15=>?_
     simp (maxSteps:=2000000) only [↓Yi,↓vdn,vup,cond_true,cond_false,Zg,ev,Nat.reduceBEq]
     refine hQb _ _ _ (hQa _ _ _ ?_)
     simp (maxSteps:=2000000) only [Zg,Zl,if_true]
     refine hB [(0,v),(2,.slice none 0 0),(3,tv h.length j),(11,v),(12,Zd (j:Nat)),(13,Zd (i:Nat))] _ _ ?_ (by simp (maxSteps:=2000000) only [vup,cond_true,cond_false,Nat.reduceBEq])
     clear hB
     try clear B
     refine Zj ?_
     simp (maxSteps:=2000000) only [↓Za,↓Zb,↓Zc,vup,cond_true,cond_false,aop,ev,sput,Zf,Zv,Zx,Nat.reduceBEq,Wx (show i<9223372036854775807 by omega)]
     refine hQ2 _ _ _ ⟨i+1,hi',by omega,by simp (maxSteps:=2000000) only [vup,cond_true,cond_false,Nat.reduceBEq],?_⟩
     simp only [tabH]
     rw [rowsN_next fun _=>rfl]
 · obtain rfl:i=m:=by omega
   refine Ze fun N16 hN16=>?_
   simp (maxSteps:=2000000) only [↓Za,↓Zb,↓Zc,vup,cond_true,cond_false,aop,Zg,ev,sput,Zf,Zv,Zx,Nat.reduceBEq,hin]
   refine hN16 [(0,v),(2,.slice none 0 0),(3,tv h.length i),(11,v),(12,Zd (i:Nat)),(13,Zd (i:Nat)),(14,.bool false)] _ _ ?_ (by simp (maxSteps:=2000000) only [vup,cond_true,cond_false,Nat.reduceBEq])
   clear hN16
   try clear N16
   refine Ze fun N17 hN17=>?_
   simp (maxSteps:=2000000) only [↓Yi,↓vdn,vup,cond_true,cond_false,Zg,ev,Nat.reduceBEq]
   refine hQ2 _ _ _ (hQ _ _ _ ?_)
   simp (maxSteps:=2000000) only [Zg,Zl,Zu,if_true]
   refine hZ [(0,v),(2,.slice none 0 0),(3,tv h.length i)] _ _ ?_ (by simp (maxSteps:=2000000) only [vup,cond_true,cond_false,Nat.reduceBEq])
   clear hZ
   try clear Z
   refine Zj ?_
   simp (maxSteps:=2000000) only [↓Za,↓Zp,↓Ya,↓Zb,↓Zc,vup,cond_true,cond_false,aop,Zg,ev,sput,Zf,Nat.reduceBEq,Zu,Xu,tup]
   have h1:=intSl_blk (Yp h (.ints (iL (Wu (rwM p) i i 0)) 3 false))
   rw [iL_len,Wr,rowsN_all] at h1
   refine ⟨?_,Ext.app _ _ _⟩
   rw [tabH,rowsN_all,cfL,← hp,← hm]
   exact h1
def rbs (xs:List Int):Nat→List Nat
 | 0=>[]
 | o+1=>if setO xs o≠0 then rbs xs o++[setO xs o] else rbs xs o
theorem mem_rbs {xs:List Int} {s:Nat} : ∀ {k:Nat},s∈rbs xs k↔s≠0∧∃ o,o<k∧s=setO xs o
 | 0=>by rw [rbs]; exact ⟨fun h=>(by cases h),fun ⟨_,o,h,_⟩=>absurd h (Nat.not_lt_zero o)⟩
 | k+1=>by
   have ih:=mem_rbs (xs:=xs) (s:=s) (k:=k)
   rw [rbs]
   by_cases h0:setO xs k=0
   · rw [if_neg (fun h=>h h0),ih]
     refine ⟨fun ⟨a,o,ho,e⟩=>⟨a,o,by omega,e⟩,fun ⟨a,o,ho,e⟩=>⟨a,o,?_,e⟩⟩
     by_cases hok:o=k
     · rw [hok,h0] at e; exact absurd e a
     · omega
   · rw [if_pos h0,List.mem_append,List.mem_singleton,ih]
     constructor
     · rintro (⟨a,o,ho,e⟩ | e)
       · exact ⟨a,o,by omega,e⟩
       · exact ⟨e▸h0,k,by omega,e⟩
     · rintro ⟨a,o,ho,e⟩
       by_cases hok:o=k
       · exact .inr (hok▸e)
       · exact .inl ⟨a,o,by omega,e⟩
theorem rbs_len (xs:List Int) : ∀ k,(rbs xs k).length≤k
 | 0=>Nat.le_refl _
 | k+1=>by
   have:=rbs_len xs k
   rw [rbs]
   split
   · rw [List.length_append]; simp only [List.length_singleton]; omega
   · omega
theorem rbs_bs {xs:List Int} {k s:Nat}:s∈rbs xs k↔s∈bsTo xs k:=by rw [mem_rbs,mem_bsTo]
theorem opt_congr {n:Nat} {A B:List Nat} {q:Rat} (h:Bq.IsOpt n A q) (hm : ∀ s,s∈A↔s∈B):Bq.IsOpt n B q:=by
 obtain ⟨x,hx,e⟩:=h.at_
 exact ⟨⟨x,⟨hx.1,fun s hs=>hx.2 s ((hm s).2 hs)⟩,e⟩,fun y hy=>h.le y ⟨hy.1,fun s hs=>hy.2 s ((hm s).1 hs)⟩⟩
theorem one_over {q:Rat} (h:0<q):qV (1 / q)=frV q.den q.num:=by
 have hn:0<q.num:=rnum_pos.2 h
 have h0:q≠0:=fun h0=>by rw [h0] at h; exact absurd h (by decide)
 have e:=sm_div (a:=1) h0
 rw [show (1:Rat).num=1 from rfl,show (1:Rat).den=1 from rfl,Int.one_mul,Int.natCast_one,Int.one_mul] at e
 have h1:=wq_parts (p:=((q.den:Int),q.num)) (by show 1≤q.num; omega) (by
  show Nat.gcd (q.den:Int).natAbs q.num.natAbs=1
  rw [Int.natAbs_natCast,Nat.gcd_comm]; exact q.reduced)
 rw [wq] at h1
 simp only at h1
 rw [e] at h1
 rw [qV,h1.1,h1.2]
theorem s48_callW [Tabs Tryd.prog] {args:List Value} {h:Zh} {Q:Value→Zh→Prop} (hsz:args.length≤40) (hk:AWS Tryd.prog 40 s48 (Zu Tryd.prog [.cell 2 44] Q) (Zt 0 args) h):ACall Tryd.prog 48 args h Q :=
 Xd Tryd.func48 rfl (enters_of Tryd.func48 (by kernel_rfl) rfl) rfl rfl (by decide) s48_strip s48_ok hsz hk
theorem rback_call [Tabs prog] {h:Zh} {v:Value} {xs:List Int} (hv:IntSl h v xs) (c:Chn xs) :
  ACall prog 48 [v] h fun r h'=>Ext (fun _=>False) h h'∧∃ q,r=frV q.den q.num∧BQ xs q:=by
 have h6:=c.2.1
 have h1n:=c.1
 obtain ⟨H,hH⟩ : ∃ H,H=h++[z0]:=⟨_,rfl⟩
 have hc:H[h.length]? = some z0:=by rw [hH]; exact Yp _ _
 have hv0:IntSl H v xs:=hH▸hv.grow _
 have hE0:Ext (fun _=>False) h H:=hH▸Ext.app _ _ _
 refine s48_callW (by simp) ?_
 simp only [s48]
 refine Ze fun N18 hN18=>?_
 simp (maxSteps:=2000000) only [↓Za,↓Zb,↓Zc,vup,cond_false,aop,Zg,Zt,sput,Zf,Nat.reduceBEq,tyf,Xv,Xc,← hH]
 refine hN18 [(0,v),(2,pT h.length)] _ _ ?_ (by simp (maxSteps:=2000000) only [vup,cond_true,cond_false,Nat.reduceBEq])
 clear hN18
 try clear N18
 refine Ze fun N19 hN19=>?_
 simp (maxSteps:=2000000) only [↓Za,↓Zb,↓Zc,vup,cond_false,aop,Zg,ev,sput,Zf,Nat.reduceBEq]
 refine hN19 [(0,v),(2,pT h.length),(3,.slice none 0 0)] _ _ ?_ (by simp (maxSteps:=2000000) only [vup,cond_true,cond_false,Nat.reduceBEq])
 clear hN19
 try clear N19
 refine Zk fun Z hZ=>?_
 refine Ze fun N20 hN20=>?_
 simp (maxSteps:=2000000) only [↓Za,↓Zb,↓Zc,vup,cond_false,aop,Zg,ev,sput,Zf,Nat.reduceBEq]
 refine hN20 [(0,v),(2,pT h.length),(3,.slice none 0 0),(8,.int .i64 0)] _ _ ?_ (by simp (maxSteps:=2000000) only [vup,cond_true,cond_false,Nat.reduceBEq])
 clear hN20
 try clear N20
 refine Zo ?_
 refine Zm fun Q hQ=>?_
 refine Yl (γ:=Nat×Zh×Value) (fun g=>g.1≤8∧RSI H g.2.1 g.2.2 (iL (rbs xs g.1)))
  (fun g=>([(0,v),(2,pT h.length),(3,g.2.2),(8,Zd (g.1:Nat))],g.2.1)) (fun g=>8-g.1) (0,H,.slice none 0 0) ⟨Nat.zero_le _,RSI.nil H⟩ (by simp (maxSteps:=2000000) only [vup,cond_true,cond_false,Nat.reduceBEq,Int.natCast_zero]) rfl ?_
 rintro ⟨o,G,sv⟩ ⟨ho,hsv⟩
 simp only at ho hsv
 refine Zm fun Q2 hQ2=>?_
 simp only [l48_1]
 have hvG:IntSl G v xs:=Xn hv0 hsv.2.1
 by_cases hon:(o:Int)<8
 · have ho' : o<8:=by omega
   refine Ze fun N21 hN21=>?_
   simp (maxSteps:=2000000) only [↓Za,↓Zb,↓Zc,vup,cond_true,cond_false,aop,Zg,ev,sput,Zf,Zv,Zx,Nat.reduceBEq,hon]
   refine hN21 [(0,v),(2,pT h.length),(3,sv),(8,Zd (o:Nat)),(9,.bool true)] _ _ ?_ (by simp (maxSteps:=2000000) only [vup,cond_true,cond_false,Nat.reduceBEq])
   clear hN21
   try clear N21
   refine Ze fun N22 hN22=>?_
   simp (maxSteps:=2000000) only [↓Zn,↓vdn,vup,cond_true,cond_false,Zg,ev,Nat.reduceBEq]
   refine hN22 [(0,v),(2,pT h.length),(3,sv),(8,Zd (o:Nat))] _ _ ?_ (by simp (maxSteps:=2000000) only [vup,cond_true,cond_false,Nat.reduceBEq])
   clear hN22
   try clear N22
   refine Zk fun B hB=>?_
   refine Zo ?_
   refine Ze fun N23 hN23=>?_
   simp (maxSteps:=2000000) only [↓Za,↓Zb,↓Zc,vup,cond_true,cond_false,aop,Zg,ev,sput,Zf,Nat.reduceBEq]
   refine hN23 [(0,v),(2,pT h.length),(3,sv),(4,Zd (o:Nat)),(8,Zd (o:Nat))] _ _ ?_ (by simp (maxSteps:=2000000) only [vup,cond_true,cond_false,Nat.reduceBEq])
   clear hN23
   try clear N23
   refine Ze fun N24 hN24=>?_
   simp (maxSteps:=2000000) only [↓Za,↓Zb,↓Zc,vup,cond_false,aop,Zg,ev,sput,Zf,Nat.reduceBEq]
   refine hN24 [(0,v),(2,pT h.length),(3,sv),(4,Zd (o:Nat)),(5,.int .i64 0),(8,Zd (o:Nat))] _ _ ?_ (by simp (maxSteps:=2000000) only [vup,cond_true,cond_false,Nat.reduceBEq])
   clear hN24
   try clear N24
   refine Zk fun A hA=>?_
   refine Ze fun N25 hN25=>?_
   simp (maxSteps:=2000000) only [↓Za,↓Zb,↓Zc,vup,List.map_cons,List.map_nil,cond_true,cond_false,aop,Zg,ev,sput,Zf,Zi,Nat.reduceBEq,tyf,hvG.len]
   refine hN25 [(0,v),(2,pT h.length),(3,sv),(4,Zd (o:Nat)),(5,.int .i64 0),(8,Zd (o:Nat)),(11,v),(12,Zd xs.length),(13,.int .i64 0)] _ _ ?_ (by simp (maxSteps:=2000000) only [vup,cond_true,cond_false,Nat.reduceBEq])
   clear hN25
   try clear N25
   refine Zo ?_
   refine Zm fun Qa hQa=>?_
   refine Yl (γ:=Nat) (fun i=>i≤xs.length) (fun i=>([(0,v),(2,pT h.length),(3,sv),(4,Zd (o:Nat)),(5,Zd (setT xs o i:Nat)),(8,Zd (o:Nat)),(11,v),(12,Zd xs.length),(13,Zd (i:Nat))],G)) (fun i=>xs.length-i) 0 (Nat.zero_le _) (by simp (maxSteps:=2000000) only [vup,cond_true,cond_false,Nat.reduceBEq,Int.natCast_zero,show setT xs o 0=0 from rfl]) rfl ?_
   rintro i hi
   refine Zm fun Qb hQb=>?_
   simp only [l48_0]
   by_cases hin:(i:Int)<xs.length
   · have hi' : i<xs.length:=by omega
     obtain ⟨a1,_,a3⟩:=chn_gn c hi'
     have hnn : ∀ i:Nat,(0:Int)≤(i:Int):=Int.natCast_nonneg
     have htst:=@testV (gn xs i) o (by omega)
     have hlt:=setT_lt xs o (i:=i) (by omega)
     have hp:2 ^ i<64:=Nat.lt_of_lt_of_le (Nat.pow_lt_pow_right (by decide) hi') (pow6N h6)
     have hsh:shlV .i64 (if (gn xs i).testBit o=true then 1 else 0) (i:Int)=(((if (gn xs i).testBit o=true then 2 ^ i else 0):Nat):Int):=by
      split
      · exact shlI1 (by omega)
      · have:=shlV_nat (a:=0) (y:=i) (by simp) (by omega)
        simpa using this
     have hor:Wj .or .i64 ((setT xs o i:Nat):Int) (((if (gn xs i).testBit o=true then 2 ^ i else 0):Nat):Int)=((setT xs o (i+1):Nat):Int):=by
      rw [bitsV_or (by omega) (by split <;> omega),setT_succ]
     refine Ze fun N26 hN26=>?_
     simp (maxSteps:=2000000) only [↓Za,↓Zb,↓Zc,vup,cond_true,cond_false,aop,Zg,ev,sput,Zf,Zv,Zx,Nat.reduceBEq,hin]
     refine hN26 [(0,v),(2,pT h.length),(3,sv),(4,Zd (o:Nat)),(5,Zd (setT xs o i:Nat)),(8,Zd (o:Nat)),(11,v),(12,Zd xs.length),(13,Zd (i:Nat)),(14,.bool true)] _ _ ?_ (by simp (maxSteps:=2000000) only [vup,cond_true,cond_false,Nat.reduceBEq])
     clear hN26
     try clear N26
     refine Ze fun N27 hN27=>?_
     simp (maxSteps:=2000000) only [↓Zn,↓vdn,vup,cond_true,cond_false,Zg,ev,Nat.reduceBEq]
     refine hN27 [(0,v),(2,pT h.length),(3,sv),(4,Zd (o:Nat)),(5,Zd (setT xs o i:Nat)),(8,Zd (o:Nat)),(11,v),(12,Zd xs.length),(13,Zd (i:Nat))] _ _ ?_ (by simp (maxSteps:=2000000) only [vup,cond_true,cond_false,Nat.reduceBEq])
     clear hN27
     try clear N27
     refine Zk fun D hD=>?_
     refine Zo ?_
     refine Ze fun N28 hN28=>?_
     simp (maxSteps:=2000000) only [↓Za,↓Zb,↓Zc,vup,cond_true,cond_false,aop,Zg,ev,sput,Zf,Nat.reduceBEq,hvG.idx Xt Xe hi',hvG.load Xf hi',a1]
     refine hN28 [(0,v),(2,pT h.length),(3,sv),(4,Zd (o:Nat)),(5,Zd (setT xs o i:Nat)),(6,Zd (i:Nat)),(7,Zd (gn xs i:Nat)),(8,Zd (o:Nat)),(11,v),(12,Zd xs.length),(13,Zd (i:Nat))] _ _ ?_ (by simp (maxSteps:=2000000) only [vup,cond_true,cond_false,Nat.reduceBEq])
     clear hN28
     try clear N28
     refine Zj ?_
     simp (maxSteps:=2000000) only [↓Za,↓Zb,↓Zc,vup,cond_true,cond_false,aop,Zg,Zl,ev,sput,Zf,Zv,Zx,Nat.reduceBEq,hnn,htst,hsh,hor]
     refine hD [(0,v),(2,pT h.length),(3,sv),(4,Zd (o:Nat)),(5,Zd (setT xs o (i+1):Nat)),(8,Zd (o:Nat)),(11,v),(12,Zd xs.length),(13,Zd (i:Nat))] _ _ ?_ (by simp (maxSteps:=2000000) only [vup,cond_true,cond_false,Nat.reduceBEq])
     clear hD
     try clear D
     refine Zj ?_
     simp (maxSteps:=2000000) only [↓Za,↓Zb,↓Zc,vup,cond_true,cond_false,aop,ev,sput,Zf,Zv,Zx,Nat.reduceBEq,Wx (show i<9223372036854775807 by omega)]
     exact hQb _ _ _ ⟨i+1,hi',by omega,by simp (maxSteps:=2000000) only [vup,cond_true,cond_false,Nat.reduceBEq],rfl⟩
   obtain rfl:i=xs.length:=by omega
   refine Ze fun N29 hN29=>?_
   simp (maxSteps:=2000000) only [↓Za,↓Zb,↓Zc,vup,cond_true,cond_false,aop,Zg,ev,sput,Zf,Zv,Zx,Nat.reduceBEq,hin]
   refine hN29 [(0,v),(2,pT h.length),(3,sv),(4,Zd (o:Nat)),(5,Zd (setT xs o xs.length:Nat)),(8,Zd (o:Nat)),(11,v),(12,Zd xs.length),(13,Zd xs.length),(14,.bool false)] _ _ ?_ (by simp (maxSteps:=2000000) only [vup,cond_true,cond_false,Nat.reduceBEq])
   clear hN29
   try clear N29
   refine Ze fun N30 hN30=>?_
   simp (maxSteps:=2000000) only [↓Yi,↓vdn,vup,cond_true,cond_false,Zg,ev,Nat.reduceBEq]
   refine hQb _ _ _ (hQa _ _ _ ?_)
   simp (maxSteps:=2000000) only [Zg,Zl,if_true]
   refine hA [(0,v),(2,pT h.length),(3,sv),(4,Zd (o:Nat)),(5,Zd (setT xs o xs.length:Nat)),(8,Zd (o:Nat))] _ _ ?_ (by simp (maxSteps:=2000000) only [vup,cond_true,cond_false,Nat.reduceBEq])
   clear hA
   try clear A
   clear hQa hQb
   have hset:setT xs o xs.length=setO xs o:=rfl
   rw [hset]
   have nxt : ∀ G' sv',RSI H G' sv' (iL (rbs xs (o+1)))→∀ e,ELe e [(0,v),(2,pT h.length),(3,sv'),(8,Zd (o:Nat))]→B e G':=by
    intro G' sv' hs' e he
    refine hB [(0,v),(2,pT h.length),(3,sv'),(8,Zd (o:Nat))] _ _ ?_ he
    refine Zj ?_
    simp (maxSteps:=2000000) only [↓Za,↓Zb,↓Zc,vup,cond_true,cond_false,aop,ev,sput,Zf,Zv,Zx,Nat.reduceBEq,Wx (show o<9223372036854775807 by omega)]
    exact hQ2 _ _ _ ⟨(o+1,G',sv'),⟨ho',hs'⟩,by simp only; omega,by simp (maxSteps:=2000000) only [vup,cond_true,cond_false,Nat.reduceBEq],rfl⟩
   by_cases h0:setO xs o=0
   · have hz : ¬ (0:Int)<((setO xs o:Nat):Int):=by omega
     have e:rbs xs (o+1)=rbs xs o:=by rw [rbs,if_neg fun h=>h h0]
     refine Ze fun N31 hN31=>?_
     simp (maxSteps:=2000000) only [↓Za,↓Zb,↓Zc,vup,cond_true,cond_false,aop,Zg,ev,sput,Zf,Zv,Zx,Nat.reduceBEq,hz]
     refine hN31 [(0,v),(2,pT h.length),(3,sv),(4,Zd (o:Nat)),(5,Zd (setO xs o:Nat)),(8,Zd (o:Nat)),(28,.bool false)] _ _ ?_ (by simp (maxSteps:=2000000) only [vup,cond_true,cond_false,Nat.reduceBEq])
     clear hN31
     try clear N31
     refine Yg rfl ?_
     refine Zj ?_
     simp (maxSteps:=2000000) only [↓Zn,Zg,Zl]
     exact nxt G sv (e▸hsv) _ (by simp (maxSteps:=2000000) only [vup,cond_true,cond_false,Nat.reduceBEq])
   · have hz:(0:Int)<((setO xs o:Nat):Int):=by omega
     have hlen:(iL (rbs xs o)).length≤8:=by rw [iL_len]; have:=rbs_len xs o; omega
     have e:rbs xs (o+1)=rbs xs o++[setO xs o]:=by rw [rbs,if_pos h0]
     refine Ze fun N32 hN32=>?_
     simp (maxSteps:=2000000) only [↓Za,↓Zb,↓Zc,vup,cond_true,cond_false,aop,Zg,ev,sput,Zf,Zv,Zx,Nat.reduceBEq,hz]
     refine hN32 [(0,v),(2,pT h.length),(3,sv),(4,Zd (o:Nat)),(5,Zd (setO xs o:Nat)),(8,Zd (o:Nat)),(28,.bool true)] _ _ ?_ (by simp (maxSteps:=2000000) only [vup,cond_true,cond_false,Nat.reduceBEq])
     clear hN32
     try clear N32
     refine Yx rfl ?_
     refine Zj ?_
     simp (maxSteps:=2000000) only [↓Za,↓Zb,↓Zc,vup,List.map_cons,List.map_nil,cond_true,cond_false,aop,Zg,Zl,ev,sput,Zf,Zi,Nat.reduceBEq,litI1]
     refine hsv.push (by omega) fun sv' G' hs'=>?_
     refine nxt G' sv' ?_ _ (by simp (maxSteps:=2000000) only [vup,cond_true,cond_false,Nat.reduceBEq])
     rw [e,iL,List.map_append]; exact hs'
 obtain rfl:o=8:=by omega
 refine Ze fun N33 hN33=>?_
 simp (maxSteps:=2000000) only [↓Za,↓Zb,↓Zc,vup,cond_true,cond_false,aop,Zg,ev,sput,Zf,Zv,Zx,Nat.reduceBEq,hon]
 refine hN33 [(0,v),(2,pT h.length),(3,sv),(8,Zd (8:Nat)),(9,.bool false)] _ _ ?_ (by simp (maxSteps:=2000000) only [vup,cond_true,cond_false,Nat.reduceBEq])
 clear hN33
 try clear N33
 refine Ze fun N34 hN34=>?_
 simp (maxSteps:=2000000) only [↓Yi,↓vdn,vup,cond_true,cond_false,Zg,ev,Nat.reduceBEq]
 refine hQ2 _ _ _ (hQ _ _ _ ?_)
 simp (maxSteps:=2000000) only [Zg,Zl,Zu,if_true]
 refine hZ [(0,v),(2,pT h.length),(3,sv)] _ _ ?_ (by simp (maxSteps:=2000000) only [vup,cond_true,cond_false,Nat.reduceBEq])
 clear hZ
 try clear Z
 clear hQ hQ2
 have hcG:=(hsv.2.1.2 _ (Zz hc) id).trans hc
 have hcov : ∀ i,i<xs.length→∃ s∈rbs xs 8,s.testBit i=true:=fun i hi=>by
  obtain ⟨s,hs,hb⟩:=bs_cover c i hi
  exact ⟨s,rbs_bs.2 hs,hb⟩
 refine Zj ?_
 simp (maxSteps:=2000000) only [↓Za,↓Zp,↓Ya,↓Zb,↓Zc,vup,List.map_cons,List.map_nil,cond_true,cond_false,aop,Zg,ev,sput,Zf,Zi,Nat.reduceBEq,Zu,Xu,tup,tyf,bldF,hvG.len,Yz,List.nil_append,List.append_nil]
 refine (greatest_call (n:=xs.length) (sets:=rbs xs 8) hsv.1.int h6 (by have:=rbs_len xs 8; omega) (fun h=>?_) (fun s hs=>?_) hcov).mono ?_
 · obtain ⟨s,hs,_⟩:=hcov 0 (by omega)
   rw [h] at hs; cases hs
 · have:=bs_lt s (rbs_bs.1 hs)
   have:=pow6N h6
   omega
 rintro _ H1 ⟨q,rfl,hq,hE1⟩
 have hq:BQ xs q:=opt_congr hq fun s=>rbs_bs
 obtain ⟨n1,n2,n3⟩:=back_num c hq
 have hd:=q.den_pos
 have hq0:0<q:=rnum_pos.1 (by omega)
 have ho:=smover_call (h:=H1) (a:=1) (b:=q) (fun h=>by rw [h] at hq0; exact absurd hq0 (by decide)) (by rw [show (1:Rat).num=1 from rfl,Int.one_mul]; omega) (by rw [show (1:Rat).den=1 from rfl]; omega)
 rw [one_over hq0,show qV 1 = .agg #[Zd 1,Zd 1] from rfl] at ho
 have hc1:=(hE1.2 _ (Zz hcG) id).trans hcG
 refine ho.mono ?_
 rintro _ _ ⟨rfl,rfl⟩
 simp (maxSteps:=2000000) only [frV,Wy hc1 rfl,Vj (Xj (Zz hc1) _)]
 exact ⟨(hE0.trans (hsv.2.1.trans hE1)).set_ge (Nat.le_refl _) _,q,rfl,hq⟩
end Go.Proofs.Tryd.Am
namespace Go.Proofs.Tryd.Am
open Go.Am Sr
set_option maxRecDepth 100000
set_option maxHeartbeats 8000000
theorem s12_callW [Tabs Tryd.prog] {args:List Value} {h:Zh} {Q:Value→Zh→Prop} (hsz:args.length≤61) (hk:AWS Tryd.prog 61 s12 (Zu Tryd.prog [.tmp 2] Q) (Zt 0 args) h):ACall Tryd.prog 12 args h Q :=
 Xd Tryd.func12 rfl (enters_of Tryd.func12 (by kernel_rfl) rfl) rfl rfl (by decide) s12_strip s12_ok hsz hk
theorem law_confuses [BitTab prog 0] {h:Zh} {v:Value} {xs:List Int} (hv:IntSl h v xs) (hl:xs.length<9223372036854775808) (hx : ∀ x∈xs,-9223372036854775808≤x∧x<9223372036854775808) :
  ACall prog 12 [v] h fun r _=>r = .bool true:=by
 have e00:((0:Int)==0)=true:=rfl
 have e22:((2:Int)==2)=true:=rfl
 have ht7:(xs.take 80).length<9223372036854775807:=by rw [List.length_take]; omega
 refine s12_callW (by simp) ?_
 simp only [s12]
 refine Ze fun N1 hN1=>?_
 simp (maxSteps:=2000000) only [↓Za,↓Zb,↓Zc,vup,cond_false,aop,Zg,Zt,ev,sput,Zf,Nat.reduceBEq]
 refine hN1 [(0,v),(2,.bool false)] _ _ ?_ (by simp (maxSteps:=2000000) only [vup,cond_true,cond_false,Nat.reduceBEq])
 clear hN1
 try clear N1
 refine Ze fun N2 hN2=>?_
 simp (maxSteps:=2000000) only [↓Za,↓Zb,↓Zc,vup,List.map_cons,List.map_nil,cond_true,cond_false,aop,Zg,ev,sput,Zf,Nat.reduceBEq,Yz,List.nil_append,List.append_nil]
 refine (list_call hv hl).mono ?_
 rintro l1 _ ⟨hl1,g1,rfl⟩
 refine (conf_call hl1 ht7).mono ?_
 rintro r1 h1 ⟨hE1,hr1⟩
 rw [chB_take] at hr1
 have hE01:=(Ext.app (fun _=>False) h g1).trans hE1
 have hv1:=Xn hv hE01
 obtain ⟨cw,ce,rfl,hcf⟩ : ∃ w e,r1 = .tuple #[w,.int .i64 e]∧((chB xs=false∧e=2∧w = .slice none 0 0)∨(chB xs=true∧e=0∧IntSl h1 w (cfL xs))):=by
  cases hc:chB xs with
  | false=>rw [hc,if_neg (by decide)] at hr1; exact ⟨_,2,hr1,.inl ⟨rfl,rfl,rfl⟩⟩
  | true =>
    rw [hc,if_pos rfl] at hr1
    obtain ⟨w,a,b⟩:=hr1
    rw [chB_same hc] at b
    exact ⟨w,0,a,.inr ⟨rfl,rfl,b⟩⟩
 simp (maxSteps:=2000000) only [extr_20,extr_21]
 refine hN2 [(0,v),(2,.bool false),(3,cw),(4,.int .i64 ce)] _ _ ?_ (by simp (maxSteps:=2000000) only [vup,cond_true,cond_false,Nat.reduceBEq])
 clear hN2
 try clear N2
 clear hr1 hl1 hE1
 refine Ze fun N3 hN3=>?_
 simp (maxSteps:=2000000) only [↓Za,↓Zb,↓Zc,vup,List.map_cons,List.map_nil,cond_true,cond_false,aop,Zg,ev,sput,Zf,Nat.reduceBEq,Yz,List.nil_append,List.append_nil]
 refine (list_call hv1 hl).mono ?_
 rintro l2 _ ⟨hl2,g2,rfl⟩
 refine (back_call hl2 ht7).mono ?_
 rintro r2 h2 ⟨hE2,hr2⟩
 rw [chB_take] at hr2
 obtain ⟨px,py,be,rfl,hbk⟩ : ∃ x y e,r2 = .tuple #[.agg #[Zd x,Zd y],.int .i64 e]∧((chB xs=false∧e=2∧x=0∧y=0)∨(chB xs=true∧e=0∧∃ q:Rat,x=q.den∧y=q.num∧BQ xs q)):=by
  cases hc:chB xs with
  | false=>rw [hc,if_neg (by decide)] at hr2; exact ⟨0,0,2,hr2,.inl ⟨rfl,rfl,rfl,rfl⟩⟩
  | true =>
    rw [hc,if_pos rfl] at hr2
    obtain ⟨q,a,b⟩:=hr2
    rw [chB_same hc] at b
    exact ⟨q.den,q.num,0,a,.inr ⟨rfl,rfl,q,rfl,rfl,b⟩⟩
 simp (maxSteps:=2000000) only [extr_20,extr_21,tyf,Xv,Xc,newF]
 have hE02:=((Ext.app (fun _=>False) h1 g2).trans hE2).trans (Ext.app _ _ [Blk.cells [Zd px,Zd py] 44 false])
 have c5:=Yp h2 (Blk.cells [Zd px,Zd py] 44 false)
 generalize h2++[Blk.cells [Zd px,Zd py] 44 false]=H2 at hE02 c5 ⊢
 generalize h2.length=b5 at c5 ⊢
 refine hN3 [(0,v),(2,.bool false),(3,cw),(4,.int .i64 ce),(5,pT b5),(6,.int .i64 be)] _ _ ?_ (by simp (maxSteps:=2000000) only [vup,cond_true,cond_false,Nat.reduceBEq])
 clear hN3
 try clear N3
 have hv2:=Xn hv1 hE02
 clear hr2 hl2 hE2
 refine Zk fun A hA=>?_
 refine Ze fun N4 hN4=>?_
 simp (maxSteps:=2000000) only [↓Za,↓Zb,↓Zc,vup,List.map_cons,List.map_nil,cond_true,cond_false,aop,Zg,ev,sput,Zf,unK,Nat.reduceBEq,Yz,List.nil_append,List.append_nil]
 refine (rchan_call hv2 hl).mono ?_
 rintro _ H2 ⟨rfl,rfl⟩
 rcases hcf with ⟨hc,rfl,rfl⟩ | ⟨hc,rfl,hcw⟩
 · obtain ⟨rfl,rfl,rfl⟩:be=2∧px=0∧py=0:=by
    rcases hbk with h | h
    · exact h.2
    · rw [hc] at h; cases h.1
   simp (maxSteps:=2000000) only [vup,hc]
   refine hN4 [(0,v),(2,.bool false),(3,.slice none 0 0),(4,.int .i64 2),(5,pT b5),(6,.int .i64 2),(21,.bool true)] _ _ ?_ (by simp (maxSteps:=2000000) only [vup,cond_true,cond_false,Nat.reduceBEq])
   clear hN4
   try clear N4
   refine Yx rfl ?_
   refine Ze fun N5 hN5=>?_
   simp only [q12_4]
   have hl0 : ∀ (K:Value→Prop),lenK (.slice none 0 0) K=K (Zd 0):=fun K=>rfl
   refine Xw 4 fun N1 hN1=>?_
   simp (maxSteps:=2000000) only [↓Za,↓Zb,↓Zc,vup,List.map_cons,List.map_nil,cond_true,cond_false,aop,ev,sput,Zf,Zv,Zx,Zi,Nat.reduceBEq,tyf,List.take_succ_cons,List.take_zero,hl0,e00]
   refine hN1 _ _ ?_
   clear hN1 N1
   simp only [List.drop_succ_cons,List.drop_zero]
   refine Xw 2 fun N1 hN1=>?_
   simp (maxSteps:=2000000) only [↓Za,↓Zb,↓Zc,↓vdn,vup,List.map_cons,List.map_nil,cond_true,cond_false,aop,ev,sput,Zf,Nat.reduceBEq,Yz,List.nil_append,List.append_nil,List.take_succ_cons,List.take_zero,Vj c5]
   refine (none_call0).mono ?_
   rintro _ H6 ⟨hE6,rfl⟩
   refine hN1 _ _ ?_
   clear hN1 N1
   simp only [List.drop_succ_cons,List.drop_zero]
   refine Xw 2 fun N1 hN1=>?_
   simp (maxSteps:=2000000) only [↓Za,↓Zb,↓Zc,↓vdn,vup,cond_true,cond_false,aop,ev,sput,Zf,Nat.reduceBEq,List.take_succ_cons,List.take_zero]
   refine hN1 _ _ ?_
   clear hN1 N1
   simp only [List.drop_succ_cons,List.drop_zero]
   refine Xw 4 fun N1 hN1=>?_
   simp (maxSteps:=2000000) only [↓Za,↓Zb,↓Zc,↓vdn,vup,cond_true,cond_false,aop,ev,sput,Zf,Zv,Zx,Nat.reduceBEq,List.take_succ_cons,List.take_zero,e22]
   refine hN1 _ _ ?_
   clear hN1 N1
   simp only [List.drop_succ_cons,List.drop_zero]
   refine Xw 4 fun N1 hN1=>?_
   simp (maxSteps:=2000000) only [↓Za,↓Zb,↓Zc,↓vdn,vup,cond_true,cond_false,aop,ev,sput,Zf,Zv,Zx,Nat.reduceBEq,List.take_succ_cons,List.take_zero,e22]
   refine hN1 _ _ ?_
   clear hN1 N1
   simp only [List.drop_succ_cons,List.drop_zero]
   simp (maxSteps:=2000000) only [↓Za,↓Zb,↓Zc,↓vdn,vup,List.map_nil,cond_true,cond_false,aop,Zg,ev,sput,Zf,Nat.reduceBEq,Yz,List.append_nil]
   refine awk fun g _=>?_
   refine hN5 [(0,v),(2,.bool true),(3,.slice none 0 0),(4,.int .i64 2),(5,pT b5),(6,.int .i64 2),(21,.bool true)] _ _ ?_ (by simp (maxSteps:=2000000) only [vup,cond_true,cond_false,Nat.reduceBEq])
   clear hN5
   try clear N5
   refine Zj ?_
   simp (maxSteps:=2000000) only [↓Ya,vup,cond_true,cond_false,Zg,Nat.reduceBEq,Zu,Xu,tup]
 obtain ⟨rfl,q,rfl,rfl,hq⟩:be=0∧∃ q:Rat,px=q.den∧py=q.num∧BQ xs q:=by
  rcases hbk with h | h
  · rw [hc] at h; cases h.1
  · exact h.2
 have c:=Vl.1 hc
 have h6:=c.2.1
 simp (maxSteps:=2000000) only [vup,hc]
 refine hN4 [(0,v),(2,.bool false),(3,cw),(4,.int .i64 0),(5,pT b5),(6,.int .i64 0),(21,.bool false)] _ _ ?_ (by simp (maxSteps:=2000000) only [vup,cond_true,cond_false,Nat.reduceBEq])
 clear hN4
 try clear N4
 refine Yg rfl ?_
 refine Zj ?_
 simp (maxSteps:=2000000) only [↓Zn,Zg]
 refine hA [(0,v),(2,.bool false),(3,cw),(4,.int .i64 0),(5,pT b5),(6,.int .i64 0)] _ _ ?_ (by simp (maxSteps:=2000000) only [vup,cond_true,cond_false,Nat.reduceBEq])
 clear hA
 try clear A
 have hcw2:=Xn hcw hE02
 refine Ze fun N6 hN6=>?_
 refine aw_drawR (fun z=>z[b5]? = some (Blk.cells [Zd (q.den:Int),Zd q.num] 44 false)) [(2,4),(3,1),(9,5),(11,4),(19,4)] (by kernel_rfl) (by kernel_rfl) (by kernel_rfl) (by kernel_rfl) c5 ?_
 simp (maxSteps:=2000000) only [↓vdn,vup,List.map_cons,List.map_nil,cond_true,cond_false,aop,ev,sput,Zf,Nat.reduceBEq,Nat.reduceAdd,Yz,List.nil_append,List.append_nil]
 refine (rconf_call hv2 c).mono ?_
 rintro u H3 ⟨hu,hE3⟩
 have c5':=(hE3.2 _ (Zz c5) id).trans c5
 refine ⟨c5',?_⟩
 have hcl:=cfL_len xs
 have heq:=equal_call (Xn hcw2 hE3) hu (by omega) (by omega)
 rw [decide_eq_true rfl] at heq
 refine ⟨_,_,heq,rfl,?_⟩
 simp (maxSteps:=2000000) only [↓dopsR_nil,↓vdn,vup,List.map_cons,List.map_nil,cond_true,cond_false,aop,Zg,ev,sput,Zf,Zv,Zx,pickK,Nat.reduceBEq,Nat.reduceAdd,e00,Yz,List.nil_append,List.append_nil]
 refine ⟨.agg #[Zd q.den,Zd q.num],fun z hz=>by rw [Vj hz],?_⟩
 refine (rback_call (Xn hv2 hE3) c).mono ?_
 rintro _ H4 ⟨hE4,q',rfl,hq'⟩
 obtain rfl:=hq.inj hq'
 have c5'':=(hE4.2 _ (Zz c5') id).trans c5'
 refine ⟨c5'',?_⟩
 have hbn:(([(q.den:Int),q.num]:List Int)==[(q.den:Int),q.num])=true:=beq_self_eq_true _
 simp (maxSteps:=2000000) only [↓dopsR_nil,↓vdn,vup,List.map_nil,cond_true,cond_false,aop,Zg,ev,sput,Zf,Zv,Zx,pickK,Nat.reduceBEq,Nat.reduceAdd,frV,Xa,Option.map_some,List.length_cons,List.length_nil,Nat.zero_add,eqF,hbn,e00,Yz,List.append_nil]
 refine awk fun g7 hE7=>?_
 refine ⟨(hE7.2 _ (Zz c5'') id).trans c5'',?_⟩
 refine hN6 [(0,v),(2,.bool true),(3,cw),(4,.int .i64 0),(5,pT b5),(6,.int .i64 0)] _ _ ?_ (by simp (maxSteps:=2000000) only [vup,cond_true,cond_false,Nat.reduceBEq])
 clear hN6
 try clear N6
 refine Zj ?_
 simp (maxSteps:=2000000) only [↓Ya,vup,cond_true,cond_false,Nat.reduceBEq,Zu,Xu,tup]
end Go.Proofs.Tryd.Am
