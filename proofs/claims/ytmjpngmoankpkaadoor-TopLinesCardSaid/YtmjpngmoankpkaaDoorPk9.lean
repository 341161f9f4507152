/-
  bets: bets that are valid, in the program.
  bets: the corners.
  bets: the corners, found.
  bets: copies of slices; slices held against each other.
  bets: Sound; that the program is awake.
  bets: whether a belief agrees.
  bets: determinants, by their first column. Plain Lean, no program.
-/
import Derived.Test.YtmjpngmoankpkaaDoorPk8
import Derived.Test.YtmjpngmoankpkaaDoorPk7
import Derived.Test.YtmjpngmoankpkaaDoorPk6
import Derived.Test.YtmjpngmoankpkaaDoorPk5
set_option linter.all false
namespace Go.Proofs.Tryd.Am.Be
open Go.Proofs.Tryd.Am
open Go.Am Bq
set_option maxRecDepth 100000
set_option maxHeartbeats 1000000
abbrev bB (x y:Int):Blk:=.cells [Zd x,Zd y] 51 false
abbrev zB:Blk:=.cells [.int .i64 0,.int .i64 0] 51 false
theorem storeBt {h:Zh} {b:Nat} {x y:Int} {e:TypeId} {c:List Value} {K:Zh→Prop} (hb:h[b]? = some (.cells c e false)) (hc:c.length=2):Xq prog h 51 (.pointer (some ⟨b,0,none⟩)) (.agg #[Zd x,Zd y]) K=K (h.set b (.cells [Zd x,Zd y] e false)) :=
 storeA (vs:=[Zd x,Zd y]) hb (by rw [shp_51]; rfl) rfl (by rw [hc]; rfl)
theorem bA0 {b:Nat} {K:Value→Prop}:Yt prog 51 (.pointer (some ⟨b,0,none⟩)) 0 K=K (.pointer (some ⟨b,0,none⟩)):=fldA fld_51_0 Wm
theorem bA1 {b:Nat} {K:Value→Prop}:Yt prog 51 (.pointer (some ⟨b,0,none⟩)) 1 K=K (.pointer (some ⟨b,1,none⟩)):=fldA fld_51_1 Wm
theorem tA0 {b:Nat} {K:Value→Prop}:Yt prog 117 (.pointer (some ⟨b,0,none⟩)) 0 K=K (.pointer (some ⟨b,0,none⟩)):=fldA fld_117_0 Wm
theorem tA1 {b:Nat} {K:Value→Prop}:Yt prog 117 (.pointer (some ⟨b,0,none⟩)) 1 K=K (.pointer (some ⟨b,1,none⟩)):=fldA fld_117_1 esz_46
theorem boxB {h:Zh} {x y:Int} {K:Value→Zh→Prop}:boxK prog h 51 (.agg #[Zd x,Zd y]) K=K (Yg h) (h++[bB x y]):=by
 simp [boxK,esz_51,Yg,cellsOf]
theorem boxT {h:Zh} {n:Int} {v:Value} {K:Value→Zh→Prop}:boxK prog h 117 (.agg #[Zd n,v]) K=K (Yg h) (h++[.cells [Zd n,v] 117 false]):=by
 simp [boxK,esz_117,Yg,cellsOf]
theorem Jg {h:Zh} {b:Nat} {n:Int} {v:Value} {K:Value→Prop} (hb:h[b]? = some (.cells [Zd n,v] 117 false)):Xs prog h 3 (.pointer (some ⟨b,0,none⟩)) K=K (Zd n):=loadC hb Yy rfl
theorem loadT1 {h:Zh} {b:Nat} {n:Int} {v:Value} {K:Value→Prop} (hb:h[b]? = some (.cells [Zd n,v] 117 false)):Xs prog h 46 (.pointer (some ⟨b,1,none⟩)) K=K v:=loadC hb shp_46 rfl
theorem loadB0 {h:Zh} {b:Nat} {x y:Int} {K:Value→Prop} (hb:h[b]? = some (bB x y)):Xs prog h 3 (.pointer (some ⟨b,0,none⟩)) K=K (Zd x):=loadC hb Yy rfl
theorem loadB1 {h:Zh} {b:Nat} {x y:Int} {K:Value→Prop} (hb:h[b]? = some (bB x y)):Xs prog h 3 (.pointer (some ⟨b,1,none⟩)) K=K (Zd y):=loadC hb Yy rfl
theorem s64_callW [Tabs Tryd.prog] {args:List Value} {h:Zh} {Q:Value→Zh→Prop} (hsz:args.length≤19) (hk:AWS Tryd.prog 19 s64 (Zs Tryd.prog [.tmp 4] Q) (Zp 0 args) h):ACall Tryd.prog 64 args h Q :=
 Yz Tryd.func64 rfl (enters_of Tryd.func64 (by kernel_rfl) rfl) rfl rfl (by decide) s64_strip s64_ok hsz hk
theorem idxB_call [Tabs prog] {h:Zh} {v:Value} {ps:List (Int×Int)} {g:FuncId} {cap:Array Value} {f:Int×Int→Bool} (hv:PairSl h v ps) (hl:ps.length<9223372036854775808)
  (hc : ∀ h',Ext (fun _=>False) h h'→∀ p∈ps,Xj prog g ([.agg #[Zd p.1,Zd p.2]]++cap.toList) h' (.bool (f p))):ACall prog 64 [v,.func (.func g) #[] cap] h fun r h'=>h' = h∧∃ i:Int,r=Zd i∧decide (0≤i)=ps.any f:=by
 refine s64_callW (by simp) ?_
 simp only [s64]
 refine Zg fun N1 hN1=>?_
 simp (maxSteps:=2000000) only [↓Za,↓Zb,↓Zc,vup,cond_false,aop,Zf,Zp,ev,sput,Ze,Nat.reduceBEq,Nat.reduceAdd]
 refine hN1 [(0,v),(1,.func (.func g) #[] cap),(4,.int .i64 0)] _ _ ?_ (by simp (maxSteps:=2000000) only [vup,cond_true,cond_false,Nat.reduceBEq])
 clear hN1
 try clear N1
 refine Zt fun Z hZ=>?_
 refine Zg fun N2 hN2=>?_
 simp (maxSteps:=2000000) only [↓Za,↓Zb,↓Zc,vup,List.map_cons,List.map_nil,cond_true,cond_false,aop,Zf,ev,sput,Ze,Zi,Nat.reduceBEq,tyf,hv.len]
 refine hN2 [(0,v),(1,.func (.func g) #[] cap),(4,.int .i64 0),(6,v),(7,Zd ps.length),(8,.int .i64 0)] _ _ ?_ (by simp (maxSteps:=2000000) only [vup,cond_true,cond_false,Nat.reduceBEq])
 clear hN2
 try clear N2
 refine Zx ?_
 refine Zy fun Q hQ=>?_
 refine Xa (γ:=Nat) (fun k=>k≤ps.length∧∀ p∈ps.take k,f p=false)
  (fun k=>([(0,v),(1,.func (.func g) #[] cap),(4,.int .i64 0),(6,v),(7,Zd ps.length),(8,Zd (k:Nat))],h)) (fun k=>ps.length-k) 0 ⟨Nat.zero_le _,by simp⟩ (by simp (maxSteps:=2000000) only [vup,cond_true,cond_false,Nat.reduceBEq,Int.natCast_zero]) rfl ?_
 rintro k ⟨hk,hall⟩
 refine Zy fun Q2 hQ2=>?_
 simp only [l64_0]
 by_cases hin:(k:Int)<ps.length
 · have hk' : k<ps.length:=by omega
   obtain ⟨⟨x,y⟩,hxy⟩ : ∃ p,ps.getD k (0,0)=p:=⟨_,rfl⟩
   have hmem:(x,y)∈ps:=hxy▸Ji hk'
   refine Zg fun N3 hN3=>?_
   simp (maxSteps:=2000000) only [↓Za,↓Zb,↓Zc,vup,cond_true,cond_false,aop,Zf,ev,sput,Ze,Yf,Yi,Nat.reduceBEq,hin]
   refine hN3 [(0,v),(1,.func (.func g) #[] cap),(4,.int .i64 0),(6,v),(7,Zd ps.length),(8,Zd (k:Nat)),(9,.bool true)] _ _ ?_ (by simp (maxSteps:=2000000) only [vup,cond_true,cond_false,Nat.reduceBEq])
   clear hN3
   try clear N3
   refine Zg fun N4 hN4=>?_
   simp (maxSteps:=2000000) only [↓Zn,↓vdn,vup,cond_true,cond_false,Zf,ev,Nat.reduceBEq]
   refine hN4 [(0,v),(1,.func (.func g) #[] cap),(4,.int .i64 0),(6,v),(7,Zd ps.length),(8,Zd (k:Nat))] _ _ ?_ (by simp (maxSteps:=2000000) only [vup,cond_true,cond_false,Nat.reduceBEq])
   clear hN4
   try clear N4
   refine Zt fun B hB=>?_
   refine Zx ?_
   refine Zg fun N5 hN5=>?_
   simp (maxSteps:=2000000) only [↓Za,↓Zb,↓Zc,vup,cond_true,cond_false,aop,Zf,ev,sput,Ze,Nat.reduceBEq]
   refine hN5 [(0,v),(1,.func (.func g) #[] cap),(4,.int .i64 0),(5,Zd (k:Nat)),(6,v),(7,Zd ps.length),(8,Zd (k:Nat))] _ _ ?_ (by simp (maxSteps:=2000000) only [vup,cond_true,cond_false,Nat.reduceBEq])
   clear hN5
   try clear N5
   refine Zg fun N6 hN6=>?_
   simp (maxSteps:=2000000) only [↓Za,↓Zb,↓Zc,vup,List.map_cons,List.map_nil,cond_true,cond_false,aop,Zf,ev,sput,Ze,Nat.reduceBEq,hv.idx el_46 esz_51 hk',hv.load shp_51 hk',hxy,Yn,List.nil_append]
   refine (show Xj prog g ([.agg #[Zd x,Zd y]]++cap.toList) h (.bool (f (x,y))) from hc h (Ext.refl _ _) _ hmem).mono ?_
   rintro _ h ⟨rfl,rfl⟩
   refine hN6 [(0,v),(1,.func (.func g) #[] cap),(4,.int .i64 0),(5,Zd (k:Nat)),(6,v),(7,Zd ps.length),(8,Zd (k:Nat)),(16,.bool (f (x,y)))] _ _ ?_ (by simp (maxSteps:=2000000) only [vup,cond_true,cond_false,Nat.reduceBEq])
   clear hN6
   try clear N6
   refine Zm ?_
   cases hf:f (x,y) with
   | true =>
     simp (maxSteps:=2000000) only [↓Za,↓Zl,↓Zu,↓Zb,↓Zc,↓vdn,vup,cond_true,cond_false,aop,Zf,Zo,ev,sput,Ze,Nat.reduceBEq]
     refine hQ2 _ _ _ (hQ _ _ _ ?_)
     simp (maxSteps:=2000000) only [vup,cond_true,cond_false,Zf,Zo,Nat.reduceBEq,Zs,Xn,tup]
     exact ⟨_,rfl,by rw [show ps.any f=true from List.any_eq_true.2 ⟨_,hmem,hf⟩]; simp⟩
   | false =>
     simp (maxSteps:=2000000) only [↓Zn,↓vdn,vup,cond_true,cond_false,Zf,Zo,ev,Nat.reduceBEq]
     refine hB [(0,v),(1,.func (.func g) #[] cap),(4,.int .i64 0),(6,v),(7,Zd ps.length),(8,Zd (k:Nat))] _ _ ?_ (by simp (maxSteps:=2000000) only [vup,cond_true,cond_false,Nat.reduceBEq])
     clear hB
     try clear B
     refine Zm ?_
     simp (maxSteps:=2000000) only [↓Za,↓Zb,↓Zc,vup,cond_true,cond_false,aop,ev,sput,Ze,Yf,Yi,Nat.reduceBEq,add1 (show k<9223372036854775807 by omega)]
     refine hQ2 _ _ _ ⟨k+1,⟨hk',fun p hp=>?_⟩,by omega,by simp (maxSteps:=2000000) only [vup,cond_true,cond_false,Nat.reduceBEq],rfl⟩
     rw [take_snoc (d:=((0,0):Int×Int)) hk',hxy] at hp
     rcases List.mem_append.1 hp with h3 | h3
     · exact hall p h3
     · simp at h3; subst h3; exact hf
 · obtain rfl:k=ps.length:=by omega
   refine Zg fun N7 hN7=>?_
   simp (maxSteps:=2000000) only [↓Za,↓Zb,↓Zc,vup,cond_true,cond_false,aop,Zf,ev,sput,Ze,Yf,Yi,Nat.reduceBEq,hin]
   refine hN7 [(0,v),(1,.func (.func g) #[] cap),(4,.int .i64 0),(6,v),(7,Zd ps.length),(8,Zd ps.length),(9,.bool false)] _ _ ?_ (by simp (maxSteps:=2000000) only [vup,cond_true,cond_false,Nat.reduceBEq])
   clear hN7
   try clear N7
   refine Zg fun N8 hN8=>?_
   simp (maxSteps:=2000000) only [↓Yo,↓vdn,vup,cond_true,cond_false,Zf,ev,Nat.reduceBEq]
   refine hQ2 _ _ _ (hQ _ _ _ ?_)
   simp (maxSteps:=2000000) only [Zf,Zo,Zs,if_true]
   refine hZ [(0,v),(1,.func (.func g) #[] cap),(4,.int .i64 0),(6,v),(7,Zd ps.length),(8,Zd ps.length),(9,.bool false)] _ _ ?_ (by simp (maxSteps:=2000000) only [vup,cond_true,cond_false,Nat.reduceBEq])
   clear hZ
   try clear Z
   refine Zm ?_
   simp (maxSteps:=2000000) only [↓Za,↓Zl,↓Zu,↓Zb,↓Zc,vup,cond_true,cond_false,aop,Zf,ev,sput,Ze,Nat.reduceBEq,Zs,Xn,tup]
   rw [List.take_length] at hall
   exact ⟨_,rfl,by rw [show ps.any f=false from List.any_eq_false.2 fun p hp=>by simp [hall p hp]]; decide⟩
theorem s25_callW [Tabs Tryd.prog] {args:List Value} {h:Zh} {Q:Value→Zh→Prop} (hsz:args.length≤9) (hk:AWS Tryd.prog 9 s25 (Zs Tryd.prog [.tmp 4] Q) (Zp 0 args) h):ACall Tryd.prog 25 args h Q :=
 Yz Tryd.func25 rfl (enters_of Tryd.func25 (by kernel_rfl) rfl) rfl rfl (by decide) s25_strip s25_ok hsz hk
theorem hasB_call [Tabs prog] {h:Zh} {v:Value} {ps:List (Int×Int)} {g:FuncId} {cap:Array Value} {f:Int×Int→Bool} (hv:PairSl h v ps) (hl:ps.length<9223372036854775808)
  (hc : ∀ h',Ext (fun _=>False) h h'→∀ p∈ps,Xj prog g ([.agg #[Zd p.1,Zd p.2]]++cap.toList) h' (.bool (f p))):Xj prog 25 [v,.func (.func g) #[] cap] h (.bool (ps.any f)):=by
 refine s25_callW (by simp) ?_
 refine Zm ?_
 simp (maxSteps:=2000000) only [s25,↓Za,↓Zl,↓Zu,↓Zb,↓Zc,vup,List.map_cons,List.map_nil,cond_true,cond_false,aop,Zf,Zp,ev,sput,Ze,Yf,Yi,Nat.reduceBEq,Nat.reduceAdd,Zs,Xn,tup,tyf,Yn,List.nil_append,List.append_nil]
 refine (idxB_call hv hl hc).mono ?_
 rintro _ h1 ⟨rfl,i,rfl,hi⟩
 simp (maxSteps:=2000000) only [vup,hi]
theorem s111_callW [Tabs Tryd.prog] {args:List Value} {h:Zh} {Q:Value→Zh→Prop} (hsz:args.length≤9) (hk:AWS Tryd.prog 9 s111 (Zs Tryd.prog [.tmp 3] Q) (Zp 0 args) h):ACall Tryd.prog 111 args h Q :=
 Yz Tryd.func111 rfl (enters_of Tryd.func111 (by kernel_rfl) rfl) rfl rfl (by decide) s111_strip s111_ok hsz hk
theorem sameB_call [Tabs prog] {h:Zh} {b:Nat} {x y e c:Int} (hb:h[b]? = some (bB e c)):Xj prog 111 [.agg #[Zd x,Zd y],.pointer (some ⟨b,0,none⟩)] h (.bool (x==e)):=by
 refine ACall.forget (Low.bool _) ?_
 refine s111_callW (by simp) ?_
 refine Zm ?_
 simp (maxSteps:=2000000) only [s111,↓Za,↓Zl,↓Zu,↓Zb,↓Zc,vup,cond_true,cond_false,aop,Zf,Zp,ev,sput,Ze,Yf,Yi,Nat.reduceBEq,Nat.reduceAdd,Zs,Xn,tup,tyf,boxB,Yg,bA0,loadB0 (Zr h _),loadB0 (Yp hb _)]
 exact Ext.app _ _ _
def okB (n:Nat) (p:Int×Int):Bool:=decide (0≤p.1)&&(decide (p.1<2 ^ n)&&(decide (0≤p.2)&&decide (p.2≤12)))
def validTo (n:Nat) (l:List (Int×Int)) (k:Nat):Bool:=(List.range k).all fun i=>okB n (l.getD i (0,0)) && !(l.take i).any fun x=>x.1==(l.getD i (0,0)).1
def validB (n:Int) (l:List (Int×Int)):Bool:=decide (2≤n)&&(decide (n≤5)&&(decide (1≤l.length)&&(decide (l.length≤6)&&validTo n.toNat l l.length)))
theorem validTo_succ (n:Nat) (l:List (Int×Int)) (k:Nat):validTo n l (k+1)=(validTo n l k&&(okB n (l.getD k (0,0)) && !(l.take k).any fun x=>x.1==(l.getD k (0,0)).1)):=by
 rw [validTo,List.range_succ,List.all_append]; simp [validTo]
theorem validTo_false {n:Nat} {l:List (Int×Int)} {k:Nat} (hk:k<l.length) (h:(okB n (l.getD k (0,0)) && !(l.take k).any fun x=>x.1==(l.getD k (0,0)).1)=false):validTo n l l.length=false:=by
 rw [validTo,List.all_eq_false]
 exact ⟨k,List.mem_range.2 hk,by simp only [h]; decide⟩
set_option maxHeartbeats 2000000
theorem s65_callW [Tabs Tryd.prog] {args:List Value} {h:Zh} {Q:Value→Zh→Prop} (hsz:args.length≤61) (hk:AWS Tryd.prog 61 s65 (Zs Tryd.prog [.tmp 2] Q) (Zp 0 args) h):ACall Tryd.prog 65 args h Q :=
 Yz Tryd.func65 rfl (enters_of Tryd.func65 (by kernel_rfl) rfl) rfl rfl (by decide) s65_strip s65_ok hsz hk
theorem valid_call [Tabs prog] {h:Zh} {n:Int} {v:Value} {l:List (Int×Int)} (hv:PairSl h v l) (hl:l.length<9223372036854775808):Xj prog 65 [.agg #[Zd n,v]] h (.bool (validB n l)):=by
 obtain ⟨H,hH⟩ : ∃ H,H=h++[Blk.cells [Zd n,v] 117 false]:=⟨_,rfl⟩
 have hE:Ext (fun _=>False) h H:=by rw [hH]; exact Ext.app _ _ _
 have b1:H[h.length]? = some (.cells [Zd n,v] 117 false):=by rw [hH]; exact Zr _ _
 have hvH:=hv.ext hE
 refine ACall.forget (Low.bool _) ?_
 refine s65_callW (by simp) ?_
 simp only [s65]
 refine Zg fun N9 hN9=>?_
 simp (maxSteps:=2000000) only [↓Za,↓Zb,↓Zc,vup,cond_true,cond_false,aop,Zf,Zp,ev,sput,Ze,Nat.reduceBEq,boxT,Yg]
 rw [← hH]
 refine hN9 [(1,.pointer (some ⟨h.length,0,none⟩)),(2,.bool false)] _ _ ?_ (by simp (maxSteps:=2000000) only [vup,cond_true,cond_false,Nat.reduceBEq])
 clear hN9
 try clear N9
 by_cases h1:n<2
 · refine Zm ?_
   simp (maxSteps:=2000000) only [↓Za,↓Zl,↓Zu,↓Zb,↓Zc,↓vdn,vup,cond_true,cond_false,aop,Zf,ev,sput,Ze,Yf,Yi,Nat.reduceBEq,Zs,Xn,tup,tyf,tA0,Jg b1,h1]
   rw [validB,show decide (2≤n)=false by simp; omega,Bool.false_and]
   exact ⟨rfl,hE⟩
 by_cases h2:n > 5
 · refine Zm ?_
   simp (maxSteps:=2000000) only [↓Za,↓Zl,↓Zu,↓Zb,↓Zc,↓vdn,vup,cond_true,cond_false,aop,Zf,ev,sput,Ze,Yf,Yi,Nat.reduceBEq,Zs,Xn,tup,tyf,tA0,Jg b1,h1,h2]
   rw [validB,show decide (n≤5)=false by simp; omega,Bool.false_and,Bool.and_false]
   exact ⟨rfl,hE⟩
 by_cases h3:(l.length:Int)<1
 · refine Zm ?_
   simp (maxSteps:=2000000) only [↓Za,↓Zl,↓Zu,↓Zb,↓Zc,↓vdn,vup,List.map_cons,List.map_nil,cond_true,cond_false,aop,Zf,ev,sput,Ze,Yf,Yi,Zi,Nat.reduceBEq,Zs,Xn,tup,tyf,tA0,tA1,Jg b1,loadT1 b1,h1,h2,hvH.len,h3]
   rw [validB,show decide (1≤l.length)=false by rw [decide_eq_false_iff_not]; omega,Bool.false_and,Bool.and_false,Bool.and_false]
   exact ⟨rfl,hE⟩
 by_cases h4:(l.length:Int) > 6
 · refine Zm ?_
   simp (maxSteps:=2000000) only [↓Za,↓Zl,↓Zu,↓Zb,↓Zc,↓vdn,vup,List.map_cons,List.map_nil,cond_true,cond_false,aop,Zf,ev,sput,Ze,Yf,Yi,Zi,Nat.reduceBEq,Zs,Xn,tup,tyf,tA0,tA1,Jg b1,loadT1 b1,h1,h2,hvH.len,h3,h4]
   rw [validB,show decide (l.length≤6)=false by simp; omega,Bool.false_and,Bool.and_false,Bool.and_false,Bool.and_false]
   exact ⟨rfl,hE⟩
 obtain ⟨m,rfl⟩ : ∃ m:Nat,n=m:=⟨n.toNat,by omega⟩
 have hval:validB m l=validTo m l l.length:=by
  rw [validB,show decide ((2:Int)≤m)=true by simp; omega,show decide ((m:Int)≤5)=true by simp; omega,show decide (1≤l.length)=true by rw [decide_eq_true_eq]; omega,show decide (l.length≤6)=true by simp; omega]
  simp
 rw [hval]
 have hpm:(2:Nat) ^ m≤2 ^ 5:=Nat.pow_le_pow_right (by decide) (by omega)
 refine Zt fun Y hY=>?_
 refine Zg fun N10 hN10=>?_
 simp (maxSteps:=2000000) only [↓Za,↓Zb,↓Zc,↓vdn,vup,List.map_cons,List.map_nil,cond_true,cond_false,aop,Zf,ev,sput,Ze,Yf,Yi,Zi,Nat.reduceBEq,tyf,tA0,tA1,Jg b1,loadT1 b1,h1,h2,hvH.len,h3,h4]
 refine hN10 [(1,.pointer (some ⟨h.length,0,none⟩)),(2,.bool false),(24,.bool false)] _ _ ?_ (by simp (maxSteps:=2000000) only [vup,cond_true,cond_false,Nat.reduceBEq])
 clear hN10
 try clear N10
 refine Xh rfl ?_
 refine Zm ?_
 simp (maxSteps:=2000000) only [↓Zn,Zf]
 refine hY [(1,.pointer (some ⟨h.length,0,none⟩)),(2,.bool false),(24,.bool false)] _ _ ?_ (by simp (maxSteps:=2000000) only [vup,cond_true,cond_false,Nat.reduceBEq])
 clear hY
 try clear Y
 refine Zt fun Z hZ=>?_
 refine Zg fun N11 hN11=>?_
 simp (maxSteps:=2000000) only [↓Za,↓Zb,↓Zc,vup,List.map_cons,List.map_nil,cond_true,cond_false,aop,Zf,ev,sput,Ze,Zi,Nat.reduceBEq,tyf,tA1,loadT1 b1,hvH.len]
 refine hN11 [(1,.pointer (some ⟨h.length,0,none⟩)),(2,.bool false),(24,.bool false),(26,v),(27,Zd l.length),(28,.int .i64 0)] _ _ ?_ (by simp (maxSteps:=2000000) only [vup,cond_true,cond_false,Nat.reduceBEq])
 clear hN11
 try clear N11
 refine Zx ?_
 refine Zy fun Q hQ=>?_
 refine Xa (γ:=Nat×Zh) (fun s=>s.1≤l.length∧validTo m l s.1=true∧Ext (fun _=>False) H s.2)
  (fun s=>([(1,.pointer (some ⟨h.length,0,none⟩)),(2,.bool false),(24,.bool false),(26,v),(27,Zd l.length),(28,Zd (s.1:Nat))],s.2)) (fun s=>l.length-s.1) (0,H) ⟨Nat.zero_le _,rfl,Ext.refl _ _⟩ (by simp (maxSteps:=2000000) only [vup,cond_true,cond_false,Nat.reduceBEq,Int.natCast_zero]) rfl ?_
 rintro ⟨k,hp⟩ ⟨hk,hall,hEp⟩
 simp only at hk hall hEp
 refine Zy fun Q2 hQ2=>?_
 simp only [l65_0]
 by_cases hin:(k:Int)<l.length
 · have hk' : k<l.length:=by omega
   have hvp:=hvH.ext hEp
   obtain ⟨⟨x,y⟩,hxy⟩ : ∃ p,l.getD k (0,0)=p:=⟨_,rfl⟩
   have hmem:(x,y)∈l:=hxy▸Ji hk'
   obtain ⟨G,hG⟩ : ∃ G,G=hp++[bB x y]:=⟨_,rfl⟩
   have c4:G[hp.length]? = some (bB x y):=by rw [hG]; exact Zr _ _
   have hEG:Ext (fun _=>False) H G:=by rw [hG]; exact hEp.trans (Ext.app _ _ _)
   have c1:G[h.length]? = some (.cells [Zd (m:Int),v] 117 false):=(hEG.2 _ (Yb b1) id).trans b1
   have hvG:=hvH.ext hEG
   have vfalse:(okB m (x,y) && !(l.take k).any fun z=>z.1==x)=false→validTo m l l.length=false:=fun hf=>validTo_false hk' (by rw [hxy]; exact hf)
   have ret0:(okB m (x,y) && !(l.take k).any fun z=>z.1==x)=false→∀ e,sget e 2 = .bool false→Q2 .ret e G:=by
    intro hf e he
    refine hQ2 _ _ _ (hQ _ _ _ ?_)
    simp (maxSteps:=2000000) only [vup,Zf,Zo,Zs,Xn,tup,he,vfalse hf]
    exact hE.trans hEG
   have hsh:shlV .i64 1 (m:Int)=2 ^ m:=shl1 (by omega)
   refine Zg fun N12 hN12=>?_
   simp (maxSteps:=2000000) only [↓Za,↓Zb,↓Zc,vup,cond_true,cond_false,aop,Zf,ev,sput,Ze,Yf,Yi,Nat.reduceBEq,hin]
   refine hN12 [(1,.pointer (some ⟨h.length,0,none⟩)),(2,.bool false),(24,.bool false),(26,v),(27,Zd l.length),(28,Zd (k:Nat)),(29,.bool true)] _ _ ?_ (by simp (maxSteps:=2000000) only [vup,cond_true,cond_false,Nat.reduceBEq])
   clear hN12
   try clear N12
   refine Zg fun N13 hN13=>?_
   simp (maxSteps:=2000000) only [↓Zn,↓vdn,vup,cond_true,cond_false,Zf,ev,Nat.reduceBEq]
   refine hN13 [(1,.pointer (some ⟨h.length,0,none⟩)),(2,.bool false),(24,.bool false),(26,v),(27,Zd l.length),(28,Zd (k:Nat))] _ _ ?_ (by simp (maxSteps:=2000000) only [vup,cond_true,cond_false,Nat.reduceBEq])
   clear hN13
   try clear N13
   refine Zt fun B hB=>?_
   refine Zx ?_
   refine Zg fun N14 hN14=>?_
   simp (maxSteps:=2000000) only [↓Za,↓Zb,↓Zc,vup,cond_true,cond_false,aop,Zf,ev,sput,Ze,Nat.reduceBEq,tyf,hvp.idx el_46 esz_51 hk',hvp.load shp_51 hk',hxy,Xg,Yg,storeBt (Zr hp zB) rfl,set_new]
   rw [← hG]
   refine hN14 [(1,.pointer (some ⟨h.length,0,none⟩)),(2,.bool false),(3,Zd (k:Nat)),(4,.pointer (some ⟨hp.length,0,none⟩)),(24,.bool false),(26,v),(27,Zd l.length),(28,Zd (k:Nat))] _ _ ?_ (by simp (maxSteps:=2000000) only [vup,cond_true,cond_false,Nat.reduceBEq])
   clear hN14
   try clear N14
   refine Zt fun C hC=>?_
   refine Zg fun N15 hN15=>?_
   simp only [q65_6]
   refine Yx [] (by kernel_rfl) (by kernel_rfl) (by kernel_rfl) (by kernel_rfl) ?_
   by_cases g1:x<0
   · simp (maxSteps:=2000000) only [↓Zz,↓vdn,vup,cond_true,cond_false,aop,Zf,ev,sput,Ze,Yf,Yi,Vs,Nat.reduceBEq,Nat.reduceAdd,tyf,bA0,loadB0 c4,g1]
     refine hN15 [(1,.pointer (some ⟨h.length,0,none⟩)),(2,.bool false),(3,Zd (k:Nat)),(4,.pointer (some ⟨hp.length,0,none⟩)),(24,.bool false),(26,v),(27,Zd l.length),(28,Zd (k:Nat)),(53,.bool true)] _ _ ?_ (by simp (maxSteps:=2000000) only [vup,cond_true,cond_false,Nat.reduceBEq])
     clear hN15
     try clear N15
     refine Zm ?_
     simp (maxSteps:=2000000) only [↓Za,↓Zl,↓Zu,↓Zb,↓Zc,↓vdn,vup,cond_true,cond_false,aop,Zf,Zo,ev,sput,Ze,Nat.reduceBEq]
     exact ret0 (by simp [okB]; omega) _ rfl
   by_cases g2:x≥2 ^ m
   · simp (maxSteps:=2000000) only [↓Zz,↓vdn,vup,cond_true,cond_false,aop,Zf,ev,sput,Ze,Yf,Yi,Vs,Nat.reduceBEq,Nat.reduceAdd,tyf,bA0,loadB0 c4,g1,tA0,Jg c1,hsh,Int.natCast_nonneg,g2]
     refine hN15 [(1,.pointer (some ⟨h.length,0,none⟩)),(2,.bool false),(3,Zd (k:Nat)),(4,.pointer (some ⟨hp.length,0,none⟩)),(24,.bool false),(26,v),(27,Zd l.length),(28,Zd (k:Nat)),(53,.bool true)] _ _ ?_ (by simp (maxSteps:=2000000) only [vup,cond_true,cond_false,Nat.reduceBEq])
     clear hN15
     try clear N15
     refine Zm ?_
     simp (maxSteps:=2000000) only [↓Za,↓Zl,↓Zu,↓Zb,↓Zc,↓vdn,vup,cond_true,cond_false,aop,Zf,Zo,ev,sput,Ze,Nat.reduceBEq]
     exact ret0 (by simp [okB]; omega) _ rfl
   by_cases g3:y<0
   · simp (maxSteps:=2000000) only [↓Zz,↓vdn,vup,cond_true,cond_false,aop,Zf,ev,sput,Ze,Yf,Yi,Vs,Nat.reduceBEq,Nat.reduceAdd,tyf,bA0,bA1,loadB0 c4,loadB1 c4,g1,tA0,Jg c1,hsh,Int.natCast_nonneg,g2,g3]
     refine hN15 [(1,.pointer (some ⟨h.length,0,none⟩)),(2,.bool false),(3,Zd (k:Nat)),(4,.pointer (some ⟨hp.length,0,none⟩)),(24,.bool false),(26,v),(27,Zd l.length),(28,Zd (k:Nat)),(53,.bool true)] _ _ ?_ (by simp (maxSteps:=2000000) only [vup,cond_true,cond_false,Nat.reduceBEq])
     clear hN15
     try clear N15
     refine Zm ?_
     simp (maxSteps:=2000000) only [↓Za,↓Zl,↓Zu,↓Zb,↓Zc,↓vdn,vup,cond_true,cond_false,aop,Zf,Zo,ev,sput,Ze,Nat.reduceBEq]
     exact ret0 (by simp [okB]; omega) _ rfl
   by_cases g4:y > 12
   · simp (maxSteps:=2000000) only [↓Zz,↓vdn,vup,cond_true,cond_false,aop,Zf,ev,sput,Ze,Yf,Yi,Vs,Nat.reduceBEq,Nat.reduceAdd,tyf,bA0,bA1,loadB0 c4,loadB1 c4,g1,tA0,Jg c1,hsh,Int.natCast_nonneg,g2,g3,g4]
     refine hN15 [(1,.pointer (some ⟨h.length,0,none⟩)),(2,.bool false),(3,Zd (k:Nat)),(4,.pointer (some ⟨hp.length,0,none⟩)),(24,.bool false),(26,v),(27,Zd l.length),(28,Zd (k:Nat)),(53,.bool true)] _ _ ?_ (by simp (maxSteps:=2000000) only [vup,cond_true,cond_false,Nat.reduceBEq])
     clear hN15
     try clear N15
     refine Zm ?_
     simp (maxSteps:=2000000) only [↓Za,↓Zl,↓Zu,↓Zb,↓Zc,↓vdn,vup,cond_true,cond_false,aop,Zf,Zo,ev,sput,Ze,Nat.reduceBEq]
     exact ret0 (by simp [okB]; omega) _ rfl
   simp (maxSteps:=2000000) only [↓Zz,↓vdn,vup,cond_true,cond_false,aop,Zf,ev,sput,Ze,Yf,Yi,Vs,Nat.reduceBEq,Nat.reduceAdd,tyf,bA0,bA1,loadB0 c4,loadB1 c4,g1,tA0,Jg c1,hsh,Int.natCast_nonneg,g2,g3,g4]
   refine hN15 [(1,.pointer (some ⟨h.length,0,none⟩)),(2,.bool false),(3,Zd (k:Nat)),(4,.pointer (some ⟨hp.length,0,none⟩)),(24,.bool false),(26,v),(27,Zd l.length),(28,Zd (k:Nat)),(53,.bool false)] _ _ ?_ (by simp (maxSteps:=2000000) only [vup,cond_true,cond_false,Nat.reduceBEq])
   clear hN15
   try clear N15
   refine Zm ?_
   simp (maxSteps:=2000000) only [↓Zn,↓vdn,vup,cond_true,cond_false,Zf,ev,Nat.reduceBEq]
   refine hC [(1,.pointer (some ⟨h.length,0,none⟩)),(2,.bool false),(3,Zd (k:Nat)),(4,.pointer (some ⟨hp.length,0,none⟩)),(24,.bool false),(26,v),(27,Zd l.length),(28,Zd (k:Nat))] _ _ ?_ (by simp (maxSteps:=2000000) only [vup,cond_true,cond_false,Nat.reduceBEq])
   clear hC
   try clear C
   have hok:okB m (x,y)=true:=by simp [okB]; omega
   refine Zg fun N16 hN16=>?_
   simp (maxSteps:=2000000) only [↓Za,↓Zb,↓Zc,vup,List.map_cons,List.map_nil,cond_true,cond_false,aop,Zf,ev,sput,Ze,Nat.reduceBEq,tA1,loadT1 c1,Option.map_some,Option.map_none]
   refine hvG.pre el_46 esz_51 (show k≤l.length by omega) fun v' hv'=>?_
   have hs:=hasB_call (g:=111) (cap:=#[.pointer (some ⟨hp.length,0,none⟩)]) (f:=fun z=>z.1==x) hv' (by rw [List.length_take]; omega) (fun h' hx p _=>sameB_call ((hx.2 _ (Yb c4) id).trans c4))
   simp (maxSteps:=2000000) only [vup,List.map_cons,List.map_nil,cond_true,cond_false,ev,Nat.reduceBEq,Yn,List.nil_append,List.append_nil,List.map_toArray]
   refine (hs).mono ?_
   rintro _ G ⟨rfl,rfl⟩
   refine hN16 [(1,.pointer (some ⟨h.length,0,none⟩)),(2,.bool false),(3,Zd (k:Nat)),(4,.pointer (some ⟨hp.length,0,none⟩)),(24,.bool false),(26,v),(27,Zd l.length),(28,Zd (k:Nat)),(59,.bool ((l.take k).any fun z=>z.1==x))] _ _ ?_ (by simp (maxSteps:=2000000) only [vup,cond_true,cond_false,Nat.reduceBEq])
   clear hN16
   try clear N16
   refine Zm ?_
   cases hany:(l.take k).any fun z=>z.1==x with
   | true =>
     simp (maxSteps:=2000000) only [↓Za,↓Zl,↓Zu,↓Zb,↓Zc,↓vdn,vup,cond_true,cond_false,aop,Zf,Zo,ev,sput,Ze,Nat.reduceBEq]
     exact ret0 (by rw [hany]; simp) _ rfl
   | false =>
     simp (maxSteps:=2000000) only [↓Zn,↓vdn,vup,cond_true,cond_false,Zf,Zo,ev,Nat.reduceBEq]
     refine hB [(1,.pointer (some ⟨h.length,0,none⟩)),(2,.bool false),(24,.bool false),(26,v),(27,Zd l.length),(28,Zd (k:Nat))] _ _ ?_ (by simp (maxSteps:=2000000) only [vup,cond_true,cond_false,Nat.reduceBEq])
     clear hB
     try clear B
     refine Zm ?_
     simp (maxSteps:=2000000) only [↓Za,↓Zb,↓Zc,vup,cond_true,cond_false,aop,ev,sput,Ze,Yf,Yi,Nat.reduceBEq,add1 (show k<9223372036854775807 by omega)]
     refine hQ2 _ _ _ ⟨(k+1,G),⟨hk',?_,hEG⟩,by simp only; omega,by simp (maxSteps:=2000000) only [vup,cond_true,cond_false,Nat.reduceBEq],rfl⟩
     simp only [validTo_succ,hall,hxy,hok,hany]; rfl
 · obtain rfl:k=l.length:=by omega
   refine Zg fun N17 hN17=>?_
   simp (maxSteps:=2000000) only [↓Za,↓Zb,↓Zc,vup,cond_true,cond_false,aop,Zf,ev,sput,Ze,Yf,Yi,Nat.reduceBEq,hin]
   refine hN17 [(1,.pointer (some ⟨h.length,0,none⟩)),(2,.bool false),(24,.bool false),(26,v),(27,Zd l.length),(28,Zd l.length),(29,.bool false)] _ _ ?_ (by simp (maxSteps:=2000000) only [vup,cond_true,cond_false,Nat.reduceBEq])
   clear hN17
   try clear N17
   refine Zg fun N18 hN18=>?_
   simp (maxSteps:=2000000) only [↓Yo,↓vdn,vup,cond_true,cond_false,Zf,ev,Nat.reduceBEq]
   refine hQ2 _ _ _ (hQ _ _ _ ?_)
   simp (maxSteps:=2000000) only [Zf,Zo,Zs,if_true]
   refine hZ [(1,.pointer (some ⟨h.length,0,none⟩)),(2,.bool false),(24,.bool false),(26,v),(27,Zd l.length),(28,Zd l.length),(29,.bool false)] _ _ ?_ (by simp (maxSteps:=2000000) only [vup,cond_true,cond_false,Nat.reduceBEq])
   clear hZ
   try clear Z
   refine Zm ?_
   simp (maxSteps:=2000000) only [↓Za,↓Zl,↓Zu,↓Zb,↓Zc,vup,cond_true,cond_false,aop,Zf,ev,sput,Ze,Nat.reduceBEq,Zs,Xn,tup,hall]
   exact hE.trans hEp
end Go.Proofs.Tryd.Am.Be
namespace Go.Proofs.Tryd.Am.Be
open Go.Proofs.Tryd.Am
open Go.Am Bq
set_option maxRecDepth 100000
set_option maxHeartbeats 4000000
theorem rowC_sum {n:Nat} {l:List (Int×Int)} {ws:List Nat}:rowC (sysB n l ws) ws.length 0=rowL (2 ^ n-1) ws 1:=by
 apply List.ext_getElem?
 intro c
 simp only [rowC,rowL,List.getElem?_map,List.getElem?_append,List.length_map]
 by_cases h:c<ws.length
 · simp [h,show c<ws.length+1 by omega,sysB,List.getD]
 · rw [if_neg h]
   by_cases h2:c=ws.length
   · subst h2; simp [sysB]
   · rw [List.getElem?_eq_none (by simp; omega),List.getElem?_eq_none (by simp; omega)]; rfl
theorem rowC_bet {n:Nat} {l:List (Int×Int)} {ws:List Nat} (i:Nat):rowC (sysB n l ws) ws.length (i+1)=rowL (l.getD i (0,0)).1.toNat ws (Rat.divInt (l.getD i (0,0)).2 12):=by
 apply List.ext_getElem?
 intro c
 simp only [rowC,rowL,List.getElem?_map,List.getElem?_append,List.length_map]
 by_cases h:c<ws.length
 · simp [h,show c<ws.length+1 by omega,sysB,List.getD]
 · rw [if_neg h]
   by_cases h2:c=ws.length
   · subst h2; simp [sysB]
   · rw [List.getElem?_eq_none (by simp; omega),List.getElem?_eq_none (by simp; omega)]; rfl
def QSl (e:TypeId) (h:Zh) (v:Value) (ws:List Value):Prop:=(∃ b,v = .slice (some ⟨b,0,none⟩) ws.length ws.length∧h[b]? = some (.cells ws e false))∨OwnV e h v ws
theorem QSl.app [Tabs prog] {e t:TypeId} {h:Zh} {v r:Value} {ws:List Value} {b2:Nat} (ho:QSl e h v ws) (hne:ws≠[]) (hT:appT prog t t=some (e,1,24)) (hb2:h[b2]? = some (.cells [r] e false)) (hw : ∀ w∈ws++[r],notI w=true∧one w=true) (hn:ws.length≤1000)
  {K:Value→Zh→Prop} (hk : ∀ v' h',OwnV e h' v' (ws++[r])→Ext (fun i=>Yc v=some i) h h'→(Yc v' = Yc v∨∃ b,Yc v' = some b∧h.length≤b)→K v' h') :
  Ys prog h t t v (.slice (some ⟨b2,0,none⟩) 1 1) K:=by
 rcases ho with ⟨b,rfl,hb⟩ | ho
 · simp only [Ys,hT,Jd,putK,Xr,hb2,hb]
   refine ⟨fun h0=>absurd h0 (by decide),fun _=>⟨by simp,fun h0=>by omega,fun _=>⟨by omega,by simp,?_⟩⟩⟩
   have e1:(([r]:List Value).drop 0).take (1*1)=[r]:=rfl
   have e2:(ws.drop 0).take (ws.length*1)=ws:=by simp
   rw [e1,e2,mkb_no (by simp) (fun w hw'=>(hw w hw').1)]
   refine hk _ _ (.inr ⟨h.length,[],by simp,by simp,by rw [List.append_nil]; exact Zr _ _⟩) (Ext.app _ _ _) (.inr ⟨_,rfl,Nat.le_refl _⟩)
 · exact ho.app hT (us:=[r]) (.inr ⟨b2,0,none,1,[r],e,false,rfl,Nat.le_refl _,by simp [view,hb2,Blk.view],rfl⟩) hw (by simp; omega) hk
theorem litV [Tabs prog] {h:Zh} {t e:TypeId} {p:Option Addr} {n c:Nat} (he:elemOf' prog t=some e) (hz:Wn prog e=some [.slice none 0 0]) (hs:esz prog e=some 1) {K:Value→Zh→Prop} :
  Yj prog h t 1 [(0,.slice p n c)] K=K (.slice (some ⟨h.length,0,none⟩) 1 1) (h++[.cells [.slice p n c] e false]):=by
 simp only [Yj,he,hz,hs,reps,Vx,mkb,Wk,cellsOf,List.length_cons,List.length_nil,Nat.zero_add,Nat.zero_mul,Yk]
 refine propext ⟨fun h=>?_,fun h=>⟨trivial,by decide,by decide,?_⟩⟩
 · simpa [Yv] using h.2.2.2
 · simpa [Yv] using h
def BelAt (h:Zh) (w:Value) (b:List Rat):Prop:=∃ bl,w = .slice (some ⟨bl,0,none⟩) b.length b.length∧h[bl]? = some (.cells ((Ye (b.map ofQ)).map Zd) 45 false)
def CornSl (h:Zh) (v:Value) (cs:List (List Rat)):Prop:=∃ ws,OwnV 122 h v ws∧Each (BelAt h) ws cs
theorem CornSl.ext {h h' : Zh} {v:Value} {cs:List (List Rat)} (c:CornSl h v cs) (hE:Ext (fun _=>False) h h'):CornSl h' v cs:=by
 obtain ⟨ws,h1,h2⟩:=c
 exact ⟨ws,h1.ext hE,h2.imp fun w b ⟨bl,g1,g2⟩=>⟨bl,g1,(hE.2 _ (Yb g2) id).trans g2⟩⟩
theorem Vp {n:Nat} {l:List (Int×Int)} (h:validB n l=true):2≤n∧n≤5∧1≤l.length∧l.length≤6∧∀ i,i<l.length→okB n (l.getD i (0,0))=true:=by
 simp only [validB,Bool.and_eq_true,decide_eq_true_eq,Int.toNat_natCast] at h
 obtain ⟨h1,h2,h3,h4,h5⟩:=h
 refine ⟨by omega,by omega,h3,h4,fun i hi=>?_⟩
 rw [validTo,List.all_eq_true] at h5
 have:=h5 i (List.mem_range.2 hi)
 rw [Bool.and_eq_true] at this
 exact this.1
def bkOf (v:Value):Nat:=(Yc v).getD 0
structure Rows (hp0:Nat) (G:Zh) (q:Value) (ws:List Value) (k:Nat) (T:Wp):Prop where
 sl:QSl 43 G q ws
 ne:ws≠[]
 row : ∀ i,i<ws.length→OwnP 45 G (ws.getD i undef) (rowC T k i)
 inj : ∀ i j,i<ws.length→j<ws.length→Yc (ws.getD i undef)=Yc (ws.getD j undef)→i=j
 sep : ∀ i,i<ws.length→Yc (ws.getD i undef)≠Yc q
 old:(∀ b,Yc q=some b→hp0≤b)∧∀ i b,i<ws.length→Yc (ws.getD i undef)=some b→hp0≤b
theorem Wo {e:TypeId} {h:Zh} {v:Value} {ps:List (Int×Int)} (ho:OwnP e h v ps) (hne:ps≠[]) : ∃ b ys,v = .slice (some ⟨b,0,some 0⟩) ps.length (ps.length+ys.length)∧h[b]? = some (.ints (Ye ps++Ye ys) e false):=by
 rcases ho with ⟨_,h1⟩ | ⟨b,ys,h1,h2⟩
 · exact absurd h1 hne
 · exact ⟨b,ys,h1,h2⟩
theorem Uk {T:Wp} {k i:Nat}:rowC T k i≠[]:=by
 intro h
 have:=rowC_len T k i
 rw [h] at this; simp at this
theorem QSl.blk {e:TypeId} {h:Zh} {v:Value} {ws:List Value} (hq:QSl e h v ws) (hne:ws≠[]) : ∃ b c,Yc v=some b∧h[b]? = some (.cells c e false)∧b<h.length:=by
 rcases hq with ⟨b,rfl,hb⟩ | ho
 · exact ⟨b,ws,rfl,hb,Yb hb⟩
 · rcases ho with ⟨_,h1⟩ | ⟨b,ys,rfl,_,hb⟩
   · exact absurd h1 hne
   · exact ⟨b,_,rfl,hb,Yb hb⟩
theorem Rows.ext {hp0:Nat} {G G' : Zh} {q:Value} {ws:List Value} {k:Nat} {T:Wp} (R:Rows hp0 G q ws k T) (hE:Ext (fun _=>False) G G'):Rows hp0 G' q ws k T where
 sl:=by
  rcases R.sl with ⟨b,h1,h2⟩ | ho
  · exact .inl ⟨b,h1,(hE.2 _ (Yb h2) id).trans h2⟩
  · exact .inr (ho.ext hE)
 ne:=R.ne
 row i hi:=(R.row i hi).ext hE
 inj:=R.inj
 sep:=R.sep
 old:=R.old
theorem Rows.more [Tabs prog] {hp0:Nat} {G G2:Zh} {q rv:Value} {ws:List Value} {k b2:Nat} {T:Wp} (R:Rows hp0 G q ws k T) (hl:ws.length≤1000) (h0:hp0≤G.length) (hE:Ext (fun _=>False) G G2) (hr:OwnP 45 G2 rv (rowC T k ws.length)) (hrb : ∀ b,Yc rv=some b→G.length≤b) (hb2:G2[b2]? = some (.cells [rv] 43 false))
  {K:Value→Zh→Prop} (hk : ∀ q' h',OwnV 43 h' q' (ws++[rv])→Rows hp0 h' q' (ws++[rv]) k T→Ext (fun b=>hp0≤b) G2 h'→Ext (fun i=>Yc q=some i) G2 h'→K q' h'):Ys prog G2 125 125 q (.slice (some ⟨b2,0,none⟩) 1 1) K:=by
 have R2:=R.ext hE
 obtain ⟨bq,cq,hbq,hq1,hq2⟩:=R.sl.blk R.ne
 obtain ⟨br,yr,hr1,hr2⟩:=Wo hr Uk
 have hbr:Yc rv=some br:=by rw [hr1]; rfl
 have hbrl:=hrb br hbr
 have hw : ∀ w∈ws++[rv],notI w=true∧one w=true:=fun w hw=>by
  rcases List.mem_append.1 hw with h1 | h1
  · obtain ⟨i,hi,rfl⟩:=List.mem_iff_getElem.1 h1
    obtain ⟨b,ys,e1,_⟩:=Wo (R.row i hi) Uk
    rw [List.getD,List.getElem?_eq_getElem hi,Option.getD_some] at e1
    rw [e1]; exact ⟨rfl,rfl⟩
  · rw [List.mem_singleton.1 h1,hr1]; exact ⟨rfl,rfl⟩
 refine R2.sl.app R.ne app_125_125 hb2 hw hl fun q' h' ho hE' hb'=>?_
 have rowb : ∀ i,i<ws.length→∃ b,Yc (ws.getD i undef)=some b∧b<G.length:=fun i hi=>by
  obtain ⟨b,ys,e1,e2⟩:=Wo (R.row i hi) Uk
  exact ⟨b,by rw [e1]; rfl,Yb e2⟩
 have g1 : ∀ i,i<ws.length→(ws++[rv]).getD i undef=ws.getD i undef:=fun i hi=>by
  rw [List.getD,List.getElem?_append_left hi]; rfl
 have g2:(ws++[rv]).getD ws.length undef=rv:=by simp [List.getD]
 have hq'b : ∀ b,Yc q' = some b→b=bq∨G2.length≤b:=fun b hb=>by
  rcases hb' with h1 | ⟨b',h1,h2⟩
  · rw [h1,hbq] at hb; cases hb; exact .inl rfl
  · rw [h1] at hb; cases hb; exact .inr h2
 have keep : ∀ b,b≠bq→b<G2.length→h'[b]? = G2[b]?:=fun b hb hl=>hE'.2 b hl fun hc=>hb (by rw [hbq] at hc; cases hc; rfl)
 refine hk q' h' ho ⟨.inr ho,by simp,fun i hi=>?_,fun i j hi hj he=>?_,fun i hi=>?_,⟨fun b hb=>?_,fun i b hi hb=>?_⟩⟩ (hE'.mono fun b hb=>R.old.1 b hb) hE'
 · rw [List.length_append,List.length_singleton] at hi
   rcases Nat.lt_or_ge i ws.length with h1 | h1
   · rw [g1 i h1]
     refine (R2.row i h1).same fun b hb=>?_
     obtain ⟨b',e1,e2⟩:=rowb i h1
     rw [e1] at hb; cases hb
     exact keep _ (fun hc=>R.sep i h1 (by rw [e1,hbq,hc])) (by have:=hE.1; omega)
   · rw [show i=ws.length by omega,g2]
     refine hr.same fun b hb=>?_
     rw [hbr] at hb; cases hb
     exact keep _ (by omega) (Yb hr2)
 · rw [List.length_append,List.length_singleton] at hi hj
   rcases Nat.lt_or_ge i ws.length with h1 | h1 <;> rcases Nat.lt_or_ge j ws.length with h2 | h2
   · rw [g1 i h1,g1 j h2] at he; exact R.inj i j h1 h2 he
   · rw [g1 i h1,show j=ws.length by omega,g2,hbr] at he
     obtain ⟨b',e1,e2⟩:=rowb i h1
     rw [e1] at he; cases he; omega
   · rw [g1 j h2,show i=ws.length by omega,g2,hbr] at he
     obtain ⟨b',e1,e2⟩:=rowb j h2
     rw [e1] at he; cases he; omega
   · omega
 · rw [List.length_append,List.length_singleton] at hi
   intro hc
   rcases Nat.lt_or_ge i ws.length with h1 | h1
   · rw [g1 i h1] at hc
     obtain ⟨b',e1,e2⟩:=rowb i h1
     rw [e1] at hc
     rcases hq'b b' hc.symm with h3 | h3
     · exact R.sep i h1 (by rw [e1,hbq,h3])
     · have:=hE.1; omega
   · rw [show i=ws.length by omega,g2,hbr] at hc
     rcases hq'b br hc.symm with h3 | h3
     · omega
     · have:=Yb hr2; omega
 · rcases hq'b b hb with h3 | h3
   · rw [h3]; exact R.old.1 _ hbq
   · have:=hE.1; omega
 · rw [List.length_append,List.length_singleton] at hi
   rcases Nat.lt_or_ge i ws.length with h1 | h1
   · rw [g1 i h1] at hb; exact R.old.2 i b h1 hb
   · rw [show i=ws.length by omega,g2] at hb
     have:=hrb b hb; omega
theorem Rows.mat {hp0:Nat} {G:Zh} {q:Value} {ws:List Value} {k:Nat} {T:Wp} (R:Rows hp0 G q ws k T) (ho:OwnV 43 G q ws) : ∃ B C,q = .slice (some ⟨B,0,some 0⟩) ws.length C∧ws.length≤C∧hp0≤B∧Mat G B ws.length k (fun i=>ws.getD i undef) (fun i=>bkOf (ws.getD i undef)) T∧∀ i,i<ws.length→hp0≤bkOf (ws.getD i undef):=by
 rcases ho with ⟨_,h1⟩ | ⟨B,us,hq,_,hb⟩
 · exact absurd h1 R.ne
 · have hqb:Yc q=some B:=by rw [hq]; rfl
   have rowb : ∀ i,i<ws.length→∃ b ys,ws.getD i undef = .slice (some ⟨b,0,some 0⟩) (k+1) (k+1+ys.length)∧G[b]? = some (.ints (Ye (rowC T k i)++Ye ys) 45 false):=fun i hi=>by
    obtain ⟨b,ys,e1,e2⟩:=Wo (R.row i hi) Uk
    rw [rowC_len] at e1
    exact ⟨b,ys,e1,e2⟩
   have bk : ∀ i,i<ws.length→Yc (ws.getD i undef)=some (bkOf (ws.getD i undef)):=fun i hi=>by
    obtain ⟨b,ys,e1,e2⟩:=rowb i hi
    rw [e1]; rfl
   refine ⟨B,_,hq,by omega,R.old.1 B hqb,⟨⟨us,?_⟩,fun i hi=>?_,fun i j hi hj he=>?_,fun i hi hc=>?_⟩,fun i hi=>R.old.2 i _ hi (bk i hi)⟩
   · have:(List.range ws.length).map (fun i=>ws.getD i undef)=ws:=by
      apply List.ext_getElem (by simp)
      intro i h1 h2
      simp [List.getD,h2]
     rw [this]; exact hb
   · obtain ⟨b,ys,e1,e2⟩:=rowb i hi
     refine ⟨k+1+ys.length,Ye ys,e1.trans ?_,by omega,?_⟩
     · rw [bkOf,e1]; rfl
     · rw [bkOf,e1]; exact e2
   · exact R.inj i j hi hj (by rw [bk i hi,bk j hj,he])
   · exact R.sep i hi (by rw [bk i hi,hqb,hc])
end Go.Proofs.Tryd.Am.Be
namespace Go.Proofs.Tryd.Am.Be
open Go.Proofs.Tryd.Am
open Go.Am Bq
set_option maxRecDepth 100000
set_option maxHeartbeats 4000000
theorem loopEnd {a b:Nat} (h1 : ¬ (a:Int)<b) (h2:a≤b):b=a:=by omega
theorem castI_snoc (L:List Nat) (k:Nat):Vo (L++[k])=Vo L++[(k:Int)]:=by simp [Vo]
theorem s68_callW [Tabs Tryd.prog] {args:List Value} {h:Zh} {Q:Value→Zh→Prop} (hsz:args.length≤103) (hk:AWS Tryd.prog 103 s68 (Zs Tryd.prog [.tmp 2] Q) (Zp 0 args) h):ACall Tryd.prog 68 args h Q :=
 Yz Tryd.func68 rfl (enters_of Tryd.func68 (by kernel_rfl) rfl) rfl rfl (by decide) s68_strip s68_ok hsz hk
theorem corners_call [Tabs prog] {h:Zh} {n:Nat} {v:Value} {l:List (Int×Int)} (hv:PairSl h v l) (hval:validB n l=true) (htame:TameAll n l) :
  ACall prog 68 [.agg #[Zd (n:Nat),v]] h fun r h'=>Ext (fun _=>False) h h'∧CornSl h' r (Wl n l)∧∀ b,Yc r=some b→h.length≤b:=by
 obtain ⟨hn2,hn5,hl1,hl6,hok⟩:=Vp hval
 have hpn:(2:Nat) ^ n≤2 ^ 5:=Nat.pow_le_pow_right (by decide) hn5
 have hp32:(2:Nat) ^ n≤32:=hpn
 have hpp:=Nat.two_pow_pos n
 have hsh:shlV .i64 1 (n:Int)=((2 ^ n:Nat):Int):=by rw [shl1 (by omega),Vm]
 have hsub:subV .i64 ((2 ^ n:Nat):Int) 1=((2 ^ n-1:Nat):Int):=by rw [subN (by omega)]; omega
 obtain ⟨H,hH⟩ : ∃ H,H=h++[Blk.cells [Zd (n:Nat),v] 117 false]:=⟨_,rfl⟩
 have hE:Ext (fun _=>False) h H:=by rw [hH]; exact Ext.app _ _ _
 have t1:H[h.length]? = some (.cells [Zd (n:Nat),v] 117 false):=by rw [hH]; exact Zr _ _
 refine s68_callW (by simp) ?_
 simp only [s68]
 refine Zg fun N1 hN1=>?_
 simp (maxSteps:=2000000) only [↓Za,↓Zb,↓Zc,vup,cond_true,cond_false,aop,Zf,Zp,ev,sput,Ze,Nat.reduceBEq,boxT,Yg]
 rw [← hH]
 refine hN1 [(1,.pointer (some ⟨h.length,0,none⟩)),(2,.slice none 0 0)] _ _ ?_ (by simp (maxSteps:=2000000) only [vup,cond_true,cond_false,Nat.reduceBEq])
 clear hN1
 try clear N1
 refine Zg fun N2 hN2=>?_
 simp (maxSteps:=2000000) only [↓Za,↓Zb,↓Zc,vup,cond_false,aop,Zf,ev,sput,Ze,Nat.reduceBEq]
 refine hN2 [(1,.pointer (some ⟨h.length,0,none⟩)),(2,.slice none 0 0),(3,.slice none 0 0)] _ _ ?_ (by simp (maxSteps:=2000000) only [vup,cond_true,cond_false,Nat.reduceBEq])
 clear hN2
 try clear N2
 refine Zt fun Z hZ=>?_
 refine Zg fun N3 hN3=>?_
 simp (maxSteps:=2000000) only [↓Za,↓Zb,↓Zc,vup,cond_false,aop,Zf,ev,sput,Ze,Nat.reduceBEq]
 refine hN3 [(1,.pointer (some ⟨h.length,0,none⟩)),(2,.slice none 0 0),(3,.slice none 0 0),(4,.int .i64 1)] _ _ ?_ (by simp (maxSteps:=2000000) only [vup,cond_true,cond_false,Nat.reduceBEq])
 clear hN3
 try clear N3
 refine Zx ?_
 refine Zy fun Q hQ=>?_
 refine Xa (γ:=Nat×Value×Zh) (fun s=>1≤s.1∧s.1≤2 ^ n∧CornSl s.2.2 s.2.1 (Ve n l (s.1-1))∧Ext (fun _=>False) H s.2.2∧∀ b,Yc s.2.1=some b→H.length≤b)
  (fun s=>([(1,.pointer (some ⟨h.length,0,none⟩)),(2,.slice none 0 0),(3,s.2.1),(4,Zd (s.1:Nat))],s.2.2)) (fun s=>2 ^ n-s.1) (1,.slice none 0 0,H) ⟨Nat.le_refl _,hpp,⟨[],.inl ⟨rfl,rfl⟩,trivial⟩,Ext.refl _ _,fun b hb=>by cases hb⟩ (by simp (maxSteps:=2000000) only [vup,cond_true,cond_false,Nat.reduceBEq,Int.natCast_one]) rfl ?_
 rintro ⟨s,out,hp⟩ ⟨hs1,hs,hcs,hEp,hbo⟩
 simp only at hs1 hs hcs hEp hbo
 refine Zy fun Q2 hQ2=>?_
 simp only [l68_3]
 have t1p:hp[h.length]? = some (.cells [Zd (n:Nat),v] 117 false):=(hEp.2 _ (Yb t1) id).trans t1
 have hHl:h.length<H.length:=Yb t1
 by_cases hin:(s:Int)<((2 ^ n:Nat):Int)
 · have hs' : s<2 ^ n:=by omega
   refine Zg fun N4 hN4=>?_
   simp (maxSteps:=2000000) only [↓Za,↓Zn,↓Zl,↓Zb,↓Zc,↓vdn,vup,cond_true,cond_false,aop,Zf,ev,sput,Ze,Yf,Yi,Nat.reduceBEq,tyf,tA0,Jg t1p,Int.natCast_nonneg,hsh,hin]
   refine hN4 [(1,.pointer (some ⟨h.length,0,none⟩)),(2,.slice none 0 0),(3,out),(4,Zd (s:Nat))] _ _ ?_ (by simp (maxSteps:=2000000) only [vup,cond_true,cond_false,Nat.reduceBEq])
   clear hN4
   try clear N4
   refine Zt fun Y hY=>?_
   refine Zx ?_
   -- the worlds' box
   obtain ⟨H1,hH1⟩ : ∃ H1,H1=hp++[Blk.cells [.slice none 0 0] 27 false]:=⟨_,rfl⟩
   have b5:H1[hp.length]? = some (.cells [.slice none 0 0] 27 false):=by rw [hH1]; exact Zr _ _
   have hE1:Ext (fun _=>False) hp H1:=by rw [hH1]; exact Ext.app _ _ _
   have hH1l:H1.length=hp.length+1:=by rw [hH1]; simp
   refine Zg fun N5 hN5=>?_
   simp (maxSteps:=2000000) only [↓Za,↓Zb,↓Zc,vup,cond_false,aop,Zf,sput,Ze,Nat.reduceBEq,tyf,Xg,Yg]
   rw [← hH1]
   refine hN5 [(1,.pointer (some ⟨h.length,0,none⟩)),(2,.slice none 0 0),(3,out),(4,Zd (s:Nat)),(5,.pointer (some ⟨hp.length,0,none⟩))] _ _ ?_ (by simp (maxSteps:=2000000) only [vup,cond_true,cond_false,Nat.reduceBEq])
   clear hN5
   try clear N5
   -- the worlds
   refine Zt fun X hX=>?_
   refine Zg fun N6 hN6=>?_
   simp (maxSteps:=2000000) only [↓Za,↓Zb,↓Zc,vup,cond_true,cond_false,aop,Zf,ev,sput,Ze,Nat.reduceBEq,tA0,Jg ((hE1.2 _ (Yb t1p) id).trans t1p)]
   refine hN6 [(1,.pointer (some ⟨h.length,0,none⟩)),(2,.slice none 0 0),(3,out),(4,Zd (s:Nat)),(5,.pointer (some ⟨hp.length,0,none⟩)),(24,Zd (n:Nat)),(25,.int .i64 0)] _ _ ?_ (by simp (maxSteps:=2000000) only [vup,cond_true,cond_false,Nat.reduceBEq])
   clear hN6
   try clear N6
   refine Zx ?_
   refine Zy fun Qa hQa=>?_
   refine Xa (γ:=Nat×Value×Zh) (fun g=>g.1≤n∧g.2.2[hp.length]? = some (.cells [g.2.1] 27 false)∧OwnSl 3 g.2.2 g.2.1 (Vo (Zj s g.1))∧Ext (fun _=>False) hp g.2.2∧(∀ b,Yc g.2.1=some b→hp.length<b))
    (fun g=>([(1,.pointer (some ⟨h.length,0,none⟩)),(2,.slice none 0 0),(3,out),(4,Zd (s:Nat)),(5,.pointer (some ⟨hp.length,0,none⟩)),(24,Zd (n:Nat)),(25,Zd (g.1:Nat))],g.2.2)) (fun g=>n-g.1) (0,.slice none 0 0,H1) ⟨Nat.zero_le _,b5,.inl ⟨rfl,rfl⟩,hE1,fun b hb=>by cases hb⟩ (by simp (maxSteps:=2000000) only [vup,cond_true,cond_false,Nat.reduceBEq,Int.natCast_zero]) rfl ?_
   rintro ⟨k,wv,G⟩ ⟨hk,g5,how,hEG,hbw⟩
   simp only at hk g5 how hEG hbw
   refine Zy fun Qb hQb=>?_
   simp only [l68_0]
   by_cases hkin:(k:Int)<n
   · have hk' : k<n:=by omega
     have ht:=testV (y:=k) (show s<9223372036854775808 by omega)
     have hnx:=Ws s k
     refine Zg fun N7 hN7=>?_
     simp (maxSteps:=2000000) only [↓Za,↓Zb,↓Zc,vup,cond_true,cond_false,aop,Zf,ev,sput,Ze,Yf,Yi,Nat.reduceBEq,hkin]
     refine hN7 [(1,.pointer (some ⟨h.length,0,none⟩)),(2,.slice none 0 0),(3,out),(4,Zd (s:Nat)),(5,.pointer (some ⟨hp.length,0,none⟩)),(24,Zd (n:Nat)),(25,Zd (k:Nat)),(26,.bool true)] _ _ ?_ (by simp (maxSteps:=2000000) only [vup,cond_true,cond_false,Nat.reduceBEq])
     clear hN7
     try clear N7
     refine Zg fun N8 hN8=>?_
     simp (maxSteps:=2000000) only [↓Zn,↓vdn,vup,cond_true,cond_false,Zf,ev,Nat.reduceBEq]
     refine hN8 [(1,.pointer (some ⟨h.length,0,none⟩)),(2,.slice none 0 0),(3,out),(4,Zd (s:Nat)),(5,.pointer (some ⟨hp.length,0,none⟩)),(24,Zd (n:Nat)),(25,Zd (k:Nat))] _ _ ?_ (by simp (maxSteps:=2000000) only [vup,cond_true,cond_false,Nat.reduceBEq])
     clear hN8
     try clear N8
     refine Zt fun B hB=>?_
     refine Zx ?_
     refine Zg fun N9 hN9=>?_
     simp (maxSteps:=2000000) only [↓Za,↓Zb,↓Zc,vup,cond_true,cond_false,aop,Zf,ev,sput,Ze,Nat.reduceBEq]
     refine hN9 [(1,.pointer (some ⟨h.length,0,none⟩)),(2,.slice none 0 0),(3,out),(4,Zd (s:Nat)),(5,.pointer (some ⟨hp.length,0,none⟩)),(6,Zd (k:Nat)),(24,Zd (n:Nat)),(25,Zd (k:Nat))] _ _ ?_ (by simp (maxSteps:=2000000) only [vup,cond_true,cond_false,Nat.reduceBEq])
     clear hN9
     try clear N9
     refine Zg fun N10 hN10=>?_
     simp (maxSteps:=2000000) only [↓Za,↓Zb,↓Zc,vup,cond_true,cond_false,aop,Zf,ev,sput,Ze,Yf,Yi,Nat.reduceBEq,ht,beq1,Int.natCast_nonneg]
     refine hN10 [(1,.pointer (some ⟨h.length,0,none⟩)),(2,.slice none 0 0),(3,out),(4,Zd (s:Nat)),(5,.pointer (some ⟨hp.length,0,none⟩)),(6,Zd (k:Nat)),(24,Zd (n:Nat)),(25,Zd (k:Nat)),(32,.bool (s.testBit k))] _ _ ?_ (by simp (maxSteps:=2000000) only [vup,cond_true,cond_false,Nat.reduceBEq])
     clear hN10
     try clear N10
     cases hbit:s.testBit k with
     | false =>
       rw [hbit,if_neg (by decide),List.append_nil] at hnx
       refine Xh rfl ?_
       refine Zm ?_
       simp (maxSteps:=2000000) only [↓Zn,Zf,Zo]
       refine hB [(1,.pointer (some ⟨h.length,0,none⟩)),(2,.slice none 0 0),(3,out),(4,Zd (s:Nat)),(5,.pointer (some ⟨hp.length,0,none⟩)),(24,Zd (n:Nat)),(25,Zd (k:Nat))] _ _ ?_ (by simp (maxSteps:=2000000) only [vup,cond_true,cond_false,Nat.reduceBEq])
       clear hB
       try clear B
       refine Zm ?_
       simp (maxSteps:=2000000) only [↓Za,↓Zb,↓Zc,vup,cond_true,cond_false,aop,ev,sput,Ze,Yf,Yi,Nat.reduceBEq,add1 (show k<9223372036854775807 by omega)]
       exact hQb _ _ _ ⟨(k+1,wv,G),⟨hk',g5,by simp only; rw [hnx]; exact how,hEG,hbw⟩,by simp only; omega,by simp (maxSteps:=2000000) only [vup,cond_true,cond_false,Nat.reduceBEq],rfl⟩
     | true =>
       rw [hbit,if_pos rfl] at hnx
       refine Xu rfl ?_
       refine Zm ?_
       simp (maxSteps:=2000000) only [↓Za,↓Zb,↓Zc,vup,List.map_cons,List.map_nil,cond_true,cond_false,aop,Zf,Zo,ev,sput,Ze,Zi,Nat.reduceBEq,Xl g5 Xy,litI1]
       have hwl:=Uf s k
       refine OwnSl.append (x:=(k:Int)) (how.ext (S:=fun _=>False) (Ext.app _ _ _) (fun _ _=>id)) app_27_27 (by rw [castI_len]; omega) (Zr _ _) ?_
       intro wv' G' ho' hE' hb'
       rw [← castI_snoc,← hnx] at ho'
       have g5' : G'[hp.length]? = some (.cells [wv] 27 false):=by
        rw [hE'.2 _ (by rw [List.length_append]; have:=Yb g5; omega) (fun hc=>by have:=hbw _ hc; omega)]
        exact Yp g5 _
       have hone:one wv' = true:=ho'.notI.2
       have hE2:Ext (fun _=>False) hp G':=ext_app hEG (H':=G++[Blk.ints [(k:Int)] 3 false]) (by simp) (fun q hq=>List.getElem?_append_left (by have:=hEG.1; omega)) (fun b hb=>by have:=hbw b hb; omega) hE'
       have hbw' : ∀ b,Yc wv' = some b→hp.length<b:=fun b hb=>by
        rcases hb' with h1 | ⟨b',h1,h2⟩
        · exact hbw b (h1▸hb)
        · rw [h1] at hb; cases hb
          rw [List.length_append] at h2
          have:=Yb g5; omega
       simp (maxSteps:=2000000) only [store1 g5' Xy hone]
       refine hB [(1,.pointer (some ⟨h.length,0,none⟩)),(2,.slice none 0 0),(3,out),(4,Zd (s:Nat)),(5,.pointer (some ⟨hp.length,0,none⟩)),(24,Zd (n:Nat)),(25,Zd (k:Nat))] _ _ ?_ (by simp (maxSteps:=2000000) only [vup,cond_true,cond_false,Nat.reduceBEq])
       clear hB
       try clear B
       refine Zm ?_
       simp (maxSteps:=2000000) only [↓Za,↓Zb,↓Zc,vup,cond_true,cond_false,aop,ev,sput,Ze,Yf,Yi,Nat.reduceBEq,add1 (show k<9223372036854775807 by omega)]
       refine hQb _ _ _ ⟨(k+1,wv',G'.set hp.length (.cells [wv'] 27 false)),⟨hk',Xf (Yb g5') _,?_,hE2.set_ge (Nat.le_refl _) _,hbw'⟩,by simp only; omega,by simp (maxSteps:=2000000) only [vup,cond_true,cond_false,Nat.reduceBEq],rfl⟩
       exact ho'.ext (S:=fun b=>b=hp.length) (Ext.set _ rfl) (fun b hb hc=>by have:=hbw' b hb; omega)
   have hkn:=loopEnd hkin hk
   subst hkn
   refine Zg fun N11 hN11=>?_
   simp (maxSteps:=2000000) only [↓Za,↓Zb,↓Zc,vup,cond_true,cond_false,aop,Zf,ev,sput,Ze,Yf,Yi,Nat.reduceBEq,hkin]
   refine hN11 [(1,.pointer (some ⟨h.length,0,none⟩)),(2,.slice none 0 0),(3,out),(4,Zd (s:Nat)),(5,.pointer (some ⟨hp.length,0,none⟩)),(24,Zd (n:Nat)),(25,Zd (n:Nat)),(26,.bool false)] _ _ ?_ (by simp (maxSteps:=2000000) only [vup,cond_true,cond_false,Nat.reduceBEq])
   clear hN11
   try clear N11
   refine Zg fun N12 hN12=>?_
   simp (maxSteps:=2000000) only [↓Yo,↓vdn,vup,cond_true,cond_false,Zf,ev,Nat.reduceBEq]
   refine hQb _ _ _ (hQa _ _ _ ?_)
   simp (maxSteps:=2000000) only [Zf,Zo,if_true]
   refine hX [(1,.pointer (some ⟨h.length,0,none⟩)),(2,.slice none 0 0),(3,out),(4,Zd (s:Nat)),(5,.pointer (some ⟨hp.length,0,none⟩)),(26,.bool false)] _ _ ?_ (by simp (maxSteps:=2000000) only [vup,cond_true,cond_false,Nat.reduceBEq])
   clear hX
   try clear X
   obtain ⟨W,hW⟩ : ∃ W,W=Zj s n:=⟨_,rfl⟩
   have hWN:Xd n s=W:=hW.symm
   have hWl:W.length≤n:=by rw [hW]; exact Uf s n
   have hW1:1≤W.length:=by rw [← hWN]; exact worldsN_pos hs1 hs'
   have hWlt : ∀ w∈W,w<n:=fun w hw=>(worldsTo_lt (by rw [← hW]; exact hw)).1
   have htm:=htame s hs1 hs'
   rw [hWN] at htm
   rw [← hW] at how
   obtain ⟨T,hT⟩ : ∃ T,T=sysB n l W:=⟨_,rfl⟩
   have hcorner:Jb n l s=(Wu (l.length+1) W.length T).bind fun x=>if x.any (fun q=>decide (q<0)) then none else some (Wr n W x W.length):=by rw [Jb,hWN,hT]
   rw [← hT] at htm
   clear hW hQa hQb
   refine Zg fun N13 hN13=>?_
   simp (maxSteps:=2000000) only [↓Za,↓Zb,↓Zc,vup,List.map_cons,List.map_nil,cond_true,cond_false,aop,Zf,ev,sput,Ze,Nat.reduceBEq,List.map_toArray]
   refine hN13 [(1,.pointer (some ⟨h.length,0,none⟩)),(2,.slice none 0 0),(3,out),(4,Zd (s:Nat)),(5,.pointer (some ⟨hp.length,0,none⟩)),(7,.func (.func 117) #[] #[.pointer (some ⟨hp.length,0,none⟩)]),(26,.bool false)] _ _ ?_ (by simp (maxSteps:=2000000) only [vup,cond_true,cond_false,Nat.reduceBEq])
   clear hN13
   try clear N13
   -- the first row
   have hpG:hp.length<G.length:=Yb g5
   have t1G:G[h.length]? = some (.cells [Zd (n:Nat),v] 117 false):=(hEG.2 _ (Yb t1p) id).trans t1p
   refine Zg fun N14 hN14=>?_
   simp only [q68_13]
   refine Yx [(5,1),(6,4)] (by kernel_rfl) (by kernel_rfl) (by kernel_rfl) (by kernel_rfl) ?_
   simp (maxSteps:=2000000) only [↓Zz,↓vdn,vup,List.map_cons,List.map_nil,cond_true,cond_false,aop,Zf,ev,sput,Ze,Yf,Yi,Nat.reduceBEq,Nat.reduceAdd,tyf,tA0,Jg t1G,Int.natCast_nonneg,hsh,hsub,Yn,List.nil_append,List.append_nil,List.cons_append]
   refine ⟨_,_,(show Xj prog 72 [Zd 1] G (qV ((1:Int):Rat)) from Uo),rfl,?_⟩
   refine (row_call (q:=((1:Int):Rat)) g5 how.int (by omega) (show 2 ^ n-1<9223372036854775808 by omega)).mono ?_
   rintro r0 G1 ⟨x1,x2,x3⟩
   have x2' : OwnP 45 G1 r0 (rowC T W.length 0):=by rw [hT,rowC_sum]; exact x2
   obtain ⟨bb,yy,hr0,-⟩:=Wo x2' Uk
   have lit0 : ∀ K:Value→Zh→Prop,Yj prog G1 125 1 [(0,r0)] K=K (.slice (some ⟨G1.length,0,none⟩) 1 1) (G1++[.cells [r0] 43 false]):=fun K=>by rw [hr0]; exact litV el_125 zero_43 esz_43
   simp (maxSteps:=2000000) only [lit0]
   refine hN14 [(1,.pointer (some ⟨h.length,0,none⟩)),(2,.slice none 0 0),(3,out),(4,Zd (s:Nat)),(5,.pointer (some ⟨hp.length,0,none⟩)),(7,.func (.func 117) #[] #[.pointer (some ⟨hp.length,0,none⟩)]),(8,.slice (some ⟨G1.length,0,none⟩) 1 1),(26,.bool false)] _ _ ?_ (by simp (maxSteps:=2000000) only [vup,cond_true,cond_false,Nat.reduceBEq])
   clear hN14
   try clear N14
   have hbr0:Yc r0=some bb:=by rw [hr0]; rfl
   have hbb:=x3 bb hbr0
   have R0:Rows hp.length (G1++[.cells [r0] 43 false]) (.slice (some ⟨G1.length,0,none⟩) 1 1) [r0] W.length T:=by
    obtain ⟨b2,y2,e1,e2⟩:=Wo x2' Uk
    have hbl:bb<G1.length:=by rw [e1] at hbr0; cases hbr0; exact Yb e2
    refine ⟨.inl ⟨_,rfl,Zr _ _⟩,by simp,fun i hi=>?_,fun i j hi hj _=>?_,fun i hi hc=>?_,⟨fun b hb=>?_,fun i b hi hb=>?_⟩⟩
    · obtain rfl:i=0:=by simpa using hi
      exact x2'.ext (Ext.app _ _ _)
    · simp at hi hj; omega
    · obtain rfl:i=0:=by simpa using hi
      simp only [List.getD,List.getElem?_cons_zero,Option.getD_some,hbr0] at hc
      cases hc; omega
    · cases hb; have:=x1.1; omega
    · obtain rfl:i=0:=by simpa using hi
      simp only [List.getD,List.getElem?_cons_zero,Option.getD_some,hbr0] at hb
      cases hb; omega
   have how0:OwnSl 3 (G1++[.cells [r0] 43 false]) wv (Vo W):=how.ext (S:=fun _=>False) (x1.trans (Ext.app _ _ _)) (fun _ _=>id)
   have g50:(G1++[Blk.cells [r0] 43 false])[hp.length]? = some (.cells [wv] 27 false):=Yp ((x1.2 _ hpG id).trans g5) _
   have hE0:Ext (fun _=>False) hp (G1++[.cells [r0] 43 false]):=hEG.trans (x1.trans (Ext.app _ _ _))
   clear x1 x2 x2' x3 lit0 g5 how hEG t1G b5 hE1 hH1 hH1l H1
   have tI : ∀ G:Zh,Ext (fun _=>False) hp G→G[h.length]? = some (.cells [Zd (n:Nat),v] 117 false)∧PairSl G v l:=fun G hx=>⟨(hx.2 _ (Yb t1p) id).trans t1p,hv.ext (hE.trans (hEp.trans hx))⟩
   -- a row for each bet
   refine Zt fun X hX=>?_
   refine Zg fun N15 hN15=>?_
   simp (maxSteps:=2000000) only [↓Za,↓Zb,↓Zc,vup,List.map_cons,List.map_nil,cond_true,cond_false,aop,Zf,ev,sput,Ze,Zi,Nat.reduceBEq,tyf,tA1,loadT1 (tI _ hE0).1,hv.len]
   refine hN15 [(1,.pointer (some ⟨h.length,0,none⟩)),(2,.slice none 0 0),(3,out),(4,Zd (s:Nat)),(5,.pointer (some ⟨hp.length,0,none⟩)),(7,.func (.func 117) #[] #[.pointer (some ⟨hp.length,0,none⟩)]),(8,.slice (some ⟨G1.length,0,none⟩) 1 1),(26,.bool false),(48,v),(49,Zd l.length),(50,.int .i64 0)] _ _ ?_ (by simp (maxSteps:=2000000) only [vup,cond_true,cond_false,Nat.reduceBEq])
   clear hN15
   try clear N15
   refine Zx ?_
   refine Zy fun Qa hQa=>?_
   refine Xa (γ:=Nat×Value×List Value×Zh) (fun g=>g.1≤l.length∧g.2.2.1.length=g.1+1∧Rows hp.length g.2.2.2 g.2.1 g.2.2.1 W.length T∧(1≤g.1→OwnV 43 g.2.2.2 g.2.1 g.2.2.1)∧Ext (fun _=>False) hp g.2.2.2∧g.2.2.2[hp.length]? = some (.cells [wv] 27 false)∧OwnSl 3 g.2.2.2 wv (Vo W))
    (fun g=>([(1,.pointer (some ⟨h.length,0,none⟩)),(2,.slice none 0 0),(3,out),(4,Zd (s:Nat)),(5,.pointer (some ⟨hp.length,0,none⟩)),(7,.func (.func 117) #[] #[.pointer (some ⟨hp.length,0,none⟩)]),(8,g.2.1),(26,.bool false),(48,v),(49,Zd l.length),(50,Zd (g.1:Nat))],g.2.2.2)) (fun g=>l.length-g.1) (0,.slice (some ⟨G1.length,0,none⟩) 1 1,[r0],G1++[.cells [r0] 43 false]) ⟨Nat.zero_le _,rfl,R0,fun h0=>absurd h0 (by simp),hE0,g50,how0⟩ (by simp (maxSteps:=2000000) only [vup,cond_true,cond_false,Nat.reduceBEq,Int.natCast_zero]) rfl ?_
   rintro ⟨i,q,ws,G⟩ ⟨hi,hwsl,R,hOwn,hEG,g5,how⟩
   simp only at hi hwsl R hOwn hEG g5 how
   refine Zy fun Qb hQb=>?_
   simp only [l68_1]
   have sepq:Yc q≠some hp.length∧∀ b,Yc wv=some b→Yc q≠some b:=by
    obtain ⟨bq,cq,e1,e2,e3⟩:=R.sl.blk R.ne
    refine ⟨fun hc=>?_,fun b hb hc=>?_⟩
    · rw [e1] at hc; cases hc
      rw [g5] at e2; cases e2
    · rw [e1] at hc; cases hc
      obtain ⟨ys,e4⟩:=how.ints hb
      rw [e4] at e2; cases e2
   by_cases hiin:(i:Int)<l.length
   · have hi' : i<l.length:=by omega
     obtain ⟨tG,hvG⟩:=tI G hEG
     obtain ⟨⟨x,y⟩,hxy⟩ : ∃ p,l.getD i (0,0)=p:=⟨_,rfl⟩
     have hb:=hok i hi'
     rw [hxy] at hb
     simp only [okB,Bool.and_eq_true,decide_eq_true_eq] at hb
     obtain ⟨e,he⟩ : ∃ e:Nat,x=e:=⟨x.toNat,by omega⟩
     subst he
     have hee:e<2 ^ n:=by
      have:=hb.2.1
      exact_mod_cast this
     refine Zg fun N16 hN16=>?_
     simp (maxSteps:=2000000) only [↓Za,↓Zb,↓Zc,vup,cond_true,cond_false,aop,Zf,ev,sput,Ze,Yf,Yi,Nat.reduceBEq,hiin]
     refine hN16 [(1,.pointer (some ⟨h.length,0,none⟩)),(2,.slice none 0 0),(3,out),(4,Zd (s:Nat)),(5,.pointer (some ⟨hp.length,0,none⟩)),(7,.func (.func 117) #[] #[.pointer (some ⟨hp.length,0,none⟩)]),(8,q),(26,.bool false),(48,v),(49,Zd l.length),(50,Zd (i:Nat)),(51,.bool true)] _ _ ?_ (by simp (maxSteps:=2000000) only [vup,cond_true,cond_false,Nat.reduceBEq])
     clear hN16
     try clear N16
     refine Zg fun N17 hN17=>?_
     simp (maxSteps:=2000000) only [↓Zn,↓vdn,vup,cond_true,cond_false,Zf,ev,Nat.reduceBEq]
     refine hN17 [(1,.pointer (some ⟨h.length,0,none⟩)),(2,.slice none 0 0),(3,out),(4,Zd (s:Nat)),(5,.pointer (some ⟨hp.length,0,none⟩)),(7,.func (.func 117) #[] #[.pointer (some ⟨hp.length,0,none⟩)]),(8,q),(26,.bool false),(48,v),(49,Zd l.length),(50,Zd (i:Nat))] _ _ ?_ (by simp (maxSteps:=2000000) only [vup,cond_true,cond_false,Nat.reduceBEq])
     clear hN17
     try clear N17
     refine Zt fun B hB=>?_
     refine Zx ?_
     obtain ⟨G2,hG2⟩ : ∃ G2,G2=G++[bB e y]:=⟨_,rfl⟩
     have c10:G2[G.length]? = some (bB e y):=by rw [hG2]; exact Zr _ _
     have hE2:Ext (fun _=>False) G G2:=by rw [hG2]; exact Ext.app _ _ _
     have hG2l:G2.length=G.length+1:=by rw [hG2]; simp
     refine Zg fun N18 hN18=>?_
     simp (maxSteps:=2000000) only [↓Za,↓Zb,↓Zc,vup,cond_true,cond_false,aop,Zf,ev,sput,Ze,Nat.reduceBEq,tyf,hvG.idx el_46 esz_51 hi',hvG.load shp_51 hi',hxy,Xg,Yg,storeBt (Zr G zB) rfl,set_new]
     rw [← hG2]
     refine hN18 [(1,.pointer (some ⟨h.length,0,none⟩)),(2,.slice none 0 0),(3,out),(4,Zd (s:Nat)),(5,.pointer (some ⟨hp.length,0,none⟩)),(7,.func (.func 117) #[] #[.pointer (some ⟨hp.length,0,none⟩)]),(8,q),(10,.pointer (some ⟨G.length,0,none⟩)),(26,.bool false),(48,v),(49,Zd l.length),(50,Zd (i:Nat))] _ _ ?_ (by simp (maxSteps:=2000000) only [vup,cond_true,cond_false,Nat.reduceBEq])
     clear hN18
     try clear N18
     refine Zm ?_
     simp only [q68_17]
     refine Yx [(6,1),(7,4)] (by kernel_rfl) (by kernel_rfl) (by kernel_rfl) (by kernel_rfl) ?_
     simp (maxSteps:=2000000) only [↓Zz,↓vdn,vup,List.map_cons,List.map_nil,cond_true,cond_false,aop,Zf,Zo,ev,sput,Ze,Zi,Nat.reduceBEq,Nat.reduceAdd,bA0,bA1,loadB0 c10,loadB1 c10,Yn,List.nil_append,List.append_nil,List.cons_append]
     refine ⟨_,_,(show Xj prog 116 [Zd y,Zd 12] G2 (qV (Rat.divInt y 12)) from Us (by decide) (by omega) (by decide)),rfl,?_⟩
     refine (row_call (q:=Rat.divInt y 12) ((hE2.2 _ (Yb g5) id).trans g5) (how.ext (S:=fun _=>False) hE2 (fun _ _=>id)).int (by omega) (show e<9223372036854775808 by omega)).mono ?_
     rintro rv G3 ⟨x1,x2,x3⟩
     have x2' : OwnP 45 G3 rv (rowC T W.length ws.length):=by
      rw [hwsl,hT,rowC_bet,hxy]; exact x2
     obtain ⟨bb,yy,hrv,-⟩:=Wo x2' Uk
     have lit0 : ∀ K:Value→Zh→Prop,Yj prog G3 125 1 [(0,rv)] K=K (.slice (some ⟨G3.length,0,none⟩) 1 1) (G3++[.cells [rv] 43 false]):=fun K=>by rw [hrv]; exact litV el_125 zero_43 esz_43
     simp (maxSteps:=2000000) only [lit0]
     have hE34:Ext (fun _=>False) G (G3++[.cells [rv] 43 false]):=hE2.trans (x1.trans (Ext.app _ _ _))
     refine R.more (by omega) (by have:=hEG.1; omega) hE34 (x2'.ext (Ext.app _ _ _)) (fun b hb=>by have:=x3 b hb; omega) (Zr _ _) fun q' h' ho' R' hEa hEb=>?_
     have keep : ∀ b,b<G.length→Yc q≠some b→h'[b]? = G[b]?:=fun b hb hne=>by
      rw [hEb.2 b (by have:=hE34.1; omega) hne]; exact hE34.2 b hb id
     have hEh:Ext (fun _=>False) hp h':=by
      refine ⟨by have:=hEG.1; have:=hE34.1; have:=hEa.1; omega,fun z hz _=>?_⟩
      rw [hEa.2 z (by have:=hEG.1; have:=hE34.1; omega) (by omega),hE34.2 z (by have:=hEG.1; omega) id]
      exact hEG.2 z hz id
     have g5' : h'[hp.length]? = some (.cells [wv] 27 false):=by rw [keep _ (Yb g5) sepq.1]; exact g5
     have how' : OwnSl 3 h' wv (Vo W):=how.same fun b hb=>keep b (how.lt hb) (sepq.2 b hb)
     refine hB [(1,.pointer (some ⟨h.length,0,none⟩)),(2,.slice none 0 0),(3,out),(4,Zd (s:Nat)),(5,.pointer (some ⟨hp.length,0,none⟩)),(7,.func (.func 117) #[] #[.pointer (some ⟨hp.length,0,none⟩)]),(8,q'),(26,.bool false),(48,v),(49,Zd l.length),(50,Zd (i:Nat))] _ _ ?_ (by simp (maxSteps:=2000000) only [vup,cond_true,cond_false,Nat.reduceBEq])
     clear hB
     try clear B
     refine Zm ?_
     simp (maxSteps:=2000000) only [↓Za,↓Zb,↓Zc,vup,cond_true,cond_false,aop,ev,sput,Ze,Yf,Yi,Nat.reduceBEq,add1 (show i<9223372036854775807 by omega)]
     exact hQb _ _ _ ⟨(i+1,q',ws++[rv],h'),⟨hi',by simp [hwsl],R',fun _=>ho',hEh,g5',how'⟩,by simp only; omega,by simp (maxSteps:=2000000) only [vup,cond_true,cond_false,Nat.reduceBEq],rfl⟩
   have hil:=loopEnd hiin hi
   subst hil
   refine Zg fun N19 hN19=>?_
   simp (maxSteps:=2000000) only [↓Za,↓Zb,↓Zc,vup,cond_true,cond_false,aop,Zf,ev,sput,Ze,Yf,Yi,Nat.reduceBEq,hiin]
   refine hN19 [(1,.pointer (some ⟨h.length,0,none⟩)),(2,.slice none 0 0),(3,out),(4,Zd (s:Nat)),(5,.pointer (some ⟨hp.length,0,none⟩)),(7,.func (.func 117) #[] #[.pointer (some ⟨hp.length,0,none⟩)]),(8,q),(26,.bool false),(48,v),(49,Zd l.length),(50,Zd (l.length:Nat)),(51,.bool false)] _ _ ?_ (by simp (maxSteps:=2000000) only [vup,cond_true,cond_false,Nat.reduceBEq])
   clear hN19
   try clear N19
   refine Zg fun N20 hN20=>?_
   simp (maxSteps:=2000000) only [↓Yo,↓vdn,vup,cond_true,cond_false,Zf,ev,Nat.reduceBEq]
   refine hQb _ _ _ (hQa _ _ _ ?_)
   simp (maxSteps:=2000000) only [Zf,Zo,if_true]
   refine hX [(1,.pointer (some ⟨h.length,0,none⟩)),(2,.slice none 0 0),(3,out),(4,Zd (s:Nat)),(5,.pointer (some ⟨hp.length,0,none⟩)),(7,.func (.func 117) #[] #[.pointer (some ⟨hp.length,0,none⟩)]),(8,q),(26,.bool false),(51,.bool false)] _ _ ?_ (by simp (maxSteps:=2000000) only [vup,cond_true,cond_false,Nat.reduceBEq])
   clear hX
   try clear X
   have ho:=hOwn hl1
   obtain ⟨B,C,hqe,hBC,hBp,M,hbkp⟩:=R.mat ho
   rw [hwsl] at hqe hBC M hbkp
   -- it is solved
   have hli:(Vo W).length=W.length:=castI_len W
   have hsolve:=solve_call M hBC (by omega) (by omega) hW1 (by omega) htm
   refine Zg fun N21 hN21=>?_
   simp (maxSteps:=2000000) only [↓Za,↓Zb,↓Zc,vup,List.map_cons,List.map_nil,cond_true,cond_false,aop,Zf,ev,sput,Ze,Zi,Nat.reduceBEq,tyf,Xl g5 Xy,how.int.len,hli,hqe,Yn,List.nil_append,List.append_nil]
   refine hsolve.mono ?_
   rintro r G' ⟨hEs,x,ok,rfl,hres⟩
   simp (maxSteps:=2000000) only [Wh,Wi]
   refine hN21 [(1,.pointer (some ⟨h.length,0,none⟩)),(2,.slice none 0 0),(3,out),(4,Zd (s:Nat)),(5,.pointer (some ⟨hp.length,0,none⟩)),(7,.func (.func 117) #[] #[.pointer (some ⟨hp.length,0,none⟩)]),(11,x),(12,.bool ok),(26,.bool false),(51,.bool false)] _ _ ?_ (by simp (maxSteps:=2000000) only [vup,cond_true,cond_false,Nat.reduceBEq])
   clear hN21
   try clear N21
   have hBk : ∀ b,Tch B (l.length+1) (fun i=>bkOf (ws.getD i undef)) b→hp.length≤b∧b≠hp.length∧∀ b',Yc wv=some b'→b≠b':=fun b hb=>by
    rcases hb with rfl | ⟨j,hj,rfl⟩
    · obtain ⟨us,e2⟩:=M.outer
      refine ⟨hBp,fun hc=>?_,fun b' hb' hc=>?_⟩
      · rw [← hc,e2] at g5
        exact absurd (Blk.cells.inj (Option.some.inj g5)).2.1 (by decide)
      · obtain ⟨ys,e4⟩:=how.ints hb'
        rw [← hc,e2] at e4; cases e4
    · obtain ⟨cc,xs,e1,e3,e2⟩:=M.row j hj
      refine ⟨hbkp j hj,fun hc=>?_,fun b' hb' hc=>?_⟩
      · have e2' : G[bkOf (ws.getD j undef)]? = _:=e2
        have hc' : bkOf (ws.getD j undef)=hp.length:=hc
        rw [hc',g5] at e2'; cases e2'
      · obtain ⟨ys,e4⟩:=how.ints hb'
        have e2' : G[bkOf (ws.getD j undef)]? = _:=e2
        have hc' : bkOf (ws.getD j undef)=b':=hc
        rw [hc',e4] at e2'; cases e2'
   have hEG' : Ext (fun _=>False) hp G':=by
    refine ⟨by have:=hEG.1; have:=hEs.1; omega,fun z hz _=>?_⟩
    rw [hEs.2 z (by have:=hEG.1; omega) (fun hc=>by have:=(hBk z hc).1; omega)]
    exact hEG.2 z hz id
   have g5' : G'[hp.length]? = some (.cells [wv] 27 false):=by
    rw [hEs.2 _ (Yb g5) (fun hc=>(hBk _ hc).2.1 rfl)]; exact g5
   have how' : OwnSl 3 G' wv (Vo W):=how.same fun b hb=>hEs.2 b (how.lt hb) (fun hc=>(hBk _ hc).2.2 b hb rfl)
   have hlen' : G.length≤G'.length:=hEs.1
   clear hQa hQb M R hOwn sepq ho hsolve hBk hEs hqe g50 how0 hE0 R0 hlen'
   -- the next set
   have goOn : ∀ e out' G2,CornSl G2 out' (Ve n l s)→Ext (fun _=>False) H G2→(∀ b,Yc out' = some b→H.length≤b)→ELe e [(1,.pointer (some ⟨h.length,0,none⟩)),(2,.slice none 0 0),(3,out'),(4,Zd (s:Nat)),(26,.bool false),(51,.bool false)]→Y e G2:=by
    intro e out' G2 c1 c2 c3 he
    refine hY _ _ _ ?_ he
    refine Zm ?_
    have ea:addV .i64 (s:Int) 1=((s+1:Nat):Int):=add1 (by omega)
    simp (maxSteps:=2000000) only [↓Za,↓Zb,↓Zc,vup,cond_true,cond_false,aop,ev,sput,Ze,Yf,Yi,Nat.reduceBEq,ea]
    exact hQ2 _ _ _ ⟨(s+1,out',G2),⟨by simp only; omega,by simp only; omega,by simpa using c1,c2,c3⟩,by simp only; omega,by simp (maxSteps:=2000000) only [vup,cond_true,cond_false,Nat.reduceBEq],rfl⟩
   have hcsucc:Ve n l s=Ve n l (s-1)++(Jb n l s).toList:=by
    obtain ⟨s',rfl⟩ : ∃ s',s=s' + 1:=⟨s-1,by omega⟩
    rw [Ve]; simp
   have skip:Jb n l s=none→∀ e,ELe e [(1,.pointer (some ⟨h.length,0,none⟩)),(2,.slice none 0 0),(3,out),(4,Zd (s:Nat)),(26,.bool false),(51,.bool false)]→Y e G':=fun h0 e he=>goOn e out G' (by rw [hcsucc,h0]; simpa using hcs.ext hEG') (hEp.trans hEG') hbo he
   cases hsol:Wu (l.length+1) W.length T with
   | none =>
     rw [hsol] at hres hcorner
     simp only at hres
     obtain ⟨rfl,rfl⟩:=hres
     refine Zm ?_
     simp (maxSteps:=2000000) only [↓Za,↓Zl,↓Yo,↓Zb,↓Zc,↓vdn,vup,cond_true,cond_false,aop,Zf,Zo,ev,sput,Ze,unK,Nat.reduceBEq]
     exact skip hcorner _ (by simp (maxSteps:=2000000) only [vup,cond_true,cond_false,Nat.reduceBEq])
   | some xs =>
     rw [hsol,Option.bind_some] at hcorner
     rw [hsol] at hres
     simp only at hres
     obtain ⟨rfl,hox,hbx⟩:=hres
     have hxl:xs.length=W.length:=solveT_len hsol
     have hany:((xs.map ofQ).any fun p=>decide (p.1<0))=xs.any fun q=>decide (q<0):=by
      rw [List.any_map]
      congr 1
      funext q
      refine decide_eq_decide.2 ?_
      show q.num<0↔q<0
      rw [← Rat.not_le,← Rat.num_nonneg]; omega
     have hneg:=hasF_call (g:=119) (cap:=#[]) (f:=fun p=>decide (p.1<0)) hox.pair (by simp; omega) (fun h' hx p hp=>neg_call)
     rw [hany] at hneg
     refine Zt fun X hX=>?_
     refine Zg fun N22 hN22=>?_
     simp (maxSteps:=2000000) only [↓Za,↓Zb,↓Zc,↓vdn,vup,List.map_cons,List.map_nil,cond_true,cond_false,aop,Zf,ev,sput,Ze,unK,Nat.reduceBEq,Yn,List.nil_append,List.append_nil]
     refine hneg.mono ?_
     rintro _ G' ⟨rfl,rfl⟩
     refine hN22 [(1,.pointer (some ⟨h.length,0,none⟩)),(2,.slice none 0 0),(3,out),(4,Zd (s:Nat)),(5,.pointer (some ⟨hp.length,0,none⟩)),(7,.func (.func 117) #[] #[.pointer (some ⟨hp.length,0,none⟩)]),(11,x),(12,.bool true),(26,.bool false),(51,.bool false),(77,.bool (xs.any fun q=>decide (q<0)))] _ _ ?_ (by simp (maxSteps:=2000000) only [vup,cond_true,cond_false,Nat.reduceBEq])
     clear hN22
     try clear N22
     cases hn:xs.any fun q=>decide (q<0) with
     | true =>
       rw [hn,if_pos rfl] at hcorner
       refine Xu rfl ?_
       refine Zm ?_
       simp (maxSteps:=2000000) only [↓Yo,Zf,Zo]
       exact skip hcorner _ (by simp (maxSteps:=2000000) only [vup,cond_true,cond_false,Nat.reduceBEq])
     | false =>
       rw [hn,if_neg (by decide)] at hcorner
       refine Xh rfl ?_
       refine Zm ?_
       simp (maxSteps:=2000000) only [↓Zn,Zf]
       refine hX [(1,.pointer (some ⟨h.length,0,none⟩)),(2,.slice none 0 0),(3,out),(4,Zd (s:Nat)),(5,.pointer (some ⟨hp.length,0,none⟩)),(7,.func (.func 117) #[] #[.pointer (some ⟨hp.length,0,none⟩)]),(11,x),(26,.bool false),(51,.bool false)] _ _ ?_ (by simp (maxSteps:=2000000) only [vup,cond_true,cond_false,Nat.reduceBEq])
       clear hX
       try clear X
       obtain ⟨tG,-⟩:=tI G' hEG'
       -- the belief
       obtain ⟨F,hF⟩ : ∃ F:Nat→Zh,F=fun k=>G'++[.ints [0,1] 45 false]++[.cells ((Ye ((Wr n W xs k).map ofQ)).map Zd) 45 false]:=⟨_,rfl⟩
       have hF0 : ∀ k,(F k)[G'.length+1]? = some (.cells ((Ye ((Wr n W xs k).map ofQ)).map Zd) 45 false):=fun k=>by rw [hF]; exact b2_1 ..
       have hFE : ∀ k,Ext (fun _=>False) G' (F k):=fun k=>by rw [hF]; exact e2 ..
       have hFs : ∀ k,(F k).set (G'.length+1) (.cells ((Ye ((Wr n W xs (k+1)).map ofQ)).map Zd) 45 false)=F (k+1):=fun k=>by
        simp only [hF]
        rw [show G'.length+1=(G'++[Blk.ints [0,1] 45 false]).length by simp,set_new]
       have hFl : ∀ k,(F k).length=G'.length+2:=fun k=>by rw [hF]; simp
       have hF1:G'++[.ints [0,1] 45 false]++[.cells ((Ye (List.replicate n ((0:Int),(1:Int)))).map Zd) 45 false]=F 0:=by
        rw [hF]; simp only [Wr,List.map_replicate]; rfl
       have rep:=repeat_call (h:=G'++[.ints [0,1] 45 false]) (b0:=G'.length) (x:=0) (y:=1) (Zr _ _) (show 1≤n by omega) (show n<6 by omega)
       rw [hF1,List.length_append,List.length_singleton] at rep
       have q0:qV ((0:Int):Rat) = .agg #[Zd 0,Zd 1]:=rfl
       refine Zg fun N23 hN23=>?_
       simp only [q68_21]
       refine aw_drawR (fun z=>z[h.length]? = some (Blk.cells [Zd (n:Nat),v] 117 false)) [(0,1),(3,5)] (by kernel_rfl) (by kernel_rfl) (by kernel_rfl) (by kernel_rfl) tG ?_
       simp (maxSteps:=2000000) only [↓Wa,↓vdn,vup,List.map_cons,List.map_nil,cond_true,cond_false,aop,Zf,ev,sput,Ze,Nat.reduceBEq,Nat.reduceAdd,Yn,List.nil_append,List.append_nil]
       refine ⟨_,_,(show Xj prog 72 [Zd 0] G' (qV ((0:Int):Rat)) from Uo),rfl,?_⟩
       simp (maxSteps:=2000000) only [q0,litF,tA0]
       refine ⟨Yp tG _,Zd (n:Nat),fun z hz=>by simp only [Jg hz],_,_,rep,(hFE 0).2 _ (Yb tG) id |>.trans tG,?_⟩
       refine hN23 [(1,.pointer (some ⟨h.length,0,none⟩)),(2,.slice none 0 0),(3,out),(4,Zd (s:Nat)),(5,.pointer (some ⟨hp.length,0,none⟩)),(7,.func (.func 117) #[] #[.pointer (some ⟨hp.length,0,none⟩)]),(11,x),(13,.slice (some ⟨G'.length+1,0,none⟩) n n),(26,.bool false),(51,.bool false)] _ _ ?_ (by simp (maxSteps:=2000000) only [vup,cond_true,cond_false,Nat.reduceBEq])
       clear hN23
       try clear N23
       have g5F : ∀ k,(F k)[hp.length]? = some (.cells [wv] 27 false):=fun k=>((hFE k).2 _ (Yb g5') id).trans g5'
       have howF : ∀ k,OwnSl 3 (F k) wv (Vo W):=fun k=>how'.ext (S:=fun _=>False) (hFE k) (fun _ _=>id)
       refine Zt fun U hU=>?_
       refine Zg fun N24 hN24=>?_
       simp (maxSteps:=2000000) only [↓Za,↓Zb,↓Zc,vup,List.map_cons,List.map_nil,cond_true,cond_false,aop,Zf,ev,sput,Ze,Zi,Nat.reduceBEq,tyf,Xl (g5F 0) Xy,(howF 0).int.len,hli]
       refine hN24 [(1,.pointer (some ⟨h.length,0,none⟩)),(2,.slice none 0 0),(3,out),(4,Zd (s:Nat)),(5,.pointer (some ⟨hp.length,0,none⟩)),(7,.func (.func 117) #[] #[.pointer (some ⟨hp.length,0,none⟩)]),(11,x),(13,.slice (some ⟨G'.length+1,0,none⟩) n n),(26,.bool false),(51,.bool false),(83,wv),(84,Zd (W.length:Nat)),(85,.int .i64 0)] _ _ ?_ (by simp (maxSteps:=2000000) only [vup,cond_true,cond_false,Nat.reduceBEq])
       clear hN24
       try clear N24
       refine Zx ?_
       refine Zy fun Qa hQa=>?_
       refine Xa (γ:=Nat) (fun k=>k≤W.length) (fun k=>([(1,.pointer (some ⟨h.length,0,none⟩)),(2,.slice none 0 0),(3,out),(4,Zd (s:Nat)),(5,.pointer (some ⟨hp.length,0,none⟩)),(7,.func (.func 117) #[] #[.pointer (some ⟨hp.length,0,none⟩)]),(11,x),(13,.slice (some ⟨G'.length+1,0,none⟩) n n),(26,.bool false),(51,.bool false),(83,wv),(84,Zd (W.length:Nat)),(85,Zd (k:Nat))],F k)) (fun k=>W.length-k) 0 (Nat.zero_le _) (by simp (maxSteps:=2000000) only [vup,cond_true,cond_false,Nat.reduceBEq,Int.natCast_zero]) rfl ?_
       rintro k hk
       refine Zy fun Qb hQb=>?_
       simp only [l68_2]
       by_cases hkin:(k:Int)<W.length
       · have hk' : k<W.length:=by omega
         have hkc:k<(Vo W).length:=by omega
         have hw:W.getD k 0<n:=hWlt _ (by rw [List.getD,List.getElem?_eq_getElem hk']; exact List.getElem_mem hk')
         have hxF:=(hox.ext (hFE k)).pair
         have hkx:k<(xs.map ofQ).length:=by rw [List.length_map]; omega
         have hgx:(xs.map ofQ).getD k (0,0)=ofQ (xs.getD k 0):=by
          rw [List.getD,List.getElem?_map,List.getElem?_eq_getElem (show k<xs.length by omega),List.getD,List.getElem?_eq_getElem (show k<xs.length by omega)]; rfl
         have hslen:((Wr n W xs k).map ofQ).length=n:=by rw [List.length_map,Uw]
         have pF:=pairSl_cells (hF0 k)
         rw [hslen] at pF
         have hidx : ∀ K:Value→Prop,Xb prog 122 (.slice (some ⟨G'.length+1,0,none⟩) n n) (Zd (W.getD k 0:Nat)) K=K (.pointer (some ⟨G'.length+1,W.getD k 0*2,none⟩)):=fun K=>by
          rw [pF.idx el_122 Ub (by rw [hslen]; exact hw),elemP_pair]
         have hst : ∀ K:Zh→Prop,Xq prog (F k) 45 (.pointer (some ⟨G'.length+1,W.getD k 0*2,none⟩)) (.agg #[Zd (xs.getD k 0).num,Zd ((xs.getD k 0).den:Int)]) K=K (F (k+1)):=fun K=>by
          rw [storePC (hF0 k) Je (by rw [hslen]; exact hw),← hFs k,Wr,List.map_set]; rfl
         refine Zg fun N25 hN25=>?_
         simp (maxSteps:=2000000) only [↓Za,↓Zb,↓Zc,vup,cond_true,cond_false,aop,Zf,ev,sput,Ze,Yf,Yi,Nat.reduceBEq,hkin]
         refine hN25 [(1,.pointer (some ⟨h.length,0,none⟩)),(2,.slice none 0 0),(3,out),(4,Zd (s:Nat)),(5,.pointer (some ⟨hp.length,0,none⟩)),(7,.func (.func 117) #[] #[.pointer (some ⟨hp.length,0,none⟩)]),(11,x),(13,.slice (some ⟨G'.length+1,0,none⟩) n n),(26,.bool false),(51,.bool false),(83,wv),(84,Zd (W.length:Nat)),(85,Zd (k:Nat)),(86,.bool true)] _ _ ?_ (by simp (maxSteps:=2000000) only [vup,cond_true,cond_false,Nat.reduceBEq])
         clear hN25
         try clear N25
         refine Zg fun N26 hN26=>?_
         simp (maxSteps:=2000000) only [↓Zn,↓vdn,vup,cond_true,cond_false,Zf,ev,Nat.reduceBEq]
         refine hN26 [(1,.pointer (some ⟨h.length,0,none⟩)),(2,.slice none 0 0),(3,out),(4,Zd (s:Nat)),(5,.pointer (some ⟨hp.length,0,none⟩)),(7,.func (.func 117) #[] #[.pointer (some ⟨hp.length,0,none⟩)]),(11,x),(13,.slice (some ⟨G'.length+1,0,none⟩) n n),(26,.bool false),(51,.bool false),(83,wv),(84,Zd (W.length:Nat)),(85,Zd (k:Nat))] _ _ ?_ (by simp (maxSteps:=2000000) only [vup,cond_true,cond_false,Nat.reduceBEq])
         clear hN26
         try clear N26
         refine Zt fun B hB=>?_
         refine Zx ?_
         refine Zg fun N27 hN27=>?_
         simp (maxSteps:=2000000) only [↓Za,↓Zb,↓Zc,vup,cond_true,cond_false,aop,Zf,ev,sput,Ze,Nat.reduceBEq,(howF k).int.idx Vy Wm hkc,(howF k).int.load Yy hkc,castI_getD]
         refine hN27 [(1,.pointer (some ⟨h.length,0,none⟩)),(2,.slice none 0 0),(3,out),(4,Zd (s:Nat)),(5,.pointer (some ⟨hp.length,0,none⟩)),(7,.func (.func 117) #[] #[.pointer (some ⟨hp.length,0,none⟩)]),(11,x),(13,.slice (some ⟨G'.length+1,0,none⟩) n n),(14,Zd (k:Nat)),(15,Zd (W.getD k 0:Nat)),(26,.bool false),(51,.bool false),(83,wv),(84,Zd (W.length:Nat)),(85,Zd (k:Nat))] _ _ ?_ (by simp (maxSteps:=2000000) only [vup,cond_true,cond_false,Nat.reduceBEq])
         clear hN27
         try clear N27
         refine Zm ?_
         simp (maxSteps:=2000000) only [↓Za,↓Zb,↓Zc,vup,cond_true,cond_false,aop,Zf,Zo,ev,sput,Ze,Nat.reduceBEq,hxF.idx el_43 Ub hkx,hxF.load Je hkx,hgx,hidx,ofQ,hst]
         refine hB [(1,.pointer (some ⟨h.length,0,none⟩)),(2,.slice none 0 0),(3,out),(4,Zd (s:Nat)),(5,.pointer (some ⟨hp.length,0,none⟩)),(7,.func (.func 117) #[] #[.pointer (some ⟨hp.length,0,none⟩)]),(11,x),(13,.slice (some ⟨G'.length+1,0,none⟩) n n),(26,.bool false),(51,.bool false),(83,wv),(84,Zd (W.length:Nat)),(85,Zd (k:Nat))] _ _ ?_ (by simp (maxSteps:=2000000) only [vup,cond_true,cond_false,Nat.reduceBEq])
         clear hB
         try clear B
         refine Zm ?_
         simp (maxSteps:=2000000) only [↓Za,↓Zb,↓Zc,vup,cond_true,cond_false,aop,ev,sput,Ze,Yf,Yi,Nat.reduceBEq,add1 (show k<9223372036854775807 by omega)]
         exact hQb _ _ _ ⟨k+1,hk',by omega,by simp (maxSteps:=2000000) only [vup,cond_true,cond_false,Nat.reduceBEq],rfl⟩
       have hkk:=loopEnd hkin hk
       subst hkk
       refine Zg fun N28 hN28=>?_
       simp (maxSteps:=2000000) only [↓Za,↓Zb,↓Zc,vup,cond_true,cond_false,aop,Zf,ev,sput,Ze,Yf,Yi,Nat.reduceBEq,hkin]
       refine hN28 [(1,.pointer (some ⟨h.length,0,none⟩)),(2,.slice none 0 0),(3,out),(4,Zd (s:Nat)),(5,.pointer (some ⟨hp.length,0,none⟩)),(7,.func (.func 117) #[] #[.pointer (some ⟨hp.length,0,none⟩)]),(11,x),(13,.slice (some ⟨G'.length+1,0,none⟩) n n),(26,.bool false),(51,.bool false),(83,wv),(84,Zd (W.length:Nat)),(85,Zd (W.length:Nat)),(86,.bool false)] _ _ ?_ (by simp (maxSteps:=2000000) only [vup,cond_true,cond_false,Nat.reduceBEq])
       clear hN28
       try clear N28
       refine Zg fun N29 hN29=>?_
       simp (maxSteps:=2000000) only [↓Yo,↓vdn,vup,cond_true,cond_false,Zf,ev,Nat.reduceBEq]
       refine hQb _ _ _ (hQa _ _ _ ?_)
       simp (maxSteps:=2000000) only [Zf,Zo,if_true]
       refine hU [(1,.pointer (some ⟨h.length,0,none⟩)),(2,.slice none 0 0),(3,out),(4,Zd (s:Nat)),(5,.pointer (some ⟨hp.length,0,none⟩)),(7,.func (.func 117) #[] #[.pointer (some ⟨hp.length,0,none⟩)]),(11,x),(13,.slice (some ⟨G'.length+1,0,none⟩) n n),(26,.bool false),(51,.bool false),(86,.bool false)] _ _ ?_ (by simp (maxSteps:=2000000) only [vup,cond_true,cond_false,Nat.reduceBEq])
       clear hU
       try clear U
       -- it is noted
       have hcF:=(hcs.ext (hEG'.trans (hFE W.length)))
       obtain ⟨us,hou,heach⟩:=hcF
       have hlen3:=heach.len
       have hcl:=cornersTo_len n l (s-1)
       refine Zm ?_
       simp (maxSteps:=2000000) only [↓Za,↓Zb,↓Zc,vup,List.map_cons,List.map_nil,cond_true,cond_false,aop,Zf,Zo,ev,sput,Ze,Zi,Nat.reduceBEq,litV el_120 zero_122 esz_122]
       refine OwnV.app (us:=[.slice (some ⟨G'.length+1,0,none⟩) n n]) (hou.ext (Ext.app _ _ _)) app_120_120 (.inr ⟨(F W.length).length,0,none,1,[.slice (some ⟨G'.length+1,0,none⟩) n n],122,false,rfl,Nat.le_refl _,by simp [view,Blk.view],rfl⟩) (fun w hw=>?_) (by simp; omega) ?_
       · rcases List.mem_append.1 hw with h1 | h1
         · obtain ⟨b,bl,rfl,_⟩:=heach.mem w h1
           exact ⟨rfl,rfl⟩
         · rw [List.mem_singleton.1 h1]; exact ⟨rfl,rfl⟩
       · intro out' G3 ho3 hE3 hb3
         have hol : ∀ b,Yc out=some b→b<(F W.length).length:=fun b hb=>hou.lt hb
         have hHF:=hEp.trans (hEG'.trans (hFE W.length))
         have hFk:Ext (fun _=>False) H G3:=ext_app hHF (H':=F W.length++[Blk.cells [.slice (some ⟨G'.length+1,0,none⟩) n n] 122 false]) (by simp) (fun z hz=>List.getElem?_append_left (by have:=hHF.1; omega)) hbo hE3
         have keep : ∀ bl c,(F W.length)[bl]? = some (Blk.cells c 45 false)→G3[bl]? = some (Blk.cells c 45 false):=fun bl c hbl=>by
          have hlt:=Yb hbl
          rw [hE3.2 bl (by rw [List.length_append]; omega) (fun hc=>?_),List.getElem?_append_left hlt,hbl]
          obtain ⟨c',hc'⟩:=hou.blk hc
          rw [hbl] at hc'
          exact absurd (Blk.cells.inj (Option.some.inj hc')).2.1 (by decide)
         refine goOn _ out' G3 ⟨us++[.slice (some ⟨G'.length+1,0,none⟩) n n],ho3,?_⟩ hFk (fun b hb=>?_) (by simp (maxSteps:=2000000) only [vup,cond_true,cond_false,Nat.reduceBEq])
         · rw [hcsucc,hcorner]
           refine Each.app (heach.imp fun w b ⟨bl,q1,q2⟩=>⟨bl,q1,keep bl _ q2⟩) ⟨⟨G'.length+1,by rw [Uw],keep _ _ (hF0 _)⟩,trivial⟩
         · rcases hb3 with h1 | ⟨b',h1,h2⟩
           · exact hbo b (h1▸hb)
           · rw [h1] at hb; cases hb
             rw [List.length_append] at h2
             have:=hHF.1; omega
 · have hss:=loopEnd hin hs
   subst hss
   refine Zg fun N30 hN30=>?_
   simp (maxSteps:=2000000) only [↓Za,↓Zl,↓Yo,↓Zb,↓Zc,↓vdn,vup,cond_true,cond_false,aop,Zf,ev,sput,Ze,Yf,Yi,Nat.reduceBEq,tyf,tA0,Jg t1p,Int.natCast_nonneg,hsh,hin]
   refine hQ2 _ _ _ (hQ _ _ _ ?_)
   simp (maxSteps:=2000000) only [Zf,Zo,Zs,if_true]
   refine hZ [(1,.pointer (some ⟨h.length,0,none⟩)),(2,.slice none 0 0),(3,out),(4,Zd (2 ^ n:Nat))] _ _ ?_ (by simp (maxSteps:=2000000) only [vup,cond_true,cond_false,Nat.reduceBEq])
   clear hZ
   try clear Z
   refine Zm ?_
   simp (maxSteps:=2000000) only [↓Za,↓Zl,↓Zu,↓Zb,↓Zc,vup,cond_true,cond_false,aop,Zf,ev,sput,Ze,Nat.reduceBEq,Zs,Xn,tup]
   exact ⟨hE.trans hEp,hcs,fun b hb=>by have:=hbo b hb; omega⟩
end Go.Proofs.Tryd.Am.Be
namespace Go.Proofs.Tryd.Am.Be
open Go.Proofs.Tryd.Am
open Go.Am
set_option maxRecDepth 100000
set_option maxHeartbeats 1000000
theorem pairs_eq {xs ys:List (Int×Int)} (hl:xs.length=ys.length) (k:Nat) (hk:k≤xs.length) (h : ∀ i,i<k→xs.getD i (0,0)=ys.getD i (0,0)) (hk2:k=xs.length):xs=ys:=by
 subst hk2
 apply List.ext_getElem hl
 intro i h1 h2
 have:=h i h1
 rwa [List.getD,List.getD,List.getElem?_eq_getElem h1,List.getElem?_eq_getElem h2] at this
theorem s59_callW [Tabs Tryd.prog] {args:List Value} {h:Zh} {Q:Value→Zh→Prop} (hsz:args.length≤26) (hk:AWS Tryd.prog 26 s59 (Zs Tryd.prog [.tmp 4] Q) (Zp 0 args) h):ACall Tryd.prog 59 args h Q :=
 Yz Tryd.func59 rfl (enters_of Tryd.func59 (by kernel_rfl) rfl) rfl rfl (by decide) s59_strip s59_ok hsz hk
theorem equalF_call [Tabs prog] {h:Zh} {u v:Value} {xs ys:List (Int×Int)} (hu:PairSl h u xs) (hv:PairSl h v ys) (hl:xs.length<9223372036854775808):Xj prog 59 [u,v] h (.bool (decide (xs=ys))):=by
 refine s59_callW (by simp) ?_
 simp only [s59]
 refine Zg fun N1 hN1=>?_
 simp (maxSteps:=2000000) only [↓Za,↓Zb,↓Zc,vup,cond_false,aop,Zf,Zp,ev,sput,Ze,Nat.reduceBEq,Nat.reduceAdd]
 refine hN1 [(0,u),(1,v),(4,.bool false)] _ _ ?_ (by simp (maxSteps:=2000000) only [vup,cond_true,cond_false,Nat.reduceBEq])
 clear hN1
 try clear N1
 by_cases hn:xs.length=ys.length
 · have hne:(((xs.length:Nat):Int) != ((ys.length:Nat):Int))=false:=by simp [hn]
   refine Zg fun N2 hN2=>?_
   simp (maxSteps:=2000000) only [↓Za,↓Zn,↓Zl,↓Zu,↓Zb,↓Zc,↓vdn,vup,List.map_cons,List.map_nil,cond_true,cond_false,aop,Zf,ev,sput,Ze,Yf,Yi,Zi,Nat.reduceBEq,Zs,Xn,tup,tyf,hu.len,hv.len,hne]
   refine hN2 [(0,u),(1,v),(4,.bool false)] _ _ ?_ (by simp (maxSteps:=2000000) only [vup,cond_true,cond_false,Nat.reduceBEq])
   clear hN2
   try clear N2
   refine Zt fun Z hZ=>?_
   refine Zg fun N3 hN3=>?_
   simp (maxSteps:=2000000) only [↓Za,↓Zb,↓Zc,vup,List.map_cons,List.map_nil,cond_true,cond_false,aop,Zf,ev,sput,Ze,Zi,Nat.reduceBEq,tyf,hu.len]
   refine hN3 [(0,u),(1,v),(4,.bool false),(11,u),(12,Zd xs.length),(13,.int .i64 0)] _ _ ?_ (by simp (maxSteps:=2000000) only [vup,cond_true,cond_false,Nat.reduceBEq])
   clear hN3
   try clear N3
   refine Zx ?_
   refine Zy fun Q hQ=>?_
   refine Xa (γ:=Nat) (fun k=>k≤xs.length∧∀ i,i<k→xs.getD i (0,0)=ys.getD i (0,0))
    (fun k=>([(0,u),(1,v),(4,.bool false),(11,u),(12,Zd xs.length),(13,Zd (k:Nat))],h)) (fun k=>xs.length-k) 0 ⟨Nat.zero_le _,fun i hi=>by omega⟩ (by simp (maxSteps:=2000000) only [vup,cond_true,cond_false,Nat.reduceBEq,Int.natCast_zero]) rfl ?_
   rintro k ⟨hk,hall⟩
   refine Zy fun Q2 hQ2=>?_
   simp only [l59_0]
   by_cases hin:(k:Int)<xs.length
   · have hk' : k<xs.length:=by omega
     have hky:k<ys.length:=by omega
     refine Zg fun N4 hN4=>?_
     simp (maxSteps:=2000000) only [↓Za,↓Zb,↓Zc,vup,cond_true,cond_false,aop,Zf,ev,sput,Ze,Yf,Yi,Nat.reduceBEq,hin]
     refine hN4 [(0,u),(1,v),(4,.bool false),(11,u),(12,Zd xs.length),(13,Zd (k:Nat)),(14,.bool true)] _ _ ?_ (by simp (maxSteps:=2000000) only [vup,cond_true,cond_false,Nat.reduceBEq])
     clear hN4
     try clear N4
     refine Zg fun N5 hN5=>?_
     simp (maxSteps:=2000000) only [↓Zn,↓vdn,vup,cond_true,cond_false,Zf,ev,Nat.reduceBEq]
     refine hN5 [(0,u),(1,v),(4,.bool false),(11,u),(12,Zd xs.length),(13,Zd (k:Nat))] _ _ ?_ (by simp (maxSteps:=2000000) only [vup,cond_true,cond_false,Nat.reduceBEq])
     clear hN5
     try clear N5
     refine Zt fun B hB=>?_
     refine Zx ?_
     refine Zg fun N6 hN6=>?_
     simp (maxSteps:=2000000) only [↓Za,↓Zb,↓Zc,vup,cond_true,cond_false,aop,Zf,ev,sput,Ze,Nat.reduceBEq]
     refine hN6 [(0,u),(1,v),(4,.bool false),(5,Zd (k:Nat)),(11,u),(12,Zd xs.length),(13,Zd (k:Nat))] _ _ ?_ (by simp (maxSteps:=2000000) only [vup,cond_true,cond_false,Nat.reduceBEq])
     clear hN6
     try clear N6
     obtain ⟨⟨x,y⟩,hxy⟩ : ∃ p,xs.getD k (0,0)=p:=⟨_,rfl⟩
     obtain ⟨⟨z,w⟩,hzw⟩ : ∃ p,ys.getD k (0,0)=p:=⟨_,rfl⟩
     refine Zm ?_
     simp only [q59_6]
     refine Wt fun D hD=>?_
     refine Yx [] (by kernel_rfl) (by kernel_rfl) (by kernel_rfl) (by kernel_rfl) ?_
     simp (maxSteps:=2000000) only [↓Zz,↓vdn,vup,cond_true,cond_false,aop,Zf,ev,sput,Ze,Yf,Yi,Nat.reduceBEq,Nat.reduceAdd,hu.idx el_43 Ub hk',hu.load Je hk',hv.idx el_43 Ub hky,hv.load Je hky,hxy,hzw,Yv,Option.map_some,List.length_cons,List.length_nil,Nat.zero_add,eqF]
     refine hD _ _ ?_
     by_cases he:x=z∧y=w
     · obtain ⟨rfl,rfl⟩:=he
       have hb:(([x,y]:List Int) != [x,y])=false:=by simp
       simp (maxSteps:=2000000) only [↓Zn,↓vdn,vup,cond_true,cond_false,Zf,Zo,ev,Nat.reduceBEq,hb]
       refine hB [(0,u),(1,v),(4,.bool false),(11,u),(12,Zd xs.length),(13,Zd (k:Nat))] _ _ ?_ (by simp (maxSteps:=2000000) only [vup,cond_true,cond_false,Nat.reduceBEq])
       clear hB
       try clear B
       refine Zm ?_
       simp (maxSteps:=2000000) only [↓Za,↓Zb,↓Zc,vup,cond_true,cond_false,aop,ev,sput,Ze,Yf,Yi,Nat.reduceBEq,add1 (show k<9223372036854775807 by omega)]
       refine hQ2 _ _ _ ⟨k+1,⟨hk',fun i hi=>?_⟩,by omega,by simp (maxSteps:=2000000) only [vup,cond_true,cond_false,Nat.reduceBEq],rfl⟩
       rcases Nat.lt_or_ge i k with h1 | h1
       · exact hall i h1
       · rw [show i=k by omega,hxy,hzw]
     · have hb:(([x,y]:List Int) != [z,w])=true:=by
        simp only [bne,Bool.not_eq_true',beq_eq_false_iff_ne,ne_eq,List.cons.injEq,and_true]
        exact he
       simp (maxSteps:=2000000) only [↓Za,↓Zl,↓Zu,↓Zb,↓Zc,↓vdn,vup,cond_true,cond_false,aop,Zf,Zo,ev,sput,Ze,Nat.reduceBEq,hb]
       refine hQ2 _ _ _ (hQ _ _ _ ?_)
       have hd:decide (xs=ys)=false:=by
        rw [decide_eq_false_iff_not]
        rintro rfl
        rw [hxy] at hzw
        exact he (Prod.mk.inj hzw)
       simp (maxSteps:=2000000) only [vup,cond_true,cond_false,Zf,Zo,Nat.reduceBEq,Zs,Xn,tup,hd]
   · obtain rfl:k=xs.length:=by omega
     refine Zg fun N7 hN7=>?_
     simp (maxSteps:=2000000) only [↓Za,↓Zb,↓Zc,vup,cond_true,cond_false,aop,Zf,ev,sput,Ze,Yf,Yi,Nat.reduceBEq,hin]
     refine hN7 [(0,u),(1,v),(4,.bool false),(11,u),(12,Zd xs.length),(13,Zd xs.length),(14,.bool false)] _ _ ?_ (by simp (maxSteps:=2000000) only [vup,cond_true,cond_false,Nat.reduceBEq])
     clear hN7
     try clear N7
     refine Zg fun N8 hN8=>?_
     simp (maxSteps:=2000000) only [↓Yo,↓vdn,vup,cond_true,cond_false,Zf,ev,Nat.reduceBEq]
     refine hQ2 _ _ _ (hQ _ _ _ ?_)
     simp (maxSteps:=2000000) only [Zf,Zo,Zs,if_true]
     refine hZ [(0,u),(1,v),(4,.bool false),(11,u),(12,Zd xs.length),(13,Zd xs.length),(14,.bool false)] _ _ ?_ (by simp (maxSteps:=2000000) only [vup,cond_true,cond_false,Nat.reduceBEq])
     clear hZ
     try clear Z
     refine Zm ?_
     have hd:decide (xs=ys)=true:=by
      rw [decide_eq_true_eq]; exact pairs_eq hn _ (Nat.le_refl _) hall rfl
     simp (maxSteps:=2000000) only [↓Za,↓Zl,↓Zu,↓Zb,↓Zc,vup,cond_true,cond_false,aop,Zf,ev,sput,Ze,Nat.reduceBEq,Zs,Xn,tup,hd]
 · have hne:(((xs.length:Nat):Int) != ((ys.length:Nat):Int))=true:=by
    have : ¬ ((xs.length:Nat):Int)=((ys.length:Nat):Int):=by omega
    simpa [bne] using this
   refine Zm ?_
   have hd:decide (xs=ys)=false:=by
    rw [decide_eq_false_iff_not]
    rintro rfl; exact hn rfl
   simp (maxSteps:=2000000) only [↓Za,↓Zn,↓Zl,↓Yr,↓Zu,↓Zb,↓Zc,↓vdn,vup,List.map_cons,List.map_nil,cond_true,cond_false,aop,Zf,ev,sput,Ze,Yf,Yi,Zi,Nat.reduceBEq,Zs,Xn,tup,tyf,hu.len,hv.len,hne,hd]
end Go.Proofs.Tryd.Am.Be
namespace Go.Proofs.Tryd.Am.Be
open Go.Proofs.Tryd.Am
open Go.Am Bq
set_option maxRecDepth 100000
set_option maxHeartbeats 2000000
theorem Uq {h:Zh} {v:Value} {l:List (Int×Int)} (hv:PairSl h v l) : ∃ p n c,v = .slice p n c:=by
 rcases hv with ⟨rfl,_⟩ | ⟨b,o,sp,cap,c,e,ro,rfl,_⟩
 · exact ⟨_,_,_,rfl⟩
 · exact ⟨_,_,_,rfl⟩
theorem bldT {n:Int} {p:Option Addr} {m c:Nat} {K:Value→Prop}:Wv prog 117 [(0,Zd n),(1,.slice p m c)] K=K (.agg #[Zd n,.slice p m c]):=by
 simp [Wv,zero_117,Vx,pl_117_0,pl_117_1,Wk,cellsOf,Yk]
theorem storeT {h:Zh} {b:Nat} {n:Int} {p:Option Addr} {m k:Nat} {e:TypeId} {c:List Value} {K:Zh→Prop} (hb:h[b]? = some (.cells c e false)) (hc:c.length=2):Xq prog h 117 (.pointer (some ⟨b,0,none⟩)) (.agg #[Zd n,.slice p m k]) K=K (h.set b (.cells [Zd n,.slice p m k] e false)) :=
 storeA (vs:=[Zd n,.slice p m k]) hb (by rw [shp_117]; rfl) rfl (by rw [hc]; rfl)
theorem loadT {h:Zh} {b:Nat} {n:Int} {v:Value} {K:Value→Prop} (hb:h[b]? = some (.cells [Zd n,v] 117 false)):Xs prog h 117 (.pointer (some ⟨b,0,none⟩)) K=K (.agg #[Zd n,v]) :=
 loadA hb (by rw [shp_117]; rfl)
def SoundIs (n:Int) (l:List (Int×Int)) (h' : Zh) (x:Value) (e:Int):Prop :=
 if validB n l=true then (match Wl n.toNat l with | []=>x = .slice none 0 0∧e=5 | c::_=>e=0∧BelAt h' x c) else x = .slice none 0 0∧e=2
theorem s29_callW [Tabs Tryd.prog] {args:List Value} {h:Zh} {Q:Value→Zh→Prop} (hsz:args.length≤22) (hk:AWS Tryd.prog 22 s29 (Zs Tryd.prog [.tmp 4,.tmp 5] Q) (Zp 0 args) h):ACall Tryd.prog 29 args h Q :=
 Yz Tryd.func29 rfl (enters_of Tryd.func29 (by kernel_rfl) rfl) rfl rfl (by decide) s29_strip s29_ok hsz hk
theorem sound_call [Tabs prog] {h:Zh} {n:Int} {v:Value} {l:List (Int×Int)} (hv:PairSl h v l) (hl:l.length<9223372036854775808) (ht:validB n l=true→TameAll n.toNat l) :
  ACall prog 29 [Zd n,v] h fun r h'=>Ext (fun _=>False) h h'∧∃ x e,r = .tuple #[x,.int .i64 e]∧SoundIs n l h' x e:=by
 obtain ⟨p,m,c,rfl⟩:=Uq hv
 obtain ⟨H,hH⟩ : ∃ H,H=h++[Blk.cells [Zd n,.slice p m c] 117 false]:=⟨_,rfl⟩
 have hE:Ext (fun _=>False) h H:=by rw [hH]; exact Ext.app _ _ _
 have b6:H[h.length]? = some (.cells [Zd n,.slice p m c] 117 false):=by rw [hH]; exact Zr _ _
 have hvH:=hv.ext hE
 refine s29_callW (by simp) ?_
 simp only [s29]
 refine Zg fun N1 hN1=>?_
 simp (maxSteps:=2000000) only [↓Za,↓Zb,↓Zc,vup,cond_false,aop,Zf,Zp,ev,sput,Ze,Nat.reduceBEq,Nat.reduceAdd]
 refine hN1 [(0,Zd n),(1,.slice p m c),(4,.slice none 0 0),(5,.int .i64 0)] _ _ ?_ (by simp (maxSteps:=2000000) only [vup,cond_true,cond_false,Nat.reduceBEq])
 clear hN1
 try clear N1
 refine Zg fun N2 hN2=>?_
 simp (maxSteps:=2000000) only [↓Za,↓Zb,↓Zc,vup,List.map_cons,List.map_nil,cond_true,cond_false,aop,Zf,ev,sput,Ze,Nat.reduceBEq,tyf,bldT,Xg,Yg,storeT (Zr h (.cells [.int .i64 0,.slice none 0 0] 117 false)) rfl,set_new]
 rw [← hH]
 refine hN2 [(4,.slice none 0 0),(5,.int .i64 0),(6,.pointer (some ⟨h.length,0,none⟩))] _ _ ?_ (by simp (maxSteps:=2000000) only [vup,cond_true,cond_false,Nat.reduceBEq])
 clear hN2
 try clear N2
 refine Zt fun M hM=>?_
 refine Zg fun N3 hN3=>?_
 simp (maxSteps:=2000000) only [↓Za,↓Zb,↓Zc,vup,List.map_cons,List.map_nil,cond_true,cond_false,aop,Zf,ev,sput,Ze,unK,Nat.reduceBEq,Yn,List.nil_append,List.append_nil,loadT b6]
 refine (valid_call hvH hl).mono ?_
 rintro _ H ⟨rfl,rfl⟩
 refine hN3 [(4,.slice none 0 0),(5,.int .i64 0),(6,.pointer (some ⟨h.length,0,none⟩)),(13,.bool (!validB n l))] _ _ ?_ (by simp (maxSteps:=2000000) only [vup,cond_true,cond_false,Nat.reduceBEq])
 clear hN3
 try clear N3
 cases hval:validB n l with
 | false =>
   refine Xu rfl ?_
   refine Zm ?_
   simp (maxSteps:=2000000) only [↓Za,↓Zl,↓Zu,↓Zb,↓Zc,vup,cond_true,cond_false,aop,Zf,ev,sput,Ze,Nat.reduceBEq,Zs,Xn,tup]
   exact ⟨hE,_,_,rfl,by rw [SoundIs,if_neg (by simp [hval])]; exact ⟨rfl,rfl⟩⟩
 | true =>
   refine Xh rfl ?_
   refine Zm ?_
   simp (maxSteps:=2000000) only [↓Zn,vup,Zf]
   refine hM [(4,.slice none 0 0),(5,.int .i64 0),(6,.pointer (some ⟨h.length,0,none⟩))] _ _ ?_ (by simp (maxSteps:=2000000) only [vup,cond_true,cond_false,Nat.reduceBEq])
   clear hM
   try clear M
   have hn:n=(n.toNat:Int):=by
    simp only [validB,Bool.and_eq_true,decide_eq_true_eq] at hval; omega
   have hcor:=corners_call (n:=n.toNat) hvH (by rw [← hn]; exact hval) (ht hval)
   rw [← hn] at hcor
   refine Zg fun N4 hN4=>?_
   simp (maxSteps:=2000000) only [↓Za,↓Zb,↓Zc,vup,List.map_cons,List.map_nil,cond_true,cond_false,aop,Zf,ev,sput,Ze,Nat.reduceBEq,Yn,List.nil_append,List.append_nil,loadT b6]
   refine (hcor).mono ?_
   rintro r H1 ⟨hE1,⟨ws,hor,heach⟩,hb⟩
   refine hN4 [(4,.slice none 0 0),(5,.int .i64 0),(6,.pointer (some ⟨h.length,0,none⟩)),(7,r)] _ _ ?_ (by simp (maxSteps:=2000000) only [vup,cond_true,cond_false,Nat.reduceBEq])
   clear hN4
   try clear N4
   have hEE:=hE.trans hE1
   have hlen:=heach.len
   refine Zm ?_
   have his : ∀ x e,SoundIs n l H1 x e↔(match Wl n.toNat l with | []=>x = .slice none 0 0∧e=5 | c::_=>e=0∧BelAt H1 x c):=fun x e=>by rw [SoundIs,if_pos hval]
   cases hc:Wl n.toNat l with
   | nil =>
     rw [hc] at hlen heach
     have h0:(((ws.length:Nat):Int)==0)=true:=by simp [hlen]
     simp (maxSteps:=2000000) only [↓Za,↓Zn,↓Zl,↓Zu,↓Zb,↓Zc,↓vdn,vup,List.map_cons,List.map_nil,cond_true,cond_false,aop,Zf,ev,sput,Ze,Yf,Yi,Zi,Nat.reduceBEq,Zs,Xn,tup,tyf,hor.val.len,h0]
     exact ⟨hEE,_,_,rfl,(his _ _).2 (by rw [hc]; exact ⟨rfl,rfl⟩)⟩
   | cons c0 cs =>
     rw [hc] at hlen heach
     have hpos:0<ws.length:=by rw [hlen]; simp
     have h0:(((ws.length:Nat):Int)==0)=false:=beq_eq_false_iff_ne.2 (by omega)
     have hi0 : ∀ K:Value→Prop,Xb prog 120 r (.int .i64 0) K=K (Ue r 1 0):=fun K=>by
      have:=hor.val.idx el_120 esz_122 (k:=.i64) hpos K
      simpa using this
     simp (maxSteps:=2000000) only [↓Za,↓Zn,↓Zl,↓Zu,↓Zb,↓Zc,↓vdn,vup,List.map_cons,List.map_nil,cond_true,cond_false,aop,Zf,ev,sput,Ze,Yf,Yi,Zi,Nat.reduceBEq,Zs,Xn,tup,tyf,hor.val.len,h0,hi0,hor.val.load shp_122 hpos]
     have hbel:=heach.get undef [] (k:=0) (by simp)
     exact ⟨hEE,_,_,rfl,(his _ _).2 (by rw [hc]; exact ⟨rfl,hbel⟩)⟩
theorem s21_callW [Tabs Tryd.prog] {args:List Value} {h:Zh} {Q:Value→Zh→Prop} (hsz:args.length≤18) (hk:AWS Tryd.prog 18 s21 (Zs Tryd.prog [.tmp 0] Q) (Zp 0 args) h):ACall Tryd.prog 21 args h Q :=
 Yz Tryd.func21 rfl (enters_of Tryd.func21 (by kernel_rfl) rfl) rfl rfl (by decide) s21_strip s21_ok hsz hk
theorem awake_call [Tabs prog] {h:Zh}:Xj prog 21 [] h (.bool true):=by
 refine ACall.forget (Low.bool _) ?_
 refine s21_callW (by simp) ?_
 simp only [s21]
 have bldB : ∀ {x y:Int} {K:Value→Prop},Wv prog 51 [(0,Zd x),(1,Zd y)] K=K (.agg #[Zd x,Zd y]):=fun {x y K}=>by
  simp [Wv,zero_51,Vx,pl_51_0,pl_51_1,Wk,cellsOf,Yk]
 have lit : ∀ {K:Value→Zh→Prop},Yj prog h 46 1 [(0,.agg #[Zd 1,Zd 6])] K=K (.slice (some ⟨h.length,0,none⟩) 1 1) (h++[.ints [1,6] 51 false]):=fun {K}=>by
  simp only [Yj,el_46,zero_51,esz_51,reps,Vx,mkb,Wk,cellsOf,List.length_cons,List.length_nil,Nat.zero_add,Nat.zero_mul,Yk]
  refine propext ⟨fun h=>?_,fun h=>⟨trivial,by decide,by decide,?_⟩⟩
  · simpa [Yv] using h.2.2.2
  · simpa [Yv] using h
 have hp:PairSl (h++[.ints [1,6] 51 false]) (.slice (some ⟨h.length,0,none⟩) 1 1) [(1,6)]:=.inr ⟨h.length,0,none,1,[Zd 1,Zd 6],51,false,rfl,Nat.le_refl _,by simp [view,Blk.view],fun i hi=>by
  obtain rfl:i=0:=by simpa using hi
  exact ⟨rfl,rfl⟩⟩
 have hv:validB 2 [(1,6)]=true:=by decide
 refine Zg fun N5 hN5=>?_
 simp (maxSteps:=2000000) only [↓Za,↓Zb,↓Zc,vup,aop,Zf,Zp,ev,sput,Ze]
 refine hN5 [(0,.bool false)] _ _ ?_ (by simp (maxSteps:=2000000) only [vup,cond_true,Nat.reduceBEq])
 clear hN5
 try clear N5
 refine Zg fun N6 hN6=>?_
 simp (maxSteps:=2000000) only [↓Za,↓Zb,↓Zc,vup,List.map_cons,List.map_nil,cond_true,cond_false,aop,Zf,ev,sput,Ze,Nat.reduceBEq,bldB,lit,Yn,List.nil_append,List.append_nil]
 refine (sound_call (n:=2) hp (by decide) fun _=>tame_awake).mono ?_
 rintro r h1 ⟨hE1,x,e,rfl,hs⟩
 rw [SoundIs,if_pos hv,show (2:Int).toNat=2 from rfl,corners_awake] at hs
 simp only at hs
 obtain ⟨rfl,bl,rfl,hbl⟩:=hs
 have hE:Ext (fun _=>False) h h1:=(Ext.app _ _ _).trans hE1
 have px:=pairSl_cells hbl
 have hlist:([1 / 2,1 / 2]:List Rat).map ofQ=[(1,2),(1,2)]:=by decide +kernel
 rw [hlist] at px
 simp (maxSteps:=2000000) only [Wh,Wi,Nat.reduceAdd,List.length_cons,List.length_nil]
 refine hN6 [(0,.bool false),(1,.slice (some ⟨bl,0,none⟩) 2 2),(2,.int .i64 0)] _ _ ?_ (by simp (maxSteps:=2000000) only [vup,cond_true,cond_false,Nat.reduceBEq])
 clear hN6
 try clear N6
 have lit2 : ∀ {K:Value→Zh→Prop},Yj prog h1 43 2 [(0,.agg #[Zd 1,Zd 2]),(1,.agg #[Zd 1,Zd 2])] K=K (.slice (some ⟨h1.length,0,none⟩) 2 2) (h1++[.ints [1,2,1,2] 45 false]):=fun {K}=>by
  simp [Yj,el_43,zero_45,Ub,reps,Vx,mkb,Wk,cellsOf,Yk,Yv]
 have p2:PairSl (h1++[.ints [1,2,1,2] 45 false]) (.slice (some ⟨h1.length,0,none⟩) 2 2) [(1,2),(1,2)]:=.inr ⟨h1.length,0,none,2,[Zd 1,Zd 2,Zd 1,Zd 2],45,false,rfl,Nat.le_refl _,by simp [view,Blk.view],fun i hi=>by
  have:i=0∨i=1:=by simp at hi; omega
  rcases this with rfl | rfl <;> exact ⟨rfl,rfl⟩⟩
 have eq:=equalF_call (px.ext (Ext.app _ _ _)) p2 (by decide)
 refine Zm ?_
 simp (maxSteps:=2000000) only [↓Za,↓Zl,↓Zu,↓Zb,↓Zc,↓vdn,vup,List.map_cons,List.map_nil,cond_true,cond_false,aop,Zf,ev,sput,Ze,Yf,Yi,Nat.reduceBEq,Int.reduceBEq,Zs,Xn,tup,Yn,List.nil_append,List.append_nil,bldF,lit2]
 refine (eq).mono ?_
 rintro _ _ ⟨rfl,rfl⟩
 simp (maxSteps:=2000000) only [vup]
 exact hE.trans (Ext.app _ _ _)
end Go.Proofs.Tryd.Am.Be
namespace Go.Proofs.Tryd.Am.Be
open Go.Proofs.Tryd.Am
open Go.Am Bq
set_option maxRecDepth 100000
set_option maxHeartbeats 4000000
def agB (l ps:List (Int×Int)):Bool:=decide (Zv (fq ps) ps.length=1)&&l.all fun b=>decide (Zv (inEv (fq ps) b.1.toNat) ps.length=Rat.divInt b.2 12)
theorem s115_callW [Tabs Tryd.prog] {args:List Value} {h:Zh} {Q:Value→Zh→Prop} (hsz:args.length≤12) (hk:AWS Tryd.prog 12 s115 (Zs Tryd.prog [.tmp 3] Q) (Zp 0 args) h):ACall Tryd.prog 115 args h Q :=
 Yz Tryd.func115 rfl (enters_of Tryd.func115 (by kernel_rfl) rfl) rfl rfl (by decide) s115_strip s115_ok hsz hk
theorem agrees1_call [Tabs prog] {h:Zh} {bb e:Nat} {c:Int} {w:Value} {ps:List (Int×Int)} (hb:h[bb]? = some (.cells [w] 122 false)) (hw:PairSl h w ps) (hl:ps.length≤100) (cn:Chn ps) (he:e<9223372036854775808) (hc:0≤c∧c≤12) :
  Xj prog 115 [.agg #[Zd (e:Nat),Zd c],.pointer (some ⟨bb,0,none⟩)] h (.bool (decide (Zv (inEv (fq ps) e) ps.length=Rat.divInt c 12))):=by
 have hm:=(mult_spec cn.m).2.2
 obtain ⟨H,hH⟩ : ∃ H,H=h++[bB (e:Int) c]:=⟨_,rfl⟩
 have hE:Ext (fun _=>False) h H:=by rw [hH]; exact Ext.app _ _ _
 have c2:H[h.length]? = some (bB (e:Int) c):=by rw [hH]; exact Zr _ _
 have c1:H[bb]? = some (.cells [w] 122 false):=(hE.2 _ (Yb hb) id).trans hb
 have hwH:=hw.ext hE
 have ofc:=of_call (h:=H) (evt:=e) (N:=mult ps) hwH hl cn.vld he (Nat.pos_of_ne_zero cn.m) (by omega) (fun k hk=>cn.unit hk)
 have fr:=Us (h:=H) (a:=c) (b:=12) (by decide) (by omega) (by decide)
 obtain ⟨A,hA⟩ : ∃ A,Zv (inEv (fq ps) e) ps.length=A:=⟨_,rfl⟩
 obtain ⟨D,hD⟩ : ∃ D,Rat.divInt c 12=D:=⟨_,rfl⟩
 rw [hA] at ofc ⊢
 rw [hD] at fr ⊢
 refine ACall.forget (Low.bool _) ?_
 refine s115_callW (by simp) ?_
 refine Zm ?_
 simp (maxSteps:=2000000) only [s115,↓Za,↓Zl,↓Zb,↓Zc,vup,cond_true,cond_false,aop,Zf,Zp,ev,sput,Ze,Nat.reduceBEq,Nat.reduceAdd,boxB,Yg]
 rw [← hH]
 simp only [q115_1]
 refine Yx [(3,1),(6,1)] (by kernel_rfl) (by kernel_rfl) (by kernel_rfl) (by kernel_rfl) ?_
 refine dops_cut 4 rfl fun N1 hN1=>?_
 simp (maxSteps:=2000000) only [↓Zz,↓vdn,vup,List.map_cons,List.map_nil,cond_true,cond_false,aop,ev,sput,Ze,Nat.reduceBEq,Nat.reduceAdd,List.take_succ_cons,List.take_zero,Xl c1 shp_122,bA0,loadB0 c2,Yn,List.nil_append,List.append_nil]
 refine ⟨_,_,ofc,rfl,?_⟩
 refine hN1 _ _ ?_
 clear hN1 N1
 refine dops_cut 3 rfl fun N1 hN1=>?_
 simp (maxSteps:=2000000) only [↓Zz,↓vdn,vup,List.map_cons,List.map_nil,cond_true,cond_false,aop,ev,sput,Ze,Nat.reduceBEq,Nat.reduceAdd,List.drop_succ_cons,List.drop_zero,List.take_succ_cons,List.take_zero,bA1,loadB1 c2,Yn,List.nil_append,List.append_nil]
 refine ⟨_,_,fr,rfl,?_⟩
 refine hN1 _ _ ?_
 clear hN1 N1
 simp (maxSteps:=2000000) only [↓Zu,↓Zz,↓vdn,vup,cond_true,cond_false,aop,Zf,ev,sput,Ze,Yf,Nat.reduceBEq,Nat.reduceAdd,Zs,Xn,tup,List.drop_succ_cons,List.drop_zero,qV,frV,Yv,Option.map_some,List.length_cons,List.length_nil,Nat.zero_add,eqF,qeq]
 exact hE
theorem loadBt {h:Zh} {b:Nat} {x y:Int} {K:Value→Prop} (hb:h[b]? = some (bB x y)):Xs prog h 51 (.pointer (some ⟨b,0,none⟩)) K=K (.agg #[Zd x,Zd y]):=loadA hb (by rw [shp_51]; rfl)
theorem s145_callW [Tabs Tryd.prog] {args:List Value} {h:Zh} {Q:Value→Zh→Prop} (hsz:args.length≤8) (hk:AWS Tryd.prog 8 s145 (Zs Tryd.prog [.tmp 3] Q) (Zp 0 args) h):ACall Tryd.prog 145 args h Q :=
 Yz Tryd.func145 rfl (enters_of Tryd.func145 (by kernel_rfl) rfl) rfl rfl (by decide) s145_strip s145_ok hsz hk
theorem notB_call [Tabs prog] {h:Zh} {b:Nat} {x y:Int} {g:FuncId} {cap:Array Value} {t:Bool} (hb:h[b]? = some (.cells [.func (.func g) #[] cap] 53 false))
  (hc : ∀ h',Ext (fun _=>False) h h'→Xj prog g ([.agg #[Zd x,Zd y]]++cap.toList) h' (.bool t)):Xj prog 145 [.agg #[Zd x,Zd y],.pointer (some ⟨b,0,none⟩)] h (.bool (!t)):=by
 refine ACall.forget (Low.bool _) ?_
 refine s145_callW (by simp) ?_
 refine Zm ?_
 simp (maxSteps:=2000000) only [s145,↓Za,↓Zl,↓Zu,↓Zb,↓Zc,vup,List.map_cons,List.map_nil,cond_true,cond_false,aop,Zf,Zp,ev,sput,Ze,unK,Nat.reduceBEq,Nat.reduceAdd,Zs,Xn,tup,boxB,Yg,Xl (Yp hb _) shp_53,loadBt (Zr h _),Yn,List.nil_append]
 refine (show Xj prog g ([.agg #[Zd x,Zd y]]++cap.toList) (h++[bB x y]) (.bool t) from hc _ (Ext.app _ _ _)).mono ?_
 rintro _ _ ⟨rfl,rfl⟩
 simp (maxSteps:=2000000) only [vup]
 exact Ext.app _ _ _
theorem s114_callW [Tabs Tryd.prog] {args:List Value} {h:Zh} {Q:Value→Zh→Prop} (hsz:args.length≤9) (hk:AWS Tryd.prog 9 s114 (Zs Tryd.prog [.tmp 4] Q) (Zp 0 args) h):ACall Tryd.prog 114 args h Q :=
 Yz Tryd.func114 rfl (enters_of Tryd.func114 (by kernel_rfl) rfl) rfl rfl (by decide) s114_strip s114_ok hsz hk
theorem everyB_call [Tabs prog] {h:Zh} {v:Value} {ps:List (Int×Int)} {g:FuncId} {cap:Array Value} {f:Int×Int→Bool} (hv:PairSl h v ps) (hl:ps.length<9223372036854775808)
  (hc : ∀ h',Ext (fun _=>False) h h'→∀ p∈ps,Xj prog g ([.agg #[Zd p.1,Zd p.2]]++cap.toList) h' (.bool (f p))):Xj prog 114 [v,.func (.func g) #[] cap] h (.bool (ps.all f)):=by
 obtain ⟨H,hH⟩ : ∃ H,H=h++[Blk.cells [.func (.func g) #[] cap] 53 false]:=⟨_,rfl⟩
 have hE:Ext (fun _=>False) h H:=by rw [hH]; exact Ext.app _ _ _
 have c0:H[h.length]? = some (Blk.cells [.func (.func g) #[] cap] 53 false):=by rw [hH]; exact Zr _ _
 have key:=hasB_call (h:=H) (g:=145) (cap:=#[.pointer (some ⟨h.length,0,none⟩)]) (f:=fun p=>!f p) (hv.ext hE) hl (fun h' hx p hp=>notB_call ((hx.2 _ (Yb c0) id).trans c0) fun h2 hx2=>hc h2 (hE.trans (hx.trans hx2)) p hp)
 refine ACall.forget (Low.bool _) ?_
 refine s114_callW (by simp) ?_
 refine Zm ?_
 have hbx : ∀ {K:Value→Zh→Prop},boxK prog h 53 (.func (.func g) #[] cap) K=K (Yg h) H:=fun {K}=>by
  rw [hH]; simp [boxK,esz_53,Yg,cellsOf]
 simp (maxSteps:=2000000) only [s114,↓Za,↓Zl,↓Zu,↓Zb,↓Zc,vup,List.map_cons,List.map_nil,cond_true,cond_false,aop,Zf,Zp,ev,sput,Ze,unK,Nat.reduceBEq,Nat.reduceAdd,Zs,Xn,tup,Yn,List.nil_append,List.append_nil,hbx,Yg,List.map_toArray]
 refine (key).mono ?_
 rintro _ H ⟨rfl,rfl⟩
 simp (maxSteps:=2000000) only [vup,any_not]
 exact hE
theorem boxS [Tabs prog] {h:Zh} {v:Value} {xs:List (Int×Int)} (hv:PairSl h v xs) {K:Value→Zh→Prop}:boxK prog h 122 v K=K (Yg h) (h++[.cells [v] 122 false]):=by
 rcases hv with ⟨rfl,rfl⟩ | ⟨b,o,sp,cap,c,e,ro,rfl,_⟩ <;> simp [boxK,esz_122,Yg,cellsOf]
theorem s67_callW [Tabs Tryd.prog] {args:List Value} {h:Zh} {Q:Value→Zh→Prop} (hsz:args.length≤17) (hk:AWS Tryd.prog 17 s67 (Zs Tryd.prog [.tmp 4] Q) (Zp 0 args) h):ACall Tryd.prog 67 args h Q :=
 Yz Tryd.func67 rfl (enters_of Tryd.func67 (by kernel_rfl) rfl) rfl rfl (by decide) s67_strip s67_ok hsz hk
theorem agrees_call [Tabs prog] {h:Zh} {n:Nat} {v w:Value} {l ps:List (Int×Int)} (hv:PairSl h v l) (hw:PairSl h w ps) (hval:validB n l=true) (hpl:ps.length=n) (cn:Chn ps) :
  Xj prog 67 [.agg #[Zd (n:Nat),v],w] h (.bool (agB l ps)):=by
 obtain ⟨hn2,hn5,hl1,hl6,hok⟩:=Vp hval
 have hm:=(mult_spec cn.m).2.2
 obtain ⟨H1,hH1⟩ : ∃ H,H=h++[Blk.cells [Zd (n:Nat),v] 117 false]:=⟨_,rfl⟩
 have hE1:Ext (fun _=>False) h H1:=by rw [hH1]; exact Ext.app _ _ _
 have hw1:=hw.ext hE1
 obtain ⟨H,hH⟩ : ∃ H,H=H1++[Blk.cells [w] 122 false]:=⟨_,rfl⟩
 have hE2:Ext (fun _=>False) H1 H:=by rw [hH]; exact Ext.app _ _ _
 have hE:=hE1.trans hE2
 have b3:H[H1.length]? = some (.cells [w] 122 false):=by rw [hH]; exact Zr _ _
 have b2:H[h.length]? = some (.cells [Zd (n:Nat),v] 117 false):=by rw [hH,hH1]; exact Yp (Zr _ _) _
 have hvH:=hv.ext hE
 have hwH:=hw.ext hE
 have hl1' : H1.length=h.length+1:=by rw [hH1]; simp
 refine ACall.forget (Low.bool _) ?_
 refine s67_callW (by simp) ?_
 simp only [s67]
 refine Zg fun N1 hN1=>?_
 simp (maxSteps:=2000000) only [↓Za,↓Zb,↓Zc,vup,cond_true,cond_false,aop,Zf,Zp,ev,sput,Ze,Nat.reduceBEq,Nat.reduceAdd,boxT,Yg]
 rw [← hH1]
 simp (maxSteps:=2000000) only [boxS hw1,Yg]
 rw [← hH]
 refine hN1 [(2,.pointer (some ⟨h.length,0,none⟩)),(3,.pointer (some ⟨H1.length,0,none⟩)),(4,.bool false)] _ _ ?_ (by simp (maxSteps:=2000000) only [vup,cond_true,cond_false,Nat.reduceBEq])
 clear hN1
 try clear N1
 have ofc:=of_call (h:=H) (evt:=2 ^ n-1) (N:=mult ps) hwH (by omega) cn.vld (by have:=pow_le (show n≤62 by omega); omega) (Nat.pos_of_ne_zero cn.m) (by omega) (fun k hk=>cn.unit hk)
 rw [hpl,inEv_all] at ofc
 have wc:Xj prog 72 [Zd 1] H (qV ((1:Int):Rat)):=Uo
 have hag:agB l ps=(decide (Zv (fq ps) n=((1:Int):Rat))&&l.all fun b=>decide (Zv (inEv (fq ps) b.1.toNat) n=Rat.divInt b.2 12)):=by rw [agB,hpl]; rfl
 rw [hag]
 obtain ⟨A,hA⟩ : ∃ A,Zv (fq ps) n=A:=⟨_,rfl⟩
 obtain ⟨one,hone⟩ : ∃ A:Rat,((1:Int):Rat)=A:=⟨_,rfl⟩
 rw [hA] at ofc
 rw [hone] at wc
 rw [hA,hone]
 have ne:([A.num,(A.den:Int)] != [one.num,(one.den:Int)]) = !decide (A=one):=by rw [bne,qeq]
 have hev:=everyB_call (h:=H) (g:=115) (cap:=#[.pointer (some ⟨H1.length,0,none⟩)]) (f:=fun b=>decide (Zv (inEv (fq ps) b.1.toNat) n=Rat.divInt b.2 12)) hvH (by omega) (fun h' hx p hp=>by
  obtain ⟨i,hi,hip⟩:=List.getElem_of_mem hp
  have hb:=hok i hi
  have hgi:l.getD i (0,0)=p:=by rw [List.getD,List.getElem?_eq_getElem hi]; exact hip
  rw [hgi] at hb
  simp only [okB,Bool.and_eq_true,decide_eq_true_eq] at hb
  obtain ⟨x,y⟩:=p
  simp only at hb ⊢
  obtain ⟨e,he⟩ : ∃ e:Nat,x=e:=⟨x.toNat,by omega⟩
  subst he
  have hee:e<2 ^ n:=by
   have:=hb.2.1
   exact_mod_cast this
  have:=pow_le (show n≤62 by omega)
  have key:=agrees1_call (h:=h') (e:=e) (c:=y) ((hx.2 _ (Yb b3) id).trans b3) (hwH.ext hx) (by omega) cn (by omega) hb.2.2
  rw [hpl] at key
  exact key)
 refine Zt fun M hM=>?_
 refine Zg fun N2 hN2=>?_
 simp only [q67_1]
 refine Yx [(5,1),(6,1)] (by kernel_rfl) (by kernel_rfl) (by kernel_rfl) (by kernel_rfl) ?_
 refine dops_cut 6 rfl fun N1 hN1=>?_
 simp (maxSteps:=2000000) only [↓Zz,↓vdn,vup,List.map_cons,List.map_nil,cond_true,cond_false,aop,ev,sput,Ze,Yf,Yi,Nat.reduceBEq,Nat.reduceAdd,tyf,List.take_succ_cons,List.take_zero,Xl b3 shp_122,tA0,Jg b2,shl1 (show n≤62 by omega),all_worlds (show n≤62 by omega),Int.natCast_nonneg,Yn,List.nil_append,List.append_nil]
 refine ⟨_,_,ofc,rfl,?_⟩
 refine hN1 _ _ ?_
 clear hN1 N1
 refine dops_cut 1 rfl fun N1 hN1=>?_
 simp (maxSteps:=2000000) only [↓Zz,↓vdn,vup,List.map_cons,List.map_nil,cond_true,cond_false,ev,sput,Ze,Nat.reduceBEq,Nat.reduceAdd,List.drop_succ_cons,List.drop_zero,List.take_succ_cons,List.take_zero,Yn,List.nil_append,List.append_nil]
 refine ⟨_,_,wc,rfl,?_⟩
 refine hN1 _ _ ?_
 clear hN1 N1
 simp (maxSteps:=2000000) only [↓Zz,↓vdn,vup,cond_true,cond_false,aop,Zf,ev,sput,Ze,Yf,Nat.reduceBEq,Nat.reduceAdd,List.drop_succ_cons,List.drop_zero,qV,frV,Yv,Option.map_some,List.length_cons,List.length_nil,Nat.zero_add,eqF,ne]
 refine hN2 [(2,.pointer (some ⟨h.length,0,none⟩)),(3,.pointer (some ⟨H1.length,0,none⟩)),(4,.bool false),(12,.bool (!decide (A=one)))] _ _ ?_ (by simp (maxSteps:=2000000) only [vup,cond_true,cond_false,Nat.reduceBEq])
 clear hN2
 try clear N2
 by_cases h1:A=one
 · have hd:decide (A=one)=true:=decide_eq_true h1
   rw [hd]
   refine Xh rfl ?_
   refine Zm ?_
   simp (maxSteps:=2000000) only [↓Zn,vup,Zf]
   refine hM [(2,.pointer (some ⟨h.length,0,none⟩)),(3,.pointer (some ⟨H1.length,0,none⟩)),(4,.bool false)] _ _ ?_ (by simp (maxSteps:=2000000) only [vup,cond_true,cond_false,Nat.reduceBEq])
   clear hM
   try clear M
   refine Zm ?_
   simp (maxSteps:=2000000) only [↓Za,↓Zl,↓Zu,↓Zb,↓Zc,vup,List.map_cons,List.map_nil,cond_true,cond_false,aop,Zf,ev,sput,Ze,Nat.reduceBEq,Zs,Xn,tup,Yn,List.nil_append,List.append_nil,tA1,loadT1 b2,List.map_toArray]
   refine (hev).mono ?_
   rintro _ H ⟨rfl,rfl⟩
   simp (maxSteps:=2000000) only [vup,hd,Bool.true_and]
   exact hE
 · have hd:decide (A=one)=false:=decide_eq_false h1
   rw [hd]
   refine Xu rfl ?_
   refine Zm ?_
   simp (maxSteps:=2000000) only [↓Za,↓Zl,↓Zu,↓Zb,↓Zc,vup,cond_true,cond_false,aop,Zf,ev,sput,Ze,Nat.reduceBEq,Zs,Xn,tup,Bool.false_and]
   exact hE
theorem s27_callW [Tabs Tryd.prog] {args:List Value} {h:Zh} {Q:Value→Zh→Prop} (hsz:args.length≤29) (hk:AWS Tryd.prog 29 s27 (Zs Tryd.prog [.tmp 6,.tmp 7] Q) (Zp 0 args) h):ACall Tryd.prog 27 args h Q :=
 Yz Tryd.func27 rfl (enters_of Tryd.func27 (by kernel_rfl) rfl) rfl rfl (by decide) s27_strip s27_ok hsz hk
theorem progAgrees_call [Tabs prog] {h:Zh} {n:Int} {v w:Value} {l ps:List (Int×Int)} (hv:PairSl h v l) (hl:l.length<9223372036854775808) (hw:PairSl h w ps) (hlp:ps.length<9223372036854775808) (hx:InR ps) :
  ACall prog 27 [Zd n,v,w] h fun r h'=>Ext (fun _=>False) h h'∧r=if validB n l=true∧chances n ps=true then .tuple #[.bool (agB l ps),.int .i64 0] else .tuple #[.bool false,.int .i64 2]:=by
 obtain ⟨p,m,c,rfl⟩:=Uq hv
 obtain ⟨H,hH⟩ : ∃ H,H=h++[Blk.cells [Zd n,.slice p m c] 117 false]:=⟨_,rfl⟩
 have hE:Ext (fun _=>False) h H:=by rw [hH]; exact Ext.app _ _ _
 have b8:H[h.length]? = some (.cells [Zd n,.slice p m c] 117 false):=by rw [hH]; exact Zr _ _
 have hvH:=hv.ext hE
 have hwH:=hw.ext hE
 refine s27_callW (by simp) ?_
 simp only [s27]
 refine Zg fun N3 hN3=>?_
 simp (maxSteps:=2000000) only [↓Za,↓Zb,↓Zc,vup,cond_false,aop,Zf,Zp,ev,sput,Ze,Nat.reduceBEq,Nat.reduceAdd]
 refine hN3 [(0,Zd n),(1,.slice p m c),(2,w),(6,.bool false),(7,.int .i64 0)] _ _ ?_ (by simp (maxSteps:=2000000) only [vup,cond_true,cond_false,Nat.reduceBEq])
 clear hN3
 try clear N3
 refine Zg fun N4 hN4=>?_
 simp (maxSteps:=2000000) only [↓Za,↓Zb,↓Zc,vup,List.map_cons,List.map_nil,cond_true,cond_false,aop,Zf,ev,sput,Ze,Nat.reduceBEq,tyf,bldT,Xg,Yg,storeT (Zr h (.cells [.int .i64 0,.slice none 0 0] 117 false)) rfl,set_new]
 rw [← hH]
 refine hN4 [(0,Zd n),(2,w),(6,.bool false),(7,.int .i64 0),(8,.pointer (some ⟨h.length,0,none⟩))] _ _ ?_ (by simp (maxSteps:=2000000) only [vup,cond_true,cond_false,Nat.reduceBEq])
 clear hN4
 try clear N4
 refine Zt fun M hM=>?_
 refine Zg fun N5 hN5=>?_
 have bad : ¬ (validB n l=true∧chances n ps=true)→∀ e,ELe e [(0,Zd n),(2,w),(6,.bool false),(7,.int .i64 0),(8,.pointer (some ⟨h.length,0,none⟩)),(25,.bool true)]→N5 e H:=by
  intro hb e he
  refine hN5 _ _ _ ?_ he
  refine Xu rfl ?_
  refine Zm ?_
  simp (maxSteps:=2000000) only [↓Za,↓Zl,↓Zu,↓Zb,↓Zc,vup,cond_true,cond_false,aop,Zf,ev,sput,Ze,Nat.reduceBEq,Zs,Xn,tup]
  exact ⟨hE,by rw [if_neg hb]⟩
 simp (maxSteps:=2000000) only [↓Za,↓Zc,vup,List.map_cons,List.map_nil,cond_true,cond_false,aop,ev,sput,Ze,unK,Nat.reduceBEq,Yn,List.nil_append,List.append_nil,loadT b8]
 refine (valid_call hvH hl).mono ?_
 rintro _ H ⟨rfl,rfl⟩
 cases hval:validB n l with
 | false =>
   simp (maxSteps:=2000000) only [↓Zb,↓Zc,↓vdn,vup,cond_true,cond_false,aop,Zf,ev,sput,Ze,Nat.reduceBEq]
   exact bad (by rw [hval]; simp) _ (by simp (maxSteps:=2000000) only [vup,cond_true,cond_false,Nat.reduceBEq])
 | true =>
   by_cases hlen:(ps.length:Int)=n
   · have hne:(((ps.length:Nat):Int) != n)=false:=by simp [hlen]
     simp (maxSteps:=2000000) only [↓Zb,↓Zc,↓vdn,vup,List.map_cons,List.map_nil,cond_true,cond_false,aop,Zf,ev,sput,Ze,Yf,Yi,unK,Zi,Nat.reduceBEq,tyf,hwH.len,hne,Yn,List.nil_append,List.append_nil]
     refine (common_call hwH hlp hx).mono ?_
     rintro _ H ⟨rfl,rfl⟩
     have hch:chances n ps=(decide (mult ps≠0)&&ps.all fun p=>decide (p.1≤p.2)):=by rw [chances,decide_eq_true hlen,Bool.true_and]
     rw [← hch]
     cases hc:chances n ps with
     | false =>
       simp (maxSteps:=2000000) only [vup]
       exact bad (by rw [hc]; simp) _ (by simp (maxSteps:=2000000) only [vup,cond_true,cond_false,Nat.reduceBEq])
     | true =>
       simp (maxSteps:=2000000) only [vup]
       refine hN5 [(0,Zd n),(2,w),(6,.bool false),(7,.int .i64 0),(8,.pointer (some ⟨h.length,0,none⟩)),(25,.bool false)] _ _ ?_ (by simp (maxSteps:=2000000) only [vup,cond_true,cond_false,Nat.reduceBEq])
       clear hN5
       try clear N5
       refine Xh rfl ?_
       refine Zm ?_
       simp (maxSteps:=2000000) only [↓Zn,Zf]
       refine hM [(0,Zd n),(2,w),(6,.bool false),(7,.int .i64 0),(8,.pointer (some ⟨h.length,0,none⟩))] _ _ ?_ (by simp (maxSteps:=2000000) only [vup,cond_true,cond_false,Nat.reduceBEq])
       clear hM
       try clear M
       obtain ⟨cn,_⟩:=chances_chn hc
       obtain ⟨k,rfl⟩ : ∃ k:Nat,n=k:=⟨n.toNat,by omega⟩
       refine Zm ?_
       simp (maxSteps:=2000000) only [↓Za,↓Zl,↓Zu,↓Zb,↓Zc,vup,List.map_cons,List.map_nil,cond_true,cond_false,aop,Zf,ev,sput,Ze,Nat.reduceBEq,Zs,Xn,tup,Yn,List.nil_append,List.append_nil,loadT b8]
       refine (agrees_call hvH hwH hval (by omega) cn).mono ?_
       rintro _ H ⟨rfl,rfl⟩
       simp (maxSteps:=2000000) only [vup,if_pos (And.intro hval hc)]
       exact hE
   · have hne:(((ps.length:Nat):Int) != n)=true:=by simpa [bne] using hlen
     simp (maxSteps:=2000000) only [↓Zb,↓Zc,↓vdn,vup,List.map_cons,List.map_nil,cond_true,cond_false,aop,Zf,ev,sput,Ze,Yf,Yi,unK,Zi,Nat.reduceBEq,tyf,hwH.len,hne]
     exact bad (by rw [chances,decide_eq_false hlen,Bool.false_and]; simp) _ (by simp (maxSteps:=2000000) only [vup,cond_true,cond_false,Nat.reduceBEq])
end Go.Proofs.Tryd.Am.Be
namespace Bq
def skp (i r:Nat):Nat:=if r<i then r else r+1
def sgn:Nat→Rat
 | 0=>1
 | n+1=>- sgn n
def det:Nat→(Nat→Nat→Rat)→Rat
 | 0,_=>1
 | n+1,M=>Zv (fun i=>sgn i*M 0 i*det n (fun c r=>M (c+1) (skp i r))) (n+1)
theorem skp_lt {i r n:Nat} (h:r<n):skp i r<n+1:=by rw [skp]; split <;> omega
theorem Vt : ∀ (n:Nat) {M N:Nat→Nat→Rat},(∀ c r,c<n→r<n→M c r=N c r)→det n M=det n N
 | 0,_,_,_=>rfl
 | n+1,M,N,h=>by
   rw [det,det]
   refine Zk fun i hi=>?_
   rw [h 0 i (by omega) hi,Vt n fun c r hc hr=>h (c+1) (skp i r) (by omega) (skp_lt hr)]
theorem det_lin {n:Nat} {M:Nat→Nat→Rat} (a b:Nat→Rat) (s:Rat) (h : ∀ r,r<n+1→M 0 r=a r+s*b r) :
  det (n+1) M=det (n+1) (fun c=>if c=0 then a else M c)+s*det (n+1) (fun c=>if c=0 then b else M c):=by
 simp only [det,if_true]
 rw [← Yw,← Xw]
 refine Zk fun i hi=>?_
 simp only [show ∀ c,(c+1=0)=False from fun c=>by simp,if_false]
 rw [h i hi]; grind
theorem Wd {g:Nat→Rat} {n:Nat} (h : ∀ i,i<n→g i=0):Zv g n=0:=by
 induction n with
 | zero=>rfl
 | succ n ih=>rw [Zv,ih fun i hi=>h i (by omega),h n (by omega)]; exact Rat.zero_add _
theorem det_zero {n:Nat} {M:Nat→Nat→Rat} (h : ∀ r,r<n+1→M 0 r=0):det (n+1) M=0:=by
 rw [det]
 refine Wd fun i hi=>?_
 rw [h i hi]; grind
theorem sgn_sq (a:Nat):sgn a*sgn a=1:=by
 induction a with
 | zero=>rw [sgn,Rat.mul_one]
 | succ a ih=>rw [sgn]; grind
theorem sum_pairs (t:Nat→Nat→Rat) : ∀ N,Zv (fun i=>Zv (fun j=>t i j) N) (N+1)=Zv (fun i=>Zv (fun j=>t i j+t j (i-1)) i) (N+1)
 | 0=>rfl
 | N+1=>by
   have ih:=sum_pairs t N
   rw [Zv]
   have e:Zv (fun i=>Zv (fun j=>t i j) (N+1)) (N+1)=Zv (fun i=>Zv (fun j=>t i j) N+t i N) (N+1):=Zk fun i hi=>rfl
   rw [e,Xw,ih]
   conv=>rhs; rw [Zv]
   rw [Xw (fun j=>t (N+1) j) (fun j=>t j (N+1-1)) (N+1),show N+1-1=N from rfl]
   grind
theorem skp_skp {i j r:Nat} (h:j<i):skp i (skp j r)=skp j (skp (i-1) r):=by
 simp only [skp]
 by_cases h1:r<j
 · simp [h1,show r<i by omega,show r<i-1 by omega]
 · by_cases h2:r<i-1
   · simp [h1,h2,show r+1<i by omega]
   · simp [h1,h2,show ¬ r+1<i by omega,show ¬ r+1<j by omega]
def swp (a:Nat) (c:Nat):Nat:=if c=a then a+1 else if c=a+1 then a else c
theorem det_two (n:Nat) (M:Nat→Nat→Rat):det (n+2) M=Zv (fun i=>Zv (fun j=>sgn i*sgn j*(M 0 i*M 1 j-M 0 j*M 1 i)*det n (fun c r=>M (c+2) (skp i (skp j r)))) i) (n+2):=by
 have e1:det (n+2) M=Zv (fun i=>Zv (fun j=>sgn i*M 0 i*(sgn j*M 1 (skp i j)*det n (fun c r=>M (c+2) (skp i (skp j r))))) (n+1)) (n+2):=by
  rw [det]
  refine Zk fun i hi=>?_
  rw [det,Yw]
 rw [e1,sum_pairs]
 refine Zk fun i hi=>Zk fun j hj=>?_
 have h1:skp i j=j:=by rw [skp,if_pos hj]
 have h2:skp j (i-1)=i:=by rw [skp,if_neg (by omega)]; omega
 have h3:det n (fun c r=>M (c+2) (skp j (skp (i-1) r)))=det n (fun c r=>M (c+2) (skp i (skp j r))):=Vt n fun c r hc hr=>by rw [skp_skp hj]
 have h4:sgn i = - sgn (i-1):=by
  obtain ⟨i,rfl⟩ : ∃ k,i=k+1:=⟨i-1,by omega⟩
  rfl
 rw [h1,h2,h3,h4]; grind
theorem det_swp : ∀ (a n:Nat) (M:Nat→Nat→Rat),a+1<n→det n (fun c=>M (swp a c)) = - det n M
 | 0,n,M,h=>by
   obtain ⟨n,rfl⟩ : ∃ k,n=k+2:=⟨n-2,by omega⟩
   rw [det_two,det_two]
   have e : - Zv (fun i=>Zv (fun j=>sgn i*sgn j*(M 0 i*M 1 j-M 0 j*M 1 i)*det n (fun c r=>M (c+2) (skp i (skp j r)))) i) (n+2)=Zv (fun i=>Zv (fun j=>sgn i*sgn j*(M 1 i*M 0 j-M 1 j*M 0 i)*det n (fun c r=>M (c+2) (skp i (skp j r)))) i) (n+2):=by
    have:=Yw (-1) (fun i=>Zv (fun j=>sgn i*sgn j*(M 0 i*M 1 j-M 0 j*M 1 i)*det n (fun c r=>M (c+2) (skp i (skp j r)))) i) (n+2)
    rw [show ∀ x:Rat,-x = -1*x from fun x=>by grind,← this]
    refine Zk fun i hi=>?_
    rw [← Yw]
    refine Zk fun j hj=>?_
    grind
   rw [e]
   refine Zk fun i hi=>Zk fun j hj=>?_
   have e0:swp 0 0=1:=rfl
   have e1:swp 0 1=0:=rfl
   have e2 : ∀ c,swp 0 (c+2)=c+2:=fun c=>by simp [swp]
   simp only [e0,e1,e2]
 | a+1,n,M,h=>by
   obtain ⟨n,rfl⟩ : ∃ k,n=k+1:=⟨n-1,by omega⟩
   rw [det,det]
   have:=Yw (-1) (fun i=>sgn i*M 0 i*det n (fun c r=>M (c+1) (skp i r))) (n+1)
   rw [show ∀ x:Rat,-x = -1*x from fun x=>by grind,← this]
   refine Zk fun i hi=>?_
   have e0:swp (a+1) 0=0:=by simp [swp]
   have e1 : ∀ c,swp (a+1) (c+1)=swp a c+1:=fun c=>by
    simp only [swp]
    by_cases h1:c=a
    · simp [h1]
    · by_cases h2:c=a+1
      · simp [h2]
      · simp [h1,h2]
   have ih:=det_swp a n (fun c r=>M (c+1) (skp i r)) (by omega)
   simp only [e0,e1]
   rw [ih]; grind
theorem det_same : ∀ (n t:Nat) (M:Nat→Nat→Rat),t+1<n→(∀ r,r<n→M 0 r=M (t+1) r)→det n M=0
 | 0,t,M,h,_=>by omega
 | n+1,0,M,h,he=>by
   have h1:=det_swp 0 (n+1) M h
   have h2:det (n+1) (fun c=>M (swp 0 c))=det (n+1) M:=Vt _ fun c r hc hr=>by
    simp only [swp]
    by_cases h3:c=0
    · subst h3; simp only [if_true]; exact (he r hr).symm
    · by_cases h4:c=0+1
      · subst h4; simp only [show ¬ (0+1=0) by omega,if_false,if_true]; exact he r hr
      · simp only [h3,h4,if_false]
   rw [h2] at h1
   grind
 | n+1,t+1,M,h,he=>by
   have h1:=det_swp 0 (n+1) M (by omega)
   have h2:det (n+1) (fun c=>M (swp 0 c))=0:=by
    rw [det]
    refine Wd fun i hi=>?_
    have h0:det n (fun c r=>M (swp 0 (c+1)) (skp i r))=0:=by
     refine det_same n t _ (by omega) fun r hr=>?_
     have e1:swp 0 (0+1)=0:=rfl
     have e2:swp 0 (t+1+1)=t+1+1:=by simp [swp]
     simp only [e1,e2]
     exact he _ (skp_lt hr)
    rw [h0]; grind
   rw [h2] at h1
   grind
theorem det_last {n:Nat} {M:Nat→Nat→Rat} (h : ∀ r,r<n→M 0 r=0):det (n+1) M=sgn n*M 0 n*det n (fun c r=>M (c+1) r):=by
 rw [det,Zv,Wd fun i hi=>by rw [h i hi]; grind,Rat.zero_add]
 rw [Vt n fun c r hc hr=>by rw [skp,if_pos hr]]
def bring (t c:Nat):Nat:=if c=0 then t else if c≤t then c-1 else c
theorem det_bring : ∀ (t n:Nat) (M:Nat→Nat→Rat),t<n→det n (fun c=>M (bring t c))=sgn t*det n M
 | 0,n,M,h=>by
   rw [sgn,Rat.one_mul]
   refine Vt n fun c r hc hr=>?_
   have:bring 0 c=c:=by simp only [bring]; split <;> (try split) <;> omega
   rw [this]
 | t+1,n,M,h=>by
   have h1:=det_bring t n (fun c=>M (swp t c)) (by omega)
   have h2:=det_swp t n M h
   rw [h2] at h1
   have h3:det n (fun c=>M (bring (t+1) c))=det n (fun c=>M (swp t (bring t c))):=Vt n fun c r hc hr=>by
    have:bring (t+1) c=swp t (bring t c):=by
     simp only [bring,swp]
     by_cases h0:c=0
     · simp [h0]
     · by_cases h4:c≤t
       · simp [h0,h4,show c≤t+1 by omega,show c-1≠t by omega,show c-1≠t+1 by omega]
       · by_cases h5:c=t+1
         · simp [h5]
         · simp [h0,h4,show ¬ c≤t+1 by omega,show c≠t by omega,h5]
    rw [this]
   rw [h3,h1,sgn]; grind
/-! Sizes. -/
def Zq (b:Nat) (q:Rat):Prop:=∃ z:Int,q=(z:Rat)∧z.natAbs≤b
theorem Zq.add {a b:Nat} {p q:Rat} (h1:Zq a p) (h2:Zq b q):Zq (a+b) (p+q):=by
 obtain ⟨x,rfl,hx⟩:=h1
 obtain ⟨y,rfl,hy⟩:=h2
 exact ⟨x+y,(Rat.intCast_add x y).symm,by omega⟩
theorem Zq.mul {a b:Nat} {p q:Rat} (h1:Zq a p) (h2:Zq b q):Zq (a*b) (p*q):=by
 obtain ⟨x,rfl,hx⟩:=h1
 obtain ⟨y,rfl,hy⟩:=h2
 exact ⟨x*y,(Rat.intCast_mul x y).symm,by rw [Int.natAbs_mul]; exact Nat.mul_le_mul hx hy⟩
theorem Zq.mono {a b:Nat} {p:Rat} (h:Zq a p) (hab:a≤b):Zq b p:=by
 obtain ⟨x,e,hx⟩:=h
 exact ⟨x,e,by omega⟩
theorem Zq.zero (b:Nat):Zq b 0:=⟨0,rfl,by simp⟩
theorem Zq.sgn (i:Nat):Zq 1 (sgn i):=by
 induction i with
 | zero=>exact ⟨1,rfl,by decide⟩
 | succ i ih =>
   obtain ⟨x,e,hx⟩:=ih
   refine ⟨-x,?_,by omega⟩
   rw [Bq.sgn,e,Rat.intCast_neg]
theorem Zq.sum {b:Nat} {g:Nat→Rat} {n:Nat} (h : ∀ i,i<n→Zq b (g i)):Zq (n*b) (Zv g n):=by
 induction n with
 | zero=>exact Zq.zero _
 | succ n ih =>
   rw [Nat.succ_mul]
   exact (ih fun i hi=>h i (by omega)).add (h n (by omega))
theorem det_Zq {b0 F:Nat} {n:Nat} {M:Nat→Nat→Rat} (h0 : ∀ r,r<n+1→Zq b0 (M 0 r)) (hF : ∀ i,i<n+1→Zq F (det n (fun c r=>M (c+1) (skp i r)))):Zq ((n+1)*(b0*F)) (det (n+1) M):=by
 rw [det]
 refine Zq.sum fun i hi=>?_
 have:=((Zq.sgn i).mul (h0 i hi)).mul (hF i hi)
 rwa [Nat.one_mul] at this
def facB (b:Nat):Nat→Nat
 | 0=>1
 | n+1=>(n+1)*(b*facB b n)
theorem det_fac {b:Nat} : ∀ (n:Nat) {M:Nat→Nat→Rat},(∀ c r,c<n→r<n→Zq b (M c r))→Zq (facB b n) (det n M)
 | 0,M,_=>⟨1,rfl,Nat.le_refl _⟩
 | n+1,M,h=>det_Zq (fun r hr=>h 0 r (by omega) hr) fun i hi=>det_fac n fun c r hc hr=>h (c+1) (skp i r) (by omega) (skp_lt hr)
def fac01:Nat→Nat
 | 0=>1
 | 1=>1
 | 2=>1
 | n+3=>(n+3)*fac01 (n+2)
def is01 (q:Rat):Prop:=q=0∨q=1
theorem is01.zq {q:Rat} (h:is01 q):Zq 1 q:=by
 rcases h with rfl | rfl
 · exact ⟨0,rfl,by decide⟩
 · exact ⟨1,rfl,by decide⟩
theorem det_01 : ∀ (n:Nat) {M:Nat→Nat→Rat},(∀ c r,c<n→r<n→is01 (M c r))→Zq (fac01 n) (det n M)
 | 0,M,_=>⟨1,rfl,by decide⟩
 | 1,M,h=>by
   have:det 1 M=M 0 0:=by
    simp only [det,Zv,sgn]; grind
   rw [this]
   exact (h 0 0 (by omega) (by omega)).zq
 | 2,M,h=>by
   have e:det 2 M=M 0 0*M 1 1-M 0 1*M 1 0:=by
    simp only [det,Zv,sgn,skp]; simp only [show ¬ (0<0) by omega,show 0<1 by omega,if_true,if_false]; grind
   rw [e,fac01]
   rcases h 0 0 (by omega) (by omega) with h1 | h1 <;> rcases h 0 1 (by omega) (by omega) with h2 | h2 <;> rcases h 1 0 (by omega) (by omega) with h3 | h3 <;> rcases h 1 1 (by omega) (by omega) with h4 | h4 <;> rw [h1,h2,h3,h4]
   all_goals first
    | exact ⟨0,by decide +kernel,by decide⟩
    | exact ⟨1,by decide +kernel,by decide⟩
    | exact ⟨-1,by decide +kernel,by decide⟩
 | n+3,M,h=>by
   have:=det_Zq (b0:=1) (F:=fac01 (n+2)) (n:=n+2) (M:=M) (fun r hr=>(h 0 r (by omega) hr).zq) fun i hi=>det_01 (n+2) fun c r hc hr=>h (c+1) (skp i r) (by omega) (skp_lt hr)
   rw [Nat.one_mul] at this
   exact this
end Bq
