/-
  sure: the corners, one after another.
  sure: the corners, one after another: the whole walk.
  sure: sets within others bound nothing more. Plain Lean, no program.
  sure: packings.
  Printed by gen.py: the code of some functions, without what no step looks at; held against the program's own by the kernel.
  sure: Weigh, small, Less.
  sure: what the table of covers holds.
  sure: whether words are a code, by the program and by the reference.
  sure: whether words are a code, by the reference; what the statements call awake.
  sure: the beginnings that the statements look at; what Code and Codes give back.
  What codes there are, plain; codes of longer words.
  sure: a pair of neighbours more.
  Printed by gen.py: the code of some functions, without what no step looks at; held against the program's own by the kernel.
  sure: graphs that are made pair by pair; pairs of signals, by the program and by the reference.
  sure: Join and Sum, by the program and by the reference.
  sure: two graphs beside each other, by the program and by the reference.
  sure: the law SureJoins.
  Printed by gen.py: the code of some functions, without what no step looks at; held against the program's own by the kernel.
  sure: the law SurePairs.
  sure: weights of joined graphs.
-/
import Derived.Test.YtaagkbbphgdcdaaDoorPk8
import Derived.Test.YtaagkbbphgdcdaaDoorPk3
import Derived.Test.YtaagkbbphgdcdaaDoorProg
import Derived.KernelRfl
import Derived.Shelf.Abstract
import Derived.Test.YtaagkbbphgdcdaaDoorPk7
import Derived.Test.YtaagkbbphgdcdaaDoorPk6
set_option linter.all false
namespace Go.Proofs.Tryd.Am
open Go.Am Bq
set_option maxRecDepth 100000
set_option maxHeartbeats 4000000
theorem sub_cons {k:Nat} {t:List Nat} : ∀ {n a:Nat},(k::t).Sublist (List.range' a n)→a≤k∧k<a+n∧t.Sublist (List.range' (k+1) (a+n-(k+1)))
 | 0,a,h=>by simp at h
 | n+1,a,h=>by
   rw [List.range'_succ] at h
   cases h with
   | cons _ h =>
     obtain ⟨h1,h2,h3⟩:=sub_cons h
     refine ⟨by omega,by omega,?_⟩
     rw [show a+(n+1)-(k+1)=a+1+n-(k+1) by omega]; exact h3
   | cons_cons _ h =>
     refine ⟨Nat.le_refl _,by omega,?_⟩
     rw [show k+(n+1)-(k+1)=n by omega]; exact h
def KG (h0:Zh) (pb:Nat) (h:Zh):Prop:=Ext (fun b=>b=pb) h0 h
theorem KG.at_ {h0 h:Zh} {pb b:Nat} {B:Blk} (k:KG h0 pb h) (hb:h0[b]? = some B) (hn:b≠pb):h[b]? = some B:=(k.2 b (Zz hb) hn).trans hb
def bC (q:Rat):Blk:=.cells [Zd q.num,Zd q.den] 44 false
structure GE (n:Nat) (sets:List Nat) (rws:List Value) (h0:Zh) (pn pr pg ps pb:Nat) (rv sv:Value):Prop where
 n1:1≤n
 n6:n≤6
 lt : ∀ s∈sets,s<2 ^ n
 l:sets.length<1000
 nb:h0[pn]? = some (.cells [Zd (n:Nat)] 3 false)
 rb:h0[pr]? = some (.cells [rv] 82 false)
 gb:h0[pg]? = some (.cells [.func (.func 85) #[] #[.pointer (some ⟨pn,0,none⟩),.pointer (some ⟨pr,0,none⟩),.pointer (some ⟨pg,0,none⟩),.pointer (some ⟨ps,0,none⟩),.pointer (some ⟨pb,0,none⟩)]] 83 false)
 sb:h0[ps]? = some (.cells [sv] 22 false)
 fn:pn≠pb
 fr:pr≠pb
 fg:pg≠pb
 fs:ps≠pb
 rows : ∀ H,KG h0 pb H→ValSl H rv rws∧Each (IntSl H) rws ((List.range (sets.length+n)).map (rowI n sets))
 st : ∀ H,KG h0 pb H→IntSl H sv (sets.map fun s=>((s:Nat):Int))
def Att (n:Nat) (sets:List Nat) (q:Rat):Prop:=(∃ x,PFeas n sets x∧sumTo x n=q)∧q.num.natAbs≤4320∧q.den≤720
def GR (n:Nat) (sets:List Nat) (pb:Nat) (h:Zh) (q:Rat) (B:List Nat) (fr d:Nat) (h' : Zh):Prop :=
 Ext (fun b=>b=pb) h h'∧∃ q',h'[pb]? = some (bC q')∧Att n sets q'∧q≤q'∧∀ t:List Nat,t.Sublist (List.range' fr (sets.length+n-fr))→t.length=d→∀ x,Corner n sets (B++t) x→sumTo x n≤q'
theorem numL_get {n:Nat} {s:List (List Int)} {j:Nat} (hj:j<n):(numL n s).getD j 0=if pdet n s<0 then-pdet n (s.map (putR n j)) else pdet n (s.map (putR n j)):=by
 rw [numL]
 split
 · rw [List.getD,List.getElem?_map,numT,List.getElem?_map,List.getElem?_range hj]; rfl
 · exact numT_get hj
theorem numL_len (n:Nat) (s:List (List Int)):(numL n s).length=n:=by
 rw [numL]; split
 · rw [List.length_map,numT_len]
 · exact numT_len _ _ _
theorem numL_rat {n:Nat} {s:List (List Int)} {y:Nat→Rat} (h : ∀ j,j<n→((pdet n (s.map (putR n j)):Int):Rat)=y j*((pdet n s:Int):Rat)) {j:Nat} (hj:j<n):(((numL n s).getD j 0:Int):Rat)=y j*(((pdet n s).natAbs:Int):Rat):=by
 rw [numL_get hj]
 by_cases h0:pdet n s<0
 · rw [if_pos h0,show (((pdet n s).natAbs:Nat):Int) = - pdet n s by omega,Rat.intCast_neg,Rat.intCast_neg,h j hj]; grind
 · rw [if_neg h0,show (((pdet n s).natAbs:Nat):Int)=pdet n s by omega,h j hj]
theorem s85_callW [Tabs Tryd.prog] {args:List Value} {h:Zh} {Q:Value→Zh→Prop} (hsz:args.length≤105) (hk:AWS Tryd.prog 105 s85 (Zu Tryd.prog [] Q) (Zt 0 args) h):ACall Tryd.prog 85 args h Q :=
 Xd Tryd.func85 rfl (enters_of Tryd.func85 (by kernel_rfl) rfl) rfl rfl (by decide) s85_strip s85_ok hsz hk
theorem leaf_call [Tabs prog] {n:Nat} {sets:List Nat} {rws:List Value} {h0:Zh} {pn pr pg ps pb:Nat} {rv sv:Value} (ge:GE n sets rws h0 pn pr pg ps pb rv sv) {fr:Nat} {B:List Nat} {h:Zh} {v:Value} {q:Rat} (hB:B.length=n) (hk:KG h0 pb h)
  (hv:RowsI h v (Wv n sets B)) (hq:h[pb]? = some (bC q)) (ha:Att n sets q) (hbB : ∀ x,Corner n sets B x→Corner n sets (B++[]) x) :
  ACall prog 85 [Zd (fr:Nat),v,.pointer (some ⟨pn,0,none⟩),.pointer (some ⟨pr,0,none⟩),.pointer (some ⟨pg,0,none⟩),.pointer (some ⟨ps,0,none⟩),.pointer (some ⟨pb,0,none⟩)] h fun _ h'=>GR n sets pb h q B fr 0 h':=by
 have hkn:=hk.at_ ge.nb ge.fn
 have hks:=hk.at_ ge.sb ge.fs
 have h6:=ge.n6
 have hlen:(Wv n sets B).length=n:=by rw [Wv,List.length_map,hB]
 have hr01 : ∀ r∈Wv n sets B,r.length=n+1∧∀ y∈r,y=0∨y=1:=fun r hr=>by
  obtain ⟨k,_,rfl⟩:=List.mem_map.1 hr
  exact ⟨rowI_len n sets k,rowI_01⟩
 -- nothing new where the sequence is no corner
 have none_ : ∀ h',Ext (fun b=>b=pb) h h'→h'[pb]? = some (bC q)→(∀ x,¬ Corner n sets B x)→GR n sets pb h q B fr 0 h':=fun h' hE hb hno =>
  ⟨hE,q,hb,ha,Rat.le_refl,fun t _ ht x hx=>by
   obtain rfl:t=[]:=List.length_eq_zero_iff.1 ht
   rw [List.append_nil] at hx
   exact absurd hx (hno x)⟩
 have mono : ∀ {h' : Zh},Ext (fun _=>False) h h'→Ext (fun b=>b=pb) h h'∧h'[pb]? = some (bC q):=fun {h'} hE=>⟨hE.mono fun _ h=>h.elim,(hE.2 _ (Zz hq) id).trans hq⟩
 obtain ⟨ws,w1,w2⟩:=id hv
 have hwl:ws.length=n:=w2.len.trans hlen
 have hnn : ¬ ((n:Int)<n):=by omega
 refine s85_callW (by simp) ?_
 simp only [s85]
 refine Zk fun M hM=>?_
 refine Ze fun N1 hN1=>?_
 simp (maxSteps:=2000000) only [↓Za,↓Zb,↓Zc,vup,List.map_cons,List.map_nil,cond_true,cond_false,aop,Zg,Zt,ev,sput,Zf,Zv,Zx,Zi,Nat.reduceBEq,Nat.reduceAdd,tyf,w1.len,hwl,load1 hkn Xf,hnn]
 refine hN1 [(0,Zd (fr:Nat)),(1,v),(2,.pointer (some ⟨pn,0,none⟩)),(3,.pointer (some ⟨pr,0,none⟩)),(4,.pointer (some ⟨pg,0,none⟩)),(5,.pointer (some ⟨ps,0,none⟩)),(6,.pointer (some ⟨pb,0,none⟩)),(25,.bool false)] _ _ ?_ (by simp (maxSteps:=2000000) only [vup,cond_true,cond_false,Nat.reduceBEq])
 clear hN1
 try clear N1
 refine Yg rfl ?_
 refine Zj ?_
 simp (maxSteps:=2000000) only [↓Zn,Zg]
 refine hM [(0,Zd (fr:Nat)),(1,v),(2,.pointer (some ⟨pn,0,none⟩)),(3,.pointer (some ⟨pr,0,none⟩)),(4,.pointer (some ⟨pg,0,none⟩)),(5,.pointer (some ⟨ps,0,none⟩)),(6,.pointer (some ⟨pb,0,none⟩))] _ _ ?_ (by simp (maxSteps:=2000000) only [vup,cond_true,cond_false,Nat.reduceBEq])
 clear hM
 try clear M
 refine Ze fun N2 hN2=>?_
 simp (maxSteps:=2000000) only [↓Za,↓Zb,↓Zc,vup,List.map_cons,List.map_nil,cond_true,cond_false,aop,Zg,ev,sput,Zf,Nat.reduceBEq,Yz,List.nil_append,List.append_nil]
 refine (solve_call h6 hlen hr01 hv).mono ?_
 rintro r h1 ⟨hE1,hr⟩
 obtain ⟨d,hd⟩ : ∃ d,pdet n (Wv n sets B)=d:=⟨_,rfl⟩
 rw [hd] at hr
 by_cases hd0:d=0
 · rw [if_pos hd0] at hr
   subst hr
   simp (maxSteps:=2000000) only [extr_30,extr_31,extr_32]
   refine hN2 [(0,Zd (fr:Nat)),(1,v),(2,.pointer (some ⟨pn,0,none⟩)),(3,.pointer (some ⟨pr,0,none⟩)),(4,.pointer (some ⟨pg,0,none⟩)),(5,.pointer (some ⟨ps,0,none⟩)),(6,.pointer (some ⟨pb,0,none⟩)),(10,.slice none 0 0),(11,.int .i64 0),(12,.bool false)] _ _ ?_ (by simp (maxSteps:=2000000) only [vup,cond_true,cond_false,Nat.reduceBEq])
   clear hN2
   try clear N2
   refine Zk fun M hM=>?_
   refine Ze fun N3 hN3=>?_
   simp (maxSteps:=2000000) only [↓Za,↓Zb,↓Zc,↓vdn,vup,cond_true,cond_false,aop,Zg,ev,sput,Zf,unK,Nat.reduceBEq]
   refine hN3 [(0,Zd (fr:Nat)),(1,v),(2,.pointer (some ⟨pn,0,none⟩)),(3,.pointer (some ⟨pr,0,none⟩)),(4,.pointer (some ⟨pg,0,none⟩)),(5,.pointer (some ⟨ps,0,none⟩)),(6,.pointer (some ⟨pb,0,none⟩)),(10,.slice none 0 0),(11,.int .i64 0),(12,.bool false),(61,.bool true)] _ _ ?_ (by simp (maxSteps:=2000000) only [vup,cond_true,cond_false,Nat.reduceBEq])
   clear hN3
   try clear N3
   refine Yx rfl ?_
   refine Zj ?_
   simp (maxSteps:=2000000) only [↓Ya,Zg,Zu,Xu]
   obtain ⟨hE,hb⟩:=mono hE1
   exact none_ _ hE hb (leaf_none (hd.trans hd0))
 rw [if_neg hd0] at hr
 obtain ⟨w,rfl,hw⟩:=hr
 obtain ⟨y,hy1,hy2,hy3⟩:=leaf_some hB (by rw [hd]; exact hd0)
 have hnum : ∀ j,j<n→(((numL n (Wv n sets B)).getD j 0:Int):Rat)=y j*((d.natAbs:Int):Rat):=fun j hj=>by
  have:=numL_rat hy1 hj
  rw [hd] at this; exact this
 have hnl:=numL_len n (Wv n sets B)
 have hne:numL n (Wv n sets B)≠[]:=fun hc=>by rw [hc] at hnl; have:=ge.n1; simp at hnl; omega
 have hdp:(0:Rat)<((d.natAbs:Int):Rat):=by
  have:(0:Int)<(d.natAbs:Int):=by omega
  exact Rat.intCast_pos.2 this
 simp (maxSteps:=2000000) only [extr_30,extr_31,extr_32]
 refine hN2 [(0,Zd (fr:Nat)),(1,v),(2,.pointer (some ⟨pn,0,none⟩)),(3,.pointer (some ⟨pr,0,none⟩)),(4,.pointer (some ⟨pg,0,none⟩)),(5,.pointer (some ⟨ps,0,none⟩)),(6,.pointer (some ⟨pb,0,none⟩)),(10,w),(11,Zd (d.natAbs:Nat)),(12,.bool true)] _ _ ?_ (by simp (maxSteps:=2000000) only [vup,cond_true,cond_false,Nat.reduceBEq])
 clear hN2
 try clear N2
 have hcor : ∀ x,Corner n sets B x→∀ j,j<n→0≤y j:=fun x hx j hj=>by
  rw [← hy3 x hx j hj]; exact hx.ok.nn j hj
 refine Zk fun M hM=>?_
 refine Ze fun N4 hN4=>?_
 simp (maxSteps:=2000000) only [↓Za,↓Zb,↓Zc,↓vdn,vup,List.map_cons,List.map_nil,cond_true,cond_false,aop,Zg,ev,sput,Zf,Zv,Zx,unK,Nat.reduceBEq,tyf,Yz,List.nil_append,List.append_nil]
 refine (min_call hw hne (by omega)).mono ?_
 rintro _ h1 ⟨rfl,rfl⟩
 by_cases hneg:minT (numL n (Wv n sets B)) (numL n (Wv n sets B)).length<0
 · simp (maxSteps:=2000000) only [vup,hneg]
   refine hN4 [(0,Zd (fr:Nat)),(1,v),(2,.pointer (some ⟨pn,0,none⟩)),(3,.pointer (some ⟨pr,0,none⟩)),(4,.pointer (some ⟨pg,0,none⟩)),(5,.pointer (some ⟨ps,0,none⟩)),(6,.pointer (some ⟨pb,0,none⟩)),(10,w),(11,Zd (d.natAbs:Nat)),(12,.bool true),(61,.bool true)] _ _ ?_ (by simp (maxSteps:=2000000) only [vup,cond_true,cond_false,Nat.reduceBEq])
   clear hN4
   try clear N4
   refine Yx rfl ?_
   refine Zj ?_
   simp (maxSteps:=2000000) only [↓Ya,Zg,Zu,Xu]
   obtain ⟨hE,hb⟩:=mono hE1
   refine none_ _ hE hb fun x hx=>?_
   obtain ⟨z,hz,hz0⟩:=(minT_neg hne).1 hneg
   obtain ⟨j,hj,rfl⟩:=List.mem_iff_getElem.1 hz
   have h2:=hnum j (by omega)
   rw [List.getD,List.getElem?_eq_getElem hj,Option.getD_some] at h2
   have h3:=Rat.mul_nonneg (hcor x hx j (by omega)) (Rat.le_of_lt hdp)
   rw [← h2] at h3
   have:=Rat.intCast_nonneg.1 h3
   omega
 simp (maxSteps:=2000000) only [vup,hneg]
 refine hN4 [(0,Zd (fr:Nat)),(1,v),(2,.pointer (some ⟨pn,0,none⟩)),(3,.pointer (some ⟨pr,0,none⟩)),(4,.pointer (some ⟨pg,0,none⟩)),(5,.pointer (some ⟨ps,0,none⟩)),(6,.pointer (some ⟨pb,0,none⟩)),(10,w),(11,Zd (d.natAbs:Nat)),(12,.bool true),(61,.bool false)] _ _ ?_ (by simp (maxSteps:=2000000) only [vup,cond_true,cond_false,Nat.reduceBEq])
 clear hN4
 try clear N4
 refine Yg rfl ?_
 refine Zj ?_
 simp (maxSteps:=2000000) only [↓Zn,Zg]
 refine hM [(0,Zd (fr:Nat)),(1,v),(2,.pointer (some ⟨pn,0,none⟩)),(3,.pointer (some ⟨pr,0,none⟩)),(4,.pointer (some ⟨pg,0,none⟩)),(5,.pointer (some ⟨ps,0,none⟩)),(6,.pointer (some ⟨pb,0,none⟩)),(10,w),(11,Zd (d.natAbs:Nat)),(12,.bool true)] _ _ ?_ (by simp (maxSteps:=2000000) only [vup,cond_true,cond_false,Nat.reduceBEq])
 clear hM
 try clear M
 obtain ⟨N,hN⟩ : ∃ N,numL n (Wv n sets B)=N:=⟨_,rfl⟩
 rw [hN] at hw hnl hne hneg
 have hNr : ∀ j,j<n→((N.getD j 0:Int):Rat)=y j*((d.natAbs:Int):Rat):=hN▸hnum
 have hN0 : ∀ j,j<n→0≤N.getD j 0:=fun j hj=>Classical.byContradiction fun hc=>hneg ((minT_neg hne).2 ⟨N.getD j 0,by rw [List.getD,List.getElem?_eq_getElem (by omega)]; exact List.getElem_mem _,by omega⟩)
 have hNb : ∀ j,j<n→(N.getD j 0).natAbs≤720:=fun j hj=>by
  have h2:(pdet n ((Wv n sets B).map (putR n j))).natAbs≤720:=Nat.le_trans (pdet_abs n _ (by rw [List.length_map,hlen]) fun r hr y hy=>by
   obtain ⟨r',hr',rfl⟩:=List.mem_map.1 hr
   rw [putR] at hy
   rcases List.mem_or_eq_of_mem_set hy with h | h
   · exact (hr01 r' hr').2 y h
   · have e1:=(hr01 r' hr').1
     rw [h,List.getD,List.getElem?_eq_getElem (by omega)]; exact (hr01 r' hr').2 _ (List.getElem_mem _)) (fact_le h6)
  rw [← hN,numL_get hj]; split <;> omega
 have hSb : ∀ k,k≤n→(pdet.isum (fun j=>N.getD j 0) k).natAbs≤k*720:=fun k hk=>isum_abs fun j hj=>hNb j (by omega)
 refine Ze fun N5 hN5=>?_
 simp (maxSteps:=2000000) only [↓Za,↓Zb,↓Zc,vup,cond_false,aop,Zg,ev,sput,Zf,Nat.reduceBEq]
 refine hN5 [(0,Zd (fr:Nat)),(1,v),(2,.pointer (some ⟨pn,0,none⟩)),(3,.pointer (some ⟨pr,0,none⟩)),(4,.pointer (some ⟨pg,0,none⟩)),(5,.pointer (some ⟨ps,0,none⟩)),(6,.pointer (some ⟨pb,0,none⟩)),(10,w),(11,Zd (d.natAbs:Nat)),(12,.bool true),(13,.int .i64 0)] _ _ ?_ (by simp (maxSteps:=2000000) only [vup,cond_true,cond_false,Nat.reduceBEq])
 clear hN5
 try clear N5
 refine Zk fun Z hZ=>?_
 refine Ze fun N6 hN6=>?_
 simp (maxSteps:=2000000) only [↓Za,↓Zb,↓Zc,vup,List.map_cons,List.map_nil,cond_true,cond_false,aop,Zg,ev,sput,Zf,Zi,Nat.reduceBEq,tyf,hw.len,hnl]
 refine hN6 [(0,Zd (fr:Nat)),(1,v),(2,.pointer (some ⟨pn,0,none⟩)),(3,.pointer (some ⟨pr,0,none⟩)),(4,.pointer (some ⟨pg,0,none⟩)),(5,.pointer (some ⟨ps,0,none⟩)),(6,.pointer (some ⟨pb,0,none⟩)),(10,w),(11,Zd (d.natAbs:Nat)),(12,.bool true),(13,.int .i64 0),(62,w),(63,Zd (n:Nat)),(64,.int .i64 0)] _ _ ?_ (by simp (maxSteps:=2000000) only [vup,cond_true,cond_false,Nat.reduceBEq])
 clear hN6
 try clear N6
 refine Zo ?_
 refine Zm fun Q hQ=>?_
 refine Yl (γ:=Nat) (fun i=>i≤n) (fun i=>([(0,Zd (fr:Nat)),(1,v),(2,.pointer (some ⟨pn,0,none⟩)),(3,.pointer (some ⟨pr,0,none⟩)),(4,.pointer (some ⟨pg,0,none⟩)),(5,.pointer (some ⟨ps,0,none⟩)),(6,.pointer (some ⟨pb,0,none⟩)),(10,w),(11,Zd (d.natAbs:Nat)),(12,.bool true),(13,Zd (pdet.isum (fun j=>N.getD j 0) i)),(62,w),(63,Zd (n:Nat)),(64,Zd (i:Nat))],h1)) (fun i=>n-i) 0 (Nat.zero_le _) (by simp (maxSteps:=2000000) only [vup,cond_true,cond_false,Nat.reduceBEq,Int.natCast_zero,show pdet.isum (fun j=>N.getD j 0) 0=0 from rfl]) rfl ?_
 rintro i hi
 refine Zm fun Q2 hQ2=>?_
 simp only [l85_1]
 by_cases hin:(i:Int)<n
 · have hi' : i<n:=by omega
   have hiN:i<N.length:=by omega
   have hadd:addV .i64 (pdet.isum (fun j=>N.getD j 0) i) (N.getD i 0)=pdet.isum (fun j=>N.getD j 0) (i+1):=by
    have h2:=hSb i hi
    have h3:=hNb i hi'
    have h4:i*720≤4320:=by omega
    exact Wf (by omega) (by omega)
   refine Ze fun N7 hN7=>?_
   simp (maxSteps:=2000000) only [↓Za,↓Zb,↓Zc,vup,cond_true,cond_false,aop,Zg,ev,sput,Zf,Zv,Zx,Nat.reduceBEq,hin]
   refine hN7 [(0,Zd (fr:Nat)),(1,v),(2,.pointer (some ⟨pn,0,none⟩)),(3,.pointer (some ⟨pr,0,none⟩)),(4,.pointer (some ⟨pg,0,none⟩)),(5,.pointer (some ⟨ps,0,none⟩)),(6,.pointer (some ⟨pb,0,none⟩)),(10,w),(11,Zd (d.natAbs:Nat)),(12,.bool true),(13,Zd (pdet.isum (fun j=>N.getD j 0) i)),(62,w),(63,Zd (n:Nat)),(64,Zd (i:Nat)),(65,.bool true)] _ _ ?_ (by simp (maxSteps:=2000000) only [vup,cond_true,cond_false,Nat.reduceBEq])
   clear hN7
   try clear N7
   refine Ze fun N8 hN8=>?_
   simp (maxSteps:=2000000) only [↓Zn,↓vdn,vup,cond_true,cond_false,Zg,ev,Nat.reduceBEq]
   refine hN8 [(0,Zd (fr:Nat)),(1,v),(2,.pointer (some ⟨pn,0,none⟩)),(3,.pointer (some ⟨pr,0,none⟩)),(4,.pointer (some ⟨pg,0,none⟩)),(5,.pointer (some ⟨ps,0,none⟩)),(6,.pointer (some ⟨pb,0,none⟩)),(10,w),(11,Zd (d.natAbs:Nat)),(12,.bool true),(13,Zd (pdet.isum (fun j=>N.getD j 0) i)),(62,w),(63,Zd (n:Nat)),(64,Zd (i:Nat))] _ _ ?_ (by simp (maxSteps:=2000000) only [vup,cond_true,cond_false,Nat.reduceBEq])
   clear hN8
   try clear N8
   refine Zk fun B hB=>?_
   refine Zo ?_
   refine Ze fun N9 hN9=>?_
   simp (maxSteps:=2000000) only [↓Za,↓Zb,↓Zc,vup,cond_true,cond_false,aop,Zg,ev,sput,Zf,Nat.reduceBEq,hw.idx Xt Xe hiN,hw.load Xf hiN]
   refine hN9 [(0,Zd (fr:Nat)),(1,v),(2,.pointer (some ⟨pn,0,none⟩)),(3,.pointer (some ⟨pr,0,none⟩)),(4,.pointer (some ⟨pg,0,none⟩)),(5,.pointer (some ⟨ps,0,none⟩)),(6,.pointer (some ⟨pb,0,none⟩)),(10,w),(11,Zd (d.natAbs:Nat)),(12,.bool true),(13,Zd (pdet.isum (fun j=>N.getD j 0) i)),(15,Zd (N.getD i 0)),(62,w),(63,Zd (n:Nat)),(64,Zd (i:Nat))] _ _ ?_ (by simp (maxSteps:=2000000) only [vup,cond_true,cond_false,Nat.reduceBEq])
   clear hN9
   try clear N9
   refine Zj ?_
   simp (maxSteps:=2000000) only [↓Za,↓Zb,↓Zc,vup,cond_true,cond_false,aop,Zg,Zl,ev,sput,Zf,Zv,Zx,Nat.reduceBEq,hadd]
   refine hB [(0,Zd (fr:Nat)),(1,v),(2,.pointer (some ⟨pn,0,none⟩)),(3,.pointer (some ⟨pr,0,none⟩)),(4,.pointer (some ⟨pg,0,none⟩)),(5,.pointer (some ⟨ps,0,none⟩)),(6,.pointer (some ⟨pb,0,none⟩)),(10,w),(11,Zd (d.natAbs:Nat)),(12,.bool true),(13,Zd (pdet.isum (fun j=>N.getD j 0) (i+1))),(62,w),(63,Zd (n:Nat)),(64,Zd (i:Nat))] _ _ ?_ (by simp (maxSteps:=2000000) only [vup,cond_true,cond_false,Nat.reduceBEq])
   clear hB
   try clear B
   refine Zj ?_
   simp (maxSteps:=2000000) only [↓Za,↓Zb,↓Zc,vup,cond_true,cond_false,aop,ev,sput,Zf,Zv,Zx,Nat.reduceBEq,Wx (show i<9223372036854775807 by omega)]
   exact hQ2 _ _ _ ⟨i+1,hi',by omega,by simp (maxSteps:=2000000) only [vup,cond_true,cond_false,Nat.reduceBEq],rfl⟩
 obtain rfl:n=i:=by omega
 refine Ze fun N10 hN10=>?_
 simp (maxSteps:=2000000) only [↓Za,↓Zb,↓Zc,vup,cond_true,cond_false,aop,Zg,ev,sput,Zf,Zv,Zx,Nat.reduceBEq,hin]
 refine hN10 [(0,Zd (fr:Nat)),(1,v),(2,.pointer (some ⟨pn,0,none⟩)),(3,.pointer (some ⟨pr,0,none⟩)),(4,.pointer (some ⟨pg,0,none⟩)),(5,.pointer (some ⟨ps,0,none⟩)),(6,.pointer (some ⟨pb,0,none⟩)),(10,w),(11,Zd (d.natAbs:Nat)),(12,.bool true),(13,Zd (pdet.isum (fun j=>N.getD j 0) n)),(62,w),(63,Zd (n:Nat)),(64,Zd (n:Nat)),(65,.bool false)] _ _ ?_ (by simp (maxSteps:=2000000) only [vup,cond_true,cond_false,Nat.reduceBEq])
 clear hN10
 try clear N10
 refine Ze fun N11 hN11=>?_
 simp (maxSteps:=2000000) only [↓Yi,↓vdn,vup,cond_true,cond_false,Zg,ev,Nat.reduceBEq]
 refine hQ2 _ _ _ (hQ _ _ _ ?_)
 simp (maxSteps:=2000000) only [Zg,Zl,Zu,if_true]
 obtain ⟨S,hS⟩ : ∃ S,pdet.isum (fun j=>N.getD j 0) n=S:=⟨_,rfl⟩
 have hSr:((S:Int):Rat)=sumTo y n*((d.natAbs:Int):Rat):=by
  rw [← hS,isum_cast,Rat.mul_comm,← Yb]
  exact sumTo_congr fun j hj=>by rw [hNr j hj,Rat.mul_comm]
 rw [hS]
 refine hZ [(0,Zd (fr:Nat)),(1,v),(2,.pointer (some ⟨pn,0,none⟩)),(3,.pointer (some ⟨pr,0,none⟩)),(4,.pointer (some ⟨pg,0,none⟩)),(5,.pointer (some ⟨ps,0,none⟩)),(6,.pointer (some ⟨pb,0,none⟩)),(10,w),(11,Zd (d.natAbs:Nat)),(12,.bool true),(13,Zd S)] _ _ ?_ (by simp (maxSteps:=2000000) only [vup,cond_true,cond_false,Nat.reduceBEq])
 clear hZ
 try clear Z
 clear hQ hQ2
 have hk1:KG h0 pb h1:=hk.trans (mono hE1).1
 have hsv:=ge.st h1 hk1
 have hks1:=hk1.at_ ge.sb ge.fs
 have hsl:(sets.map fun s=>((s:Nat):Int)).length=sets.length:=List.length_map ..
 have hsg : ∀ k,k<sets.length→(sets.map fun s=>((s:Nat):Int)).getD k 0=((sets.getD k 0:Nat):Int):=fun k hk=>by
  rw [List.getD,List.getElem?_map,List.getD,List.getElem?_eq_getElem hk]; rfl
 refine Zk fun Z hZ=>?_
 refine Ze fun N12 hN12=>?_
 simp (maxSteps:=2000000) only [↓Za,↓Zb,↓Zc,vup,List.map_cons,List.map_nil,cond_true,cond_false,aop,Zg,ev,sput,Zf,Zi,Nat.reduceBEq,tyf,load1 hks1 shp_22,hsv.len,hsl]
 refine hN12 [(0,Zd (fr:Nat)),(1,v),(2,.pointer (some ⟨pn,0,none⟩)),(3,.pointer (some ⟨pr,0,none⟩)),(4,.pointer (some ⟨pg,0,none⟩)),(5,.pointer (some ⟨ps,0,none⟩)),(6,.pointer (some ⟨pb,0,none⟩)),(10,w),(11,Zd (d.natAbs:Nat)),(12,.bool true),(13,Zd S),(72,sv),(73,Zd sets.length),(74,.int .i64 0)] _ _ ?_ (by simp (maxSteps:=2000000) only [vup,cond_true,cond_false,Nat.reduceBEq])
 clear hN12
 try clear N12
 refine Zo ?_
 refine Zm fun Q hQ=>?_
 refine Yl (γ:=Nat) (fun k=>k≤sets.length∧∀ j,j<k→dot (bitQ (sets.getD j 0)) y n≤1) (fun k=>([(0,Zd (fr:Nat)),(1,v),(2,.pointer (some ⟨pn,0,none⟩)),(3,.pointer (some ⟨pr,0,none⟩)),(4,.pointer (some ⟨pg,0,none⟩)),(5,.pointer (some ⟨ps,0,none⟩)),(6,.pointer (some ⟨pb,0,none⟩)),(10,w),(11,Zd (d.natAbs:Nat)),(12,.bool true),(13,Zd S),(72,sv),(73,Zd sets.length),(74,Zd (k:Nat))],h1)) (fun k=>sets.length-k) 0 ⟨Nat.zero_le _,fun j hj=>absurd hj (Nat.not_lt_zero j)⟩ (by simp (maxSteps:=2000000) only [vup,cond_true,cond_false,Nat.reduceBEq,Int.natCast_zero]) rfl ?_
 rintro k ⟨hkl,hok⟩
 refine Zm fun Q2 hQ2=>?_
 simp only [l85_3]
 have hlS:=ge.l
 by_cases hkin:(k:Int)<sets.length
 · have hk' : k<sets.length:=by omega
   have hkS:k<(sets.map fun s=>((s:Nat):Int)).length:=by omega
   obtain ⟨s,hs⟩ : ∃ s,sets.getD k 0=s:=⟨_,rfl⟩
   have hsm:s∈sets:=hs▸getD_in hk'
   have hs2:s<64:=Nat.lt_of_lt_of_le (ge.lt s hsm) (show 2 ^ n≤2 ^ 6 from Nat.pow_le_pow_right (by decide) h6)
   obtain ⟨F,hF⟩ : ∃ F:Nat→Int,F=fun j=>(if s.testBit j then 1 else 0)*N.getD j 0:=⟨_,rfl⟩
   have hFb : ∀ j,j<n→(F j).natAbs≤720:=fun j hj=>by
    rw [hF]
    have:=hNb j hj
    simp only
    split
    · rw [Int.one_mul]; exact this
    · simp
   have hFs : ∀ i,i≤n→(pdet.isum F i).natAbs≤i*720:=fun i hi=>isum_abs fun j hj=>hFb j (by omega)
   have hg:=hsg k hk'
   rw [hs] at hg
   refine Ze fun N13 hN13=>?_
   simp (maxSteps:=2000000) only [↓Za,↓Zb,↓Zc,vup,cond_true,cond_false,aop,Zg,ev,sput,Zf,Zv,Zx,Nat.reduceBEq,hkin]
   refine hN13 [(0,Zd (fr:Nat)),(1,v),(2,.pointer (some ⟨pn,0,none⟩)),(3,.pointer (some ⟨pr,0,none⟩)),(4,.pointer (some ⟨pg,0,none⟩)),(5,.pointer (some ⟨ps,0,none⟩)),(6,.pointer (some ⟨pb,0,none⟩)),(10,w),(11,Zd (d.natAbs:Nat)),(12,.bool true),(13,Zd S),(72,sv),(73,Zd sets.length),(74,Zd (k:Nat)),(75,.bool true)] _ _ ?_ (by simp (maxSteps:=2000000) only [vup,cond_true,cond_false,Nat.reduceBEq])
   clear hN13
   try clear N13
   refine Ze fun N14 hN14=>?_
   simp (maxSteps:=2000000) only [↓Zn,↓vdn,vup,cond_true,cond_false,Zg,ev,Nat.reduceBEq]
   refine hN14 [(0,Zd (fr:Nat)),(1,v),(2,.pointer (some ⟨pn,0,none⟩)),(3,.pointer (some ⟨pr,0,none⟩)),(4,.pointer (some ⟨pg,0,none⟩)),(5,.pointer (some ⟨ps,0,none⟩)),(6,.pointer (some ⟨pb,0,none⟩)),(10,w),(11,Zd (d.natAbs:Nat)),(12,.bool true),(13,Zd S),(72,sv),(73,Zd sets.length),(74,Zd (k:Nat))] _ _ ?_ (by simp (maxSteps:=2000000) only [vup,cond_true,cond_false,Nat.reduceBEq])
   clear hN14
   try clear N14
   refine Zk fun B hB=>?_
   refine Zo ?_
   refine Ze fun N15 hN15=>?_
   simp (maxSteps:=2000000) only [↓Za,↓Zb,↓Zc,vup,cond_true,cond_false,aop,Zg,ev,sput,Zf,Nat.reduceBEq,hsv.idx Xt Xe hkS,hsv.load Xf hkS,hg]
   refine hN15 [(0,Zd (fr:Nat)),(1,v),(2,.pointer (some ⟨pn,0,none⟩)),(3,.pointer (some ⟨pr,0,none⟩)),(4,.pointer (some ⟨pg,0,none⟩)),(5,.pointer (some ⟨ps,0,none⟩)),(6,.pointer (some ⟨pb,0,none⟩)),(10,w),(11,Zd (d.natAbs:Nat)),(12,.bool true),(13,Zd S),(17,Zd (s:Nat)),(72,sv),(73,Zd sets.length),(74,Zd (k:Nat))] _ _ ?_ (by simp (maxSteps:=2000000) only [vup,cond_true,cond_false,Nat.reduceBEq])
   clear hN15
   try clear N15
   refine Ze fun N16 hN16=>?_
   simp (maxSteps:=2000000) only [↓Za,↓Zb,↓Zc,vup,cond_false,aop,Zg,ev,sput,Zf,Nat.reduceBEq]
   refine hN16 [(0,Zd (fr:Nat)),(1,v),(2,.pointer (some ⟨pn,0,none⟩)),(3,.pointer (some ⟨pr,0,none⟩)),(4,.pointer (some ⟨pg,0,none⟩)),(5,.pointer (some ⟨ps,0,none⟩)),(6,.pointer (some ⟨pb,0,none⟩)),(10,w),(11,Zd (d.natAbs:Nat)),(12,.bool true),(13,Zd S),(17,Zd (s:Nat)),(18,.int .i64 0),(72,sv),(73,Zd sets.length),(74,Zd (k:Nat))] _ _ ?_ (by simp (maxSteps:=2000000) only [vup,cond_true,cond_false,Nat.reduceBEq])
   clear hN16
   try clear N16
   refine Zk fun D hD=>?_
   refine Ze fun N17 hN17=>?_
   simp (maxSteps:=2000000) only [↓Za,↓Zb,↓Zc,vup,List.map_cons,List.map_nil,cond_true,cond_false,aop,Zg,ev,sput,Zf,Zi,Nat.reduceBEq,tyf,hw.len,hnl]
   refine hN17 [(0,Zd (fr:Nat)),(1,v),(2,.pointer (some ⟨pn,0,none⟩)),(3,.pointer (some ⟨pr,0,none⟩)),(4,.pointer (some ⟨pg,0,none⟩)),(5,.pointer (some ⟨ps,0,none⟩)),(6,.pointer (some ⟨pb,0,none⟩)),(10,w),(11,Zd (d.natAbs:Nat)),(12,.bool true),(13,Zd S),(17,Zd (s:Nat)),(18,.int .i64 0),(72,sv),(73,Zd sets.length),(74,Zd (k:Nat)),(78,w),(79,Zd (n:Nat)),(80,.int .i64 0)] _ _ ?_ (by simp (maxSteps:=2000000) only [vup,cond_true,cond_false,Nat.reduceBEq])
   clear hN17
   try clear N17
   refine Zo ?_
   refine Zm fun Qa hQa=>?_
   refine Yl (γ:=Nat) (fun i=>i≤n) (fun i=>([(0,Zd (fr:Nat)),(1,v),(2,.pointer (some ⟨pn,0,none⟩)),(3,.pointer (some ⟨pr,0,none⟩)),(4,.pointer (some ⟨pg,0,none⟩)),(5,.pointer (some ⟨ps,0,none⟩)),(6,.pointer (some ⟨pb,0,none⟩)),(10,w),(11,Zd (d.natAbs:Nat)),(12,.bool true),(13,Zd S),(17,Zd (s:Nat)),(18,Zd (pdet.isum F i)),(72,sv),(73,Zd sets.length),(74,Zd (k:Nat)),(78,w),(79,Zd (n:Nat)),(80,Zd (i:Nat))],h1)) (fun i=>n-i) 0 (Nat.zero_le _) (by simp (maxSteps:=2000000) only [vup,cond_true,cond_false,Nat.reduceBEq,Int.natCast_zero,show pdet.isum F 0=0 from rfl]) rfl ?_
   rintro i hi
   refine Zm fun Qb hQb=>?_
   simp only [l85_2]
   by_cases hin2:(i:Int)<n
   · have hi' : i<n:=by omega
     have hiN:i<N.length:=by omega
     have htst:=@testV s i (by omega)
     have h3:=hNb i hi'
     have hmul:mulV .i64 (if s.testBit i then 1 else 0) (N.getD i 0)=F i:=by
      have e:F i=(if s.testBit i=true then 1 else 0)*N.getD i 0:=by rw [hF]
      rw [e]
      split <;> exact mulV_id (by omega) (by omega)
     have hadd:addV .i64 (pdet.isum F i) (F i)=pdet.isum F (i+1):=by
      have h2:=hFs i hi
      have h5:=hFb i hi'
      have h4:i*720≤4320:=by omega
      exact Wf (by omega) (by omega)
     refine Ze fun N18 hN18=>?_
     simp (maxSteps:=2000000) only [↓Za,↓Zb,↓Zc,vup,cond_true,cond_false,aop,Zg,ev,sput,Zf,Zv,Zx,Nat.reduceBEq,hin2]
     refine hN18 [(0,Zd (fr:Nat)),(1,v),(2,.pointer (some ⟨pn,0,none⟩)),(3,.pointer (some ⟨pr,0,none⟩)),(4,.pointer (some ⟨pg,0,none⟩)),(5,.pointer (some ⟨ps,0,none⟩)),(6,.pointer (some ⟨pb,0,none⟩)),(10,w),(11,Zd (d.natAbs:Nat)),(12,.bool true),(13,Zd S),(17,Zd (s:Nat)),(18,Zd (pdet.isum F i)),(72,sv),(73,Zd sets.length),(74,Zd (k:Nat)),(78,w),(79,Zd (n:Nat)),(80,Zd (i:Nat)),(81,.bool true)] _ _ ?_ (by simp (maxSteps:=2000000) only [vup,cond_true,cond_false,Nat.reduceBEq])
     clear hN18
     try clear N18
     refine Ze fun N19 hN19=>?_
     simp (maxSteps:=2000000) only [↓Zn,↓vdn,vup,cond_true,cond_false,Zg,ev,Nat.reduceBEq]
     refine hN19 [(0,Zd (fr:Nat)),(1,v),(2,.pointer (some ⟨pn,0,none⟩)),(3,.pointer (some ⟨pr,0,none⟩)),(4,.pointer (some ⟨pg,0,none⟩)),(5,.pointer (some ⟨ps,0,none⟩)),(6,.pointer (some ⟨pb,0,none⟩)),(10,w),(11,Zd (d.natAbs:Nat)),(12,.bool true),(13,Zd S),(17,Zd (s:Nat)),(18,Zd (pdet.isum F i)),(72,sv),(73,Zd sets.length),(74,Zd (k:Nat)),(78,w),(79,Zd (n:Nat)),(80,Zd (i:Nat))] _ _ ?_ (by simp (maxSteps:=2000000) only [vup,cond_true,cond_false,Nat.reduceBEq])
     clear hN19
     try clear N19
     refine Zk fun E hE=>?_
     refine Zo ?_
     refine Ze fun N20 hN20=>?_
     simp (maxSteps:=2000000) only [↓Za,↓Zb,↓Zc,vup,cond_true,cond_false,aop,Zg,ev,sput,Zf,Nat.reduceBEq,hw.idx Xt Xe hiN,hw.load Xf hiN]
     refine hN20 [(0,Zd (fr:Nat)),(1,v),(2,.pointer (some ⟨pn,0,none⟩)),(3,.pointer (some ⟨pr,0,none⟩)),(4,.pointer (some ⟨pg,0,none⟩)),(5,.pointer (some ⟨ps,0,none⟩)),(6,.pointer (some ⟨pb,0,none⟩)),(10,w),(11,Zd (d.natAbs:Nat)),(12,.bool true),(13,Zd S),(17,Zd (s:Nat)),(18,Zd (pdet.isum F i)),(19,Zd (i:Nat)),(20,Zd (N.getD i 0)),(72,sv),(73,Zd sets.length),(74,Zd (k:Nat)),(78,w),(79,Zd (n:Nat)),(80,Zd (i:Nat))] _ _ ?_ (by simp (maxSteps:=2000000) only [vup,cond_true,cond_false,Nat.reduceBEq])
     clear hN20
     try clear N20
     refine Zj ?_
     simp (maxSteps:=2000000) only [↓Za,↓Zb,↓Zc,vup,cond_true,cond_false,aop,Zg,Zl,ev,sput,Zf,Zv,Zx,Nat.reduceBEq,Int.natCast_nonneg,htst,hmul,hadd]
     refine hE [(0,Zd (fr:Nat)),(1,v),(2,.pointer (some ⟨pn,0,none⟩)),(3,.pointer (some ⟨pr,0,none⟩)),(4,.pointer (some ⟨pg,0,none⟩)),(5,.pointer (some ⟨ps,0,none⟩)),(6,.pointer (some ⟨pb,0,none⟩)),(10,w),(11,Zd (d.natAbs:Nat)),(12,.bool true),(13,Zd S),(17,Zd (s:Nat)),(18,Zd (pdet.isum F (i+1))),(72,sv),(73,Zd sets.length),(74,Zd (k:Nat)),(78,w),(79,Zd (n:Nat)),(80,Zd (i:Nat))] _ _ ?_ (by simp (maxSteps:=2000000) only [vup,cond_true,cond_false,Nat.reduceBEq])
     clear hE
     try clear E
     refine Zj ?_
     simp (maxSteps:=2000000) only [↓Za,↓Zb,↓Zc,vup,cond_true,cond_false,aop,ev,sput,Zf,Zv,Zx,Nat.reduceBEq,Wx (show i<9223372036854775807 by omega)]
     exact hQb _ _ _ ⟨i+1,hi',by omega,by simp (maxSteps:=2000000) only [vup,cond_true,cond_false,Nat.reduceBEq],rfl⟩
   obtain rfl:n=i:=by omega
   refine Ze fun N21 hN21=>?_
   simp (maxSteps:=2000000) only [↓Za,↓Zb,↓Zc,vup,cond_true,cond_false,aop,Zg,ev,sput,Zf,Zv,Zx,Nat.reduceBEq,hin2]
   refine hN21 [(0,Zd (fr:Nat)),(1,v),(2,.pointer (some ⟨pn,0,none⟩)),(3,.pointer (some ⟨pr,0,none⟩)),(4,.pointer (some ⟨pg,0,none⟩)),(5,.pointer (some ⟨ps,0,none⟩)),(6,.pointer (some ⟨pb,0,none⟩)),(10,w),(11,Zd (d.natAbs:Nat)),(12,.bool true),(13,Zd S),(17,Zd (s:Nat)),(18,Zd (pdet.isum F n)),(72,sv),(73,Zd sets.length),(74,Zd (k:Nat)),(78,w),(79,Zd (n:Nat)),(80,Zd (n:Nat)),(81,.bool false)] _ _ ?_ (by simp (maxSteps:=2000000) only [vup,cond_true,cond_false,Nat.reduceBEq])
   clear hN21
   try clear N21
   refine Ze fun N22 hN22=>?_
   simp (maxSteps:=2000000) only [↓Yi,↓vdn,vup,cond_true,cond_false,Zg,ev,Nat.reduceBEq]
   refine hQb _ _ _ (hQa _ _ _ ?_)
   simp (maxSteps:=2000000) only [Zg,Zl,if_true]
   obtain ⟨T,hT⟩ : ∃ T,pdet.isum F n=T:=⟨_,rfl⟩
   have hTr:((T:Int):Rat)=dot (bitQ s) y n*((d.natAbs:Int):Rat):=by
    rw [← hT,isum_cast,dot,Rat.mul_comm,← Yb]
    refine sumTo_congr fun j hj=>?_
    rw [hF]
    simp only
    rw [Rat.intCast_mul,hNr j hj,bitQ]
    split
    · rw [show ((1:Int):Rat)=1 from rfl]; grind
    · rw [show ((0:Int):Rat)=0 from rfl]; grind
   rw [hT]
   refine hD [(0,Zd (fr:Nat)),(1,v),(2,.pointer (some ⟨pn,0,none⟩)),(3,.pointer (some ⟨pr,0,none⟩)),(4,.pointer (some ⟨pg,0,none⟩)),(5,.pointer (some ⟨ps,0,none⟩)),(6,.pointer (some ⟨pb,0,none⟩)),(10,w),(11,Zd (d.natAbs:Nat)),(12,.bool true),(13,Zd S),(17,Zd (s:Nat)),(18,Zd T),(72,sv),(73,Zd sets.length),(74,Zd (k:Nat))] _ _ ?_ (by simp (maxSteps:=2000000) only [vup,cond_true,cond_false,Nat.reduceBEq])
   clear hD
   try clear D
   clear hQa hQb
   by_cases hgt:T > (d.natAbs:Int)
   · refine Ze fun N23 hN23=>?_
     simp (maxSteps:=2000000) only [↓Za,↓Zb,↓Zc,vup,cond_true,cond_false,aop,Zg,ev,sput,Zf,Zv,Zx,Nat.reduceBEq,hgt]
     refine hN23 [(0,Zd (fr:Nat)),(1,v),(2,.pointer (some ⟨pn,0,none⟩)),(3,.pointer (some ⟨pr,0,none⟩)),(4,.pointer (some ⟨pg,0,none⟩)),(5,.pointer (some ⟨ps,0,none⟩)),(6,.pointer (some ⟨pb,0,none⟩)),(10,w),(11,Zd (d.natAbs:Nat)),(12,.bool true),(13,Zd S),(17,Zd (s:Nat)),(18,Zd T),(72,sv),(73,Zd sets.length),(74,Zd (k:Nat)),(96,.bool true)] _ _ ?_ (by simp (maxSteps:=2000000) only [vup,cond_true,cond_false,Nat.reduceBEq])
     clear hN23
     try clear N23
     refine Yx rfl ?_
     refine Zj ?_
     simp (maxSteps:=2000000) only [↓Ya,Zg,Zl]
     refine hQ2 _ _ _ (hQ _ _ _ ?_)
     simp (maxSteps:=2000000) only [Zg,Zl,Zu,Xu]
     obtain ⟨hE,hb⟩:=mono hE1
     refine none_ _ hE hb fun x hx=>?_
     have h2:=hx.ok.le s hsm
     have h3:dot (bitQ s) x n=dot (bitQ s) y n:=sumTo_congr fun j hj=>by rw [hy3 x hx j hj]
     rw [h3] at h2
     have h4:((T:Int):Rat)≤((d.natAbs:Int):Rat):=by
      rw [hTr]
      have:=Rat.mul_le_mul_of_nonneg_right h2 (Rat.le_of_lt hdp)
      rwa [Rat.one_mul] at this
     have:=Rat.intCast_le_intCast.1 h4
     omega
   refine Ze fun N24 hN24=>?_
   simp (maxSteps:=2000000) only [↓Za,↓Zb,↓Zc,vup,cond_true,cond_false,aop,Zg,ev,sput,Zf,Zv,Zx,Nat.reduceBEq,hgt]
   refine hN24 [(0,Zd (fr:Nat)),(1,v),(2,.pointer (some ⟨pn,0,none⟩)),(3,.pointer (some ⟨pr,0,none⟩)),(4,.pointer (some ⟨pg,0,none⟩)),(5,.pointer (some ⟨ps,0,none⟩)),(6,.pointer (some ⟨pb,0,none⟩)),(10,w),(11,Zd (d.natAbs:Nat)),(12,.bool true),(13,Zd S),(17,Zd (s:Nat)),(18,Zd T),(72,sv),(73,Zd sets.length),(74,Zd (k:Nat)),(96,.bool false)] _ _ ?_ (by simp (maxSteps:=2000000) only [vup,cond_true,cond_false,Nat.reduceBEq])
   clear hN24
   try clear N24
   refine Yg rfl ?_
   refine Zj ?_
   simp (maxSteps:=2000000) only [↓Zn,Zg,Zl]
   refine hB [(0,Zd (fr:Nat)),(1,v),(2,.pointer (some ⟨pn,0,none⟩)),(3,.pointer (some ⟨pr,0,none⟩)),(4,.pointer (some ⟨pg,0,none⟩)),(5,.pointer (some ⟨ps,0,none⟩)),(6,.pointer (some ⟨pb,0,none⟩)),(10,w),(11,Zd (d.natAbs:Nat)),(12,.bool true),(13,Zd S),(72,sv),(73,Zd sets.length),(74,Zd (k:Nat))] _ _ ?_ (by simp (maxSteps:=2000000) only [vup,cond_true,cond_false,Nat.reduceBEq])
   clear hB
   try clear B
   refine Zj ?_
   simp (maxSteps:=2000000) only [↓Za,↓Zb,↓Zc,vup,cond_true,cond_false,aop,ev,sput,Zf,Zv,Zx,Nat.reduceBEq,Wx (show k<9223372036854775807 by omega)]
   refine hQ2 _ _ _ ⟨k+1,⟨hk',fun j hj=>?_⟩,by omega,by simp (maxSteps:=2000000) only [vup,cond_true,cond_false,Nat.reduceBEq],rfl⟩
   by_cases hjk:j=k
   · rw [hjk,hs]
     have h4:((T:Int):Rat)≤((d.natAbs:Int):Rat):=Rat.intCast_le_intCast.2 (by omega)
     rw [hTr] at h4
     refine Classical.byContradiction fun hc=>?_
     have h5:(1:Rat)<dot (bitQ s) y n:=Rat.not_le.1 hc
     have h6':=Rat.mul_lt_mul_of_pos_right h5 hdp
     rw [Rat.one_mul] at h6'
     exact absurd h4 (Rat.not_le.2 h6')
   · exact hok j (by omega)
 obtain rfl:k=sets.length:=by omega
 refine Ze fun N25 hN25=>?_
 simp (maxSteps:=2000000) only [↓Za,↓Zb,↓Zc,vup,cond_true,cond_false,aop,Zg,ev,sput,Zf,Zv,Zx,Nat.reduceBEq,hkin]
 refine hN25 [(0,Zd (fr:Nat)),(1,v),(2,.pointer (some ⟨pn,0,none⟩)),(3,.pointer (some ⟨pr,0,none⟩)),(4,.pointer (some ⟨pg,0,none⟩)),(5,.pointer (some ⟨ps,0,none⟩)),(6,.pointer (some ⟨pb,0,none⟩)),(10,w),(11,Zd (d.natAbs:Nat)),(12,.bool true),(13,Zd S),(72,sv),(73,Zd sets.length),(74,Zd sets.length),(75,.bool false)] _ _ ?_ (by simp (maxSteps:=2000000) only [vup,cond_true,cond_false,Nat.reduceBEq])
 clear hN25
 try clear N25
 refine Ze fun N26 hN26=>?_
 simp (maxSteps:=2000000) only [↓Yi,↓vdn,vup,cond_true,cond_false,Zg,ev,Nat.reduceBEq]
 refine hQ2 _ _ _ (hQ _ _ _ ?_)
 simp (maxSteps:=2000000) only [Zg,Zl,Zu,if_true]
 refine hZ [(0,Zd (fr:Nat)),(1,v),(2,.pointer (some ⟨pn,0,none⟩)),(3,.pointer (some ⟨pr,0,none⟩)),(4,.pointer (some ⟨pg,0,none⟩)),(5,.pointer (some ⟨ps,0,none⟩)),(6,.pointer (some ⟨pb,0,none⟩)),(10,w),(11,Zd (d.natAbs:Nat)),(12,.bool true),(13,Zd S)] _ _ ?_ (by simp (maxSteps:=2000000) only [vup,cond_true,cond_false,Nat.reduceBEq])
 clear hZ
 try clear Z
 clear hQ hQ2
 have hpf:PFeas n sets y:=⟨fun j hj=>Classical.byContradiction fun hc=>by
  have h2:y j<0:=Rat.not_le.1 hc
  have h3:=Rat.mul_lt_mul_of_pos_right h2 hdp
  rw [Rat.zero_mul,← hNr j hj] at h3
  have:=hN0 j hj
  have h4:(0:Rat)≤((N.getD j 0:Int):Rat):=Rat.intCast_nonneg.2 this
  exact absurd h4 (Rat.not_le.2 h3),fun s hs=>by
  obtain ⟨j,hj,rfl⟩:=List.mem_iff_getElem.1 hs
  have:=hok j hj
  rwa [List.getD,List.getElem?_eq_getElem hj] at this⟩
 have hab:d.natAbs≤720:=by rw [← hd]; exact Nat.le_trans (pdet_abs n _ hlen fun r hr=>(hr01 r hr).2) (fact_le h6)
 have hSa:S.natAbs≤4320:=by rw [← hS]; exact Nat.le_trans (hSb n (Nat.le_refl n)) (by omega)
 obtain ⟨f,hf⟩ : ∃ f,f=Rat.divInt S d.natAbs:=⟨_,rfl⟩
 have hfy:f=sumTo y n:=by
  have hne0:(((d.natAbs:Nat):Int):Rat)≠0:=fun h=>by rw [h] at hdp; exact absurd hdp (by decide)
  rw [hf,Rat.divInt_eq_div,hSr,Rat.div_def,Rat.mul_assoc,Rat.mul_inv_cancel _ hne0,Rat.mul_one]
 have hfn:f.num.natAbs≤4320∧f.den≤720:=by
  obtain ⟨t1,t2⟩:=terms (x:=S) (n:=d.natAbs) (by omega)
  rw [← hf] at t1 t2
  have hg:=Nat.gcd_pos_of_pos_right S.natAbs (show 0<d.natAbs by omega)
  refine ⟨?_,?_⟩
  · rw [← t1,Int.natAbs_ediv_of_dvd (gcd_dvd_int S d.natAbs)]
    exact Nat.le_trans (Nat.div_le_self _ _) hSa
  · have:d.natAbs / Nat.gcd S.natAbs d.natAbs≤d.natAbs:=Nat.div_le_self _ _
    omega
 have hfr:=frac_call (h:=h1) (a:=S) (b:=((d.natAbs:Nat):Int)) (by omega) (by omega) (by omega)
 rw [← hf] at hfr
 have hb1:h1[pb]? = some (bC q):=(mono hE1).2
 obtain ⟨G,hG⟩ : ∃ G,G=h1++[bC f]:=⟨_,rfl⟩
 have hGf:G[h1.length]? = some (bC f):=by rw [hG]; exact Yp _ _
 have hGb:G[pb]? = some (bC q):=by rw [hG]; exact Vc hb1 _
 have hEG:Ext (fun _=>False) h G:=by rw [hG]; exact hE1.trans (Ext.app _ _ _)
 have hst : ∀ {K:Zh→Prop},Xh prog (h1++[Blk.cells [.int .i64 0,.int .i64 0] 44 false]) 44 (.pointer (some ⟨h1.length,0,none⟩)) (.agg #[Zd f.num,Zd f.den]) K=K G:=fun {K}=>by
  rw [Wy (Yp h1 (Blk.cells [.int .i64 0,.int .i64 0] 44 false)) rfl,set_new,hG]; rfl
 refine Ze fun N27 hN27=>?_
 simp (maxSteps:=2000000) only [↓Za,↓Zb,↓Zc,vup,List.map_cons,List.map_nil,cond_true,cond_false,aop,Zg,ev,sput,Zf,Nat.reduceBEq,Yz,List.nil_append,List.append_nil]
 refine hfr.mono ?_
 rintro _ h1' ⟨rfl,rfl⟩
 simp (maxSteps:=2000000) only [tyf,Xv,Xc,qV,frV,hst]
 refine hN27 [(0,Zd (fr:Nat)),(1,v),(2,.pointer (some ⟨pn,0,none⟩)),(3,.pointer (some ⟨pr,0,none⟩)),(4,.pointer (some ⟨pg,0,none⟩)),(5,.pointer (some ⟨ps,0,none⟩)),(6,.pointer (some ⟨pb,0,none⟩)),(10,w),(11,Zd (d.natAbs:Nat)),(12,.bool true),(13,Zd S),(21,.pointer (some ⟨h1'.length,0,none⟩))] _ _ ?_ (by simp (maxSteps:=2000000) only [vup,cond_true,cond_false,Nat.reduceBEq])
 clear hN27
 try clear N27
 have hl1:(q.num*f.den).natAbs≤4320*720:=by
  rw [Int.natAbs_mul]; exact Nat.mul_le_mul ha.2.1 (by simpa using hfn.2)
 have hl2:(f.num*q.den).natAbs≤4320*720:=by
  rw [Int.natAbs_mul]; exact Nat.mul_le_mul hfn.1 (by simpa using ha.2.2)
 have hls:=less_call (h:=G) (a:=q.num) (b:=q.den) (c:=f.num) (d:=f.den) (by omega) (by omega)
 have hlt:(q.num*f.den<f.num*q.den)↔q<f:=(Rat.lt_iff q f).symm
 refine Ze fun N28 hN28=>?_
 simp (maxSteps:=2000000) only [↓Za,↓Zb,↓Zc,vup,List.map_cons,List.map_nil,cond_true,cond_false,aop,Zg,ev,sput,Zf,Nat.reduceBEq,Vj hGb,Vj hGf,Yz,List.nil_append,List.append_nil]
 refine hls.mono ?_
 rintro _ G' ⟨rfl,rfl⟩
 refine hN28 [(0,Zd (fr:Nat)),(1,v),(2,.pointer (some ⟨pn,0,none⟩)),(3,.pointer (some ⟨pr,0,none⟩)),(4,.pointer (some ⟨pg,0,none⟩)),(5,.pointer (some ⟨ps,0,none⟩)),(6,.pointer (some ⟨pb,0,none⟩)),(10,w),(11,Zd (d.natAbs:Nat)),(12,.bool true),(13,Zd S),(21,.pointer (some ⟨h1'.length,0,none⟩)),(103,.bool (decide (q.num*f.den<f.num*q.den)))] _ _ ?_ (by simp (maxSteps:=2000000) only [vup,cond_true,cond_false,Nat.reduceBEq])
 clear hN28
 try clear N28
 have fin : ∀ (h' : Zh) (q' : Rat),Ext (fun b=>b=pb) h h'→h'[pb]? = some (bC q')→Att n sets q'→q≤q'→f≤q'→GR n sets pb h q B fr 0 h':=fun h' q' hE hb hat hq' hf' =>
  ⟨hE,q',hb,hat,hq',fun t _ ht x hx=>by
   obtain rfl:t=[]:=List.length_eq_zero_iff.1 ht
   rw [List.append_nil] at hx
   have:sumTo x n=sumTo y n:=sumTo_congr fun j hj=>hy3 x hx j hj
   rw [this,← hfy]; exact hf'⟩
 by_cases hqf:q<f
 · rw [decide_eq_true (hlt.2 hqf)]
   refine Yx rfl ?_
   refine Zj ?_
   simp (maxSteps:=2000000) only [↓Za,↓Zb,↓Zc,vup,cond_true,cond_false,aop,ev,sput,Zf,Nat.reduceBEq,Zu,Xu,Vj hGf,Wy hGb rfl]
   exact fin _ f ((mono hEG).1.trans (Ext.set _ rfl)) (Xj (Zz hGb) _) ⟨⟨y,hpf,hfy.symm⟩,hfn⟩ (Rat.le_of_lt hqf) Rat.le_refl
 · rw [decide_eq_false (fun h=>hqf (hlt.1 h))]
   refine Yg rfl ?_
   refine Zj ?_
   simp (maxSteps:=2000000) only [↓Zn,Zu,Xu]
   exact fin _ q (mono hEG).1 hGb ha Rat.le_refl (Rat.not_lt.1 hqf)
end Go.Proofs.Tryd.Am
namespace Go.Proofs.Tryd.Am
open Go.Am Bq
set_option maxRecDepth 100000
set_option maxHeartbeats 4000000
theorem each_map {R:Value→List Int→Prop} {f:Nat→Value} {g:Nat→List Int} : ∀ {B:List Nat},(∀ k∈B,R (f k) (g k))→Each R (B.map f) (B.map g)
 | [],_=>trivial
 | k::B,h=>⟨h k (by simp),each_map fun k hk=>h k (by simp [hk])⟩
theorem GE.row {n:Nat} {sets:List Nat} {rws:List Value} {h0 H:Zh} {pn pr pg ps pb:Nat} {rv sv:Value} (ge:GE n sets rws h0 pn pr pg ps pb rv sv) (hk:KG h0 pb H) {k:Nat} (h:k<sets.length+n):IntSl H (rws.getD k undef) (rowI n sets k):=by
 have:=(ge.rows H hk).2.get undef [] (k:=k) (by simpa using h)
 rwa [List.getD,List.getD,List.getElem?_map,List.getElem?_range h] at this
theorem buildSlW {P:Program} {h:Zh} {w:Value} {t e:TypeId} (he:elemOf' P t=some e) (hz:Xs P e=some [.slice none 0 0]) (hs:esz P e=some 1) {xs:List Int} (hw:IntSl h w xs) {K:Value→Zh→Prop} :
  Yo P h t 1 [(0,w)] K=K (.slice (some ⟨h.length,0,none⟩) 1 1) (h++[.cells [w] e false]):=by
 have e1:fillL (fun i=>some (i*1,1)) (reps [.slice none 0 0] 1) [(0,w)]=some [w]:=by
  rcases hw with ⟨rfl,rfl⟩ | ⟨b,o,sp,cap,c,e',ro,rfl,_⟩ <;> simp [fillL,Wl,cellsOf,reps,Yh]
 have e2:mkb [w] e = .cells [w] e false:=mkb_no (by simp) fun w' hw'=>by
  rw [List.mem_singleton.1 hw']; exact (intSl_notI hw).1
 simp only [Yo,he,hz,hs,e1,e2]
 exact propext ⟨fun h=>h.2.2.2,fun h=>⟨rfl,by decide,by decide,h⟩⟩
theorem grow_call [Tabs prog] {n:Nat} {sets:List Nat} {rws:List Value} {h0:Zh} {pn pr pg ps pb:Nat} {rv sv:Value} (ge:GE n sets rws h0 pn pr pg ps pb rv sv) : ∀ (d fr:Nat) (B:List Nat) (h:Zh) (v:Value) (q:Rat),B.length+d=n→KG h0 pb h→OwnV 22 h v (B.map fun k=>rws.getD k undef) →
  (∀ k∈B,k<sets.length+n)→fr≤sets.length+n→h[pb]? = some (bC q)→Att n sets q →
  ACall prog 85 [Zd (fr:Nat),v,.pointer (some ⟨pn,0,none⟩),.pointer (some ⟨pr,0,none⟩),.pointer (some ⟨pg,0,none⟩),.pointer (some ⟨ps,0,none⟩),.pointer (some ⟨pb,0,none⟩)] h fun _ h'=>GR n sets pb h q B fr d h':=by
 intro d
 induction d with
 | zero =>
   intro fr B h v q hB hk ho hBm hfr hq ha
   exact leaf_call ge (by omega) hk ⟨_,ho.val,each_map fun k hkB=>ge.row hk (hBm k hkB)⟩ hq ha fun x hx=>by rw [List.append_nil]; exact hx
 | succ d ih =>
   intro fr B h v q hB hk ho hBm hfr hq ha
   have hn6:=ge.n6
   have hlS:=ge.l
   have hlt:(B.length:Int)<n:=by omega
   have hml:(B.map fun k=>rws.getD k undef).length=B.length:=List.length_map ..
   refine s85_callW (by simp) ?_
   simp only [s85]
   refine Zk fun M hM=>?_
   refine Ze fun N1 hN1=>?_
   simp (maxSteps:=2000000) only [↓Za,↓Zb,↓Zc,vup,List.map_cons,List.map_nil,cond_true,cond_false,aop,Zg,Zt,ev,sput,Zf,Zv,Zx,Zi,Nat.reduceBEq,Nat.reduceAdd,tyf,ho.val.len,hml,load1 (hk.at_ ge.nb ge.fn) Xf,hlt]
   refine hN1 [(0,Zd (fr:Nat)),(1,v),(2,.pointer (some ⟨pn,0,none⟩)),(3,.pointer (some ⟨pr,0,none⟩)),(4,.pointer (some ⟨pg,0,none⟩)),(5,.pointer (some ⟨ps,0,none⟩)),(6,.pointer (some ⟨pb,0,none⟩)),(25,.bool true)] _ _ ?_ (by simp (maxSteps:=2000000) only [vup,cond_true,cond_false,Nat.reduceBEq])
   clear hN1
   try clear N1
   refine Yx rfl ?_
   refine Zk fun Z hZ=>?_
   refine Ze fun N2 hN2=>?_
   simp (maxSteps:=2000000) only [↓Za,↓Zb,↓Zc,vup,cond_true,cond_false,aop,Zg,ev,sput,Zf,Nat.reduceBEq]
   refine hN2 [(0,Zd (fr:Nat)),(1,v),(2,.pointer (some ⟨pn,0,none⟩)),(3,.pointer (some ⟨pr,0,none⟩)),(4,.pointer (some ⟨pg,0,none⟩)),(5,.pointer (some ⟨ps,0,none⟩)),(6,.pointer (some ⟨pb,0,none⟩)),(9,Zd (fr:Nat)),(25,.bool true)] _ _ ?_ (by simp (maxSteps:=2000000) only [vup,cond_true,cond_false,Nat.reduceBEq])
   clear hN2
   try clear N2
   refine Zo ?_
   refine Zm fun Q hQ=>?_
   refine Yl (γ:=Nat×Zh×Rat) (fun g=>(fr≤g.1∧g.1≤sets.length+n)∧Ext (fun b=>b=pb) h g.2.1∧g.2.1[pb]? = some (bC g.2.2)∧Att n sets g.2.2∧q≤g.2.2 ∧
     ∀ k t,fr≤k→k<g.1→t.Sublist (List.range' (k+1) (sets.length+n-(k+1)))→t.length=d→∀ x,Corner n sets (B++k::t) x→sumTo x n≤g.2.2)
    (fun g=>([(0,Zd (fr:Nat)),(1,v),(2,.pointer (some ⟨pn,0,none⟩)),(3,.pointer (some ⟨pr,0,none⟩)),(4,.pointer (some ⟨pg,0,none⟩)),(5,.pointer (some ⟨ps,0,none⟩)),(6,.pointer (some ⟨pb,0,none⟩)),(9,Zd (g.1:Nat)),(25,.bool true)],g.2.1)) (fun g=>sets.length+n-g.1) (fr,h,q) ⟨⟨Nat.le_refl _,hfr⟩,Ext.refl _ _,hq,ha,Rat.le_refl,fun k t h1 h2=>absurd h2 (Nat.not_lt.2 h1)⟩ (by simp (maxSteps:=2000000) only [vup,cond_true,cond_false,Nat.reduceBEq]) rfl ?_
   rintro ⟨k,H,qk⟩ ⟨⟨hk1,hk2⟩,hE,hqk,hak,hle,hno⟩
   simp only at hk1 hk2 hE hqk hak hle hno
   refine Zm fun Q2 hQ2=>?_
   simp only [l85_0]
   have hkH:KG h0 pb H:=hk.trans hE
   obtain ⟨r1,r2⟩:=ge.rows H hkH
   have hrl:rws.length=sets.length+n:=r2.len.trans (by simp)
   by_cases hkin:(k:Int)<((sets.length+n:Nat):Int)
   · have hk' : k<sets.length+n:=by omega
     have hkW:k<rws.length:=by omega
     refine Zk fun A hA=>?_
     refine Ze fun N3 hN3=>?_
     simp (maxSteps:=2000000) only [↓Za,↓Zb,↓Zc,vup,List.map_cons,List.map_nil,cond_true,cond_false,aop,Zg,ev,sput,Zf,Zv,Zx,Zi,Nat.reduceBEq,tyf,load1 (hkH.at_ ge.rb ge.fr) shp_82,r1.len,hrl,hkin]
     refine hN3 [(0,Zd (fr:Nat)),(1,v),(2,.pointer (some ⟨pn,0,none⟩)),(3,.pointer (some ⟨pr,0,none⟩)),(4,.pointer (some ⟨pg,0,none⟩)),(5,.pointer (some ⟨ps,0,none⟩)),(6,.pointer (some ⟨pb,0,none⟩)),(9,Zd (k:Nat)),(25,.bool true),(30,.bool true)] _ _ ?_ (by simp (maxSteps:=2000000) only [vup,cond_true,cond_false,Nat.reduceBEq])
     clear hN3
     try clear N3
     refine Yx rfl ?_
     refine Zj ?_
     simp (maxSteps:=2000000) only [↓Zn,Zg]
     refine hA [(0,Zd (fr:Nat)),(1,v),(2,.pointer (some ⟨pn,0,none⟩)),(3,.pointer (some ⟨pr,0,none⟩)),(4,.pointer (some ⟨pg,0,none⟩)),(5,.pointer (some ⟨ps,0,none⟩)),(6,.pointer (some ⟨pb,0,none⟩)),(9,Zd (k:Nat)),(25,.bool true)] _ _ ?_ (by simp (maxSteps:=2000000) only [vup,cond_true,cond_false,Nat.reduceBEq])
     clear hA
     try clear A
     refine Zk fun Y hY=>?_
     refine Zo ?_
     refine Zj ?_
     simp only [q85_4]
     have hgH:=hkH.at_ ge.gb ge.fg
     obtain ⟨gf,hgf⟩ : ∃ z:Value,z = .func (.func 85) #[] #[.pointer (some ⟨pn,0,none⟩),.pointer (some ⟨pr,0,none⟩),.pointer (some ⟨pg,0,none⟩),.pointer (some ⟨ps,0,none⟩),.pointer (some ⟨pb,0,none⟩)]:=⟨_,rfl⟩
     rw [← hgf] at hgH
     have hoH:OwnV 22 H v (B.map fun k=>rws.getD k undef):=ho.same fun b hb=>hE.2 b (ho.lt hb) fun hc=>by
      obtain ⟨c,hc'⟩:=ho.blk hb
      rw [hc,hq] at hc'; cases hc'
     obtain ⟨w,hw⟩ : ∃ w,w=rws.getD k undef:=⟨_,rfl⟩
     have hwI:IntSl H w (rowI n sets k):=hw▸ge.row hkH hk'
     have hld : ∀ {K:Value→Prop},Xq prog H 22 (Wb rv 1 k) K=K w:=fun {K}=>by rw [r1.load shp_22 hkW,hw]
     refine aw_drawR (fun z=>z[pg]? = some (.cells [gf] 83 false)) [(0,5),(15,4)] (by kernel_rfl) (by kernel_rfl) (by kernel_rfl) (by kernel_rfl) hgH ?_
     simp (maxSteps:=2000000) only [↓dopsR_nil,↓vdn,vup,List.map_cons,List.map_nil,cond_true,cond_false,aop,Zg,Zl,ev,sput,Zf,Zv,Zx,Zi,Nat.reduceBEq,Nat.reduceAdd,tyf,Nat.reduceLT,Bool.false_or,Bool.true_or]
     refine ⟨gf,fun hp hhp=>by simp only [load1 hhp shp_83],?_⟩
     simp (maxSteps:=2000000) only [vup,cond_true,cond_false,ev,Nat.reduceBEq,Wx (show k<9223372036854775807 by omega),hoH.val.len,Option.map_some,Option.map_none]
     refine hoH.cap el_84 esz_22 fun cv hcv=>?_
     simp (maxSteps:=2000000) only [load1 (hkH.at_ ge.rb ge.fr) shp_82,r1.idx el_82 esz_22 hkW,hld,buildSlW el_84 zero_22 esz_22 hwI]
     refine ⟨Vc hgH _,?_⟩
     have hval:ValSl (H++[Blk.cells [w] 22 false]) (.slice (some ⟨H.length,0,none⟩) 1 1) [w]:=.inr ⟨H.length,0,none,1,[w],22,false,rfl,Nat.le_refl _,by simp [view,Blk.view],rfl⟩
     have hmapw:(B++[k]).map (fun k=>rws.getD k undef)=B.map (fun k=>rws.getD k undef)++[w]:=by rw [List.map_append,hw]; rfl
     have hBm' : ∀ j∈B++[k],j<sets.length+n:=fun j hj=>by
      rcases List.mem_append.1 hj with hj | hj
      · exact hBm j hj
      · rw [List.mem_singleton.1 hj]; exact hk'
     refine (hcv.ext (Ext.app _ _ _)).app app_84_84 hval (by simp) (fun z hz=>by
      rw [← hmapw,List.mem_map] at hz
      obtain ⟨j,hj,rfl⟩:=hz
      exact intSl_notI (ge.row hkH (hBm' j hj))) (by rw [hml]; simp only [List.length_singleton]; omega) fun nv hnv=>?_
     rw [← hmapw] at hnv ⊢
     obtain ⟨G,hG⟩ : ∃ G,G=H++[Blk.cells [w] 22 false]++[Blk.cells ((B++[k]).map fun k=>rws.getD k undef) 22 false]:=⟨_,rfl⟩
     rw [← hG] at hnv ⊢
     have hEHG:Ext (fun _=>False) H G:=by rw [hG]; simp only [List.append_assoc]; exact Ext.app _ _ _
     have hgG:G[pg]? = some (.cells [gf] 83 false):=(hEHG.2 _ (Zz hgH) id).trans hgH
     have hqG:G[pb]? = some (bC qk):=(hEHG.2 _ (Zz hqk) id).trans hqk
     have hEG:Ext (fun b=>b=pb) h G:=hE.trans (hEHG.mono fun _ h=>h.elim)
     refine ⟨hgG,?_⟩
     rw [hgf]
     simp (maxSteps:=2000000) only [Yz,List.nil_append,List.cons_append]
     refine (ih (k+1) (B++[k]) G nv qk (by rw [List.length_append,List.length_singleton]; omega) (hk.trans hEG) hnv hBm' hk' hqG hak).mono ?_
     rintro r G2 ⟨hE2,q2,hb2,ha2,hle2,hc2⟩
     refine ⟨by have:=(hE2.2 _ (Zz hgG) ge.fg).trans hgG; rw [hgf] at this; exact this,?_⟩
     refine hY [(0,Zd (fr:Nat)),(1,v),(2,.pointer (some ⟨pn,0,none⟩)),(3,.pointer (some ⟨pr,0,none⟩)),(4,.pointer (some ⟨pg,0,none⟩)),(5,.pointer (some ⟨ps,0,none⟩)),(6,.pointer (some ⟨pb,0,none⟩)),(9,Zd (k:Nat)),(25,.bool true)] _ _ ?_ (by simp (maxSteps:=2000000) only [vup,cond_true,cond_false,Nat.reduceBEq])
     clear hY
     try clear Y
     refine Zj ?_
     simp (maxSteps:=2000000) only [↓Za,↓Zb,↓Zc,vup,cond_true,cond_false,aop,ev,sput,Zf,Zv,Zx,Nat.reduceBEq,Wx (show k<9223372036854775807 by omega)]
     refine hQ2 _ _ _ ⟨(k+1,G2,q2),⟨⟨by simp only; omega,hk'⟩,hEG.trans hE2,hb2,ha2,Rat.le_trans hle hle2,fun k' t h1 h2 h3 h4 x hx=>?_⟩,by simp only; omega,by simp (maxSteps:=2000000) only [vup,cond_true,cond_false,Nat.reduceBEq],rfl⟩
     simp only at h2
     by_cases hkk:k' = k
     · subst hkk
       exact hc2 t h3 h4 x (by rw [List.append_assoc]; exact hx)
     · exact Rat.le_trans (hno k' t h1 (by omega) h3 h4 x hx) hle2
   obtain rfl:k=sets.length+n:=by omega
   refine Zk fun A hA=>?_
   refine Ze fun N4 hN4=>?_
   simp (maxSteps:=2000000) only [↓Za,↓Zb,↓Zc,vup,List.map_cons,List.map_nil,cond_true,cond_false,aop,Zg,ev,sput,Zf,Zv,Zx,Zi,Nat.reduceBEq,tyf,load1 (hkH.at_ ge.rb ge.fr) shp_82,r1.len,hrl,hkin]
   refine hN4 [(0,Zd (fr:Nat)),(1,v),(2,.pointer (some ⟨pn,0,none⟩)),(3,.pointer (some ⟨pr,0,none⟩)),(4,.pointer (some ⟨pg,0,none⟩)),(5,.pointer (some ⟨ps,0,none⟩)),(6,.pointer (some ⟨pb,0,none⟩)),(9,Zd (sets.length+n:Nat)),(25,.bool true),(30,.bool false)] _ _ ?_ (by simp (maxSteps:=2000000) only [vup,cond_true,cond_false,Nat.reduceBEq])
   clear hN4
   try clear N4
   refine Yg rfl ?_
   refine Zj ?_
   simp (maxSteps:=2000000) only [↓Yi,Zg]
   refine hQ2 _ _ _ (hQ _ _ _ ?_)
   simp (maxSteps:=2000000) only [Zg,Zl,Zu,if_true]
   refine hZ [(0,Zd (fr:Nat)),(1,v),(2,.pointer (some ⟨pn,0,none⟩)),(3,.pointer (some ⟨pr,0,none⟩)),(4,.pointer (some ⟨pg,0,none⟩)),(5,.pointer (some ⟨ps,0,none⟩)),(6,.pointer (some ⟨pb,0,none⟩))] _ _ ?_ (by simp (maxSteps:=2000000) only [vup,cond_true,cond_false,Nat.reduceBEq])
   clear hZ
   try clear Z
   refine Zj ?_
   simp (maxSteps:=2000000) only [↓Ya,Zg,Zu,Xu]
   refine ⟨hE,qk,hqk,hak,hle,fun t ht htl x hx=>?_⟩
   cases t with
   | nil=>cases htl
   | cons k t =>
     obtain ⟨h1,h2,h3⟩:=sub_cons ht
     rw [show fr+(sets.length+n-fr)=sets.length+n by omega] at h2 h3
     exact hno k t h1 h2 h3 (by simpa using htl) x hx
end Go.Proofs.Tryd.Am
namespace Bq
open Go.Am
def withinB (sets:List Nat) (s:Nat):Bool:=sets.any fun t=>decide (s≠t)&&decide (less s t=0)
def keepL (sets:List Nat):List Nat:=sets.filter fun s=>!withinB sets s
theorem less_sub {a b:Nat}:less a b=0↔∀ k,a.testBit k=true→b.testBit k=true:=by
 constructor
 · intro h k hk
   have:=Yj a b k
   rw [h,Nat.zero_testBit,hk] at this
   simpa using this.symm
 · intro h
   refine Nat.eq_of_testBit_eq fun k=>?_
   rw [Yj,Nat.zero_testBit]
   cases hk:a.testBit k with
   | false=>rfl
   | true=>rw [h k hk]; rfl
theorem sub_le {a b:Nat} (h:less a b=0):a≤b:=by
 have h1:a &&& b=a:=Nat.eq_of_testBit_eq fun k=>by
  rw [Nat.testBit_and]
  cases hk:a.testBit k with
  | false=>rfl
  | true=>rw [less_sub.1 h k hk]; rfl
 rw [← h1]; exact Nat.and_le_right
theorem kept_over {sets:List Nat} {M:Nat} (hM : ∀ s∈sets,s<M) : ∀ (d s:Nat),M-s≤d→s∈sets→∃ t∈keepL sets,less s t=0:=by
 intro d
 induction d with
 | zero=>intro s hd hs; have:=hM s hs; omega
 | succ d ih =>
   intro s hd hs
   cases hw:withinB sets s with
   | false=>exact ⟨s,List.mem_filter.2 ⟨hs,by rw [hw]; rfl⟩,less_sub.2 fun k h=>h⟩
   | true =>
     obtain ⟨t,ht,h2⟩:=List.any_eq_true.1 hw
     rw [Bool.and_eq_true,decide_eq_true_eq,decide_eq_true_eq] at h2
     have h3:=sub_le h2.2
     have h4:=hM t ht
     obtain ⟨u,hu,h5⟩:=ih t (by omega) ht
     exact ⟨u,hu,less_sub.2 fun k hk=>less_sub.1 h5 k (less_sub.1 h2.2 k hk)⟩
theorem feas_keep {n:Nat} {sets:List Nat} {x:Nat→Rat}:PFeas n (keepL sets) x↔PFeas n sets x:=by
 constructor
 · intro h
   refine ⟨h.nn,fun s hs=>?_⟩
   obtain ⟨M,hM⟩ : ∃ M,∀ s∈sets,s<M:=by
    clear h hs
    induction sets with
    | nil=>exact ⟨0,fun s h=>by cases h⟩
    | cons a l ih =>
      obtain ⟨M,hM⟩:=ih
      refine ⟨max M (a+1),fun s hs=>?_⟩
      rcases List.mem_cons.1 hs with rfl | hs
      · omega
      · have:=hM s hs; omega
   obtain ⟨t,ht,hst⟩:=kept_over hM _ s (Nat.le_refl _) hs
   refine Rat.le_trans (sumTo_le fun i hi=>?_) (h.le t ht)
   refine Rat.mul_le_mul_of_nonneg_right ?_ (h.nn i hi)
   rw [bitQ,bitQ]
   by_cases hb:s.testBit i=true
   · rw [if_pos hb,if_pos (less_sub.1 hst i hb)]; exact Rat.le_refl
   · rw [if_neg hb]; split <;> decide
 · intro h
   exact ⟨h.nn,fun s hs=>h.le s (List.mem_filter.1 hs).1⟩
theorem opt_keep {n:Nat} {sets:List Nat} {q:Rat} (h:IsOpt n (keepL sets) q):IsOpt n sets q:=by
 obtain ⟨⟨x,hx,e⟩,h2⟩:=h
 exact ⟨⟨x,feas_keep.1 hx,e⟩,fun x hx=>h2 x (feas_keep.2 hx)⟩
theorem keep_cover {n:Nat} {sets:List Nat} (hM : ∀ s∈sets,s<2 ^ n) (hc : ∀ i,i<n→∃ s∈sets,s.testBit i=true) : ∀ i,i<n→∃ s∈keepL sets,s.testBit i=true:=fun i hi=>by
 obtain ⟨s,hs,hb⟩:=hc i hi
 obtain ⟨t,ht,h⟩:=kept_over hM _ s (Nat.le_refl _) hs
 exact ⟨t,ht,less_sub.1 h i hb⟩
end Bq
namespace Go.Proofs.Tryd.Am
open Go.Am Bq
set_option maxRecDepth 100000
set_option maxHeartbeats 4000000
theorem boxV22 {h:Zh} {v:Value} {xs:List Int} (hv:IntSl h v xs) {g:Zh} {K:Value→Zh→Prop}:boxK prog g 22 v K=K (Xc g) (g++[.cells [v] 22 false]):=by
 rcases hv with ⟨rfl,rfl⟩ | ⟨b,o,sp,cap,c,e,ro,rfl,_⟩ <;> simp [boxK,esz_22,Xc,cellsOf]
theorem intSl_box {h:Zh} {r v:Value} {xs zs:List Int} {b:Nat} {e:TypeId} {ro:Bool} (hr:IntSl h r xs) (hx:xs≠[]) (hv:IntSl h v zs) (hb:h[b]? = some (.cells [v] e ro)):Ye r≠some b:=fun hc=>by
 rcases hr with ⟨rfl,rfl⟩ | ⟨b',o,sp,cap,c,e',ro',rfl,hcap,hw,hg⟩
 · exact hx rfl
 · cases hc
   simp only [view,hb,Option.bind_some,Blk.view] at hw
   cases hw
   have h0:=hg 0 (List.length_pos_iff.2 hx)
   have h1:=List.mem_of_getElem? h0
   rw [List.mem_singleton] at h1
   rcases hv with ⟨rfl,_⟩ | ⟨b2,o2,sp2,cap2,c2,e2,ro2,rfl,_⟩ <;> cases h1
theorem ints_but {h h' : Zh} {v:Value} {xs:List Int} {bb:Nat} (hv:IntSl h v xs) (hn:Ye v≠some bb) (hE:Ext (fun i=>i=bb) h h'):IntSl h' v xs :=
 hv.same fun b hb=>hE.2 b (hv.lt hb) fun he=>hn (by rw [hb,he])
def sI (sets:List Nat):List Int:=sets.map fun s=>((s:Nat):Int)
theorem sI_len (sets:List Nat):(sI sets).length=sets.length:=by simp [sI]
theorem within_any (sets:List Nat) (s:Nat):(sI sets).any (inB s)=withinB sets s:=by
 rw [sI,List.any_map,withinB]
 congr 1
 funext t
 simp only [Function.comp,inB,Int.toNat_natCast]
 congr 1
 rw [decide_eq_decide]; omega
theorem keep_ints (sets:List Nat):(sI sets).filter (fun x=>!(sI sets).any (inB x.toNat))=sI (keepL sets):=by
 have h : ∀ l:List Nat,(sI l).filter (fun x=>!(sI sets).any (inB x.toNat))=sI (l.filter fun s=>!withinB sets s):=fun l=>by
  rw [sI,sI,List.filter_map]
  congr 1
  refine List.filter_congr fun s _=>?_
  have:=within_any sets s
  rw [sI] at this
  simp only [Function.comp,Int.toNat_natCast,this]
 exact h sets
def RW (G:Zh) (p5:Nat) (rv w:Value) (l:List Int):Prop:=IntSl G w l∧∀ b,Ye w=some b→b≠p5∧Ye rv≠some b
structure RS (n:Nat) (sets:List Nat) (H0:Zh) (p5:Nat) (G:Zh) (rv:Value) (ws:List Value) (k:Nat):Prop where
 ext:Ext (fun b=>b=p5) H0 G
 box:G[p5]? = some (.cells [rv] 82 false)
 own:OwnV 22 G rv ws
 rows:Each (RW G p5 rv) ws ((List.range k).map (rowI n sets))
 new : ∀ b,Ye rv=some b→H0.length≤b
 p:p5<H0.length
theorem RS.keep {n:Nat} {sets:List Nat} {H0:Zh} {p5:Nat} {G:Zh} {rv:Value} {ws:List Value} {k:Nat} (s:RS n sets H0 p5 G rv ws k) {b:Nat} {B:Blk} (hb:H0[b]? = some B) (hn:b≠p5):G[b]? = some B:=(s.ext.2 b (Zz hb) hn).trans hb
theorem RS.step {n:Nat} {sets:List Nat} {H0:Zh} {p5:Nat} {G:Zh} {rv:Value} {ws:List Value} {k:Nat} (s:RS n sets H0 p5 G rv ws k) {G1:Zh} (hE:Ext (fun _=>False) G G1) {w:Value} (hw:IntSl G1 w (rowI n sets k)) (hb : ∀ b,Ye w=some b→G.length≤b) (hk1:k<2000) {K:Value→Zh→Prop}
  (hk : ∀ v' h',h'[p5]? = some (.cells [rv] 82 false)→one v' = true→RS n sets H0 p5 (h'.set p5 (.cells [v'] 82 false)) v' (ws++[w]) (k+1)→K v' h') :
  Ys prog (G1++[.cells [w] 22 false]) 82 82 rv (.slice (some ⟨G1.length,0,none⟩) 1 1) K:=by
 obtain ⟨G2,hG2⟩ : ∃ G2,G2=G1++[Blk.cells [w] 22 false]:=⟨_,rfl⟩
 have hval:ValSl G2 (.slice (some ⟨G1.length,0,none⟩) 1 1) [w]:=by
  rw [hG2]; exact .inr ⟨G1.length,0,none,1,[w],22,false,rfl,Nat.le_refl _,by simp [view,Blk.view],rfl⟩
 have hE12:Ext (fun _=>False) G1 G2:=by rw [hG2]; exact Ext.app _ _ _
 have hEa:Ext (fun _=>False) G G2:=hE.trans hE12
 have hl2:G2.length=G1.length+1:=by rw [hG2]; simp
 have hGG:G.length≤G1.length:=hE.1
 rw [← hG2]
 have hlen:=s.rows.len
 rw [List.length_map,List.length_range] at hlen
 have hHG:H0.length≤G.length:=s.ext.1
 have hp:=s.p
 refine (s.own.ext hEa).app app_82_82 hval (fun x hx=>?_) (by rw [hlen,List.length_singleton]; omega) fun v' h' ho hE2 hb2=>?_
 · rcases List.mem_append.1 hx with hx | hx
   · obtain ⟨l,hl⟩:=s.rows.mem x hx; exact intSl_notI hl.1
   · rw [List.mem_singleton.1 hx]; exact intSl_notI hw
 have hE3:Ext (fun i=>Ye rv=some i) G h':=(hEa.mono fun _ h=>h.elim).trans hE2
 have hrp:Ye rv≠some p5:=fun hc=>by have:=s.new _ hc; omega
 have hbox:h'[p5]? = some (.cells [rv] 82 false):=(hE3.2 p5 (Zz s.box) hrp).trans s.box
 have hvp : ∀ b,Ye v' = some b→H0.length≤b:=fun b hc=>by
  rcases hb2 with h1 | ⟨b',h1,h2⟩
  · exact s.new b (h1▸hc)
  · rw [h1] at hc; cases hc; omega
 have hset : ∀ b,b≠p5→(h'.set p5 (Blk.cells [v'] 82 false))[b]? = h'[b]?:=fun b hne=>List.getElem?_set_ne fun he=>hne he.symm
 refine hk v' h' hbox (by rcases ho with ⟨rfl,_⟩ | ⟨b,ys,rfl,_⟩ <;> rfl) ⟨⟨by rw [List.length_set]; exact Nat.le_trans hHG hE3.1,fun i hi hne=>?_⟩,Xj (Zz hbox) _,ho.same fun b hc=>hset b (by have:=hvp b hc; omega),?_,hvp,hp⟩
 · rw [hset i hne,hE3.2 i (by omega) (fun hc=>by have:=s.new _ hc; omega)]
   exact s.ext.2 i hi hne
 · rw [List.range_succ,List.map_append]
   refine Each.app (s.rows.imp fun x l ⟨hx,hxb⟩=>⟨hx.same fun b hc=>?_,fun b hc=>⟨(hxb b hc).1,fun hc2=>?_⟩⟩) ⟨⟨hw.same fun b hc=>?_,fun b hc=>⟨?_,fun hc2=>?_⟩⟩,trivial⟩
   · rw [hset b (hxb b hc).1]
     exact hE3.2 b (hx.lt hc) (hxb b hc).2
   · rcases hb2 with h1 | ⟨b',h1,h2⟩
     · exact (hxb b hc).2 (h1▸hc2)
     · rw [h1] at hc2; cases hc2
       have:=hx.lt hc; omega
   · have h1:=hb b hc
     have h2:=hw.lt hc
     rw [hset b (by omega),hE2.2 b (by omega) (fun hc3=>by have:=s.own.lt hc3; omega)]
     exact hE12.2 b h2 id
   · have:=hb b hc; omega
   · have h1':=hb b hc
     have h2':=hw.lt hc
     rcases hb2 with h1 | ⟨b',h1,h2⟩
     · rw [h1] at hc2
       have:=s.own.lt hc2; omega
     · rw [h1] at hc2; cases hc2; omega
theorem RS.nil {n:Nat} {sets:List Nat} (G0:Zh):RS n sets (G0++[.cells [.slice none 0 0] 82 false]) G0.length (G0++[.cells [.slice none 0 0] 82 false]) (.slice none 0 0) [] 0 :=
 ⟨Ext.refl _ _,Yp _ _,.inl ⟨rfl,rfl⟩,trivial,fun b hb=>(by cases hb),by simp⟩
def bitsI (t i:Nat):List Int:=(List.range i).map fun j=>if t.testBit j then 1 else 0
theorem bitsI_len (t i:Nat):(bitsI t i).length=i:=by simp [bitsI]
theorem bitsI_succ (t i:Nat):bitsI t (i+1)=bitsI t i++[if t.testBit i then 1 else 0]:=by rw [bitsI,List.range_succ,List.map_append]; rfl
theorem row_set {n:Nat} {sets:List Nat} {k:Nat} (h:k<sets.length):rowI n sets k=bitsI (sets.getD k 0) n++[1]:=by
 rw [rowI,bitsI,if_pos h]
 congr 1
 refine List.map_congr_left fun i _=>by rw [if_pos h]
theorem row_unit {n:Nat} {sets:List Nat} {i:Nat} (h:i<n):rowI n sets (sets.length+i)=(List.replicate (n+1) (0:Int)).set i 1:=by
 rw [rowI,if_neg (by omega)]
 refine List.ext_getElem (by simp) fun j h1 h2=>?_
 rw [List.length_append,List.length_map,List.length_range,List.length_singleton] at h1
 rw [List.getElem_set]
 by_cases hj:j<n
 · rw [List.getElem_append_left (by simpa using hj),List.getElem_map,List.getElem_range,if_neg (by omega),Nat.add_sub_cancel_left,List.getElem_replicate]
   by_cases hij:j=i
   · rw [if_pos hij,if_pos hij.symm]
   · rw [if_neg hij,if_neg fun h=>hij h.symm]
 · rw [List.getElem_append_right (by simpa using hj),if_neg (by omega),List.getElem_replicate]; simp
theorem ext_ge {S:Nat→Prop} {h a b:Zh} (h1:Ext (fun _=>False) h a) (hs : ∀ i,S i→h.length≤i) (h2:Ext S a b):Ext (fun _=>False) h b :=
 ⟨Nat.le_trans h1.1 h2.1,fun i hi _=>(h2.2 i (Nat.lt_of_lt_of_le hi h1.1) fun hc=>by have:=hs i hc; omega).trans (h1.2 i hi id)⟩
theorem s61_callW [Tabs Tryd.prog] {args:List Value} {h:Zh} {Q:Value→Zh→Prop} (hsz:args.length≤63) (hk:AWS Tryd.prog 63 s61 (Zu Tryd.prog [.cell 4 44] Q) (Zt 0 args) h):ACall Tryd.prog 61 args h Q :=
 Xd Tryd.func61 rfl (enters_of Tryd.func61 (by kernel_rfl) rfl) rfl rfl (by decide) s61_strip s61_ok hsz hk
theorem packing_call [Tabs prog] {n:Nat} {sets:List Nat} {h:Zh} {v:Value} (hv:IntSl h v (sI sets)) (h0:sets≠[]) (n1:1≤n) (n6:n≤6) (hs : ∀ s∈sets,s<2 ^ n) (hl:sets.length<1000) (hc : ∀ i,i<n→∃ s∈sets,s.testBit i=true) :
  ACall prog 61 [Zd (n:Nat),v] h fun r h'=>Ext (fun _=>False) h h'∧∃ q,r=qV q∧IsOpt n sets q∧Att n sets q:=by
 have hs64 : ∀ s∈sets,s<64:=fun s hm=>Nat.lt_of_lt_of_le (hs s hm) (show 2 ^ n≤2 ^ 6 from Nat.pow_le_pow_right (by decide) n6)
 obtain ⟨H,hH⟩ : ∃ H,H=h++[Blk.cells [Zd (n:Nat)] 3 false]++[Blk.cells [v] 22 false]++[Blk.cells [.int .i64 0,.int .i64 0] 44 false]:=⟨_,rfl⟩
 have c2:H[h.length]? = some (.cells [Zd (n:Nat)] 3 false):=by rw [hH]; simp
 have c3:H[h.length+1]? = some (.cells [v] 22 false):=by rw [hH]; simp
 have c4:H[h.length+2]? = some (.cells [.int .i64 0,.int .i64 0] 44 false):=by rw [hH]; simp
 have lH:H.length=h.length+3:=by rw [hH]; simp
 have hEH:Ext (fun _=>False) h H:=by rw [hH]; simp only [List.append_assoc]; exact Ext.app _ _ _
 have hvH:IntSl H v (sI sets):=Xn hv hEH
 refine s61_callW (by simp) ?_
 simp only [s61]
 refine Ze fun N1 hN1=>?_
 simp (maxSteps:=2000000) only [↓Za,↓Zb,↓Zc,vup,cond_true,cond_false,aop,Zg,Zt,ev,sput,Zf,Nat.reduceBEq,Nat.reduceAdd,tyf,boxI,boxV22 hv,Xc,Xv,List.length_append,List.length_singleton,Nat.add_assoc,Nat.reduceAdd]
 rw [← hH]
 refine hN1 [(0,Zd (n:Nat)),(1,v),(2,.pointer (some ⟨h.length,0,none⟩)),(3,.pointer (some ⟨h.length+1,0,none⟩)),(4,.pointer (some ⟨h.length+2,0,none⟩))] _ _ ?_ (by simp (maxSteps:=2000000) only [vup,cond_true,cond_false,Nat.reduceBEq])
 clear hN1
 try clear N1
 refine Ze fun N2 hN2=>?_
 simp (maxSteps:=2000000) only [↓Za,↓Zb,↓Zc,vup,List.map_cons,List.map_nil,cond_true,cond_false,aop,Zg,ev,sput,Zf,Nat.reduceBEq,load1 c3 shp_22,Yz,List.nil_append,List.append_nil]
 refine (clone_rsi hvH (fun hc=>h0 (by simpa [sI] using hc)) (by rw [sI_len]; omega)).mono ?_
 rintro w H1 hw1
 simp (maxSteps:=2000000) only [vup,List.map_cons,List.map_nil,cond_true,cond_false,ev,Nat.reduceBEq,List.map_toArray]
 have hbw : ∀ b,b<H.length→Ye w≠some b:=fun b hb hc=>by have:=hw1.2.2 b hc; omega
 have keepG : ∀ {G:Zh},Ext (fun b=>Ye w=some b) H1 G→∀ {b:Nat} {C:Blk},H[b]? = some C→G[b]? = some C:=fun {G} hG {b C} hb =>
  (hG.2 b (Zz ((hw1.2.1.2 b (Zz hb) id).trans hb)) (hbw b (Zz hb))).trans ((hw1.2.1.2 b (Zz hb) id).trans hb)
 have vG : ∀ {G:Zh},Ext (fun b=>Ye w=some b) H1 G→IntSl G v (sI sets):=fun {G} hG=>hvH.same fun b hb=>by
  have hl:=hvH.lt hb
  obtain ⟨C,hC⟩ : ∃ C,H[b]? = some C:=⟨_,List.getElem?_eq_getElem hl⟩
  rw [keepG hG hC,hC]
 refine (delete_call (p:=fun x=>(sI sets).any (inB x.toNat)) hw1.1 (by rw [sI_len]; omega) fun G hG x hx=>?_).mono ?_
 · obtain ⟨s,hsm,rfl⟩:=List.mem_map.1 hx
   have:=hs64 s hsm
   exact sub_call (keepG hG c3) (vG hG) (by rw [sI_len]; omega) (by omega) fun y hy=>by
    obtain ⟨t,ht,rfl⟩:=List.mem_map.1 hy
    have:=hs64 t ht
    exact ⟨t,rfl,by omega⟩
 rintro r H2 ⟨hr,hE2⟩
 rw [keep_ints] at hr
 have hkne:keepL sets≠[]:=fun hc=>by
  obtain ⟨i,hi⟩:=List.exists_mem_of_ne_nil _ h0
  obtain ⟨t,ht,_⟩:=kept_over hs _ i (Nat.le_refl _) hi
  rw [hc] at ht; cases ht
 have c3':=keepG hE2 c3
 simp (maxSteps:=2000000) only [store1 c3' shp_22 (intSl_notI hr).2]
 have hrb:=intSl_box hr (fun hc=>hkne (by simpa [sI] using hc)) (vG hE2) c3'
 obtain ⟨G0,hG0⟩ : ∃ G0,G0=H2.set (h.length+1) (.cells [r] 22 false):=⟨_,rfl⟩
 have hrG:IntSl G0 r (sI (keepL sets)):=hr.same fun b hb=>by rw [hG0]; exact List.getElem?_set_ne fun he=>hrb (by rw [he]; exact hb)
 rw [← hG0]
 refine hN2 [(0,Zd (n:Nat)),(1,v),(2,.pointer (some ⟨h.length,0,none⟩)),(3,.pointer (some ⟨h.length+1,0,none⟩)),(4,.pointer (some ⟨h.length+2,0,none⟩))] _ _ ?_ (by simp (maxSteps:=2000000) only [vup,cond_true,cond_false,Nat.reduceBEq])
 clear hN2
 try clear N2
 have keep0 : ∀ {b:Nat} {C:Blk},H[b]? = some C→b≠h.length+1→G0[b]? = some C:=fun {b C} hb hn=>by
  rw [hG0,List.getElem?_set_ne fun he=>hn he.symm]; exact keepG hE2 hb
 have hl0:H.length≤G0.length:=by rw [hG0,List.length_set]; exact Nat.le_trans hw1.2.1.1 hE2.1
 refine Ze fun N3 hN3=>?_
 simp (maxSteps:=2000000) only [↓Za,↓Zb,↓Zc,vup,cond_false,aop,Zg,sput,Zf,Nat.reduceBEq,tyf,Xv,Xc]
 have s0:RS n (keepL sets) (G0++[Blk.cells [.slice none 0 0] 82 false]) G0.length (G0++[Blk.cells [.slice none 0 0] 82 false]) (.slice none 0 0) [] 0:=RS.nil G0
 obtain ⟨H0,hH0⟩ : ∃ H0,H0=G0++[Blk.cells [.slice none 0 0] 82 false]:=⟨_,rfl⟩
 rw [← hH0] at s0 ⊢
 refine hN3 [(0,Zd (n:Nat)),(1,v),(2,.pointer (some ⟨h.length,0,none⟩)),(3,.pointer (some ⟨h.length+1,0,none⟩)),(4,.pointer (some ⟨h.length+2,0,none⟩)),(5,.pointer (some ⟨G0.length,0,none⟩))] _ _ ?_ (by simp (maxSteps:=2000000) only [vup,cond_true,cond_false,Nat.reduceBEq])
 clear hN3
 try clear N3
 have hE00:Ext (fun _=>False) G0 H0:=by rw [hH0]; exact Ext.app _ _ _
 have up : ∀ {b:Nat} {C:Blk},G0[b]? = some C→H0[b]? = some C:=fun {b C} hb=>(hE00.2 b (Zz hb) id).trans hb
 have e2:=up (keep0 c2 (by omega))
 have e3:H0[h.length+1]? = some (.cells [r] 22 false):=up (by rw [hG0]; exact Xj (Zz c3') _)
 have e4:=up (keep0 c4 (by omega))
 have hrH:IntSl H0 r (sI (keepL sets)):=hrG.same fun b hb=>hE00.2 b (hrG.lt hb) id
 have hr5:Ye r≠some G0.length:=fun hc=>by have:=hrG.lt hc; omega
 obtain ⟨K,hK⟩ : ∃ K,keepL sets=K:=⟨_,rfl⟩
 have hKl:K.length≤sets.length:=by rw [← hK,keepL]; exact List.length_filter_le ..
 have hKm : ∀ t∈K,t∈sets:=fun t ht=>by rw [← hK] at ht; exact (List.mem_filter.1 ht).1
 rw [hK] at s0 hrH
 refine Zk fun Z hZ=>?_
 refine Ze fun N4 hN4=>?_
 simp (maxSteps:=2000000) only [↓Za,↓Zb,↓Zc,vup,List.map_cons,List.map_nil,cond_true,cond_false,aop,Zg,ev,sput,Zf,Zi,Nat.reduceBEq,tyf,load1 e3 shp_22,hrH.len,sI_len]
 refine hN4 [(0,Zd (n:Nat)),(1,v),(2,.pointer (some ⟨h.length,0,none⟩)),(3,.pointer (some ⟨h.length+1,0,none⟩)),(4,.pointer (some ⟨h.length+2,0,none⟩)),(5,.pointer (some ⟨G0.length,0,none⟩)),(18,r),(19,Zd K.length),(20,.int .i64 0)] _ _ ?_ (by simp (maxSteps:=2000000) only [vup,cond_true,cond_false,Nat.reduceBEq])
 clear hN4
 try clear N4
 refine Zo ?_
 refine Zm fun Q hQ=>?_
 refine Yl (γ:=Nat×Zh×Value×List Value) (fun g=>g.1≤K.length∧RS n K H0 G0.length g.2.1 g.2.2.1 g.2.2.2 g.1)
  (fun g=>([(0,Zd (n:Nat)),(1,v),(2,.pointer (some ⟨h.length,0,none⟩)),(3,.pointer (some ⟨h.length+1,0,none⟩)),(4,.pointer (some ⟨h.length+2,0,none⟩)),(5,.pointer (some ⟨G0.length,0,none⟩)),(18,r),(19,Zd K.length),(20,Zd (g.1:Nat))],g.2.1)) (fun g=>K.length-g.1) (0,H0,.slice none 0 0,[]) ⟨Nat.zero_le _,s0⟩ (by simp (maxSteps:=2000000) only [vup,cond_true,cond_false,Nat.reduceBEq,Int.natCast_zero]) rfl ?_
 rintro ⟨k,G,rv,ws⟩ ⟨hk,s⟩
 simp only at hk s
 refine Zm fun Q2 hQ2=>?_
 simp only [l61_1]
 by_cases hkn:(k:Int)<K.length
 · have hk' : k<K.length:=by omega
   have hkS:k<(sI K).length:=by rw [sI_len]; exact hk'
   obtain ⟨t,ht⟩ : ∃ t,K.getD k 0=t:=⟨_,rfl⟩
   have htm:t∈K:=ht▸getD_in hk'
   have ht64:=hs64 t (hKm t htm)
   have htest:=fun y=>@testV t y (by omega)
   have hrGk:=ints_but hrH hr5 s.ext
   have e2G:=s.keep e2 (by omega)
   have hsg:(sI K).getD k 0=((t:Nat):Int):=by rw [← ht,sI,List.getD,List.getElem?_map,List.getD,List.getElem?_eq_getElem hk']; rfl
   refine Ze fun N5 hN5=>?_
   simp (maxSteps:=2000000) only [↓Za,↓Zb,↓Zc,vup,cond_true,cond_false,aop,Zg,ev,sput,Zf,Zv,Zx,Nat.reduceBEq,hkn]
   refine hN5 [(0,Zd (n:Nat)),(1,v),(2,.pointer (some ⟨h.length,0,none⟩)),(3,.pointer (some ⟨h.length+1,0,none⟩)),(4,.pointer (some ⟨h.length+2,0,none⟩)),(5,.pointer (some ⟨G0.length,0,none⟩)),(18,r),(19,Zd K.length),(20,Zd (k:Nat)),(21,.bool true)] _ _ ?_ (by simp (maxSteps:=2000000) only [vup,cond_true,cond_false,Nat.reduceBEq])
   clear hN5
   try clear N5
   refine Ze fun N6 hN6=>?_
   simp (maxSteps:=2000000) only [↓Zn,↓vdn,vup,cond_true,cond_false,Zg,ev,Nat.reduceBEq]
   refine hN6 [(0,Zd (n:Nat)),(1,v),(2,.pointer (some ⟨h.length,0,none⟩)),(3,.pointer (some ⟨h.length+1,0,none⟩)),(4,.pointer (some ⟨h.length+2,0,none⟩)),(5,.pointer (some ⟨G0.length,0,none⟩)),(18,r),(19,Zd K.length),(20,Zd (k:Nat))] _ _ ?_ (by simp (maxSteps:=2000000) only [vup,cond_true,cond_false,Nat.reduceBEq])
   clear hN6
   try clear N6
   refine Zk fun B hB=>?_
   refine Zo ?_
   refine Ze fun N7 hN7=>?_
   simp (maxSteps:=2000000) only [↓Za,↓Zb,↓Zc,vup,cond_true,cond_false,aop,Zg,ev,sput,Zf,Nat.reduceBEq,hrGk.idx Xt Xe hkS,hrGk.load Xf hkS,hsg]
   refine hN7 [(0,Zd (n:Nat)),(1,v),(2,.pointer (some ⟨h.length,0,none⟩)),(3,.pointer (some ⟨h.length+1,0,none⟩)),(4,.pointer (some ⟨h.length+2,0,none⟩)),(5,.pointer (some ⟨G0.length,0,none⟩)),(7,Zd (t:Nat)),(18,r),(19,Zd K.length),(20,Zd (k:Nat))] _ _ ?_ (by simp (maxSteps:=2000000) only [vup,cond_true,cond_false,Nat.reduceBEq])
   clear hN7
   try clear N7
   refine Ze fun N8 hN8=>?_
   simp (maxSteps:=2000000) only [↓Za,↓Zb,↓Zc,vup,cond_false,aop,Zg,ev,sput,Zf,Nat.reduceBEq]
   refine hN8 [(0,Zd (n:Nat)),(1,v),(2,.pointer (some ⟨h.length,0,none⟩)),(3,.pointer (some ⟨h.length+1,0,none⟩)),(4,.pointer (some ⟨h.length+2,0,none⟩)),(5,.pointer (some ⟨G0.length,0,none⟩)),(7,Zd (t:Nat)),(8,.slice none 0 0),(18,r),(19,Zd K.length),(20,Zd (k:Nat))] _ _ ?_ (by simp (maxSteps:=2000000) only [vup,cond_true,cond_false,Nat.reduceBEq])
   clear hN8
   try clear N8
   refine Zk fun A hA=>?_
   refine Ze fun N9 hN9=>?_
   simp (maxSteps:=2000000) only [↓Za,↓Zb,↓Zc,vup,cond_true,cond_false,aop,Zg,ev,sput,Zf,Nat.reduceBEq,load1 e2G Xf]
   refine hN9 [(0,Zd (n:Nat)),(1,v),(2,.pointer (some ⟨h.length,0,none⟩)),(3,.pointer (some ⟨h.length+1,0,none⟩)),(4,.pointer (some ⟨h.length+2,0,none⟩)),(5,.pointer (some ⟨G0.length,0,none⟩)),(7,Zd (t:Nat)),(8,.slice none 0 0),(18,r),(19,Zd K.length),(20,Zd (k:Nat)),(24,Zd (n:Nat)),(25,.int .i64 0)] _ _ ?_ (by simp (maxSteps:=2000000) only [vup,cond_true,cond_false,Nat.reduceBEq])
   clear hN9
   try clear N9
   refine Zo ?_
   refine Zm fun Qa hQa=>?_
   refine Yl (γ:=Nat×Value×Zh) (fun g=>g.1≤n∧RSI G g.2.2 g.2.1 (bitsI t g.1))
    (fun g=>([(0,Zd (n:Nat)),(1,v),(2,.pointer (some ⟨h.length,0,none⟩)),(3,.pointer (some ⟨h.length+1,0,none⟩)),(4,.pointer (some ⟨h.length+2,0,none⟩)),(5,.pointer (some ⟨G0.length,0,none⟩)),(7,Zd (t:Nat)),(8,g.2.1),(18,r),(19,Zd K.length),(20,Zd (k:Nat)),(24,Zd (n:Nat)),(25,Zd (g.1:Nat))],g.2.2)) (fun g=>n-g.1) (0,.slice none 0 0,G) ⟨Nat.zero_le _,RSI.nil G⟩ (by simp (maxSteps:=2000000) only [vup,cond_true,cond_false,Nat.reduceBEq,Int.natCast_zero]) rfl ?_
   rintro ⟨i,bv,G1⟩ ⟨hi,hbv⟩
   simp only at hi hbv
   refine Zm fun Qb hQb=>?_
   simp only [l61_0]
   by_cases hin:(i:Int)<n
   · have hi' : i<n:=by omega
     refine Ze fun N10 hN10=>?_
     simp (maxSteps:=2000000) only [↓Za,↓Zb,↓Zc,vup,cond_true,cond_false,aop,Zg,ev,sput,Zf,Zv,Zx,Nat.reduceBEq,hin]
     refine hN10 [(0,Zd (n:Nat)),(1,v),(2,.pointer (some ⟨h.length,0,none⟩)),(3,.pointer (some ⟨h.length+1,0,none⟩)),(4,.pointer (some ⟨h.length+2,0,none⟩)),(5,.pointer (some ⟨G0.length,0,none⟩)),(7,Zd (t:Nat)),(8,bv),(18,r),(19,Zd K.length),(20,Zd (k:Nat)),(24,Zd (n:Nat)),(25,Zd (i:Nat)),(26,.bool true)] _ _ ?_ (by simp (maxSteps:=2000000) only [vup,cond_true,cond_false,Nat.reduceBEq])
     clear hN10
     try clear N10
     refine Ze fun N11 hN11=>?_
     simp (maxSteps:=2000000) only [↓Zn,↓vdn,vup,cond_true,cond_false,Zg,ev,Nat.reduceBEq]
     refine hN11 [(0,Zd (n:Nat)),(1,v),(2,.pointer (some ⟨h.length,0,none⟩)),(3,.pointer (some ⟨h.length+1,0,none⟩)),(4,.pointer (some ⟨h.length+2,0,none⟩)),(5,.pointer (some ⟨G0.length,0,none⟩)),(7,Zd (t:Nat)),(8,bv),(18,r),(19,Zd K.length),(20,Zd (k:Nat)),(24,Zd (n:Nat)),(25,Zd (i:Nat))] _ _ ?_ (by simp (maxSteps:=2000000) only [vup,cond_true,cond_false,Nat.reduceBEq])
     clear hN11
     try clear N11
     refine Zk fun D hD=>?_
     refine Zo ?_
     refine Ze fun N12 hN12=>?_
     simp (maxSteps:=2000000) only [↓Za,↓Zb,↓Zc,vup,cond_true,cond_false,aop,Zg,ev,sput,Zf,Nat.reduceBEq]
     refine hN12 [(0,Zd (n:Nat)),(1,v),(2,.pointer (some ⟨h.length,0,none⟩)),(3,.pointer (some ⟨h.length+1,0,none⟩)),(4,.pointer (some ⟨h.length+2,0,none⟩)),(5,.pointer (some ⟨G0.length,0,none⟩)),(7,Zd (t:Nat)),(8,bv),(9,Zd (i:Nat)),(18,r),(19,Zd K.length),(20,Zd (k:Nat)),(24,Zd (n:Nat)),(25,Zd (i:Nat))] _ _ ?_ (by simp (maxSteps:=2000000) only [vup,cond_true,cond_false,Nat.reduceBEq])
     clear hN12
     try clear N12
     refine Zj ?_
     simp (maxSteps:=2000000) only [↓Za,↓Zb,↓Zc,vup,List.map_cons,List.map_nil,cond_true,cond_false,aop,Zg,Zl,ev,sput,Zf,Zv,Zx,Zi,Nat.reduceBEq,Int.natCast_nonneg,htest,litI1]
     refine hbv.push (by rw [bitsI_len]; omega) fun bv' G2 hbv'=>?_
     rw [← bitsI_succ] at hbv'
     refine hD [(0,Zd (n:Nat)),(1,v),(2,.pointer (some ⟨h.length,0,none⟩)),(3,.pointer (some ⟨h.length+1,0,none⟩)),(4,.pointer (some ⟨h.length+2,0,none⟩)),(5,.pointer (some ⟨G0.length,0,none⟩)),(7,Zd (t:Nat)),(8,bv'),(18,r),(19,Zd K.length),(20,Zd (k:Nat)),(24,Zd (n:Nat)),(25,Zd (i:Nat))] _ _ ?_ (by simp (maxSteps:=2000000) only [vup,cond_true,cond_false,Nat.reduceBEq])
     clear hD
     try clear D
     refine Zj ?_
     simp (maxSteps:=2000000) only [↓Za,↓Zb,↓Zc,vup,cond_true,cond_false,aop,ev,sput,Zf,Zv,Zx,Nat.reduceBEq,Wx (show i<9223372036854775807 by omega)]
     exact hQb _ _ _ ⟨(i+1,bv',G2),⟨hi',hbv'⟩,by simp only; omega,by simp (maxSteps:=2000000) only [vup,cond_true,cond_false,Nat.reduceBEq],rfl⟩
   obtain rfl:n=i:=by omega
   refine Ze fun N13 hN13=>?_
   simp (maxSteps:=2000000) only [↓Za,↓Zb,↓Zc,vup,cond_true,cond_false,aop,Zg,ev,sput,Zf,Zv,Zx,Nat.reduceBEq,hin]
   refine hN13 [(0,Zd (n:Nat)),(1,v),(2,.pointer (some ⟨h.length,0,none⟩)),(3,.pointer (some ⟨h.length+1,0,none⟩)),(4,.pointer (some ⟨h.length+2,0,none⟩)),(5,.pointer (some ⟨G0.length,0,none⟩)),(7,Zd (t:Nat)),(8,bv),(18,r),(19,Zd K.length),(20,Zd (k:Nat)),(24,Zd (n:Nat)),(25,Zd (n:Nat)),(26,.bool false)] _ _ ?_ (by simp (maxSteps:=2000000) only [vup,cond_true,cond_false,Nat.reduceBEq])
   clear hN13
   try clear N13
   refine Ze fun N14 hN14=>?_
   simp (maxSteps:=2000000) only [↓Yi,↓vdn,vup,cond_true,cond_false,Zg,ev,Nat.reduceBEq]
   refine hQb _ _ _ (hQa _ _ _ ?_)
   simp (maxSteps:=2000000) only [Zg,Zl,if_true]
   refine hA [(0,Zd (n:Nat)),(1,v),(2,.pointer (some ⟨h.length,0,none⟩)),(3,.pointer (some ⟨h.length+1,0,none⟩)),(4,.pointer (some ⟨h.length+2,0,none⟩)),(5,.pointer (some ⟨G0.length,0,none⟩)),(7,Zd (t:Nat)),(8,bv),(18,r),(19,Zd K.length),(20,Zd (k:Nat))] _ _ ?_ (by simp (maxSteps:=2000000) only [vup,cond_true,cond_false,Nat.reduceBEq])
   clear hA
   try clear A
   clear hQa hQb
   have hb1:G1[G0.length]? = some (.cells [rv] 82 false):=(hbv.2.1.2 _ (Zz s.box) id).trans s.box
   refine Zj ?_
   simp only [q61_12]
   refine aw_drawR (fun z=>z[G0.length]? = some (.cells [rv] 82 false)) [(0,5),(6,6)] (by kernel_rfl) (by kernel_rfl) (by kernel_rfl) (by kernel_rfl) hb1 ?_
   simp (maxSteps:=2000000) only [↓dopsR_nil,↓vdn,vup,List.map_cons,List.map_nil,cond_true,cond_false,aop,Zg,Zl,ev,sput,Zf,Zi,Nat.reduceBEq,Nat.reduceAdd,Nat.reduceLT,Bool.false_or,Bool.true_or]
   refine ⟨rv,fun hp hhp=>by simp only [load1 hhp shp_82],?_⟩
   simp (maxSteps:=2000000) only [litI1]
   refine ⟨Vc hb1 _,?_⟩
   refine hbv.push (by rw [bitsI_len]; omega) fun w G2 hw=>?_
   have hb2:G2[G0.length]? = some (.cells [rv] 82 false):=(hw.2.1.2 _ (Zz s.box) id).trans s.box
   refine ⟨hb2,?_⟩
   simp (maxSteps:=2000000) only [buildSlW el_82 zero_22 esz_22 hw.1.int]
   refine ⟨Vc hb2 _,?_⟩
   refine s.step hw.2.1 (by rw [row_set hk',ht]; exact hw.1.int) hw.2.2 (by omega) fun rv' G3 hb3 h1 s'=>⟨hb3,?_⟩
   simp (maxSteps:=2000000) only [store1 hb3 shp_82 h1]
   refine hB [(0,Zd (n:Nat)),(1,v),(2,.pointer (some ⟨h.length,0,none⟩)),(3,.pointer (some ⟨h.length+1,0,none⟩)),(4,.pointer (some ⟨h.length+2,0,none⟩)),(5,.pointer (some ⟨G0.length,0,none⟩)),(18,r),(19,Zd K.length),(20,Zd (k:Nat))] _ _ ?_ (by simp (maxSteps:=2000000) only [vup,cond_true,cond_false,Nat.reduceBEq])
   clear hB
   try clear B
   refine Zj ?_
   simp (maxSteps:=2000000) only [↓Za,↓Zb,↓Zc,vup,cond_true,cond_false,aop,ev,sput,Zf,Zv,Zx,Nat.reduceBEq,Wx (show k<9223372036854775807 by omega)]
   exact hQ2 _ _ _ ⟨(k+1,_,rv',ws++[w]),⟨hk',s'⟩,by simp only; omega,by simp (maxSteps:=2000000) only [vup,cond_true,cond_false,Nat.reduceBEq],rfl⟩
 obtain rfl:k=K.length:=by omega
 refine Ze fun N15 hN15=>?_
 simp (maxSteps:=2000000) only [↓Za,↓Zb,↓Zc,vup,cond_true,cond_false,aop,Zg,ev,sput,Zf,Zv,Zx,Nat.reduceBEq,hkn]
 refine hN15 [(0,Zd (n:Nat)),(1,v),(2,.pointer (some ⟨h.length,0,none⟩)),(3,.pointer (some ⟨h.length+1,0,none⟩)),(4,.pointer (some ⟨h.length+2,0,none⟩)),(5,.pointer (some ⟨G0.length,0,none⟩)),(18,r),(19,Zd K.length),(20,Zd K.length),(21,.bool false)] _ _ ?_ (by simp (maxSteps:=2000000) only [vup,cond_true,cond_false,Nat.reduceBEq])
 clear hN15
 try clear N15
 refine Ze fun N16 hN16=>?_
 simp (maxSteps:=2000000) only [↓Yi,↓vdn,vup,cond_true,cond_false,Zg,ev,Nat.reduceBEq]
 refine hQ2 _ _ _ (hQ _ _ _ ?_)
 simp (maxSteps:=2000000) only [Zg,Zl,Zu,if_true]
 refine hZ [(0,Zd (n:Nat)),(1,v),(2,.pointer (some ⟨h.length,0,none⟩)),(3,.pointer (some ⟨h.length+1,0,none⟩)),(4,.pointer (some ⟨h.length+2,0,none⟩)),(5,.pointer (some ⟨G0.length,0,none⟩))] _ _ ?_ (by simp (maxSteps:=2000000) only [vup,cond_true,cond_false,Nat.reduceBEq])
 clear hZ
 try clear Z
 clear hQ hQ2
 have e2G:=s.keep e2 (by omega)
 refine Zk fun Z hZ=>?_
 refine Ze fun N17 hN17=>?_
 simp (maxSteps:=2000000) only [↓Za,↓Zb,↓Zc,vup,cond_true,cond_false,aop,Zg,ev,sput,Zf,Nat.reduceBEq,load1 e2G Xf]
 refine hN17 [(0,Zd (n:Nat)),(1,v),(2,.pointer (some ⟨h.length,0,none⟩)),(3,.pointer (some ⟨h.length+1,0,none⟩)),(4,.pointer (some ⟨h.length+2,0,none⟩)),(5,.pointer (some ⟨G0.length,0,none⟩)),(43,Zd (n:Nat)),(44,.int .i64 0)] _ _ ?_ (by simp (maxSteps:=2000000) only [vup,cond_true,cond_false,Nat.reduceBEq])
 clear hN17
 try clear N17
 refine Zo ?_
 refine Zm fun Q hQ=>?_
 refine Yl (γ:=Nat×Zh×Value×List Value) (fun g=>g.1≤n∧RS n K H0 G0.length g.2.1 g.2.2.1 g.2.2.2 (K.length+g.1))
  (fun g=>([(0,Zd (n:Nat)),(1,v),(2,.pointer (some ⟨h.length,0,none⟩)),(3,.pointer (some ⟨h.length+1,0,none⟩)),(4,.pointer (some ⟨h.length+2,0,none⟩)),(5,.pointer (some ⟨G0.length,0,none⟩)),(43,Zd (n:Nat)),(44,Zd (g.1:Nat))],g.2.1)) (fun g=>n-g.1) (0,G,rv,ws) ⟨Nat.zero_le _,s⟩ (by simp (maxSteps:=2000000) only [vup,cond_true,cond_false,Nat.reduceBEq,Int.natCast_zero]) rfl ?_
 clear s e2G
 rintro ⟨i,G,rv,ws⟩ ⟨hi,s⟩
 simp only at hi s
 refine Zm fun Q2 hQ2=>?_
 simp only [l61_2]
 have e2G:=s.keep e2 (by omega)
 by_cases hin:(i:Int)<n
 · have hi' : i<n:=by omega
   have hnat:((n:Int)+1)=((n+1:Nat):Int):=rfl
   refine Ze fun N18 hN18=>?_
   simp (maxSteps:=2000000) only [↓Za,↓Zb,↓Zc,vup,cond_true,cond_false,aop,Zg,ev,sput,Zf,Zv,Zx,Nat.reduceBEq,hin]
   refine hN18 [(0,Zd (n:Nat)),(1,v),(2,.pointer (some ⟨h.length,0,none⟩)),(3,.pointer (some ⟨h.length+1,0,none⟩)),(4,.pointer (some ⟨h.length+2,0,none⟩)),(5,.pointer (some ⟨G0.length,0,none⟩)),(43,Zd (n:Nat)),(44,Zd (i:Nat)),(45,.bool true)] _ _ ?_ (by simp (maxSteps:=2000000) only [vup,cond_true,cond_false,Nat.reduceBEq])
   clear hN18
   try clear N18
   refine Ze fun N19 hN19=>?_
   simp (maxSteps:=2000000) only [↓Zn,↓vdn,vup,cond_true,cond_false,Zg,ev,Nat.reduceBEq]
   refine hN19 [(0,Zd (n:Nat)),(1,v),(2,.pointer (some ⟨h.length,0,none⟩)),(3,.pointer (some ⟨h.length+1,0,none⟩)),(4,.pointer (some ⟨h.length+2,0,none⟩)),(5,.pointer (some ⟨G0.length,0,none⟩)),(43,Zd (n:Nat)),(44,Zd (i:Nat))] _ _ ?_ (by simp (maxSteps:=2000000) only [vup,cond_true,cond_false,Nat.reduceBEq])
   clear hN19
   try clear N19
   refine Zk fun B hB=>?_
   refine Zo ?_
   refine Ze fun N20 hN20=>?_
   simp (maxSteps:=2000000) only [↓Za,↓Zb,↓Zc,vup,cond_true,cond_false,aop,Zg,ev,sput,Zf,Nat.reduceBEq]
   refine hN20 [(0,Zd (n:Nat)),(1,v),(2,.pointer (some ⟨h.length,0,none⟩)),(3,.pointer (some ⟨h.length+1,0,none⟩)),(4,.pointer (some ⟨h.length+2,0,none⟩)),(5,.pointer (some ⟨G0.length,0,none⟩)),(10,Zd (i:Nat)),(43,Zd (n:Nat)),(44,Zd (i:Nat))] _ _ ?_ (by simp (maxSteps:=2000000) only [vup,cond_true,cond_false,Nat.reduceBEq])
   clear hN20
   try clear N20
   refine Ze fun N21 hN21=>?_
   simp (maxSteps:=2000000) only [↓Za,↓Zb,↓Zc,vup,cond_true,cond_false,aop,Zg,ev,sput,Zf,Zv,Zx,Nat.reduceBEq,tyf,load1 e2G Xf,Wx (show n<9223372036854775807 by omega),makeI Xt zero_3 info_3 (Int.natCast_nonneg (n+1)) (show ((n+1:Nat):Int)≤35184372088832 by omega),Int.toNat_natCast]
   obtain ⟨wv,hwv⟩ : ∃ wv,wv=Value.slice (some ⟨G.length,0,none⟩) (n+1) (n+1):=⟨_,rfl⟩
   rw [← hwv]
   refine hN21 [(0,Zd (n:Nat)),(1,v),(2,.pointer (some ⟨h.length,0,none⟩)),(3,.pointer (some ⟨h.length+1,0,none⟩)),(4,.pointer (some ⟨h.length+2,0,none⟩)),(5,.pointer (some ⟨G0.length,0,none⟩)),(10,Zd (i:Nat)),(11,wv),(43,Zd (n:Nat)),(44,Zd (i:Nat))] _ _ ?_ (by simp (maxSteps:=2000000) only [vup,cond_true,cond_false,Nat.reduceBEq])
   clear hN21
   try clear N21
   have hz:(G++[Blk.ints (List.replicate (n+1) (0:Int)) 3 false])[G.length]? = some (.ints (List.replicate (n+1) (0:Int)) 3 false):=Yp _ _
   have hzI:IntSl (G++[Blk.ints (List.replicate (n+1) (0:Int)) 3 false]) wv (List.replicate (n+1) 0):=by
    have:=intSl_blk hz
    rw [List.length_replicate] at this
    rw [hwv]; exact this
   have hel:Wb wv 1 i = .pointer (some ⟨G.length,i,none⟩):=by rw [hwv]; exact elemP_new _ _ _ _
   refine Ze fun N22 hN22=>?_
   simp (maxSteps:=2000000) only [↓Za,↓Zb,↓Zc,vup,cond_true,cond_false,aop,Zg,ev,sput,Zf,Nat.reduceBEq,hzI.idx Xt Xe (show i<(List.replicate (n+1) (0:Int)).length by simp; omega),hel,storeBI hz Xf (show i<(List.replicate (n+1) (0:Int)).length by simp; omega),set_new]
   obtain ⟨G1,hG1⟩ : ∃ G1,G1=G++[Blk.ints ((List.replicate (n+1) (0:Int)).set i 1) 3 false]:=⟨_,rfl⟩
   rw [← hG1]
   refine hN22 [(0,Zd (n:Nat)),(1,v),(2,.pointer (some ⟨h.length,0,none⟩)),(3,.pointer (some ⟨h.length+1,0,none⟩)),(4,.pointer (some ⟨h.length+2,0,none⟩)),(5,.pointer (some ⟨G0.length,0,none⟩)),(10,Zd (i:Nat)),(11,wv),(43,Zd (n:Nat)),(44,Zd (i:Nat))] _ _ ?_ (by simp (maxSteps:=2000000) only [vup,cond_true,cond_false,Nat.reduceBEq])
   clear hN22
   try clear N22
   have hE1:Ext (fun _=>False) G G1:=by rw [hG1]; exact Ext.app _ _ _
   have hwI:IntSl G1 wv (rowI n K (K.length+i)):=by
    rw [row_unit hi',hG1]
    have:=intSl_blk (Yp G (Blk.ints ((List.replicate (n+1) (0:Int)).set i 1) 3 false))
    rw [List.length_set,List.length_replicate] at this
    rw [hwv]; exact this
   have hb1:G1[G0.length]? = some (.cells [rv] 82 false):=(hE1.2 _ (Zz s.box) id).trans s.box
   refine Zj ?_
   simp (maxSteps:=2000000) only [↓Za,↓Zb,↓Zc,vup,List.map_cons,List.map_nil,cond_true,cond_false,aop,Zg,Zl,ev,sput,Zf,Zi,Nat.reduceBEq,load1 hb1 shp_82,buildSlW el_82 zero_22 esz_22 hwI]
   refine s.step hE1 hwI (fun b hb=>by rw [hwv] at hb; cases hb; exact Nat.le_refl _) (by omega) fun rv' G3 hb3 h1 s'=>?_
   simp (maxSteps:=2000000) only [store1 hb3 shp_82 h1]
   refine hB [(0,Zd (n:Nat)),(1,v),(2,.pointer (some ⟨h.length,0,none⟩)),(3,.pointer (some ⟨h.length+1,0,none⟩)),(4,.pointer (some ⟨h.length+2,0,none⟩)),(5,.pointer (some ⟨G0.length,0,none⟩)),(43,Zd (n:Nat)),(44,Zd (i:Nat))] _ _ ?_ (by simp (maxSteps:=2000000) only [vup,cond_true,cond_false,Nat.reduceBEq])
   clear hB
   try clear B
   refine Zj ?_
   simp (maxSteps:=2000000) only [↓Za,↓Zb,↓Zc,vup,cond_true,cond_false,aop,ev,sput,Zf,Zv,Zx,Nat.reduceBEq,Wx (show i<9223372036854775807 by omega)]
   exact hQ2 _ _ _ ⟨(i+1,_,rv',ws++[wv]),⟨hi',s'⟩,by simp only; omega,by simp (maxSteps:=2000000) only [vup,cond_true,cond_false,Nat.reduceBEq],rfl⟩
 obtain rfl:n=i:=by omega
 refine Ze fun N23 hN23=>?_
 simp (maxSteps:=2000000) only [↓Za,↓Zb,↓Zc,vup,cond_true,cond_false,aop,Zg,ev,sput,Zf,Zv,Zx,Nat.reduceBEq,hin]
 refine hN23 [(0,Zd (n:Nat)),(1,v),(2,.pointer (some ⟨h.length,0,none⟩)),(3,.pointer (some ⟨h.length+1,0,none⟩)),(4,.pointer (some ⟨h.length+2,0,none⟩)),(5,.pointer (some ⟨G0.length,0,none⟩)),(43,Zd (n:Nat)),(44,Zd (n:Nat)),(45,.bool false)] _ _ ?_ (by simp (maxSteps:=2000000) only [vup,cond_true,cond_false,Nat.reduceBEq])
 clear hN23
 try clear N23
 refine Ze fun N24 hN24=>?_
 simp (maxSteps:=2000000) only [↓Yi,↓vdn,vup,cond_true,cond_false,Zg,ev,Nat.reduceBEq]
 refine hQ2 _ _ _ (hQ _ _ _ ?_)
 simp (maxSteps:=2000000) only [Zg,Zl,Zu,if_true]
 refine hZ [(0,Zd (n:Nat)),(1,v),(2,.pointer (some ⟨h.length,0,none⟩)),(3,.pointer (some ⟨h.length+1,0,none⟩)),(4,.pointer (some ⟨h.length+2,0,none⟩)),(5,.pointer (some ⟨G0.length,0,none⟩))] _ _ ?_ (by simp (maxSteps:=2000000) only [vup,cond_true,cond_false,Nat.reduceBEq])
 clear hZ
 try clear Z
 clear hQ hQ2
 have hst : ∀ {Kk:Zh→Prop},Xh prog (G++[Blk.cells [.int .i64 0,.int .i64 0] 44 false]) 44 (.pointer (some ⟨G.length,0,none⟩)) (.agg #[Zd 0,Zd 1]) Kk=Kk (G++[bC 0]):=fun {Kk}=>by
  rw [Wy (Yp G (Blk.cells [.int .i64 0,.int .i64 0] 44 false)) rfl,set_new]; rfl
 refine Ze fun N25 hN25=>?_
 simp (maxSteps:=2000000) only [↓Za,↓Zb,↓Zc,vup,List.map_cons,List.map_nil,cond_true,cond_false,aop,Zg,ev,sput,Zf,Nat.reduceBEq,tyf,bldF,Xv,Xc,hst]
 refine hN25 [(0,Zd (n:Nat)),(1,v),(2,.pointer (some ⟨h.length,0,none⟩)),(3,.pointer (some ⟨h.length+1,0,none⟩)),(4,.pointer (some ⟨h.length+2,0,none⟩)),(5,.pointer (some ⟨G0.length,0,none⟩)),(12,.pointer (some ⟨G.length,0,none⟩))] _ _ ?_ (by simp (maxSteps:=2000000) only [vup,cond_true,cond_false,Nat.reduceBEq])
 clear hN25
 try clear N25
 refine Ze fun N26 hN26=>?_
 simp (maxSteps:=2000000) only [↓Za,↓Zb,↓Zc,vup,cond_false,aop,Zg,sput,Zf,Nat.reduceBEq,tyf,Xv,Xc,List.length_append,List.length_singleton]
 refine hN26 [(0,Zd (n:Nat)),(1,v),(2,.pointer (some ⟨h.length,0,none⟩)),(3,.pointer (some ⟨h.length+1,0,none⟩)),(4,.pointer (some ⟨h.length+2,0,none⟩)),(5,.pointer (some ⟨G0.length,0,none⟩)),(12,.pointer (some ⟨G.length,0,none⟩)),(13,.pointer (some ⟨G.length+1,0,none⟩))] _ _ ?_ (by simp (maxSteps:=2000000) only [vup,cond_true,cond_false,Nat.reduceBEq])
 clear hN26
 try clear N26
 have hg0:(G++[bC 0]++[Blk.cells [.nilFunc] 83 false])[G.length+1]? = some (.cells [.nilFunc] 83 false):=by
  rw [List.getElem?_append_right (by simp)]; simp
 obtain ⟨gv,hgv⟩ : ∃ gv:Value,gv = .func (.func 85) #[] #[.pointer (some ⟨h.length,0,none⟩),.pointer (some ⟨G0.length,0,none⟩),.pointer (some ⟨G.length+1,0,none⟩),.pointer (some ⟨h.length+1,0,none⟩),.pointer (some ⟨G.length,0,none⟩)]:=⟨_,rfl⟩
 refine Ze fun N27 hN27=>?_
 simp (maxSteps:=2000000) only [↓Za,↓Zb,↓Zc,vup,List.map_cons,List.map_nil,cond_true,cond_false,aop,Zg,ev,sput,Zf,Nat.reduceBEq,List.map_toArray,← hgv]
 rw [store1 hg0 shp_83 (by rw [hgv]; rfl)]
 obtain ⟨Hf,hHf⟩ : ∃ Hf,Hf=(G++[bC 0]++[Blk.cells [.nilFunc] 83 false]).set (G.length+1) (.cells [gv] 83 false):=⟨_,rfl⟩
 rw [← hHf]
 refine hN27 [(0,Zd (n:Nat)),(1,v),(2,.pointer (some ⟨h.length,0,none⟩)),(3,.pointer (some ⟨h.length+1,0,none⟩)),(4,.pointer (some ⟨h.length+2,0,none⟩)),(5,.pointer (some ⟨G0.length,0,none⟩)),(12,.pointer (some ⟨G.length,0,none⟩)),(13,.pointer (some ⟨G.length+1,0,none⟩))] _ _ ?_ (by simp (maxSteps:=2000000) only [vup,cond_true,cond_false,Nat.reduceBEq])
 clear hN27
 try clear N27
 have hEf:Ext (fun _=>False) G Hf:=by
  rw [hHf]; exact ((Ext.app _ _ _).trans (Ext.app _ _ _)).set_ge (by omega) _
 have hlf:Hf.length=G.length+2:=by rw [hHf]; simp
 have uf : ∀ {b:Nat} {C:Blk},G[b]? = some C→Hf[b]? = some C:=fun {b C} hb=>(hEf.2 b (Zz hb) id).trans hb
 have hgf:Hf[G.length+1]? = some (.cells [gv] 83 false):=by rw [hHf]; exact Xj (Zz hg0) _
 have hbf:Hf[G.length]? = some (bC 0):=by
  rw [hHf,List.getElem?_set_ne (by omega),List.getElem?_append_left (by simp)]; exact Yp _ _
 have h5l:G0.length<G.length:=by have:=Zz s.box; omega
 have hhl:h.length+3≤G0.length:=by omega
 have hrG':=ints_but hrH hr5 s.ext
 have ge:GE n K ws Hf h.length G0.length (G.length+1) (h.length+1) G.length rv r:=by
  refine ⟨n1,n6,fun t ht=>hs t (hKm t ht),by omega,uf (s.keep e2 (by omega)),uf s.box,by rw [hgf,hgv],uf (s.keep e3 (by omega)),by omega,by omega,by omega,by omega,fun H' hk'=>?_,fun H' hk'=>?_⟩
  · have hkeep : ∀ b,b<G.length→H'[b]? = G[b]?:=fun b hb=>(hk'.2 b (by omega) (by omega)).trans (hEf.2 b hb id)
    exact ⟨s.own.val.same fun b hb=>hkeep b (s.own.lt hb),s.rows.imp fun x l hx=>hx.1.same fun b hb=>hkeep b (hx.1.lt hb)⟩
  · exact hrG'.same fun b hb=>(hk'.2 b (by have:=hrG'.lt hb; omega) (by have:=hrG'.lt hb; omega)).trans (hEf.2 b (hrG'.lt hb) id)
 have hz0 : ∀ m,sumTo (fun _=>(0:Rat)) m=0:=fun m=>Yk fun _ _=>rfl
 have ha0:Att n K 0:=⟨⟨fun _=>0,⟨fun i _=>Rat.le_refl,fun t _=>by
  have:dot (bitQ t) (fun _=>0) n=0:=Yk fun i _=>Rat.mul_zero _
  rw [this]; decide⟩,hz0 n⟩,by decide,by decide⟩
 refine Ze fun N28 hN28=>?_
 simp (maxSteps:=2000000) only [↓Za,↓Zb,↓Zc,vup,List.map_cons,List.map_nil,cond_true,cond_false,aop,Zg,ev,sput,Zf,Nat.reduceBEq,load1 hgf shp_83]
 rw [hgv]
 simp (maxSteps:=2000000) only [Yz,List.nil_append,List.cons_append]
 refine (grow_call ge n 0 [] Hf (.slice none 0 0) 0 (by simp) (Ext.refl _ _) (.inl ⟨rfl,rfl⟩) (fun k hk=>by cases hk) (Nat.zero_le _) hbf ha0).mono ?_
 rintro _ H3 ⟨hE3,q,hq,haq,_,hle⟩
 refine hN28 [(0,Zd (n:Nat)),(1,v),(2,.pointer (some ⟨h.length,0,none⟩)),(3,.pointer (some ⟨h.length+1,0,none⟩)),(4,.pointer (some ⟨h.length+2,0,none⟩)),(5,.pointer (some ⟨G0.length,0,none⟩)),(12,.pointer (some ⟨G.length,0,none⟩)),(13,.pointer (some ⟨G.length+1,0,none⟩))] _ _ ?_ (by simp (maxSteps:=2000000) only [vup,cond_true,cond_false,Nat.reduceBEq])
 clear hN28
 try clear N28
 have h4f:H3[h.length+2]? = some (.cells [.int .i64 0,.int .i64 0] 44 false):=(hE3.2 _ (Zz (uf (s.keep e4 (by omega)))) (by omega)).trans (uf (s.keep e4 (by omega)))
 refine Zj ?_
 simp (maxSteps:=2000000) only [↓Za,↓Zp,↓Ya,↓Zb,↓Zc,vup,cond_true,cond_false,aop,Zg,ev,sput,Zf,Nat.reduceBEq,Zu,Xu,tup,Vj hq,Wy h4f rfl,Vj (Xj (Zz h4f) _)]
 have hcK : ∀ i,i<n→∃ t∈K,t.testBit i=true:=hK▸keep_cover hs hc
 refine ⟨?_,q,rfl,opt_keep (hK.symm▸isOpt_of hcK haq.1 fun B x hx=>hle B (by
  have:=hx.sub
  rwa [List.range_eq_range'] at this) hx.len x (by simpa using hx)),?_⟩
 · have hEa:Ext (fun _=>False) h G0:=by
    have:Ext (fun b=>h.length≤b) h G0:=by
     rw [hG0]
     exact (((hEH.mono fun _ h=>h.elim).trans (hw1.2.1.mono fun _ h=>h.elim)).trans (hE2.mono fun b hb=>by have:=hw1.2.2 b hb; omega)).trans (Ext.set _ (by omega))
    exact ⟨this.1,fun i hi _=>this.2 i hi (by omega)⟩
   have hEb:Ext (fun _=>False) h G:=ext_ge (hEa.trans hE00) (fun i hi=>by omega) s.ext
   exact (ext_ge (hEb.trans hEf) (fun i hi=>by have:=hEb.1; omega) hE3).set_ge (by omega) _
 · obtain ⟨⟨x,hx,e⟩,h5⟩:=haq
   exact ⟨⟨x,feas_keep.1 (hK.symm▸hx),e⟩,h5⟩
end Go.Proofs.Tryd.Am
namespace Go.Proofs.Tryd.Am
open Go.Am
set_option maxRecDepth 100000
/-! 37: planchet planchetref05.Less -/
@[reducible] def q37_0:SCode:=.region [⟨some 2,.box 44 (.tmp 0),none⟩,
  ⟨some 3,.box 44 (.tmp 1),none⟩,
  ⟨some 4,.assign (.const (.bool false)),none⟩]
@[reducible] def q37_1:SCode:=.region [⟨some 5,.fieldAddr 44 (.tmp 2) 0,none⟩,
  ⟨some 6,.load 3 (.tmp 5),none⟩,
  ⟨some 7,.fieldAddr 44 (.tmp 3) 1,none⟩,
  ⟨some 8,.load 3 (.tmp 7),none⟩,
  ⟨some 9,.binOp .mul 3 (.tmp 6) (.tmp 8) 3,none⟩,
  ⟨some 10,.fieldAddr 44 (.tmp 3) 0,none⟩,
  ⟨some 11,.load 3 (.tmp 10),none⟩,
  ⟨some 12,.fieldAddr 44 (.tmp 2) 1,none⟩,
  ⟨some 13,.load 3 (.tmp 12),none⟩,
  ⟨some 14,.binOp .mul 3 (.tmp 11) (.tmp 13) 3,none⟩,
  ⟨some 15,.binOp .lss 3 (.tmp 9) (.tmp 14) 3,none⟩,
  ⟨some 4,.assign (.tmp 15),none⟩]
def s37:SCode:=(.seq q37_0 (.seq q37_1 .ret))
theorem s37_strip:Zy (Zw Tryd.f37)=s37:=by kernel_rfl
theorem s37_ok:Yn 16 (Zw Tryd.f37)=true:=by kernel_rfl
theorem s37_call [Tabs Tryd.prog] {args:List Value} {h:Zh} {Q:Value→Zh→Prop} (hsz:args.length≤16) (hk:aw Tryd.prog 16 s37 (Zu Tryd.prog [.tmp 4] Q) (Zt 0 args) h):ACall Tryd.prog 37 args h Q :=
 Ww Tryd.func37 rfl (enters_of Tryd.func37 (by kernel_rfl) rfl) rfl rfl (by decide) s37_strip s37_ok hsz hk
/-! 40: planchet planchetlaw05.none -/
@[reducible] def q40_0:SCode:=.region [⟨some 1,.box 44 (.tmp 0),none⟩,
  ⟨some 2,.assign (.const (.bool false)),none⟩]
@[reducible] def q40_1:SCode:=.region [⟨some 3,.load 44 (.tmp 1),none⟩,
  ⟨some 4,.build 44 #[],none⟩,
  ⟨some 5,.binOp .eql 44 (.tmp 3) (.tmp 4) 44,none⟩,
  ⟨some 2,.assign (.tmp 5),none⟩]
def s40:SCode:=(.seq q40_0 (.seq q40_1 .ret))
theorem s40_strip:Zy (Zw Tryd.f40)=s40:=by kernel_rfl
theorem s40_ok:Yn 6 (Zw Tryd.f40)=true:=by kernel_rfl
theorem s40_call [Tabs Tryd.prog] {args:List Value} {h:Zh} {Q:Value→Zh→Prop} (hsz:args.length≤6) (hk:aw Tryd.prog 6 s40 (Zu Tryd.prog [.tmp 2] Q) (Zt 0 args) h):ACall Tryd.prog 40 args h Q :=
 Ww Tryd.func40 rfl (enters_of Tryd.func40 (by kernel_rfl) rfl) rfl rfl (by decide) s40_strip s40_ok hsz hk
/-! 44: planchet sure.Confusions -/
@[reducible] def q44_0:SCode:=.region [⟨some 1,.box 22 (.tmp 0),none⟩,
  ⟨some 2,.assign (.const (.slice none 0 0)),none⟩,
  ⟨some 3,.assign (.const (.int .i64 0)),none⟩]
@[reducible] def q44_1:SCode:=.region [⟨some 4,.load 22 (.tmp 1),none⟩,
  ⟨some 5,.call { callee:=.value (.func 70),args:=#[.tmp 4],argTypes:=#[22] },none⟩,
  ⟨some 6,.unOp .not 4 (.tmp 5),none⟩]
@[reducible] def q44_2:SCode:=.region [⟨some 2,.assign (.const (.slice none 0 0)),none⟩,
  ⟨some 3,.assign (.const (.int .i64 2)),none⟩]
@[reducible] def q44_3:SCode:=.region [⟨some 7,.load 22 (.tmp 1),none⟩,
  ⟨some 8,.call { callee:=.builtin .len,args:=#[.tmp 7],argTypes:=#[22] },none⟩,
  ⟨some 9,.makeFunc (.func 71) #[] #[.tmp 1],none⟩,
  ⟨some 10,.call { callee:=.value (.func 59),args:=#[.tmp 8,.tmp 9],argTypes:=#[3,70] },none⟩,
  ⟨some 2,.assign (.tmp 10),none⟩,
  ⟨some 3,.assign (.const (.int .i64 0)),none⟩]
def s44:SCode:=(.seq q44_0 (.seq (.seq q44_1 (.cond (.tmp 6) (.seq q44_2 .ret) .skip)) (.seq q44_3 .ret)))
theorem s44_strip:Zy (Zw Tryd.f44)=s44:=by kernel_rfl
theorem s44_ok:Yn 11 (Zw Tryd.f44)=true:=by kernel_rfl
/-! 45: planchet sure.Back -/
@[reducible] def q45_0:SCode:=.region [⟨some 2,.alloc 44,none⟩,
  ⟨some 3,.assign (.const (.int .i64 0)),none⟩]
@[reducible] def q45_1:SCode:=.region [⟨some 10,.move (.tmp 0),none⟩,
  ⟨some 11,.call { callee:=.value (.func 70),args:=#[.tmp 10],argTypes:=#[22] },none⟩,
  ⟨some 12,.unOp .not 4 (.tmp 11),none⟩]
@[reducible] def q45_2:SCode:=.region [⟨some 13,.build 44 #[],none⟩,
  ⟨none,.store 44 (.tmp 2) (.tmp 13),none⟩,
  ⟨some 3,.assign (.const (.int .i64 2)),none⟩]
@[reducible] def q45_3:SCode:=.region [⟨some 4,.assign (.const (.slice none 0 0)),none⟩]
@[reducible] def q45_4:SCode:=.region [⟨some 14,.move (.const (.int .i64 0)),none⟩]
@[reducible] def q45_5:SCode:=.region [⟨some 15,.binOp .lss 3 (.tmp 14) (.const (.int .i64 8)) 3,none⟩]
@[reducible] def q45_6:SCode:=.region [⟨some 16,.move (.tmp 14),none⟩,
  ⟨some 5,.assign (.tmp 16),none⟩]
@[reducible] def q45_7:SCode:=.region [⟨some 6,.assign (.const (.int .i64 0)),none⟩]
@[reducible] def q45_8:SCode:=.region [⟨some 17,.move (.tmp 0),none⟩,
  ⟨some 18,.call { callee:=.builtin .len,args:=#[.tmp 17],argTypes:=#[22] },none⟩,
  ⟨some 19,.move (.const (.int .i64 0)),none⟩]
@[reducible] def q45_9:SCode:=.region [⟨some 20,.binOp .lss 3 (.tmp 19) (.tmp 18) 3,none⟩]
@[reducible] def q45_10:SCode:=.region [⟨some 21,.move (.tmp 19),none⟩,
  ⟨some 22,.indexAddr 22 (.tmp 17) (.tmp 19),none⟩,
  ⟨some 23,.load 3 (.tmp 22),none⟩,
  ⟨some 7,.assign (.tmp 21),none⟩,
  ⟨some 8,.assign (.tmp 23),none⟩]
@[reducible] def q45_11:SCode:=.region [⟨some 24,.move (.tmp 6),none⟩,
  ⟨some 25,.move (.tmp 8),none⟩,
  ⟨some 26,.move (.tmp 5),none⟩,
  ⟨some 27,.binOp .shr 3 (.tmp 25) (.tmp 26) 3,none⟩,
  ⟨some 28,.binOp .and 3 (.tmp 27) (.const (.int .i64 1)) 3,none⟩,
  ⟨some 29,.move (.tmp 7),none⟩,
  ⟨some 30,.binOp .shl 3 (.tmp 28) (.tmp 29) 3,none⟩,
  ⟨some 31,.binOp .or 3 (.tmp 24) (.tmp 30) 3,none⟩,
  ⟨some 6,.assign (.tmp 31),none⟩]
@[reducible] def q45_12:SCode:=.region [⟨some 32,.binOp .add 3 (.tmp 19) (.const (.int .i64 1)) 3,none⟩,
  ⟨some 19,.move (.tmp 32),none⟩]
def l45_0:SCode:=(.seq q45_9 (.seq (.cond (.tmp 20) .skip (.exit 2)) (.seq (.block 3 (.seq q45_10 q45_11)) q45_12)))
@[reducible] def q45_13:SCode:=.region [⟨some 33,.move (.tmp 6),none⟩,
  ⟨some 34,.binOp .neq 3 (.tmp 33) (.const (.int .i64 0)) 3,none⟩,
  ⟨some 35,.move (.tmp 34),none⟩,
  ⟨some 36,.move (.tmp 4),some (35,true)⟩,
  ⟨some 37,.move (.tmp 6),some (35,true)⟩,
  ⟨some 38,.call { callee:=.value (.func 72),args:=#[.tmp 36,.tmp 37],argTypes:=#[22,3] },some (35,true)⟩,
  ⟨some 39,.unOp .not 4 (.tmp 38),some (35,true)⟩,
  ⟨some 40,.pick (.tmp 35) (.tmp 39) (.const (.bool false)),none⟩]
@[reducible] def q45_14:SCode:=.region [⟨some 41,.move (.tmp 4),none⟩,
  ⟨some 42,.move (.tmp 6),none⟩,
  ⟨some 43,.buildSlice 22 1 #[(0,.tmp 42)],none⟩,
  ⟨some 44,.call { callee:=.builtin .append,args:=#[.tmp 41,.tmp 43],argTypes:=#[22,22] },none⟩,
  ⟨some 4,.assign (.tmp 44),none⟩]
@[reducible] def q45_15:SCode:=.region [⟨some 45,.binOp .add 3 (.tmp 14) (.const (.int .i64 1)) 3,none⟩,
  ⟨some 14,.move (.tmp 45),none⟩]
def l45_1:SCode:=(.seq q45_5 (.seq (.cond (.tmp 15) .skip (.exit 0)) (.seq (.block 1 (.seq q45_6 (.seq q45_7 (.seq (.seq q45_8 (.block 2 (.loop l45_0))) (.seq q45_13 (.cond (.tmp 40) q45_14 .skip)))))) q45_15)))
@[reducible] def q45_16:SCode:=.region [⟨some 46,.move (.tmp 0),none⟩,
  ⟨some 47,.call { callee:=.builtin .len,args:=#[.tmp 46],argTypes:=#[22] },none⟩,
  ⟨some 48,.move (.tmp 4),none⟩,
  ⟨some 49,.call { callee:=.value (.func 61),args:=#[.tmp 47,.tmp 48],argTypes:=#[3,22] },none⟩,
  ⟨some 9,.alloc 44,none⟩,
  ⟨none,.store 44 (.tmp 9) (.tmp 49),none⟩]
@[reducible] def q45_17:SCode:=.region [⟨some 50,.fieldAddr 44 (.tmp 9) 1,none⟩,
  ⟨some 51,.load 3 (.tmp 50),none⟩,
  ⟨some 52,.fieldAddr 44 (.tmp 9) 0,none⟩,
  ⟨some 53,.load 3 (.tmp 52),none⟩,
  ⟨some 54,.build 44 #[(0,.tmp 51),(1,.tmp 53)],none⟩,
  ⟨none,.store 44 (.tmp 2) (.tmp 54),none⟩,
  ⟨some 3,.assign (.const (.int .i64 0)),none⟩]
def s45:SCode:=(.seq q45_0 (.seq (.seq q45_1 (.cond (.tmp 12) (.seq q45_2 .ret) .skip)) (.seq q45_3 (.seq (.seq q45_4 (.block 0 (.loop l45_1))) (.seq q45_16 (.seq q45_17 .ret))))))
theorem s45_strip:Zy (Zw Tryd.f45)=s45:=by kernel_rfl
theorem s45_ok:Yn 55 (Zw Tryd.f45)=true:=by kernel_rfl
/-! 70: planchet sure.isChannel -/
@[reducible] def q70_0:SCode:=.region [⟨some 2,.assign (.const (.bool false)),none⟩]
@[reducible] def q70_1:SCode:=.region [⟨some 3,.move (.tmp 0),none⟩,
  ⟨some 4,.call { callee:=.builtin .len,args:=#[.tmp 3],argTypes:=#[22] },none⟩,
  ⟨some 5,.binOp .geq 3 (.tmp 4) (.const (.int .i64 1)) 3,none⟩,
  ⟨some 6,.move (.tmp 5),none⟩,
  ⟨some 7,.move (.tmp 0),some (6,true)⟩,
  ⟨some 8,.call { callee:=.builtin .len,args:=#[.tmp 7],argTypes:=#[22] },some (6,true)⟩,
  ⟨some 9,.binOp .leq 3 (.tmp 8) (.const (.int .i64 6)) 3,some (6,true)⟩,
  ⟨some 10,.pick (.tmp 6) (.tmp 9) (.const (.bool false)),none⟩,
  ⟨some 11,.move (.tmp 10),none⟩,
  ⟨some 12,.move (.tmp 0),some (11,true)⟩,
  ⟨some 13,.call { callee:=.value (.func 87),args:=#[.tmp 12],argTypes:=#[22] },some (11,true)⟩,
  ⟨some 14,.binOp .geq 3 (.tmp 13) (.const (.int .i64 1)) 3,some (11,true)⟩,
  ⟨some 15,.pick (.tmp 11) (.tmp 14) (.const (.bool false)),none⟩,
  ⟨some 16,.move (.tmp 15),none⟩,
  ⟨some 17,.move (.tmp 0),some (16,true)⟩,
  ⟨some 18,.call { callee:=.value (.func 93),args:=#[.tmp 17],argTypes:=#[22] },some (16,true)⟩,
  ⟨some 19,.binOp .leq 3 (.tmp 18) (.const (.int .i64 255)) 3,some (16,true)⟩,
  ⟨some 20,.pick (.tmp 16) (.tmp 19) (.const (.bool false)),none⟩,
  ⟨some 2,.assign (.tmp 20),none⟩]
def s70:SCode:=(.seq q70_0 (.seq q70_1 .ret))
theorem s70_strip:Zy (Zw Tryd.f70)=s70:=by kernel_rfl
theorem s70_ok:Yn 21 (Zw Tryd.f70)=true:=by kernel_rfl
/-! 71: planchet sure.Confusions$1 -/
@[reducible] def q71_0:SCode:=.region [⟨some 5,.assign (.const (.bool false)),none⟩]
def q71_1:SCode:=.draw [⟨some 6,.load 22 (.tmp 2),none⟩,
    ⟨some 7,.move (.tmp 0),none⟩,
    ⟨some 8,.indexAddr 22 (.tmp 6) (.tmp 7),none⟩,
    ⟨some 9,.load 3 (.tmp 8),none⟩,
    ⟨some 10,.load 22 (.tmp 2),none⟩,
    ⟨some 11,.move (.tmp 1),none⟩,
    ⟨some 12,.indexAddr 22 (.tmp 10) (.tmp 11),none⟩,
    ⟨some 13,.load 3 (.tmp 12),none⟩,
    ⟨some 14,.binOp .and 3 (.tmp 9) (.tmp 13) 3,none⟩,
    ⟨some 15,.binOp .neq 3 (.tmp 14) (.const (.int .i64 0)) 3,none⟩,
    ⟨some 5,.assign (.tmp 15),none⟩]
  [[],[],[0,1],[2],[],[],[4,5],[6],[3,7],[8],[9,0,1,2,3,4,5,6,7,8,9]]
def s71:SCode:=(.seq q71_0 (.seq q71_1 .ret))
theorem s71_strip:Zy (Zw Tryd.f71)=s71:=by kernel_rfl
theorem s71_ok:Yn 16 (Zw Tryd.f71)=true:=by kernel_rfl
theorem s71_call [Tabs Tryd.prog] {args:List Value} {h:Zh} {Q:Value→Zh→Prop} (hsz:args.length≤16) (hk:aw Tryd.prog 16 s71 (Zu Tryd.prog [.tmp 5] Q) (Zt 0 args) h):ACall Tryd.prog 71 args h Q :=
 Ww Tryd.func71 rfl (enters_of Tryd.func71 (by kernel_rfl) rfl) rfl rfl (by decide) s71_strip s71_ok hsz hk
end Go.Proofs.Tryd.Am
namespace Go.Proofs.Tryd.Am
open Go.Am Sr Bq
set_option maxRecDepth 100000
set_option maxHeartbeats 1000000
theorem gn_bit (xs:List Int) (i j:Nat):(gn xs i).testBit j=gb xs i j:=rfl
theorem cq_iff {xs:List Int} {s i:Nat} (hi:gb xs i i=false):cq xs s i=true↔(s.testBit i=true→∀ j,j≠i→s.testBit j=true→gb xs i j=true):=by
 rw [cq]
 cases hs:s.testBit i with
 | false=>simp
 | true =>
   rw [Bool.not_true,Bool.false_or,beq_iff_eq]
   constructor
   · intro h _ j hj hb
     have h1:=Yj s (gn xs i) j
     rw [h,hb,Nat.testBit_two_pow_of_ne (Ne.symm hj),gn_bit] at h1
     simpa using h1.symm
   · intro h
     refine Nat.eq_of_testBit_eq fun j=>?_
     rw [Yj,gn_bit,Nat.testBit_two_pow]
     by_cases hj:j=i
     · rw [hj,hs,hi]; simp
     · rw [decide_eq_false (fun h=>hj h.symm)]
       cases hb:s.testBit j with
       | false=>rfl
       | true=>rw [h rfl j hj hb]; rfl
theorem mem_clq {xs:List Int} (g:Gs xs) {s:Nat}:s∈clq xs↔s<2 ^ xs.length∧0<s∧∀ i,i<xs.length→s.testBit i=true→∀ j,j≠i→s.testBit j=true→gb xs i j=true:=by
 rw [clq,clqTo,List.mem_filter,List.mem_range,Bool.and_eq_true,decide_eq_true_eq,isC,List.all_eq_true]
 refine and_congr_right fun _=>and_congr_right fun _=>⟨fun h i hi=>(cq_iff (g.2.2 i hi).2.1).1 (h i (List.mem_range.2 hi)),fun h i hi=>?_⟩
 rw [List.mem_range] at hi
 exact (cq_iff (g.2.2 i hi).2.1).2 (h i hi)
theorem single_clq {xs:List Int} (g:Gs xs) {i:Nat} (hi:i<xs.length):2 ^ i∈clq xs:=by
 rw [mem_clq g]
 refine ⟨Nat.pow_lt_pow_right (by decide) hi,Nat.two_pow_pos i,fun k hk hb j hj hj2=>?_⟩
 rw [Nat.testBit_two_pow,decide_eq_true_eq] at hb hj2
 omega
def WQ (xs:List Int) (q:Rat):Prop:=IsOpt xs.length (clq xs) q∧q.num.natAbs≤4320∧q.den≤720
theorem WQ.ge {xs:List Int} (g:Gs xs) {q:Rat} (w:WQ xs q):1≤q:=by
 have h0:0<xs.length:=by have:=g.1; omega
 have:=w.1.le (fun i=>if i=0 then 1 else 0) ⟨fun i _=>by split <;> decide,fun s _=>by
  have:dot (bitQ s) (fun i=>if i=0 then 1 else 0) xs.length=bitQ s 0:=by
   have h1:=dot_unit (n:=xs.length) (t:=0) (fun i=>if i=0 then 1 else 0) (bitQ s) h0 fun i _=>rfl
   rw [← h1,dot,dot]
   exact sumTo_congr fun i _=>Rat.mul_comm _ _
  rw [this,bitQ]; split <;> decide⟩
 have e:Bq.sumTo (fun i=>if i=0 then (1:Rat) else 0) xs.length=1:=by
  have h1:=dot_unit (n:=xs.length) (t:=0) (fun i=>if i=0 then 1 else 0) (fun _=>1) h0 fun i _=>rfl
  exact (sumTo_congr fun i _=>(Rat.mul_one _).symm).trans h1
 rwa [e] at this
theorem feas_one {xs:List Int} (g:Gs xs) {x:Nat→Rat} (hx:PFeas xs.length (clq xs) x) {i:Nat} (hi:i<xs.length):x i≤1:=by
 have:=hx.le _ (single_clq g hi)
 rwa [dot_unit (bitQ (2 ^ i)) x hi fun k _=>by
  rw [bitQ,Nat.testBit_two_pow]
  by_cases h:i=k
  · rw [decide_eq_true h,if_pos rfl,if_pos h.symm]
  · rw [decide_eq_false h,if_neg (by decide),if_neg fun he=>h he.symm]] at this
theorem radd_le {a b c d:Rat} (h1:a≤b) (h2:c≤d):a+c≤b+d:=by grind
theorem sum_le_nat {x:Nat→Rat} : ∀ {n:Nat},(∀ i,i<n→x i≤1)→Bq.sumTo x n≤((n:Nat):Rat)
 | 0,_=>by rw [Bq.sumTo]; decide
 | n+1,h=>by
   have h1:=sum_le_nat (x:=x) (n:=n) fun i hi=>h i (by omega)
   have h2:=h n (by omega)
   rw [Bq.sumTo,Rat.natCast_add]
   exact radd_le h1 h2
theorem WQ.le {xs:List Int} (g:Gs xs) {q:Rat} (w:WQ xs q):q≤((xs.length:Nat):Rat):=by
 obtain ⟨x,hx,rfl⟩:=w.1.at_
 exact sum_le_nat fun i hi=>feas_one g hx hi
theorem WQ.inj {xs:List Int} {p q:Rat} (h1:WQ xs p) (h2:WQ xs q):p=q:=h1.1.inj h2.1
theorem WQ.small {xs:List Int} (g:Gs xs) {q:Rat} (w:WQ xs q):(q.den:Int)≤q.num∧q.num≤6*q.den:=by
 have h1:=w.ge g
 have h2:=w.le g
 have h6:=g.2.1
 have h3:q≤((6:Nat):Rat):=Rat.le_trans h2 (by
  have:((xs.length:Int):Rat)≤((6:Int):Rat):=Rat.intCast_le_intCast.2 (by omega)
  exact this)
 rw [Rat.le_iff] at h1 h3
 have e1:(1:Rat).num=1:=rfl
 have e2:(1:Rat).den=1:=rfl
 have e3:((6:Nat):Rat).num=6:=rfl
 have e4:((6:Nat):Rat).den=1:=rfl
 rw [e1,e2] at h1
 rw [e3,e4] at h3
 omega
theorem rless_call [Tabs prog] {h:Zh} {a b c d:Int} (h1 : -9223372036854775808≤a*d∧a*d<9223372036854775808) (h2 : -9223372036854775808≤c*b∧c*b<9223372036854775808):Wo prog 37 [frV a b,frV c d] h (.bool (decide (a*d<c*b))):=by
 refine ACall.forget (.bool _) ?_
 have e1:=Vc (Yp h (Blk.cells [Zd a,Zd b] 44 false)) [Blk.cells [Zd c,Zd d] 44 false]
 have e2:=Yp (h++[Blk.cells [Zd a,Zd b] 44 false]) (Blk.cells [Zd c,Zd d] 44 false)
 have hE:Ext (fun _=>False) h (h++[Blk.cells [Zd a,Zd b] 44 false]++[Blk.cells [Zd c,Zd d] 44 false]):=(Ext.app _ _ _).trans (Ext.app _ _ _)
 refine s37_call (by simp) ?_
 simp only [s37,frV]
 simp (maxSteps:=2000000) only [↓Za,↓Zp,↓Ya,↓Zb,↓Zc,vup,cond_true,cond_false,aop,Zg,Zt,ev,sput,Zf,Zv,Zx,Nat.reduceBEq,Nat.reduceAdd,Zu,Xu,tup,tyf,boxF,Xc,fA0,fA1,loadF0 e1,loadF1 e1,loadF0 e2,loadF1 e2,mulV_id h1.1 h1.2,mulV_id h2.1 h2.2]
 exact hE
end Go.Proofs.Tryd.Am
namespace Go.Proofs.Tryd.Am
open Go.Am Sr Bq
end Go.Proofs.Tryd.Am
namespace Go.Proofs.Tryd.Am
open Go.Am Sr
set_option maxRecDepth 100000
set_option maxHeartbeats 1000000
end Go.Proofs.Tryd.Am
namespace Go.Proofs.Tryd.Am
open Go.Am Sr
set_option maxRecDepth 100000
set_option maxHeartbeats 1000000
theorem IntSl_new (h:Zh) (xs:List Int) (e:TypeId):IntSl (h++[.ints xs e false]) (.slice (some ⟨h.length,0,none⟩) xs.length xs.length) xs :=
 .inr ⟨h.length,0,none,xs.length,xs.map Zd,e,false,rfl,Nat.le_refl _,by simp [view,Blk.view],fun i hi=>by rw [Nat.zero_add,List.getElem?_map,List.getD,List.getElem?_eq_getElem hi]; rfl⟩
theorem litI2 {h:Zh} {x y:Int} (K:Value→Zh→Prop):Yo prog h 22 2 [(0,Zd x),(1,Zd y)] K=K (.slice (some ⟨h.length,0,none⟩) 2 2) (h++[.ints [x,y] 3 false]):=by
 simp only [Yo,Xt,zero_3,Xe,reps,fillL,mkb,Wl,cellsOf,Yh,List.length_cons,List.length_nil,Nat.mul_one,Nat.zero_add]
 exact propext ⟨fun h=>h.2.2.2,fun h=>⟨trivial,by decide,by decide,h⟩⟩
theorem s21_callW [Tabs Tryd.prog] {args:List Value} {h:Zh} {Q:Value→Zh→Prop} (hsz:args.length≤15) (hk:AWS Tryd.prog 15 s21 (Zu Tryd.prog [.tmp 0] Q) (Zt 0 args) h):ACall Tryd.prog 21 args h Q :=
 Xd Tryd.func21 rfl (enters_of Tryd.func21 (by kernel_rfl) rfl) rfl rfl (by decide) s21_strip s21_ok hsz hk
theorem awake_call [BitTab prog 0] {h:Zh}:ACall prog 21 [] h fun r h'=>r = .bool true∧Ext (fun _=>False) h h':=by
 refine s21_callW (by simp) ?_
 simp only [s21]
 refine Ze fun N7 hN7=>?_
 simp (maxSteps:=2000000) only [↓Za,↓Zb,↓Zc,vup,aop,Zg,Zt,ev,sput,Zf]
 refine hN7 [(0,.bool false)] _ _ ?_ (by simp (maxSteps:=2000000) only [vup,cond_true,Nat.reduceBEq])
 clear hN7
 try clear N7
 have hi:IntSl (h++[.ints [2,1] 3 false]) (.slice (some ⟨h.length,0,none⟩) 2 2) [2,1]:=IntSl_new h [2,1] 3
 have hc:=code_call hi (by decide) (by decide) (k:=1)
 refine Ze fun N8 hN8=>?_
 simp (maxSteps:=2000000) only [↓Za,↓Zb,↓Zc,vup,List.map_cons,List.map_nil,cond_true,cond_false,aop,Zg,ev,sput,Zf,Nat.reduceBEq,Yz,List.nil_append,List.append_nil,litI2]
 refine (hc).mono ?_
 rintro r h' ⟨hE,hr⟩
 have hg:grs [2,1]=true:=by decide
 have hcl:codeL (nearL [2,1] 1)=[0]:=by decide +kernel
 rw [codeR,if_pos ⟨hg,by decide,by decide⟩] at hr
 rw [if_pos (by decide)] at hr
 obtain ⟨w,rfl,hw⟩:=hr
 rw [show (1:Int).toNat=1 from rfl,hcl] at hw
 simp (maxSteps:=2000000) only [extr_20,extr_21]
 refine hN8 [(0,.bool false),(1,w),(2,.int .i64 0)] _ _ ?_ (by simp (maxSteps:=2000000) only [vup,cond_true,cond_false,Nat.reduceBEq])
 clear hN8
 try clear N8
 have hi2:IntSl (h'++[.ints [0] 3 false]) (.slice (some ⟨h'.length,0,none⟩) 1 1) [0]:=IntSl_new h' [0] 3
 have heq:=equal_call (hw.int.grow [.ints [0] 3 false]) hi2 (by decide) (by decide)
 have e0:((0:Int)==0)=true:=rfl
 refine Zj ?_
 simp (maxSteps:=2000000) only [↓Za,↓Zp,↓Ya,↓Zb,↓Zc,↓vdn,vup,List.map_cons,List.map_nil,cond_true,cond_false,aop,Zg,ev,sput,Zf,Zv,Zx,Nat.reduceBEq,Zu,Xu,tup,Yz,List.nil_append,List.append_nil,e0,litI1]
 refine (heq).mono ?_
 rintro _ _ ⟨rfl,rfl⟩
 have hd:decide ([0].map Int.ofNat=[0])=true:=by decide
 refine ⟨congrArg Value.bool hd,?_⟩
 exact ((Ext.app (fun _=>False) h _).trans hE).trans (Ext.app _ _ _)
end Go.Proofs.Tryd.Am
namespace Go.Proofs.Tryd.Am
open Go.Am Sr
set_option maxRecDepth 100000
set_option maxHeartbeats 1000000
theorem awk [BitTab prog 0] {K:Value→Zh→Prop} {g:Zh} (hk : ∀ g',Ext (fun _=>False) g g'→K (.bool true) g'):ACall prog 21 [] g K:=awake_call.mono fun v h' ⟨h1,h2⟩=>by rw [h1]; exact hk _ h2
end Go.Proofs.Tryd.Am
set_option maxRecDepth 100000
namespace Sr
open Go.Am
def fullA (nr:List Nat):Nat:=A nr (2 ^ nr.length-1)
structure CI (nr:List Nat) (k:Nat) (s:Nat×Nat×List Nat):Prop where
 lt:s.1<2 ^ nr.length
 need:s.2.1=A nr s.1
 hi : ∀ i,s.1.testBit i=true→k≤i
 sum:s.2.2.length+A nr s.1=fullA nr
 lo : ∀ u∈s.2.2,u<k
 far : ∀ u∈s.2.2,∀ x,s.1.testBit x=true→ok nr u x=true
 pw:s.2.2.Pairwise fun x y=>x<y∧ok nr x y=true
def both (xs:List Int) (k:Nat) (a b:List Int):List Int:=a.flatMap fun x=>b.map fun y=>x*wn xs k+y
end Sr
namespace Go.Proofs.Tryd.Am
open Go.Am Sr Bq
section
variable {xs ys:List Int}
end
section
variable {xs:List Int} {i j:Nat}
end
set_option maxRecDepth 100000
set_option maxHeartbeats 1000000
theorem newF {h:Zh} {x y:Int} {K:Zh→Prop}:Xh prog (h++[Blk.cells [.int .i64 0,.int .i64 0] 44 false]) 44 (.pointer (some ⟨h.length,0,none⟩)) (.agg #[Zd x,Zd y]) K=K (h++[.cells [Zd x,Zd y] 44 false]):=by
 rw [Wy (Yp h (Blk.cells [.int .i64 0,.int .i64 0] 44 false)) rfl,set_new]
end Go.Proofs.Tryd.Am
namespace Go.Proofs.Tryd.Am
open Go.Am
set_option maxRecDepth 100000
/-! 59: planchet sure.made -/
@[reducible] def q59_0:SCode:=.region [⟨some 4,.assign (.const (.slice none 0 0)),none⟩]
@[reducible] def q59_1:SCode:=.region [⟨some 8,.move (.tmp 0),none⟩,
  ⟨some 9,.makeSlice 56 (.tmp 8) (.tmp 8),none⟩,
  ⟨some 5,.assign (.tmp 9),none⟩]
@[reducible] def q59_2:SCode:=.region [⟨some 10,.move (.tmp 0),none⟩,
  ⟨some 11,.move (.const (.int .i64 0)),none⟩]
@[reducible] def q59_3:SCode:=.region [⟨some 12,.binOp .lss 3 (.tmp 11) (.tmp 10) 3,none⟩]
@[reducible] def q59_4:SCode:=.region [⟨some 13,.move (.tmp 11),none⟩,
  ⟨some 6,.assign (.tmp 13),none⟩]
@[reducible] def q59_5:SCode:=.region [⟨some 14,.move (.tmp 0),none⟩,
  ⟨some 15,.move (.const (.int .i64 0)),none⟩]
@[reducible] def q59_6:SCode:=.region [⟨some 16,.binOp .lss 3 (.tmp 15) (.tmp 14) 3,none⟩]
@[reducible] def q59_7:SCode:=.region [⟨some 17,.move (.tmp 15),none⟩,
  ⟨some 7,.assign (.tmp 17),none⟩]
@[reducible] def q59_8:SCode:=.region [⟨some 18,.move (.tmp 6),none⟩,
  ⟨some 19,.move (.tmp 7),none⟩,
  ⟨some 20,.binOp .neq 3 (.tmp 18) (.tmp 19) 3,none⟩,
  ⟨some 21,.move (.tmp 20),none⟩,
  ⟨some 22,.move (.tmp 1),some (21,true)⟩,
  ⟨some 23,.move (.tmp 6),some (21,true)⟩,
  ⟨some 24,.move (.tmp 7),some (21,true)⟩,
  ⟨some 25,.call { callee:=.value (.tmp 22),args:=#[.tmp 23,.tmp 24],argTypes:=#[3,3] },some (21,true)⟩,
  ⟨some 26,.pick (.tmp 21) (.tmp 25) (.const (.bool false)),none⟩]
def q59_9:SCode:=.draw [⟨some 27,.move (.tmp 5),none⟩,
    ⟨some 28,.move (.tmp 6),none⟩,
    ⟨some 29,.indexAddr 56 (.tmp 27) (.tmp 28),none⟩,
    ⟨some 30,.load 3 (.tmp 29),none⟩,
    ⟨some 31,.move (.tmp 7),none⟩,
    ⟨some 32,.binOp .shl 3 (.const (.int .i64 1)) (.tmp 31) 3,none⟩,
    ⟨some 33,.binOp .or 3 (.tmp 30) (.tmp 32) 3,none⟩,
    ⟨some 34,.indexAddr 56 (.tmp 27) (.tmp 28),none⟩,
    ⟨none,.store 3 (.tmp 34) (.tmp 33),none⟩]
  [[],[],[0,1],[2],[],[4],[3,5],[0,1,0,1,2,3,4,5,6],[7,6,0,1,2,3,4,5,6]]
@[reducible] def q59_10:SCode:=.region [⟨some 35,.binOp .add 3 (.tmp 15) (.const (.int .i64 1)) 3,none⟩,
  ⟨some 15,.move (.tmp 35),none⟩]
def l59_0:SCode:=(.seq q59_6 (.seq (.cond (.tmp 16) .skip (.exit 2)) (.seq (.block 3 (.seq q59_7 (.seq q59_8 (.cond (.tmp 26) q59_9 .skip)))) q59_10)))
@[reducible] def q59_11:SCode:=.region [⟨some 36,.binOp .add 3 (.tmp 11) (.const (.int .i64 1)) 3,none⟩,
  ⟨some 11,.move (.tmp 36),none⟩]
def l59_1:SCode:=(.seq q59_3 (.seq (.cond (.tmp 12) .skip (.exit 0)) (.seq (.block 1 (.seq q59_4 (.seq q59_5 (.block 2 (.loop l59_0))))) q59_11)))
@[reducible] def q59_12:SCode:=.region [⟨some 37,.move (.tmp 5),none⟩,
  ⟨some 4,.assign (.tmp 37),none⟩]
def s59:SCode:=(.seq q59_0 (.seq q59_1 (.seq (.seq q59_2 (.block 0 (.loop l59_1))) (.seq q59_12 .ret))))
theorem s59_strip:Zy (Zw Tryd.f59)=s59:=by kernel_rfl
theorem s59_ok:Yn 38 (Zw Tryd.f59)=true:=by kernel_rfl
end Go.Proofs.Tryd.Am
namespace Go.Proofs.Tryd.Am
open Go.Am Sr
set_option maxRecDepth 100000
set_option maxHeartbeats 1000000
def Wu (f:Nat→Nat→Nat) (m i j:Nat):List Nat:=(List.range m).map fun r=>if r<i then f r m else if r=i then f r j else 0
section
variable {f:Nat→Nat→Nat} {m i j:Nat}
theorem Wr:(Wu f m i j).length=m:=by simp [Wu]
theorem rowsN_at {t:Nat} (h:t<m):(Wu f m i j)[t]? = some (if t<i then f t m else if t=i then f t j else 0):=by
 rw [Wu,List.getElem?_map,List.getElem?_range h]; rfl
theorem rowsN_get (hi:i<m):(Wu f m i j).getD i 0=f i j:=by
 rw [List.getD,rowsN_at hi,if_neg (Nat.lt_irrefl _),if_pos rfl]; rfl
theorem rowsN_zero (h0:f 0 0=0):Wu f m 0 0=List.replicate m 0:=by
 apply List.ext_getElem?
 intro t
 by_cases h:t<m
 · rw [rowsN_at h,List.getElem?_replicate,if_pos h,if_neg (Nat.not_lt_zero _)]
   by_cases e:t=0
   · subst e; rw [if_pos rfl,h0]
   · rw [if_neg e]
 · rw [List.getElem?_eq_none (by rw [Wr]; omega),List.getElem?_eq_none (by simp; omega)]
theorem rowsN_set {k:Nat}:(Wu f m i j).set i (f i k)=Wu f m i k:=by
 apply List.ext_getElem?
 intro t
 by_cases h:t<m
 · rw [List.getElem?_set,rowsN_at h,rowsN_at h,Wr]
   by_cases e:i=t
   · subst e; simp [h]
   · simp [e,Ne.symm e]
 · rw [List.getElem?_eq_none (by rw [List.length_set,Wr]; omega),List.getElem?_eq_none (by rw [Wr]; omega)]
theorem rowsN_next (h0 : ∀ r,f r 0=0):Wu f m i m=Wu f m (i+1) 0:=by
 apply List.ext_getElem?
 intro t
 by_cases h:t<m
 · rw [rowsN_at h,rowsN_at h,h0]
   by_cases h1:t<i
   · rw [if_pos h1,if_pos (by omega)]
   · rw [if_neg h1]
     by_cases h2:t=i
     · subst h2; rw [if_pos rfl,if_pos (by omega)]
     · rw [if_neg h2,if_neg (by omega)]; split <;> rfl
 · rw [List.getElem?_eq_none (by rw [Wr]; omega),List.getElem?_eq_none (by rw [Wr]; omega)]
theorem rowsN_all:Wu f m m 0=(List.range m).map fun r=>f r m:=by
 rw [Wu]
 refine List.map_congr_left fun r hr=>?_
 rw [if_pos (List.mem_range.1 hr)]
end
def rwM (p:Nat→Nat→Bool) (i j:Nat):Nat:=mk (fun c=>i != c&&p i c) j
def mat (p:Nat→Nat→Bool) (m:Nat):List Nat:=(List.range m).map fun r=>rwM p r m
theorem rwM_lt (p:Nat→Nat→Bool) (i j:Nat):rwM p i j<2 ^ j:=mk_lt _ _
theorem rwM_yes {p:Nat→Nat→Bool} {i j:Nat} (hij:(i==j)=false) (hp:p i j=true):rwM p i (j+1)=rwM p i j ||| 2 ^ j:=by
 rw [rwM,mk,if_pos (by rw [hp,bne,hij]; rfl)]; rfl
theorem rwM_no {p:Nat→Nat→Bool} {i j:Nat} (h:(i==j)=true∨p i j=false):rwM p i (j+1)=rwM p i j:=by
 rw [rwM,mk,if_neg]
 · rfl
 · rcases h with h | h
   · rw [bne,h]; simp
   · rw [h,Bool.and_false]; decide
theorem mat_len (p:Nat→Nat→Bool) (m:Nat):(mat p m).length=m:=by simp [mat]
abbrev tabH (h:Zh) (L:List Nat):Zh:=h++[.ints (iL L) 3 false]
section
variable {h:Zh} {f:Nat→Nat→Nat} {m i j:Nat}
theorem tH_idx {t:TypeId} (he:elemOf' prog t=some 3) (hi:i<m) {K:Value→Prop}:Yy prog t (tv h.length m) (Zd i) K=K (.pointer (some ⟨h.length,i,none⟩)):=by
 have h1:=intSl_blk (Yp h (.ints (List.replicate m 0) 3 false))
 rw [List.length_replicate] at h1
 rw [h1.idx he Xe (by rw [List.length_replicate]; exact hi),elemP_new]
theorem tH_load (hi:i<m) {K:Value→Prop}:Xq prog (tabH h (Wu f m i j)) 3 (.pointer (some ⟨h.length,i,none⟩)) K=K (Zd (f i j:Nat)):=by
 rw [tab_load (Yp _ _) Wr hi,rowsN_get hi]
theorem tH_store (hi:i<m) {k:Nat} {K:Zh→Prop}:Xh prog (tabH h (Wu f m i j)) 3 (.pointer (some ⟨h.length,i,none⟩)) (Zd (f i k:Nat)) K=K (tabH h (Wu f m i k)):=by
 rw [tab_store (Yp _ _) Wr hi,set_last,rowsN_set]
end
theorem s59_callW [Tabs Tryd.prog] {args:List Value} {h:Zh} {Q:Value→Zh→Prop} (hsz:args.length≤38) (hk:AWS Tryd.prog 38 s59 (Zu Tryd.prog [.tmp 4] Q) (Zt 0 args) h):ACall Tryd.prog 59 args h Q :=
 Xd Tryd.func59 rfl (enters_of Tryd.func59 (by kernel_rfl) rfl) rfl rfl (by decide) s59_strip s59_ok hsz hk
theorem made_call [Tabs prog] {h:Zh} {fv:Value} {p:Nat→Nat→Bool} {m:Nat} (hm:m≤6) (hf : ∀ {hp:Zh},Ext (fun _=>False) h hp→∀ i j:Nat,i<m→j<m→∀ {K:Value→Zh→Prop},K (.bool (p i j)) hp→Yz prog false fv [Zd i,Zd j] hp K) :
  ACall prog 59 [Zd m,fv] h fun r h'=>IntSl h' r (iL (mat p m))∧Ext (fun _=>False) h h':=by
 have hnn : ∀ i:Nat,(0:Int)≤(i:Int):=Int.natCast_nonneg
 refine s59_callW (by simp) ?_
 simp only [s59]
 refine Ze fun N1 hN1=>?_
 simp (maxSteps:=2000000) only [↓Za,↓Zb,↓Zc,vup,cond_false,aop,Zg,Zt,ev,sput,Zf,Nat.reduceBEq,Nat.reduceAdd]
 refine hN1 [(0,Zd m),(1,fv),(4,.slice none 0 0)] _ _ ?_ (by simp (maxSteps:=2000000) only [vup,cond_true,cond_false,Nat.reduceBEq])
 clear hN1
 try clear N1
 have hr0:List.replicate m (0:Int)=iL (Wu (rwM p) m 0 0):=by rw [rowsN_zero rfl]; simp [iL]
 refine Ze fun N2 hN2=>?_
 simp (maxSteps:=2000000) only [↓Za,↓Zb,↓Zc,vup,cond_true,cond_false,aop,Zg,ev,sput,Zf,Nat.reduceBEq,makeI el_56 zero_3 info_3 (Int.natCast_nonneg m) (show ((m:Nat):Int)≤35184372088832 by omega),Int.toNat_natCast,hr0]
 refine hN2 [(0,Zd m),(1,fv),(4,.slice none 0 0),(5,tv h.length m)] _ _ ?_ (by simp (maxSteps:=2000000) only [vup,cond_true,cond_false,Nat.reduceBEq])
 clear hN2
 try clear N2
 refine Ze fun Z hZ=>?_
 simp (maxSteps:=2000000) only [↓Za,↓Zp,↓Yt,↓Zb,↓Zc,vup,cond_true,cond_false,aop,Zg,ev,sput,Zf,Nat.reduceBEq,↓Xr]
 refine Zm fun Q hQ=>?_
 have hE : ∀ i j,Ext (fun _=>False) h (tabH h (Wu (rwM p) m i j)):=fun i j=>Ext.app _ _ _
 refine Yl (γ:=Nat) (fun i=>i≤m)
  (fun i=>([(0,Zd m),(1,fv),(4,.slice none 0 0),(5,tv h.length m),(10,Zd m),(11,Zd i)],tabH h (Wu (rwM p) m i 0))) (fun i=>m-i) 0 (Nat.zero_le _) (by simp (maxSteps:=2000000) only [vup,cond_true,cond_false,Nat.reduceBEq,Int.natCast_zero]) rfl ?_
 intro i hi
 refine Zm fun Q2 hQ2=>?_
 simp only [l59_1]
 by_cases hin:(i:Int)<m
 · have hi' : i<m:=by omega
   refine Ze fun N3 hN3=>?_
   simp (maxSteps:=2000000) only [↓Za,↓Zb,↓Zc,vup,cond_true,cond_false,aop,Zg,ev,sput,Zf,Zv,Zx,Nat.reduceBEq,hin]
   refine hN3 [(0,Zd m),(1,fv),(4,.slice none 0 0),(5,tv h.length m),(10,Zd m),(11,Zd i),(12,.bool true)] _ _ ?_ (by simp (maxSteps:=2000000) only [vup,cond_true,cond_false,Nat.reduceBEq])
   clear hN3
   try clear N3
   refine Ze fun N4 hN4=>?_
   simp (maxSteps:=2000000) only [↓Zn,↓vdn,vup,cond_true,cond_false,Zg,ev,Nat.reduceBEq]
   refine hN4 [(0,Zd m),(1,fv),(4,.slice none 0 0),(5,tv h.length m),(10,Zd m),(11,Zd i)] _ _ ?_ (by simp (maxSteps:=2000000) only [vup,cond_true,cond_false,Nat.reduceBEq])
   clear hN4
   try clear N4
   refine Zk fun K hK=>?_
   refine Zo ?_
   refine Ze fun N5 hN5=>?_
   simp (maxSteps:=2000000) only [↓Za,↓Zb,↓Zc,vup,cond_true,cond_false,aop,Zg,ev,sput,Zf,Nat.reduceBEq]
   refine hN5 [(0,Zd m),(1,fv),(4,.slice none 0 0),(5,tv h.length m),(6,Zd i),(10,Zd m),(11,Zd i)] _ _ ?_ (by simp (maxSteps:=2000000) only [vup,cond_true,cond_false,Nat.reduceBEq])
   clear hN5
   try clear N5
   refine Zj ?_
   simp (maxSteps:=2000000) only [↓Za,↓Zp,↓Yt,↓Zb,↓Zc,vup,cond_true,cond_false,aop,Zg,ev,sput,Zf,Nat.reduceBEq,↓Xr]
   refine Zm fun Q3 hQ3=>?_
   refine aw_loop (γ:=Nat) (fun j=>j≤m)
    (fun j=>([(0,Zd m),(1,fv),(4,.slice none 0 0),(5,tv h.length m),(6,Zd i),(10,Zd m),(11,Zd i),(14,Zd m),(15,Zd j)],tabH h (Wu (rwM p) m i j))) (fun j=>m-j) 0 (Nat.zero_le _) (by simp (maxSteps:=2000000) only [vup,cond_true,cond_false,Nat.reduceBEq,Int.natCast_zero]) rfl ?_
   intro j hj
   refine aw_hide fun Q4 hQ4=>?_
   by_cases hjn:(j:Int)<m
   · have hj' : j<m:=by omega
     have same:(i==j)=true∨p i j=false→tabH h (Wu (rwM p) m i (j+1))=tabH h (Wu (rwM p) m i j):=fun h1=>by
      rw [tabH,tabH,← rowsN_set (j:=j) (k:=j+1),rwM_no h1,rowsN_set]
     cases hij:(i==j) with
     | true =>
       simp (maxSteps:=2000000) only [↓Za,↓Zn,↓Zp,↓Yt,↓Zb,↓Zc,↓vdn,vup,cond_true,cond_false,aop,Zg,Zl,ev,sput,Zf,Zv,Zx,Nat.reduceBEq,l59_0,hjn,bneN,hij,Wx (show j<9223372036854775807 by omega)]
       exact hQ4 _ _ _ ⟨j+1,by omega,by omega,by simp (maxSteps:=2000000) only [vup,cond_true,cond_false,Nat.reduceBEq],(same (.inl hij)).symm⟩
     | false =>
       simp (maxSteps:=2000000) only [↓Za,↓Zn,↓Zp,↓Yt,↓Zb,↓Zc,↓vdn,vup,List.map_cons,List.map_nil,cond_true,cond_false,aop,Zg,ev,sput,Zf,Zv,Zx,Nat.reduceBEq,l59_0,hjn,bneN,hij]
       refine hf (hE i j) i j hi' hj' ?_
       cases hp:p i j with
       | true =>
         have p1:=rwM_lt p i j
         have p2:2 ^ (j+1)≤2 ^ 6:=Nat.pow_le_pow_right (by decide) (by omega)
         have p3:2 ^ (j+1)=2 ^ j*2:=Nat.pow_succ ..
         have hor:Wj .or .i64 ((rwM p i j:Nat):Int) ((2 ^ j:Nat):Int)=((rwM p i (j+1):Nat):Int):=by
          rw [bitsV_or (by omega) (by omega),rwM_yes hij hp]
         simp (maxSteps:=2000000) only [↓vdn,vup,cond_true,cond_false,ev,Nat.reduceBEq]
         refine Xp [] (by kernel_rfl) (by kernel_rfl) (by kernel_rfl) (by kernel_rfl) ?_
         simp (maxSteps:=2000000) only [↓Za,↓Zb,↓Zc,↓Yw,↓vdn,vup,cond_true,cond_false,aop,Zg,Zl,ev,sput,Zf,Zv,Zx,Nat.reduceBEq,Nat.reduceAdd,tyf,tH_idx el_56 hi',tH_load hi',hnn,shlI1 (show j≤62 by omega),hor,tH_store hi',Wx (show j<9223372036854775807 by omega)]
         exact hQ4 _ _ _ ⟨j+1,by omega,by omega,by simp (maxSteps:=2000000) only [vup,cond_true,cond_false,Nat.reduceBEq],rfl⟩
       | false =>
         simp (maxSteps:=2000000) only [↓Za,↓Zn,↓Zb,↓Zc,↓vdn,vup,cond_true,cond_false,aop,Zg,Zl,ev,sput,Zf,Zv,Zx,Nat.reduceBEq,Wx (show j<9223372036854775807 by omega)]
         exact hQ4 _ _ _ ⟨j+1,by omega,by omega,by simp (maxSteps:=2000000) only [vup,cond_true,cond_false,Nat.reduceBEq],(same (.inr hp)).symm⟩
   · obtain rfl:m=j:=by omega
     simp (maxSteps:=2000000) only [↓Za,↓Zp,↓Yi,↓Zb,↓Zc,↓vdn,vup,cond_true,cond_false,aop,Zg,ev,sput,Zf,Zv,Zx,Nat.reduceBEq,l59_0,Int.lt_irrefl]
     refine hQ4 _ _ _ (hQ3 _ _ _ ?_)
     simp (maxSteps:=2000000) only [Zg,Zl,if_true]
     refine hK [(0,Zd m),(1,fv),(4,.slice none 0 0),(5,tv h.length m),(10,Zd m),(11,Zd i)] _ _ ?_ (by simp (maxSteps:=2000000) only [vup,cond_true,cond_false,Nat.reduceBEq])
     clear hK
     try clear K
     refine Zj ?_
     simp (maxSteps:=2000000) only [↓Za,↓Zb,↓Zc,vup,cond_true,cond_false,aop,ev,sput,Zf,Zv,Zx,Nat.reduceBEq,Wx (show i<9223372036854775807 by omega)]
     refine hQ2 _ _ _ ⟨i+1,by omega,by omega,by simp (maxSteps:=2000000) only [vup,cond_true,cond_false,Nat.reduceBEq],?_⟩
     simp only [tabH]
     rw [rowsN_next fun _=>rfl]
 · obtain rfl:m=i:=by omega
   refine Ze fun K hK=>?_
   simp (maxSteps:=2000000) only [↓Za,↓Zb,↓Zc,vup,cond_true,cond_false,aop,Zg,ev,sput,Zf,Zv,Zx,Nat.reduceBEq,Int.lt_irrefl]
   refine hK [(0,Zd m),(1,fv),(4,.slice none 0 0),(5,tv h.length m),(10,Zd m),(11,Zd m),(12,.bool false)] _ _ ?_ (by simp (maxSteps:=2000000) only [vup,cond_true,cond_false,Nat.reduceBEq])
   clear hK
   try clear K
   refine Zj ?_
   simp (maxSteps:=2000000) only [↓Zp,↓Yi,↓vdn,vup,cond_true,cond_false,Zg,ev,Nat.reduceBEq]
   refine hQ2 _ _ _ (hQ _ _ _ ?_)
   simp (maxSteps:=2000000) only [Zg,Zl,Zu,if_true]
   refine hZ [(0,Zd m),(1,fv),(4,.slice none 0 0),(5,tv h.length m)] _ _ ?_ (by simp (maxSteps:=2000000) only [vup,cond_true,cond_false,Nat.reduceBEq])
   clear hZ
   try clear Z
   refine Zj ?_
   simp (maxSteps:=2000000) only [↓Za,↓Zp,↓Ya,↓Zb,↓Zc,vup,cond_true,cond_false,aop,Zg,ev,sput,Zf,Nat.reduceBEq,Zu,Xu,tup]
   have h1:=intSl_blk (Yp h (.ints (iL (Wu (rwM p) m m 0)) 3 false))
   rw [iL_len,Wr,rowsN_all] at h1
   refine ⟨?_,Ext.app _ _ _⟩
   rw [tabH,rowsN_all]
   exact h1
end Go.Proofs.Tryd.Am
namespace Go.Proofs.Tryd.Am
open Go.Am Sr
set_option maxRecDepth 100000
set_option maxHeartbeats 1000000
end Go.Proofs.Tryd.Am
namespace Go.Proofs.Tryd.Am
open Go.Am Sr
set_option maxRecDepth 100000
set_option maxHeartbeats 1000000
def sumTo (xs ys:List Int) (j:Nat):List Int:=xs++(List.range j).map fun t=>((gn ys t*2 ^ xs.length:Nat):Int)
theorem Yk (xs ys:List Int):sumTo xs ys 0=xs:=by simp [sumTo]
end Go.Proofs.Tryd.Am
namespace Go.Proofs.Tryd.Am
open Go.Am Sr
set_option maxRecDepth 100000
set_option maxHeartbeats 1000000
end Go.Proofs.Tryd.Am
namespace Go.Proofs.Tryd.Am
open Go.Am
set_option maxRecDepth 100000
end Go.Proofs.Tryd.Am
namespace Go.Proofs.Tryd.Am
open Go.Am Sr
set_option maxRecDepth 100000
set_option maxHeartbeats 1000000
section
variable {xs ys:List Int}
end
section
variable {xs:List Int}
end
end Go.Proofs.Tryd.Am
namespace Go.Proofs.Tryd.Am
open Go.Am Sr
section
variable {xs ys:List Int}
end
end Go.Proofs.Tryd.Am
