/-
  order: the making of a plan; Sort.
  order: whether Nodes have the form of a plan.
  Plain theory: of an order of at most six elements that is no chain some pair stands in one order in a third to two thirds of the lines: decided, with the elements in the order of how many are below them.
  Plain theory: an order that is no chain has a pair whose chance is from a third to two thirds: the elements are renamed, those with fewer below them first.
  Plain theory: what OrderSums asks: chances that sum to one, heights that sum to half of n (n - 1), the most even pair.
-/
import Derived.Test.YtnjacpfahhjpiaaDoorPk9
import Derived.Test.YtnjacpfahhjpiaaDoorPk7
import Derived.KernelRfl
set_option linter.all false
namespace Go.Proofs.Tryd.Am
open Go.Am Ord
set_option maxRecDepth 100000
set_option maxHeartbeats 4000000
def PlanOn (f:Nat→Qd) (lo hi:Nat):Nat→Int→List Int→Nat→Prop
 | 0,a,o,d=>cn o=1∧a = -1∧d=0
 | n+1,a,o,d=>(cn o=1∧a = -1∧d=0)∨∃ (k i j:Nat) (l m:Int) (x y:Nat),a=k∧lo≤k∧k<hi∧f k=((i:Int),(j:Int),l,m)∧cn o≠1∧fr o i j=true∧PlanOn f lo hi n l (Wp o i j) x∧PlanOn f lo hi n m (Wp o j i) y∧d=1+max x y
theorem PlanOn.mono {f g:Nat→Qd} {lo hi lo' hi' : Nat} (hlo:lo'≤lo) (hhi:hi≤hi') (hfg : ∀ k,lo≤k→k<hi→g k=f k) : ∀ {n:Nat} {a:Int} {o:List Int} {d:Nat},PlanOn f lo hi n a o d→PlanOn g lo' hi' n a o d
 | 0,_,_,_,h=>h
 | n+1,_,_,_,.inl h=>.inl h
 | n+1,_,_,_,.inr ⟨k,i,j,l,m,x,y,h1,h2,h3,h4,h5,h6,h7,h8,h9⟩=>.inr ⟨k,i,j,l,m,x,y,h1,by omega,by omega,by rw [hfg k h2 h3]; exact h4,h5,h6,h7.mono hlo hhi hfg,h8.mono hlo hhi hfg,h9⟩
theorem PlanOn.le {f:Nat→Qd} {lo hi:Nat} : ∀ {n:Nat} {a:Int} {o:List Int} {d:Nat},PlanOn f lo hi n a o d→d≤n
 | 0,_,_,_,h=>by rw [h.2.2]; exact Nat.le_refl _
 | n+1,_,_,_,.inl h=>by rw [h.2.2]; exact Nat.zero_le _
 | n+1,_,_,_,.inr ⟨k,i,j,l,m,x,y,_,_,_,_,_,_,h7,h8,h9⟩=>by
   have:=h7.le; have:=h8.le; omega
theorem PlanOn.at {f:Nat→Qd} {lo hi:Nat} : ∀ {n:Nat} {a:Int} {o:List Int} {d:Nat},PlanOn f lo hi n a o d→a = -1∨((lo:Int)≤a∧a<hi)
 | 0,_,_,_,h=>.inl h.2.1
 | n+1,_,_,_,.inl h=>.inl h.2.1
 | n+1,_,_,_,.inr ⟨k,i,j,l,m,x,y,h1,h2,h3,_⟩=>.inr (by omega)
theorem plan_len {P:List Qd} {lo:Nat} : ∀ {n:Nat} {a:Int} {o:List Int} {d F:Nat},PlanOn (fun k=>P.getD k qd0) lo P.length n a o d→n<F→lenV P F a o=(d,true)
 | 0,a,o,d,F+1,h,_=>by
   obtain ⟨h1,rfl,rfl⟩:=h
   rw [lenV,if_pos rfl,h1]; rfl
 | n+1,a,o,d,F+1,.inl h,_=>by
   obtain ⟨h1,rfl,rfl⟩:=h
   rw [lenV,if_pos rfl,h1]; rfl
 | n+1,a,o,d,F+1,.inr ⟨k,i,j,l,m,x,y,h1,h2,h3,h4,h5,h6,h7,h8,h9⟩,hF=>by
   subst h1
   rw [lenV_at h4 h5,if_pos h6,plan_len h7 (by omega),plan_len h8 (by omega),if_pos rfl,h9]
theorem len_srtb {n:Nat} {P:List Qd} (hP:isPlB n P=true) : ∀ (F:Nat) (a:Int) (o:List Int),ord o=true→o.length=n→(a = -1∨(0≤a∧a<P.length))→(lenV P F a o).2=true→Wv (lenV P F a o).1 o=true
 | 0,_,_,_,_,_,h=>by cases h
 | F+1,a,o,ho,hon,ha,h=>by
   by_cases hm1:a = -1
   · rw [lenV,if_pos hm1] at h ⊢
     exact srtb_one (by simpa using h)
   by_cases h1:cn o=1
   · exact srtb_one h1
   obtain ⟨a0,al⟩:=ha.resolve_left hm1
   obtain ⟨k,rfl⟩ : ∃ k:Nat,a=k:=⟨a.toNat,by omega⟩
   obtain ⟨i,j,l,m,hp,hi,hj,hij,hlx,hmx⟩:=node_nat ((isPl_ok hP).2 k (by omega))
   rw [← hon] at hi hj
   rw [lenV_at hp h1] at h ⊢
   cases hf:fr o i j with
   | false=>simp [hf] at h
   | true =>
     simp only [hf,if_true] at h ⊢
     obtain ⟨f1,f2,f3⟩:=fr_out hf
     have o1:=Xu ho hi hj f1 f3
     have o2:=Xu ho hj hi (Ne.symm f1) f2
     cases hok:(lenV P F l (Wp o i j)).2 with
     | false=>simp [hok] at h
     | true =>
       simp only [hok,if_true] at h ⊢
       have s1:=len_srtb hP F l (Wp o i j) o1 (by rw [Xh]; exact hon) (hlx.imp id fun h=>⟨by omega,h.2⟩) hok
       have s2:=len_srtb hP F m (Wp o j i) o2 (by rw [Xh]; exact hon) (hmx.imp id fun h=>⟨by omega,h.2⟩) h
       have t1:=srtb_le s1 (Nat.le_max_left _ (lenV P F m (Wp o j i)).1)
       have t2:=srtb_le s2 (Nat.le_max_right (lenV P F l (Wp o i j)).1 _)
       generalize max (lenV P F l (Wp o i j)).1 (lenV P F m (Wp o j i)).1=M at t1 t2 ⊢
       have hc:=fr_sum ho hi hj hf
       have c1:=srtb_cn t1
       have c2:=srtb_cn t2
       have hle:cn o≤2 ^ (M+1):=by rw [Nat.pow_succ]; omega
       show Wv (1+M) o=true
       rw [Nat.add_comm,srtb_succ,decide_eq_true hle,Bool.true_and]
       have hpb:pairB M o=true:=by
        rcases Nat.lt_or_gt_of_ne f1 with g | g
        · exact pairB_true g hj hf (by rw [bothB,t1,t2]; rfl)
        · exact pairB_true g hi (by rw [fr_comm]; exact hf) (by rw [bothB,t1,t2]; rfl)
       rw [hpb,Bool.or_true]
theorem extTo {S S1 S2:Nat→Prop} {h h1 h2:Yb} (e1:Ext S1 h h1) (e2:Ext S2 h1 h2) (s1 : ∀ b,b<h.length→S1 b→S b) (s2 : ∀ b,b<h.length→S2 b→S b):Ext S h h2 :=
 ⟨Nat.le_trans e1.1 e2.1,fun i hi hn=>(e2.2 i (Nat.lt_of_lt_of_le hi e1.1) fun hs=>hn (s2 i hi hs)).trans (e1.2 i hi fun hs=>hn (s1 i hi hs))⟩
theorem bldX {i j:Nat} {K:Value→Prop}:Ww prog 108 [(0,Zx (i:Nat)),(1,Zx (j:Nat))] K=K (qV ((i:Int),(j:Int),0,0)):=by
 simp [Ww,zero_108,fillL,pl_108_0,pl_108_1,Va,cellsOf,Yj,qV]
theorem st42 {h:Yb} {b:Nat} {p:Qd} {x:Int} {e:TypeId} {K:Yb→Prop} (hb:h[b]? = some (.cells (c4 p) e false)):Xv prog h 3 (.pointer (some ⟨b,2,none⟩)) (Zx x) K=K (h.set b (.cells (c4 (p.1,p.2.1,x,p.2.2.2)) e false)):=storeC hb Xd rfl (by simp)
theorem st43 {h:Yb} {b:Nat} {p:Qd} {x:Int} {e:TypeId} {K:Yb→Prop} (hb:h[b]? = some (.cells (c4 p) e false)):Xv prog h 3 (.pointer (some ⟨b,3,none⟩)) (Zx x) K=K (h.set b (.cells (c4 (p.1,p.2.1,p.2.2.1,x)) e false)):=storeC hb Xd rfl (by simp)
def PlanR (bs bm:Nat) (o:List Int) (n:Nat) (l:Value) (L:List Qd) (h:Yb) (r:Value) (h' : Yb):Prop :=
 ∃ (l' : Value) (a:Int) (N:List Qd) (d:Nat),r = .tuple #[l',Zx a]∧OwnQ 108 h' l' (L++N)∧N.length+1=cn o∧SK bs bm h'∧Ext (fun b=>b=bm∨Ye l=some b) h h'∧(Ye l' = Ye l∨∃ b,Ye l' = some b∧h.length≤b) ∧
   PlanOn (fun k=>(L++N).getD k qd0) L.length (L.length+N.length) n a o d∧(∀ k,L.length≤k→k<L.length+N.length→nodeB o.length (L.length+N.length) k ((L++N).getD k qd0)=true)∧(a = -1∨a=(L.length:Int))∧(a = -1→cn o=1)
theorem nodeB_mono {n len len' k:Nat} {p:Qd} (h:nodeB n len k p=true) (hl:len≤len'):nodeB n len' k p=true:=by
 obtain ⟨a,b,l,m⟩:=p
 simp only [nodeB,nxB,Bool.and_eq_true,Bool.not_eq_true',Bool.or_eq_false_iff,decide_eq_false_iff_not] at h ⊢
 refine ⟨h.1,h.2.1,h.2.2.1,⟨h.2.2.2.1.1,by omega⟩,h.2.2.2.2.1,by omega⟩
theorem nodeB_mk {n len k i j:Nat} {l m:Int} (hi:i<n) (hj:j<n) (hij:i≠j) (hk:k<len) (hl:l = -1∨((k:Int)<l∧l<len)) (hm:m = -1∨((k:Int)<m∧m<len)):nodeB n len k ((i:Int),(j:Int),l,m)=true:=by
 simp only [nodeB,elB,nxB,Bool.and_eq_true,decide_eq_true_eq,Bool.not_eq_true',beq_eq_false_iff_ne,Bool.or_eq_false_iff,Bool.and_eq_false_iff,bne_eq_false_iff_eq,decide_eq_false_iff_not]
 refine ⟨⟨by omega,by omega⟩,⟨by omega,by omega⟩,by omega,⟨?_,by omega⟩,?_,by omega⟩
 · rcases hl with h | h
   · exact .inl h
   · exact .inr (by omega)
 · rcases hm with h | h
   · exact .inl h
   · exact .inr (by omega)
theorem getD_appL {L N:List Qd} {k:Nat} (h:k<L.length):(L++N).getD k qd0=L.getD k qd0:=by
 rw [List.getD,List.getD,List.getElem?_append_left h]
theorem getD_mid {L N:List Qd} {x:Qd}:(L++x::N).getD L.length qd0=x:=by
 rw [List.getD,List.getElem?_append_right (Nat.le_refl _),Nat.sub_self]; rfl
theorem getD_setQ {L:List Qd} {x:Qd} {i k:Nat} (h:i≠k):(L.set i x).getD k qd0=L.getD k qd0:=by
 rw [List.getD,List.getD,List.getElem?_set_ne h]
def PlanOK [BitTab prog 1] (bs bm n:Nat):Prop:=∀ (h:Yb) (o:List Int) (l:Value) (L:List Qd),ord o=true→Wv n o=true→SK bs bm h→OwnQ 108 h l L→L.length+cn o≤1000000 →
    ACall prog 91 [ptB bs,ordV o,Zx (n:Nat),l] h (PlanR bs bm o n l L h)
theorem s91_callW [Tabs Tryd.prog] {args:List Value} {h:Yb} {Q:Value→Yb→Prop} (hsz:args.length≤71) (hk:AWS Tryd.prog 71 s91 (Zu Tryd.prog [.tmp 8,.tmp 9] Q) (Zp 0 args) h):ACall Tryd.prog 91 args h Q :=
 Wn Tryd.func91 rfl (enters_of Tryd.func91 (by kernel_rfl) rfl) rfl rfl (by decide) s91_strip s91_ok hsz hk
theorem plan_step [BitTab prog 1] {bs bm n:Nat} (hn:n≤60) (ih : ∀ m,n=m+1→PlanOK bs bm m):PlanOK bs bm n:=by
 intro h o l L ho hsr hs hown hLl
 have hl:=Yz ho
 have hcp:=cn_pos ho
 have hc4:=cn_le ho
 refine s91_callW (by simp) ?_
 simp only [s91]
 refine Yc fun N1 hN1=>?_
 try simp (maxSteps:=2000000) only [s91,↓Za,↓Zi,↓Zr,↓Ze,↓Zj,↓Zs,↓Zg,↓Zo,↓Zf,↓Zb,↓Zc,↓vdn,vup,Zm,Zk,Zn,Zl,Zh,List.map_cons,List.map_nil,cond_true,cond_false,aop,Zv,Zq,Zp,ev,sput,Zt,Zy,Ya,unK,Zd,Zw,Nat.reduceBEq,Nat.reduceAdd,Int.reduceBEq,Int.reduceBNe,Int.reduceLT,Zu,Zz,tup,tyf,boxO esz_77,Xj]
 have c0:=Yp h (Blk.cells (Xt o) 77 false)
 have hE:Ext (fun _=>False) h (h++[Blk.cells (Xt o) 77 false]):=Ext.app _ _ _
 have hsG:=hs.ext hE
 have hoG:=hown.ext hE
 have hbm:bm<h.length:=by
  obtain ⟨_,_,h2,_⟩:=hs
  exact Yg h2
 obtain ⟨b5,hb5⟩ : ∃ b,b=h.length:=⟨_,rfl⟩
 rw [← hb5] at c0 ⊢
 generalize h++[Blk.cells (Xt o) 77 false]=G at c0 hE hsG hoG ⊢
 refine hN1 [(0,ptB bs),(1,ordV o),(2,Zx (n:Nat)),(3,l),(5,ptB b5),(8,.slice none 0 0),(9,.int .i64 0)] _ _ ?_ (by simp (maxSteps:=2000000) only [↓Za,↓Zi,↓Zr,↓Ze,↓Zj,↓Zs,↓Zg,↓Zo,↓Zf,↓Zb,↓Zc,↓vdn,vup,Zm,Zk,Zn,Zl,Zh,List.map_cons,List.map_nil,cond_true,cond_false,aop,Zv,Zq,Zp,ev,sput,Zt,Zy,Ya,unK,Zd,Zw,Nat.reduceBEq,Nat.reduceAdd,Int.reduceBEq,Int.reduceBNe,Int.reduceLT,Zu,Zz,tup,tyf])
 clear hN1
 try clear N1
 refine Ym fun A hA=>?_
 refine Yc fun N2 hN2=>?_
 simp (maxSteps:=2000000) only [s91,↓Za,↓Zi,↓Zr,↓Ze,↓Zj,↓Zs,↓Zg,↓Zo,↓Zf,↓Zb,↓Zc,↓vdn,vup,Zm,Zk,Zn,Zl,Zh,List.map_cons,List.map_nil,cond_true,cond_false,aop,Zv,Zq,Zp,ev,sput,Zt,Zy,Ya,unK,Zd,Zw,Nat.reduceBEq,Nat.reduceAdd,Int.reduceBEq,Int.reduceBNe,Int.reduceLT,Zu,Zz,tup,tyf,Yr,List.nil_append,List.append_nil,List.toList_toArray,List.cons_append,Xy c0 Yn hl.2]
 refine (Wh ho).mono ?_
 rintro _ G ⟨rfl,rfl⟩
 by_cases h1:cn o=1
 · have hq:(((cn o:Nat):Int)==1)=true:=by rw [h1]; rfl
   try simp (maxSteps:=2000000) only [s91,↓Za,↓Zi,↓Zr,↓Ze,↓Zj,↓Zs,↓Zg,↓Zo,↓Zf,↓Zb,↓Zc,↓vdn,vup,Zm,Zk,Zn,Zl,Zh,List.map_cons,List.map_nil,cond_true,cond_false,aop,Zv,Zq,Zp,ev,sput,Zt,Zy,Ya,unK,Zd,Zw,Nat.reduceBEq,Nat.reduceAdd,Int.reduceBEq,Int.reduceBNe,Int.reduceLT,Zu,Zz,tup,tyf,hq]
   refine hN2 [(0,ptB bs),(1,ordV o),(2,Zx (n:Nat)),(3,l),(5,ptB b5),(8,.slice none 0 0),(9,.int .i64 0),(16,.bool true)] _ _ ?_ (by simp (maxSteps:=2000000) only [↓Za,↓Zi,↓Zr,↓Ze,↓Zj,↓Zs,↓Zg,↓Zo,↓Zf,↓Zb,↓Zc,↓vdn,vup,Zm,Zk,Zn,Zl,Zh,List.map_cons,List.map_nil,cond_true,cond_false,aop,Zv,Zq,Zp,ev,sput,Zt,Zy,Ya,unK,Zd,Zw,Nat.reduceBEq,Nat.reduceAdd,Int.reduceBEq,Int.reduceBNe,Int.reduceLT,Zu,Zz,tup,tyf])
   clear hN2
   try clear N2
   refine Xb rfl ?_
   refine Yf ?_
   try simp (maxSteps:=2000000) only [s91,↓Za,↓Zi,↓Zr,↓Ze,↓Zj,↓Zs,↓Zg,↓Zo,↓Zf,↓Zb,↓Zc,↓vdn,vup,Zm,Zk,Zn,Zl,Zh,List.map_cons,List.map_nil,cond_true,cond_false,aop,Zv,Zq,Zp,ev,sput,Zt,Zy,Ya,unK,Zd,Zw,Nat.reduceBEq,Nat.reduceAdd,Int.reduceBEq,Int.reduceBNe,Int.reduceLT,Zu,Zz,tup,tyf]
   refine ⟨l,-1,[],0,rfl,by rw [List.append_nil]; exact hoG,h1.symm,hsG,hE.mono fun _ h=>h.elim,.inl rfl,?_,fun k hk1 hk2=>?_,.inl rfl,fun _=>h1⟩
   · cases n with
     | zero=>exact ⟨h1,rfl,rfl⟩
     | succ n=>exact .inl ⟨h1,rfl,rfl⟩
   · simp only [List.length_nil] at hk2; omega
 have hq:(((cn o:Nat):Int)==1)=false:=by
  have:((cn o:Nat):Int)≠1:=by omega
  simpa using this
 have h1b:(cn o==1)=false:=by simpa using h1
 obtain ⟨m,rfl⟩ : ∃ m,n=m+1:=by
  cases n with
  | zero=>rw [Wv,h1b] at hsr; cases hsr
  | succ m=>exact ⟨m,rfl⟩
 have hih:=ih m rfl
 have hpb:pairB m o=true:=by
  rw [srtb_succ,h1b,Bool.false_or,Bool.and_eq_true] at hsr
  exact hsr.2
 have hsub:subV .i64 ((m+1:Nat):Int) 1=(m:Int):=by rw [subV_id (by omega) (by omega)]; omega
 try simp (maxSteps:=2000000) only [s91,↓Za,↓Zi,↓Zr,↓Ze,↓Zj,↓Zs,↓Zg,↓Zo,↓Zf,↓Zb,↓Zc,↓vdn,vup,Zm,Zk,Zn,Zl,Zh,List.map_cons,List.map_nil,cond_true,cond_false,aop,Zv,Zq,Zp,ev,sput,Zt,Zy,Ya,unK,Zd,Zw,Nat.reduceBEq,Nat.reduceAdd,Int.reduceBEq,Int.reduceBNe,Int.reduceLT,Zu,Zz,tup,tyf,hq]
 refine hN2 [(0,ptB bs),(1,ordV o),(2,Zx ((m+1:Nat):Int)),(3,l),(5,ptB b5),(8,.slice none 0 0),(9,.int .i64 0),(16,.bool false)] _ _ ?_ (by simp (maxSteps:=2000000) only [↓Za,↓Zi,↓Zr,↓Ze,↓Zj,↓Zs,↓Zg,↓Zo,↓Zf,↓Zb,↓Zc,↓vdn,vup,Zm,Zk,Zn,Zl,Zh,List.map_cons,List.map_nil,cond_true,cond_false,aop,Zv,Zq,Zp,ev,sput,Zt,Zy,Ya,unK,Zd,Zw,Nat.reduceBEq,Nat.reduceAdd,Int.reduceBEq,Int.reduceBNe,Int.reduceLT,Zu,Zz,tup,tyf])
 clear hN2
 try clear N2
 refine Xa rfl ?_
 refine Yf ?_
 try simp (maxSteps:=2000000) only [s91,↓Za,↓Zi,↓Zr,↓Ze,↓Zj,↓Zs,↓Zg,↓Zo,↓Zf,↓Zb,↓Zc,↓vdn,vup,Zm,Zk,Zn,Zl,Zh,List.map_cons,List.map_nil,cond_true,cond_false,aop,Zv,Zq,Zp,ev,sput,Zt,Zy,Ya,unK,Zd,Zw,Nat.reduceBEq,Nat.reduceAdd,Int.reduceBEq,Int.reduceBNe,Int.reduceLT,Zu,Zz,tup,tyf]
 refine hA [(0,ptB bs),(1,ordV o),(2,Zx ((m+1:Nat):Int)),(3,l),(5,ptB b5),(8,.slice none 0 0),(9,.int .i64 0)] _ _ ?_ (by simp (maxSteps:=2000000) only [↓Za,↓Zi,↓Zr,↓Ze,↓Zj,↓Zs,↓Zg,↓Zo,↓Zf,↓Zb,↓Zc,↓vdn,vup,Zm,Zk,Zn,Zl,Zh,List.map_cons,List.map_nil,cond_true,cond_false,aop,Zv,Zq,Zp,ev,sput,Zt,Zy,Ya,unK,Zd,Zw,Nat.reduceBEq,Nat.reduceAdd,Int.reduceBEq,Int.reduceBNe,Int.reduceLT,Zu,Zz,tup,tyf])
 clear hA
 try clear A
 refine Yc fun N3 hN3=>?_
 simp (maxSteps:=2000000) only [s91,↓Za,↓Zi,↓Zr,↓Ze,↓Zj,↓Zs,↓Zg,↓Zo,↓Zf,↓Zb,↓Zc,↓vdn,vup,Zm,Zk,Zn,Zl,Zh,List.map_cons,List.map_nil,cond_true,cond_false,aop,Zv,Zq,Zp,ev,sput,Zt,Zy,Ya,unK,Zd,Zw,Nat.reduceBEq,Nat.reduceAdd,Int.reduceBEq,Int.reduceBNe,Int.reduceLT,Zu,Zz,tup,tyf,hoG.quad.len]
 refine hN3 [(0,ptB bs),(1,ordV o),(2,Zx ((m+1:Nat):Int)),(3,l),(5,ptB b5),(8,.slice none 0 0),(9,.int .i64 0),(10,Zx L.length)] _ _ ?_ (by simp (maxSteps:=2000000) only [↓Za,↓Zi,↓Zr,↓Ze,↓Zj,↓Zs,↓Zg,↓Zo,↓Zf,↓Zb,↓Zc,↓vdn,vup,Zm,Zk,Zn,Zl,Zh,List.map_cons,List.map_nil,cond_true,cond_false,aop,Zv,Zq,Zp,ev,sput,Zt,Zy,Ya,unK,Zd,Zw,Nat.reduceBEq,Nat.reduceAdd,Int.reduceBEq,Int.reduceBNe,Int.reduceLT,Zu,Zz,tup,tyf])
 clear hN3
 try clear N3
 refine Yc fun N4 hN4=>?_
 simp (maxSteps:=2000000) only [s91,↓Za,↓Zi,↓Zr,↓Ze,↓Zj,↓Zs,↓Zg,↓Zo,↓Zf,↓Zb,↓Zc,↓vdn,vup,Zm,Zk,Zn,Zl,Zh,List.map_cons,List.map_nil,cond_true,cond_false,aop,Zv,Zq,Zp,ev,sput,Zt,Zy,Ya,unK,Zd,Zw,Nat.reduceBEq,Nat.reduceAdd,Int.reduceBEq,Int.reduceBNe,Int.reduceLT,Zu,Zz,tup,tyf,Yr,List.nil_append,List.append_nil,List.toList_toArray,List.cons_append,Xy c0 Yn hl.2]
 refine (pair_call (sorts_call m (by omega)) (by omega) ho (by omega) hsG).mono ?_
 rintro r G2 ⟨hs2,hE2,hr⟩
 obtain ⟨i,j,hij,hj,hf,hboth,rfl⟩ : ∃ i j:Nat,i<j∧j<o.length∧fr o i j=true∧bothB m o i j=true∧r = .tuple #[pV ((i:Int),(j:Int)),.bool true]:=by
  rcases hr with hr | ⟨hf,_⟩
  · exact hr
  · rw [hpb] at hf; cases hf
 have hi:i<o.length:=by omega
 obtain ⟨f1,f2,f3⟩:=fr_out hf
 have o1:=Xu ho hi hj f1 f3
 have o2:=Xu ho hj hi (Ne.symm f1) f2
 rw [bothB,Bool.and_eq_true] at hboth
 have hcs:=fr_sum ho hi hj hf
 have cp1:=cn_pos o1
 have cp2:=cn_pos o2
 -- the pair's box, and the Node's
 have g0:=(hE2.2 _ (Yg c0) (hsG.ne c0)).trans c0
 have hne : ∀ b,Ye l=some b→b≠bm:=fun b hb hc=>by
  rcases hoG with ⟨rfl,_⟩ | ⟨b',ys,rfl,hb'⟩
  · cases hb
  · obtain rfl:b' = b:=by simpa [Ye] using hb
    obtain ⟨_,_,k2,_⟩:=hsG
    rw [hc,k2] at hb'; cases hb'
 have ho2:OwnQ 108 G2 l L:=hoG.same fun b hb=>hE2.2 b (hoG.lt hb) (hne b hb)
 have hEh2:Ext (fun b=>b=bm) h G2:=(hE.mono fun _ h=>h.elim).trans hE2
 try simp (maxSteps:=2000000) only [s91,↓Za,↓Zi,↓Zr,↓Ze,↓Zj,↓Zs,↓Zg,↓Zo,↓Zf,↓Zb,↓Zc,↓vdn,vup,Zm,Zk,Zn,Zl,Zh,List.map_cons,List.map_nil,cond_true,cond_false,aop,Zv,Zq,Zp,ev,sput,Zt,Zy,Ya,unK,Zd,Zw,Nat.reduceBEq,Nat.reduceAdd,Int.reduceBEq,Int.reduceBNe,Int.reduceLT,Zu,Zz,tup,tyf,We,Xj,zero_33]
 rw [pst (Yp _ _) rfl]
 obtain ⟨b11,hb11⟩ : ∃ b,b=G2.length:=⟨_,rfl⟩
 have d11:((G2++[Blk.cells [.int .i64 0,.int .i64 0] 33 false]).set G2.length (.cells [.int .i64 ((i:Nat):Int),.int .i64 ((j:Nat):Int)] 33 false))[G2.length]? = some (.cells [Zx ((i:Nat):Int),Zx ((j:Nat):Int)] 33 false):=Xm (by simp) _
 have hE3:Ext (fun _=>False) G2 ((G2++[Blk.cells [.int .i64 0,.int .i64 0] 33 false]).set G2.length (.cells [.int .i64 ((i:Nat):Int),.int .i64 ((j:Nat):Int)] 33 false)):=⟨by simp,fun q hq _=>by rw [List.getElem?_set_ne (by omega),List.getElem?_append_left hq]⟩
 rw [← hb11] at d11 hE3 ⊢
 generalize (G2++[Blk.cells [.int .i64 0,.int .i64 0] 33 false]).set b11 (.cells [.int .i64 ((i:Nat):Int),.int .i64 ((j:Nat):Int)] 33 false)=G3 at d11 hE3 ⊢
 have g3:=(hE3.2 _ (Yg g0) id).trans g0
 have hs3:=hs2.ext hE3
 have ho3:=ho2.ext hE3
 have hEh3:Ext (fun b=>b=bm) h G3:=hEh2.trans (hE3.mono fun _ h=>h.elim)
 refine hN4 [(0,ptB bs),(1,ordV o),(2,Zx ((m+1:Nat):Int)),(3,l),(5,ptB b5),(8,.slice none 0 0),(9,.int .i64 0),(10,Zx L.length),(11,ptB b11),(12,.bool true)] _ _ ?_ (by simp (maxSteps:=2000000) only [↓Za,↓Zi,↓Zr,↓Ze,↓Zj,↓Zs,↓Zg,↓Zo,↓Zf,↓Zb,↓Zc,↓vdn,vup,Zm,Zk,Zn,Zl,Zh,List.map_cons,List.map_nil,cond_true,cond_false,aop,Zv,Zq,Zp,ev,sput,Zt,Zy,Ya,unK,Zd,Zw,Nat.reduceBEq,Nat.reduceAdd,Int.reduceBEq,Int.reduceBNe,Int.reduceLT,Zu,Zz,tup,tyf])
 clear hN4
 try clear N4
 refine Yc fun N5 hN5=>?_
 try simp (maxSteps:=2000000) only [s91,↓Za,↓Zi,↓Zr,↓Ze,↓Zj,↓Zs,↓Zg,↓Zo,↓Zf,↓Zb,↓Zc,↓vdn,vup,Zm,Zk,Zn,Zl,Zh,List.map_cons,List.map_nil,cond_true,cond_false,aop,Zv,Zq,Zp,ev,sput,Zt,Zy,Ya,unK,Zd,Zw,Nat.reduceBEq,Nat.reduceAdd,Int.reduceBEq,Int.reduceBNe,Int.reduceLT,Zu,Zz,tup,tyf,pidx0,pidx1,pl0 d11,pl1 d11,bldX,We,Xj,zero_108]
 obtain ⟨d13,hE4⟩:=box4 G3 ((i:Int),(j:Int),0,0)
 rw [st4 (Yp _ _) rfl]
 generalize (G3++[Blk.cells [.int .i64 0,.int .i64 0,.int .i64 0,.int .i64 0] 108 false]).set G3.length (.cells (c4 ((i:Int),(j:Int),0,0)) 108 false)=G4 at d13 hE4 ⊢
 obtain ⟨b13,hb13⟩ : ∃ b,b=G3.length:=⟨_,rfl⟩
 rw [← hb13] at d13 ⊢
 have g4:=(hE4.2 _ (Yg g3) id).trans g3
 have d11':=(hE4.2 _ (Yg d11) id).trans d11
 have hs4:=hs3.ext hE4
 have ho4:=ho3.ext hE4
 have hEh4:Ext (fun b=>b=bm) h G4:=hEh3.trans (hE4.mono fun _ h=>h.elim)
 have hG2l:=hEh2.1
 have hG3l:=hEh3.1
 have hlt13:h.length≤b13:=by omega
 have hlt11:h.length≤b11:=by omega
 refine hN5 [(0,ptB bs),(1,ordV o),(2,Zx ((m+1:Nat):Int)),(3,l),(5,ptB b5),(8,.slice none 0 0),(9,.int .i64 0),(10,Zx L.length),(11,ptB b11),(12,.bool true),(13,ptB b13)] _ _ ?_ (by simp (maxSteps:=2000000) only [↓Za,↓Zi,↓Zr,↓Ze,↓Zj,↓Zs,↓Zg,↓Zo,↓Zf,↓Zb,↓Zc,↓vdn,vup,Zm,Zk,Zn,Zl,Zh,List.map_cons,List.map_nil,cond_true,cond_false,aop,Zv,Zq,Zp,ev,sput,Zt,Zy,Ya,unK,Zd,Zw,Nat.reduceBEq,Nat.reduceAdd,Int.reduceBEq,Int.reduceBNe,Int.reduceLT,Zu,Zz,tup,tyf])
 clear hN5
 try clear N5
 refine Yc fun N6 hN6=>?_
 simp only [q91_6]
 refine aw_drawR (fun z=>z[b5]? = some (.cells (Xt o) 77 false)∧z[b11]? = some (.cells [Zx ((i:Nat):Int),Zx ((j:Nat):Int)] 33 false)) [(1,5),(3,5),(5,5),(6,2),(13,4)] (by kernel_rfl) (by kernel_rfl) (by kernel_rfl) (by kernel_rfl) ⟨g4,d11'⟩ ?_
 try simp (maxSteps:=2000000) only [s91,↓Za,↓Zi,↓Zr,↓Ze,↓Zj,↓Zs,↓Zg,↓Zo,↓Zf,↓Zb,↓Zc,↓vdn,vup,Zm,Zk,Zn,Zl,Zh,List.map_cons,List.map_nil,cond_true,cond_false,aop,Zv,Zq,Zp,ev,sput,Zt,Zy,Ya,unK,Zd,Zw,Nat.reduceBEq,Nat.reduceAdd,Int.reduceBEq,Int.reduceBNe,Int.reduceLT,Zu,Zz,tup,tyf]
 refine ⟨ordV o,fun z hz=>by simp only [Xy hz.1 Yn hl.2],?_⟩
 try simp (maxSteps:=2000000) only [s91,↓Za,↓Zi,↓Zr,↓Ze,↓Zj,↓Zs,↓Zg,↓Zo,↓Zf,↓Zb,↓Zc,↓vdn,vup,Zm,Zk,Zn,Zl,Zh,List.map_cons,List.map_nil,cond_true,cond_false,aop,Zv,Zq,Zp,ev,sput,Zt,Zy,Ya,unK,Zd,Zw,Nat.reduceBEq,Nat.reduceAdd,Int.reduceBEq,Int.reduceBNe,Int.reduceLT,Zu,Zz,tup,tyf,pidx0,pidx1]
 refine ⟨Zx (i:Nat),fun z hz=>by simp only [pl0 hz.2],?_⟩
 try simp (maxSteps:=2000000) only [s91,↓Za,↓Zi,↓Zr,↓Ze,↓Zj,↓Zs,↓Zg,↓Zo,↓Zf,↓Zb,↓Zc,↓vdn,vup,Zm,Zk,Zn,Zl,Zh,List.map_cons,List.map_nil,cond_true,cond_false,aop,Zv,Zq,Zp,ev,sput,Zt,Zy,Ya,unK,Zd,Zw,Nat.reduceBEq,Nat.reduceAdd,Int.reduceBEq,Int.reduceBNe,Int.reduceLT,Zu,Zz,tup,tyf,pidx0,pidx1]
 refine ⟨Zx (j:Nat),fun z hz=>by simp only [pl1 hz.2],?_⟩
 try simp (maxSteps:=2000000) only [s91,↓Za,↓Zi,↓Zr,↓Ze,↓Zj,↓Zs,↓Zg,↓Zo,↓Zf,↓Zb,↓Zc,↓vdn,vup,Zm,Zk,Zn,Zl,Zh,List.map_cons,List.map_nil,cond_true,cond_false,aop,Zv,Zq,Zp,ev,sput,Zt,Zy,Ya,unK,Zd,Zw,Nat.reduceBEq,Nat.reduceAdd,Int.reduceBEq,Int.reduceBNe,Int.reduceLT,Zu,Zz,tup,tyf,Yr,List.nil_append,List.append_nil,List.toList_toArray,List.cons_append]
 refine ⟨ordV (Wp o i j),fun z _=>⟨_,_,add_call ho hi hj,rfl,rfl⟩,?_⟩
 try simp (maxSteps:=2000000) only [s91,↓Za,↓Zi,↓Zr,↓Ze,↓Zj,↓Zs,↓Zg,↓Zo,↓Zf,↓Zb,↓Zc,↓vdn,vup,Zm,Zk,Zn,Zl,Zh,List.map_cons,List.map_nil,cond_true,cond_false,aop,Zv,Zq,Zp,ev,sput,Zt,Zy,Ya,unK,Zd,Zw,Nat.reduceBEq,Nat.reduceAdd,Int.reduceBEq,Int.reduceBNe,Int.reduceLT,Zu,Zz,tup,tyf,hsub,ld4 d13,litQ el_63 zero_108 esz_108]
 refine ⟨⟨Yy g4 _,Yy d11' _⟩,?_⟩
 refine OwnQ.append (ho4.ext (Ext.app _ _ _)) app_63_63 (show L.length<1099511627776 by omega) (Yp _ _) ?_
 intro l1 G5 ho5 hE5 hb5'
 obtain ⟨x0,hx0⟩ : ∃ x0:Qd,x0=((i:Int),(j:Int),0,0):=⟨_,rfl⟩
 rw [← hx0] at ho5 hE5
 have hE45:Ext (fun b=>Ye l=some b) G4 G5:=⟨by have:=hE5.1; rw [List.length_append] at this; omega,fun q hq hf=>(hE5.2 q (by rw [List.length_append]; omega) hf).trans (List.getElem?_append_left hq)⟩
 have keep5 : ∀ {b:Nat} {c:List Value} {t:TypeId},G4[b]? = some (.cells c t false)→G5[b]? = some (.cells c t false):=fun hb=>(hE45.2 _ (Yg hb) (ho4.notCells hb)).trans hb
 have hbs:bs<h.length:=Yg hs.1
 have hs5:SK bs bm G5:=by
  obtain ⟨k1,lk,k2,k3⟩:=hs4
  exact ⟨keep5 k1,lk,(hE45.2 _ (Yg k2) fun hc=>hne _ hc rfl).trans k2,k3⟩
 have g5:=keep5 g4
 have d11_5:=keep5 d11'
 have d13_5:=keep5 d13
 have hEh5:Ext (fun b=>b=bm∨Ye l=some b) h G5:=extTo hEh4 hE45 (fun _ _ h=>.inl h) fun _ _ h=>.inr h
 have hnew5 : ∀ b,b<h.length→Ye l1=some b→Ye l=some b:=fun b hb h1=>by
  rcases hb5' with h2 | ⟨b',h2,h3⟩
  · rw [← h2]; exact h1
  · rw [h2] at h1; cases h1
    rw [List.length_append] at h3
    have:=hEh4.1; omega
 refine ⟨⟨g5,d11_5⟩,?_⟩
 try simp (maxSteps:=2000000) only [s91,↓Za,↓Zi,↓Zr,↓Ze,↓Zj,↓Zs,↓Zg,↓Zo,↓Zf,↓Zb,↓Zc,↓vdn,vup,Zm,Zk,Zn,Zl,Zh,List.map_cons,List.map_nil,cond_true,cond_false,aop,Zv,Zq,Zp,ev,sput,Zt,Zy,Ya,unK,Zd,Zw,Nat.reduceBEq,Nat.reduceAdd,Int.reduceBEq,Int.reduceBNe,Int.reduceLT,Zu,Zz,tup,tyf,Yr,List.nil_append,List.append_nil,List.toList_toArray,List.cons_append]
 have hL1:(L++[x0]).length=L.length+1:=by simp
 refine (hih G5 _ l1 (L++[x0]) o1 hboth.1 hs5 ho5 (by rw [hL1]; omega)).mono ?_
 rintro r1 G6 ⟨l2,a1,N1,e1,rfl,ho6,hN1,hs6,hE6,hbl6,hpl1,hnd1,_,_⟩
 have keep6 : ∀ {b:Nat} {c:List Value} {t:TypeId},G5[b]? = some (.cells c t false)→G6[b]? = some (.cells c t false):=fun hb=>(hE6.2 _ (Yg hb) fun hc=>hc.elim (fun e=>hs5.ne hb e) fun e=>ho5.notCells hb e).trans hb
 have g6:=keep6 g5
 have d11_6:=keep6 d11_5
 have d13_6:=keep6 d13_5
 have hEh6:Ext (fun b=>b=bm∨Ye l=some b) h G6:=extTo hEh5 hE6 (fun _ _ h=>h) fun b hb h=>h.imp id (hnew5 b hb)
 have hnew6 : ∀ b,b<h.length→Ye l2=some b→Ye l=some b:=fun b hb h1=>by
  rcases hbl6 with h2 | ⟨b',h2,h3⟩
  · rw [h2] at h1; exact hnew5 b hb h1
  · rw [h2] at h1; cases h1
    have:=hEh5.1; omega
 refine ⟨⟨g6,d11_6⟩,?_⟩
 try simp (maxSteps:=2000000) only [s91,↓Za,↓Zi,↓Zr,↓Ze,↓Zj,↓Zs,↓Zg,↓Zo,↓Zf,↓Zb,↓Zc,↓vdn,vup,Zm,Zk,Zn,Zl,Zh,List.map_cons,List.map_nil,cond_true,cond_false,aop,Zv,Zq,Zp,ev,sput,Zt,Zy,Ya,unK,Zd,Zw,Nat.reduceBEq,Nat.reduceAdd,Int.reduceBEq,Int.reduceBNe,Int.reduceLT,Zu,Zz,tup,tyf,fldA fld_108_2 Xk]
 rw [st42 d13_6]
 have d13_7:(G6.set b13 (.cells (c4 ((i:Int),(j:Int),a1,0)) 108 false))[b13]? = some (.cells (c4 ((i:Int),(j:Int),a1,0)) 108 false):=Xm (Yg d13_6) _
 have hs7:SK bs bm (G6.set b13 (.cells (c4 ((i:Int),(j:Int),a1,0)) 108 false)):=by
  obtain ⟨k1,lk,k2,k3⟩:=hs6
  exact ⟨by rw [List.getElem?_set_ne (by omega)]; exact k1,lk,by rw [List.getElem?_set_ne (by omega)]; exact k2,k3⟩
 have ho7:OwnQ 108 (G6.set b13 (.cells (c4 ((i:Int),(j:Int),a1,0)) 108 false)) l2 (L++[x0]++N1):=ho6.same fun b hb=>List.getElem?_set_ne fun e=>ho6.notCells d13_6 (by rw [e]; exact hb)
 have hn5:b5≠b13:=by have:=Yg g3; omega
 have hn11:b11≠b13:=by have:=Yg d11; omega
 have g7:(G6.set b13 (.cells (c4 ((i:Int),(j:Int),a1,0)) 108 false))[b5]? = some (.cells (Xt o) 77 false):=by rw [List.getElem?_set_ne (Ne.symm hn5)]; exact g6
 have d11_7:(G6.set b13 (.cells (c4 ((i:Int),(j:Int),a1,0)) 108 false))[b11]? = some (.cells [Zx ((i:Nat):Int),Zx ((j:Nat):Int)] 33 false):=by rw [List.getElem?_set_ne (Ne.symm hn11)]; exact d11_6
 have hEh7:Ext (fun b=>b=bm∨Ye l=some b) h (G6.set b13 (.cells (c4 ((i:Int),(j:Int),a1,0)) 108 false)):=extTo hEh6 (Ext.set (S:=fun b=>b=b13) _ rfl) (fun _ _ h=>h) fun b hb h=>by omega
 generalize G6.set b13 (.cells (c4 ((i:Int),(j:Int),a1,0)) 108 false)=G7 at d13_7 hs7 ho7 g7 d11_7 hEh7 ⊢
 refine ⟨⟨g7,d11_7⟩,?_⟩
 refine hN6 [(0,ptB bs),(1,ordV o),(2,Zx ((m+1:Nat):Int)),(3,l2),(5,ptB b5),(8,.slice none 0 0),(9,.int .i64 0),(10,Zx L.length),(11,ptB b11),(12,.bool true),(13,ptB b13)] _ _ ?_ (by simp (maxSteps:=2000000) only [↓Za,↓Zi,↓Zr,↓Ze,↓Zj,↓Zs,↓Zg,↓Zo,↓Zf,↓Zb,↓Zc,↓vdn,vup,Zm,Zk,Zn,Zl,Zh,List.map_cons,List.map_nil,cond_true,cond_false,aop,Zv,Zq,Zp,ev,sput,Zt,Zy,Ya,unK,Zd,Zw,Nat.reduceBEq,Nat.reduceAdd,Int.reduceBEq,Int.reduceBNe,Int.reduceLT,Zu,Zz,tup,tyf])
 clear hN6
 try clear N6
 have hL2:(L++[x0]++N1).length=L.length+1+N1.length:=by simp; omega
 refine Yc fun N7 hN7=>?_
 refine Yd 7 fun N1 hN1=>?_
 simp (maxSteps:=2000000) only [s91,↓Za,↓Zi,↓Zr,↓Ze,↓Zj,↓Zs,↓Zg,↓Zo,↓Zf,↓Zb,↓Zc,↓vdn,vup,Zm,Zk,Zn,Zl,Zh,List.map_cons,List.map_nil,cond_true,cond_false,aop,Zv,Zq,Zp,ev,sput,Zt,Zy,Ya,unK,Zd,Zw,Nat.reduceBEq,Nat.reduceAdd,Int.reduceBEq,Int.reduceBNe,Int.reduceLT,Zu,Zz,tup,tyf,Yr,List.nil_append,List.append_nil,List.toList_toArray,List.cons_append,List.take_succ_cons,List.take_zero,Xy g7 Yn hl.2,pidx0,pidx1,pl0 d11_7,pl1 d11_7]
 refine (add_call ho hj hi).mono ?_
 rintro _ G7 ⟨rfl,rfl⟩
 refine hN1 _ _ ?_
 clear hN1 N1
 simp only [List.drop_succ_cons,List.drop_zero]
 simp (maxSteps:=2000000) only [s91,↓Za,↓Zi,↓Zr,↓Ze,↓Zj,↓Zs,↓Zg,↓Zo,↓Zf,↓Zb,↓Zc,↓vdn,vup,Zm,Zk,Zn,Zl,Zh,List.map_cons,List.map_nil,cond_true,cond_false,aop,Zv,Zq,Zp,ev,sput,Zt,Zy,Ya,unK,Zd,Zw,Nat.reduceBEq,Nat.reduceAdd,Int.reduceBEq,Int.reduceBNe,Int.reduceLT,Zu,Zz,tup,tyf,Yr,List.nil_append,List.append_nil,List.toList_toArray,List.cons_append,hsub]
 refine (hih G7 _ l2 (L++[x0]++N1) o2 hboth.2 hs7 ho7 (by rw [hL2]; omega)).mono ?_
 rintro r2 G8 ⟨l3,a2,N2,e2,rfl,ho8,hN2,hs8,hE8,hbl8,hpl2,hnd2,_,_⟩
 have d13_8:G8[b13]? = some (.cells (c4 ((i:Int),(j:Int),a1,0)) 108 false):=(hE8.2 _ (Yg d13_7) fun hc=>hc.elim (fun e=>hs7.ne d13_7 e) fun e=>ho7.notCells d13_7 e).trans d13_7
 have hEh8:Ext (fun b=>b=bm∨Ye l=some b) h G8:=extTo hEh7 hE8 (fun _ _ h=>h) fun b hb h=>h.imp id (hnew6 b hb)
 have hnew8 : ∀ b,b<h.length→Ye l3=some b→Ye l=some b:=fun b hb h1=>by
  rcases hbl8 with h2 | ⟨b',h2,h3⟩
  · rw [h2] at h1; exact hnew6 b hb h1
  · rw [h2] at h1; cases h1
    have:=hEh7.1; omega
 try simp (maxSteps:=2000000) only [s91,↓Za,↓Zi,↓Zr,↓Ze,↓Zj,↓Zs,↓Zg,↓Zo,↓Zf,↓Zb,↓Zc,↓vdn,vup,Zm,Zk,Zn,Zl,Zh,List.map_cons,List.map_nil,cond_true,cond_false,aop,Zv,Zq,Zp,ev,sput,Zt,Zy,Ya,unK,Zd,Zw,Nat.reduceBEq,Nat.reduceAdd,Int.reduceBEq,Int.reduceBNe,Int.reduceLT,Zu,Zz,tup,tyf,fldA fld_108_3 Xk]
 rw [st43 d13_8]
 have d13_9:(G8.set b13 (.cells (c4 ((i:Int),(j:Int),a1,a2)) 108 false))[b13]? = some (.cells (c4 ((i:Int),(j:Int),a1,a2)) 108 false):=Xm (Yg d13_8) _
 have hs9:SK bs bm (G8.set b13 (.cells (c4 ((i:Int),(j:Int),a1,a2)) 108 false)):=by
  obtain ⟨k1,lk,k2,k3⟩:=hs8
  exact ⟨by rw [List.getElem?_set_ne (by omega)]; exact k1,lk,by rw [List.getElem?_set_ne (by omega)]; exact k2,k3⟩
 have ho9:OwnQ 108 (G8.set b13 (.cells (c4 ((i:Int),(j:Int),a1,a2)) 108 false)) l3 (L++[x0]++N1++N2):=ho8.same fun b hb=>List.getElem?_set_ne fun e=>ho8.notCells d13_8 (by rw [e]; exact hb)
 have hEh9:Ext (fun b=>b=bm∨Ye l=some b) h (G8.set b13 (.cells (c4 ((i:Int),(j:Int),a1,a2)) 108 false)):=extTo hEh8 (Ext.set (S:=fun b=>b=b13) _ rfl) (fun _ _ h=>h) fun b hb h=>by omega
 generalize G8.set b13 (.cells (c4 ((i:Int),(j:Int),a1,a2)) 108 false)=G9 at d13_9 hs9 ho9 hEh9 ⊢
 refine hN7 [(0,ptB bs),(1,ordV o),(2,Zx ((m+1:Nat):Int)),(3,l3),(5,ptB b5),(8,.slice none 0 0),(9,.int .i64 0),(10,Zx L.length),(11,ptB b11),(12,.bool true),(13,ptB b13)] _ _ ?_ (by simp (maxSteps:=2000000) only [↓Za,↓Zi,↓Zr,↓Ze,↓Zj,↓Zs,↓Zg,↓Zo,↓Zf,↓Zb,↓Zc,↓vdn,vup,Zm,Zk,Zn,Zl,Zh,List.map_cons,List.map_nil,cond_true,cond_false,aop,Zv,Zq,Zp,ev,sput,Zt,Zy,Ya,unK,Zd,Zw,Nat.reduceBEq,Nat.reduceAdd,Int.reduceBEq,Int.reduceBNe,Int.reduceLT,Zu,Zz,tup,tyf])
 clear hN7
 try clear N7
 have hkl:L.length<(L++[x0]++N1++N2).length:=by simp only [List.length_append,List.length_singleton]; omega
 refine Yc fun N8 hN8=>?_
 try simp (maxSteps:=2000000) only [s91,↓Za,↓Zi,↓Zr,↓Ze,↓Zj,↓Zs,↓Zg,↓Zo,↓Zf,↓Zb,↓Zc,↓vdn,vup,Zm,Zk,Zn,Zl,Zh,List.map_cons,List.map_nil,cond_true,cond_false,aop,Zv,Zq,Zp,ev,sput,Zt,Zy,Ya,unK,Zd,Zw,Nat.reduceBEq,Nat.reduceAdd,Int.reduceBEq,Int.reduceBNe,Int.reduceLT,Zu,Zz,tup,tyf,ld4 d13_9,ho9.quad.idx el_63 esz_108 hkl]
 refine ho9.store shp_108 hkl ?_
 intro G10 ho10 hE10
 have hEh10:Ext (fun b=>b=bm∨Ye l=some b) h G10:=extTo hEh9 hE10 (fun _ _ h=>h) fun b hb h=>.inr (hnew8 b hb h)
 have hs10:SK bs bm G10:=by
  obtain ⟨k1,lk,k2,k3⟩:=hs9
  refine ⟨(hE10.2 _ (Yg k1) fun e=>ho9.notCells k1 e).trans k1,lk,(hE10.2 _ (Yg k2) fun e=>?_).trans k2,k3⟩
  exact hne _ (hnew8 bm hbm e) rfl
 refine hN8 [(0,ptB bs),(1,ordV o),(2,Zx ((m+1:Nat):Int)),(3,l3),(5,ptB b5),(8,.slice none 0 0),(9,.int .i64 0),(10,Zx L.length),(11,ptB b11),(12,.bool true),(13,ptB b13)] _ _ ?_ (by simp (maxSteps:=2000000) only [↓Za,↓Zi,↓Zr,↓Ze,↓Zj,↓Zs,↓Zg,↓Zo,↓Zf,↓Zb,↓Zc,↓vdn,vup,Zm,Zk,Zn,Zl,Zh,List.map_cons,List.map_nil,cond_true,cond_false,aop,Zv,Zq,Zp,ev,sput,Zt,Zy,Ya,unK,Zd,Zw,Nat.reduceBEq,Nat.reduceAdd,Int.reduceBEq,Int.reduceBNe,Int.reduceLT,Zu,Zz,tup,tyf])
 clear hN8
 try clear N8
 refine Yf ?_
 try simp (maxSteps:=2000000) only [s91,↓Za,↓Zi,↓Zr,↓Ze,↓Zj,↓Zs,↓Zg,↓Zo,↓Zf,↓Zb,↓Zc,↓vdn,vup,Zm,Zk,Zn,Zl,Zh,List.map_cons,List.map_nil,cond_true,cond_false,aop,Zv,Zq,Zp,ev,sput,Zt,Zy,Ya,unK,Zd,Zw,Nat.reduceBEq,Nat.reduceAdd,Int.reduceBEq,Int.reduceBNe,Int.reduceLT,Zu,Zz,tup,tyf]
 obtain ⟨X,hX⟩ : ∃ X:Qd,X=((i:Int),(j:Int),a1,a2):=⟨_,rfl⟩
 have hset:(L++[x0]++N1++N2).set L.length X=L++X::(N1++N2):=by
  rw [List.append_assoc,List.append_assoc,List.set_append_right _ _ (Nat.le_refl _),Nat.sub_self]; rfl
 rw [← hX,hset] at ho10
 have hNl:(X::(N1++N2)).length=1+N1.length+N2.length:=by simp; omega
 have fin : ∀ k,k≠L.length→(L++X::(N1++N2)).getD k qd0=(L++[x0]++N1++N2).getD k qd0:=fun k hk=>by rw [← hset,getD_setQ (Ne.symm hk)]
 have fin1 : ∀ k,L.length+1≤k→k<L.length+1+N1.length→(L++X::(N1++N2)).getD k qd0=(L++[x0]++N1).getD k qd0:=fun k hk1 hk2=>by rw [fin k (by omega),getD_appL (by rw [hL2]; exact hk2)]
 rw [hL1] at hpl1 hnd1
 rw [hL2] at hpl2 hnd2
 have at1:=hpl1.at
 have at2:=hpl2.at
 refine ⟨l3,(L.length:Int),X::(N1++N2),1+max e1 e2,rfl,ho10,by rw [hNl]; omega,hs10,hEh10,?_,?_,?_,.inr rfl,fun hc=>by omega⟩
 · rcases hbl8 with h2 | ⟨b',h2,h3⟩
   · rcases hbl6 with h4 | ⟨b',h4,h5⟩
     · rcases hb5' with h6 | ⟨b',h6,h7⟩
       · exact .inl (h2.trans (h4.trans h6))
       · rw [List.length_append] at h7
         exact .inr ⟨b',h2.trans (h4.trans h6),by have:=hEh4.1; omega⟩
     · exact .inr ⟨b',h2.trans h4,by have:=hEh5.1; omega⟩
   · exact .inr ⟨b',h2,by have:=hEh7.1; omega⟩
 · refine .inr ⟨L.length,i,j,a1,a2,e1,e2,rfl,Nat.le_refl _,by rw [hNl]; omega,by show (L++X::(N1++N2)).getD L.length qd0=_; rw [getD_mid,hX],h1,hf,?_,?_,rfl⟩
   · exact hpl1.mono (by omega) (by rw [hNl]; omega) fun k hk1 hk2=>fin1 k hk1 hk2
   · exact hpl2.mono (by omega) (by rw [hNl]; omega) fun k hk1 hk2=>fin k (by omega)
 · intro k hk1 hk2
   rw [hNl] at hk2 ⊢
   by_cases hk:k=L.length
   · subst hk
     rw [getD_mid,hX]
     exact nodeB_mk hi hj f1 (by omega) (at1.imp id fun h=>⟨by omega,by omega⟩) (at2.imp id fun h=>⟨by omega,by omega⟩)
   · by_cases hk3:k<L.length+1+N1.length
     · rw [fin1 k (by omega) hk3]
       have:=hnd1 k (by omega) hk3
       rw [Xh] at this
       exact nodeB_mono this (by omega)
     · rw [fin k hk]
       have:=hnd2 k (by omega) (by omega)
       rw [Xh] at this
       exact nodeB_mono this (by omega)
theorem plan_call [BitTab prog 1] {bs bm:Nat} : ∀ n,n≤60→PlanOK bs bm n
 | 0,hn=>plan_step hn fun m h=>by cases h
 | n+1,hn=>plan_step hn fun m h=>by cases h; exact plan_call n (by omega)
end Go.Proofs.Tryd.Am
namespace Go.Proofs.Tryd.Am
open Go.Am Ord
set_option maxRecDepth 100000
set_option maxHeartbeats 4000000
theorem elems92 [BitTab prog 1] {H:Yb} {o:List Int} {w n9 k9 l9:Value} {k b9 b2:Nat} {a b l m:Int} {Q:Exit→Env→Yb→Prop} (hl:o.length≤6) (d0:H[b2]? = some (.cells (Xt o) 77 false)) (d9:H[b9]? = some (.cells (c4 (a,b,l,m)) 108 false))
  (hok:elB o.length a=true→elB o.length b=true→(a==b)=false→∀ e,ELe e [(0,ordV o),(1,w),(2,ptB b2),(4,.bool false),(5,Zx (k:Nat)),(6,ptB b9),(9,n9),(10,l9),(11,k9)]→Q .normal e H)
  (hbad:(elB o.length a&&(elB o.length b && !(a==b)))=false→∀ e,sget e 4 = .bool false→Q .ret e H) :
  AWS prog 63 (.seq q92_4 (.cond (.tmp 34) (.seq q92_5 .ret) .skip)) Q [(0,ordV o),(1,w),(2,ptB b2),(4,.bool false),(5,Zx (k:Nat)),(6,ptB b9),(9,n9),(10,l9),(11,k9)] H:=by
 cases hA:elB o.length a with
 | false =>
   have hA' : (decide (0≤a)&&decide (a<(o.length:Int)))=false:=hA
   rw [hA] at hbad
   refine Yc fun N1 hN1=>?_
   refine Yd 4 fun N1 hN1=>?_
   simp (maxSteps:=2000000) only [s92,↓Za,↓Zi,↓Zr,↓Ze,↓Zj,↓Zs,↓Zg,↓Zo,↓Zf,↓Zb,↓Zc,↓vdn,vup,Zm,Zk,Zn,Zl,Zh,List.map_cons,List.map_nil,cond_true,cond_false,aop,Zv,Zq,Zp,ev,sput,Zt,Zy,Ya,unK,Zd,Zw,Nat.reduceBEq,Nat.reduceAdd,Int.reduceBEq,Int.reduceBNe,Int.reduceLT,Zu,Zz,tup,tyf,Yr,List.nil_append,List.append_nil,List.toList_toArray,List.cons_append,List.take_succ_cons,List.take_zero,Xy d0 Yn hl,fldA Vw Xk,ld40 d9]
   refine (element_call).mono ?_
   rintro _ H ⟨rfl,rfl⟩
   refine hN1 _ _ ?_
   clear hN1 N1
   simp only [List.drop_succ_cons,List.drop_zero]
   rw [hA']
   refine Yd 2 fun N1 hN1=>?_
   simp (maxSteps:=2000000) only [s92,↓Za,↓Zi,↓Zr,↓Ze,↓Zj,↓Zs,↓Zg,↓Zo,↓Zf,↓Zb,↓Zc,↓vdn,vup,Zm,Zk,Zn,Zl,Zh,List.map_cons,List.map_nil,cond_true,cond_false,aop,Zv,Zq,Zp,ev,sput,Zt,Zy,Ya,unK,Zd,Zw,Nat.reduceBEq,Nat.reduceAdd,Int.reduceBEq,Int.reduceBNe,Int.reduceLT,Zu,Zz,tup,tyf,List.take_succ_cons,List.take_zero]
   refine hN1 _ _ ?_
   clear hN1 N1
   simp only [List.drop_succ_cons,List.drop_zero]
   refine Yd 3 fun N1 hN1=>?_
   simp (maxSteps:=2000000) only [s92,↓Za,↓Zi,↓Zr,↓Ze,↓Zj,↓Zs,↓Zg,↓Zo,↓Zf,↓Zb,↓Zc,↓vdn,vup,Zm,Zk,Zn,Zl,Zh,List.map_cons,List.map_nil,cond_true,cond_false,aop,Zv,Zq,Zp,ev,sput,Zt,Zy,Ya,unK,Zd,Zw,Nat.reduceBEq,Nat.reduceAdd,Int.reduceBEq,Int.reduceBNe,Int.reduceLT,Zu,Zz,tup,tyf,List.take_succ_cons,List.take_zero]
   refine hN1 _ _ ?_
   clear hN1 N1
   simp only [List.drop_succ_cons,List.drop_zero]
   refine Yd 2 fun N1 hN1=>?_
   simp (maxSteps:=2000000) only [s92,↓Za,↓Zi,↓Zr,↓Ze,↓Zj,↓Zs,↓Zg,↓Zo,↓Zf,↓Zb,↓Zc,↓vdn,vup,Zm,Zk,Zn,Zl,Zh,List.map_cons,List.map_nil,cond_true,cond_false,aop,Zv,Zq,Zp,ev,sput,Zt,Zy,Ya,unK,Zd,Zw,Nat.reduceBEq,Nat.reduceAdd,Int.reduceBEq,Int.reduceBNe,Int.reduceLT,Zu,Zz,tup,tyf,List.take_succ_cons,List.take_zero]
   refine hN1 _ _ ?_
   clear hN1 N1
   simp only [List.drop_succ_cons,List.drop_zero]
   refine Yd 2 fun N1 hN1=>?_
   simp (maxSteps:=2000000) only [s92,↓Za,↓Zi,↓Zr,↓Ze,↓Zj,↓Zs,↓Zg,↓Zo,↓Zf,↓Zb,↓Zc,↓vdn,vup,Zm,Zk,Zn,Zl,Zh,List.map_cons,List.map_nil,cond_true,cond_false,aop,Zv,Zq,Zp,ev,sput,Zt,Zy,Ya,unK,Zd,Zw,Nat.reduceBEq,Nat.reduceAdd,Int.reduceBEq,Int.reduceBNe,Int.reduceLT,Zu,Zz,tup,tyf,List.take_succ_cons,List.take_zero]
   refine hN1 _ _ ?_
   clear hN1 N1
   simp only [List.drop_succ_cons,List.drop_zero]
   refine Yd 2 fun N1 hN1=>?_
   simp (maxSteps:=2000000) only [s92,↓Za,↓Zi,↓Zr,↓Ze,↓Zj,↓Zs,↓Zg,↓Zo,↓Zf,↓Zb,↓Zc,↓vdn,vup,Zm,Zk,Zn,Zl,Zh,List.map_cons,List.map_nil,cond_true,cond_false,aop,Zv,Zq,Zp,ev,sput,Zt,Zy,Ya,unK,Zd,Zw,Nat.reduceBEq,Nat.reduceAdd,Int.reduceBEq,Int.reduceBNe,Int.reduceLT,Zu,Zz,tup,tyf,List.take_succ_cons,List.take_zero]
   refine hN1 _ _ ?_
   clear hN1 N1
   simp only [List.drop_succ_cons,List.drop_zero]
   refine Yd 2 fun N1 hN1=>?_
   simp (maxSteps:=2000000) only [s92,↓Za,↓Zi,↓Zr,↓Ze,↓Zj,↓Zs,↓Zg,↓Zo,↓Zf,↓Zb,↓Zc,↓vdn,vup,Zm,Zk,Zn,Zl,Zh,List.map_cons,List.map_nil,cond_true,cond_false,aop,Zv,Zq,Zp,ev,sput,Zt,Zy,Ya,unK,Zd,Zw,Nat.reduceBEq,Nat.reduceAdd,Int.reduceBEq,Int.reduceBNe,Int.reduceLT,Zu,Zz,tup,tyf,List.take_succ_cons,List.take_zero]
   refine hN1 _ _ ?_
   clear hN1 N1
   simp only [List.drop_succ_cons,List.drop_zero]
   refine Yd 1 fun N1 hN1=>?_
   simp (maxSteps:=2000000) only [s92,↓Za,↓Zi,↓Zr,↓Ze,↓Zj,↓Zs,↓Zg,↓Zo,↓Zf,↓Zb,↓Zc,↓vdn,vup,Zm,Zk,Zn,Zl,Zh,List.map_cons,List.map_nil,cond_true,cond_false,aop,Zv,Zq,Zp,ev,sput,Zt,Zy,Ya,unK,Zd,Zw,Nat.reduceBEq,Nat.reduceAdd,Int.reduceBEq,Int.reduceBNe,Int.reduceLT,Zu,Zz,tup,tyf,List.take_succ_cons,List.take_zero]
   refine hN1 _ _ ?_
   clear hN1 N1
   simp only [List.drop_succ_cons,List.drop_zero]
   simp (maxSteps:=2000000) only [s92,↓Za,↓Zi,↓Zr,↓Ze,↓Zj,↓Zs,↓Zg,↓Zo,↓Zf,↓Zb,↓Zc,↓vdn,vup,Zm,Zk,Zn,Zl,Zh,List.map_cons,List.map_nil,cond_true,cond_false,aop,Zv,Zq,Zp,ev,sput,Zt,Zy,Ya,unK,Zd,Zw,Nat.reduceBEq,Nat.reduceAdd,Int.reduceBEq,Int.reduceBNe,Int.reduceLT,Zu,Zz,tup,tyf]
   refine hN1 [(0,ordV o),(1,w),(2,ptB b2),(4,.bool false),(5,Zx (k:Nat)),(6,ptB b9),(9,n9),(10,l9),(11,k9),(34,.bool true)] _ _ ?_ (by simp (maxSteps:=2000000) only [↓Za,↓Zi,↓Zr,↓Ze,↓Zj,↓Zs,↓Zg,↓Zo,↓Zf,↓Zb,↓Zc,↓vdn,vup,Zm,Zk,Zn,Zl,Zh,List.map_cons,List.map_nil,cond_true,cond_false,aop,Zv,Zq,Zp,ev,sput,Zt,Zy,Ya,unK,Zd,Zw,Nat.reduceBEq,Nat.reduceAdd,Int.reduceBEq,Int.reduceBNe,Int.reduceLT,Zu,Zz,tup,tyf])
   clear hN1
   try clear N1
   refine Xb rfl ?_
   refine Yf ?_
   simp (maxSteps:=2000000) only [s92,↓Za,↓Zi,↓Zr,↓Ze,↓Zj,↓Zs,↓Zg,↓Zo,↓Zf,↓Zb,↓Zc,↓vdn,vup,Zm,Zk,Zn,Zl,Zh,List.map_cons,List.map_nil,cond_true,cond_false,aop,Zv,Zq,Zp,ev,sput,Zt,Zy,Ya,unK,Zd,Zw,Nat.reduceBEq,Nat.reduceAdd,Int.reduceBEq,Int.reduceBNe,Int.reduceLT,Zu,Zz,tup,tyf]
   exact hbad rfl _ rfl
 | true =>
   have hA' : (decide (0≤a)&&decide (a<(o.length:Int)))=true:=hA
   cases hB:elB o.length b with
   | false =>
     have hB' : (decide (0≤b)&&decide (b<(o.length:Int)))=false:=hB
     rw [hA,hB] at hbad
     refine Yc fun N2 hN2=>?_
     refine Yd 4 fun N1 hN1=>?_
     simp (maxSteps:=2000000) only [s92,↓Za,↓Zi,↓Zr,↓Ze,↓Zj,↓Zs,↓Zg,↓Zo,↓Zf,↓Zb,↓Zc,↓vdn,vup,Zm,Zk,Zn,Zl,Zh,List.map_cons,List.map_nil,cond_true,cond_false,aop,Zv,Zq,Zp,ev,sput,Zt,Zy,Ya,unK,Zd,Zw,Nat.reduceBEq,Nat.reduceAdd,Int.reduceBEq,Int.reduceBNe,Int.reduceLT,Zu,Zz,tup,tyf,Yr,List.nil_append,List.append_nil,List.toList_toArray,List.cons_append,List.take_succ_cons,List.take_zero,Xy d0 Yn hl,fldA Vw Xk,ld40 d9]
     refine (element_call).mono ?_
     rintro _ H ⟨rfl,rfl⟩
     refine hN1 _ _ ?_
     clear hN1 N1
     simp only [List.drop_succ_cons,List.drop_zero]
     rw [hA']
     refine Yd 6 fun N1 hN1=>?_
     simp (maxSteps:=2000000) only [s92,↓Za,↓Zi,↓Zr,↓Ze,↓Zj,↓Zs,↓Zg,↓Zo,↓Zf,↓Zb,↓Zc,↓vdn,vup,Zm,Zk,Zn,Zl,Zh,List.map_cons,List.map_nil,cond_true,cond_false,aop,Zv,Zq,Zp,ev,sput,Zt,Zy,Ya,unK,Zd,Zw,Nat.reduceBEq,Nat.reduceAdd,Int.reduceBEq,Int.reduceBNe,Int.reduceLT,Zu,Zz,tup,tyf,Yr,List.nil_append,List.append_nil,List.toList_toArray,List.cons_append,List.take_succ_cons,List.take_zero,Xy d0 Yn hl,fldA fld_108_1 Xk,ld41 d9]
     refine (element_call).mono ?_
     rintro _ H ⟨rfl,rfl⟩
     refine hN1 _ _ ?_
     clear hN1 N1
     simp only [List.drop_succ_cons,List.drop_zero]
     rw [hB']
     refine Yd 3 fun N1 hN1=>?_
     simp (maxSteps:=2000000) only [s92,↓Za,↓Zi,↓Zr,↓Ze,↓Zj,↓Zs,↓Zg,↓Zo,↓Zf,↓Zb,↓Zc,↓vdn,vup,Zm,Zk,Zn,Zl,Zh,List.map_cons,List.map_nil,cond_true,cond_false,aop,Zv,Zq,Zp,ev,sput,Zt,Zy,Ya,unK,Zd,Zw,Nat.reduceBEq,Nat.reduceAdd,Int.reduceBEq,Int.reduceBNe,Int.reduceLT,Zu,Zz,tup,tyf,List.take_succ_cons,List.take_zero]
     refine hN1 _ _ ?_
     clear hN1 N1
     simp only [List.drop_succ_cons,List.drop_zero]
     refine Yd 2 fun N1 hN1=>?_
     simp (maxSteps:=2000000) only [s92,↓Za,↓Zi,↓Zr,↓Ze,↓Zj,↓Zs,↓Zg,↓Zo,↓Zf,↓Zb,↓Zc,↓vdn,vup,Zm,Zk,Zn,Zl,Zh,List.map_cons,List.map_nil,cond_true,cond_false,aop,Zv,Zq,Zp,ev,sput,Zt,Zy,Ya,unK,Zd,Zw,Nat.reduceBEq,Nat.reduceAdd,Int.reduceBEq,Int.reduceBNe,Int.reduceLT,Zu,Zz,tup,tyf,List.take_succ_cons,List.take_zero]
     refine hN1 _ _ ?_
     clear hN1 N1
     simp only [List.drop_succ_cons,List.drop_zero]
     refine Yd 2 fun N1 hN1=>?_
     simp (maxSteps:=2000000) only [s92,↓Za,↓Zi,↓Zr,↓Ze,↓Zj,↓Zs,↓Zg,↓Zo,↓Zf,↓Zb,↓Zc,↓vdn,vup,Zm,Zk,Zn,Zl,Zh,List.map_cons,List.map_nil,cond_true,cond_false,aop,Zv,Zq,Zp,ev,sput,Zt,Zy,Ya,unK,Zd,Zw,Nat.reduceBEq,Nat.reduceAdd,Int.reduceBEq,Int.reduceBNe,Int.reduceLT,Zu,Zz,tup,tyf,List.take_succ_cons,List.take_zero]
     refine hN1 _ _ ?_
     clear hN1 N1
     simp only [List.drop_succ_cons,List.drop_zero]
     refine Yd 1 fun N1 hN1=>?_
     simp (maxSteps:=2000000) only [s92,↓Za,↓Zi,↓Zr,↓Ze,↓Zj,↓Zs,↓Zg,↓Zo,↓Zf,↓Zb,↓Zc,↓vdn,vup,Zm,Zk,Zn,Zl,Zh,List.map_cons,List.map_nil,cond_true,cond_false,aop,Zv,Zq,Zp,ev,sput,Zt,Zy,Ya,unK,Zd,Zw,Nat.reduceBEq,Nat.reduceAdd,Int.reduceBEq,Int.reduceBNe,Int.reduceLT,Zu,Zz,tup,tyf,List.take_succ_cons,List.take_zero]
     refine hN1 _ _ ?_
     clear hN1 N1
     simp only [List.drop_succ_cons,List.drop_zero]
     simp (maxSteps:=2000000) only [s92,↓Za,↓Zi,↓Zr,↓Ze,↓Zj,↓Zs,↓Zg,↓Zo,↓Zf,↓Zb,↓Zc,↓vdn,vup,Zm,Zk,Zn,Zl,Zh,List.map_cons,List.map_nil,cond_true,cond_false,aop,Zv,Zq,Zp,ev,sput,Zt,Zy,Ya,unK,Zd,Zw,Nat.reduceBEq,Nat.reduceAdd,Int.reduceBEq,Int.reduceBNe,Int.reduceLT,Zu,Zz,tup,tyf]
     refine hN2 [(0,ordV o),(1,w),(2,ptB b2),(4,.bool false),(5,Zx (k:Nat)),(6,ptB b9),(9,n9),(10,l9),(11,k9),(34,.bool true)] _ _ ?_ (by simp (maxSteps:=2000000) only [↓Za,↓Zi,↓Zr,↓Ze,↓Zj,↓Zs,↓Zg,↓Zo,↓Zf,↓Zb,↓Zc,↓vdn,vup,Zm,Zk,Zn,Zl,Zh,List.map_cons,List.map_nil,cond_true,cond_false,aop,Zv,Zq,Zp,ev,sput,Zt,Zy,Ya,unK,Zd,Zw,Nat.reduceBEq,Nat.reduceAdd,Int.reduceBEq,Int.reduceBNe,Int.reduceLT,Zu,Zz,tup,tyf])
     clear hN2
     try clear N2
     refine Xb rfl ?_
     refine Yf ?_
     simp (maxSteps:=2000000) only [s92,↓Za,↓Zi,↓Zr,↓Ze,↓Zj,↓Zs,↓Zg,↓Zo,↓Zf,↓Zb,↓Zc,↓vdn,vup,Zm,Zk,Zn,Zl,Zh,List.map_cons,List.map_nil,cond_true,cond_false,aop,Zv,Zq,Zp,ev,sput,Zt,Zy,Ya,unK,Zd,Zw,Nat.reduceBEq,Nat.reduceAdd,Int.reduceBEq,Int.reduceBNe,Int.reduceLT,Zu,Zz,tup,tyf]
     exact hbad rfl _ rfl
   | true =>
     have hB' : (decide (0≤b)&&decide (b<(o.length:Int)))=true:=hB
     rw [hA,hB] at hbad
     obtain ⟨eq,heq⟩ : ∃ eq:Bool,(a==b)=eq:=⟨_,rfl⟩
     refine Yc fun N3 hN3=>?_
     refine Yd 4 fun N1 hN1=>?_
     simp (maxSteps:=2000000) only [s92,↓Za,↓Zi,↓Zr,↓Ze,↓Zj,↓Zs,↓Zg,↓Zo,↓Zf,↓Zb,↓Zc,↓vdn,vup,Zm,Zk,Zn,Zl,Zh,List.map_cons,List.map_nil,cond_true,cond_false,aop,Zv,Zq,Zp,ev,sput,Zt,Zy,Ya,unK,Zd,Zw,Nat.reduceBEq,Nat.reduceAdd,Int.reduceBEq,Int.reduceBNe,Int.reduceLT,Zu,Zz,tup,tyf,Yr,List.nil_append,List.append_nil,List.toList_toArray,List.cons_append,List.take_succ_cons,List.take_zero,Xy d0 Yn hl,fldA Vw Xk,ld40 d9]
     refine (element_call).mono ?_
     rintro _ H ⟨rfl,rfl⟩
     refine hN1 _ _ ?_
     clear hN1 N1
     simp only [List.drop_succ_cons,List.drop_zero]
     rw [hA']
     refine Yd 6 fun N1 hN1=>?_
     simp (maxSteps:=2000000) only [s92,↓Za,↓Zi,↓Zr,↓Ze,↓Zj,↓Zs,↓Zg,↓Zo,↓Zf,↓Zb,↓Zc,↓vdn,vup,Zm,Zk,Zn,Zl,Zh,List.map_cons,List.map_nil,cond_true,cond_false,aop,Zv,Zq,Zp,ev,sput,Zt,Zy,Ya,unK,Zd,Zw,Nat.reduceBEq,Nat.reduceAdd,Int.reduceBEq,Int.reduceBNe,Int.reduceLT,Zu,Zz,tup,tyf,Yr,List.nil_append,List.append_nil,List.toList_toArray,List.cons_append,List.take_succ_cons,List.take_zero,Xy d0 Yn hl,fldA fld_108_1 Xk,ld41 d9]
     refine (element_call).mono ?_
     rintro _ H ⟨rfl,rfl⟩
     refine hN1 _ _ ?_
     clear hN1 N1
     simp only [List.drop_succ_cons,List.drop_zero]
     rw [hB']
     refine Yd 3 fun N1 hN1=>?_
     simp (maxSteps:=2000000) only [s92,↓Za,↓Zi,↓Zr,↓Ze,↓Zj,↓Zs,↓Zg,↓Zo,↓Zf,↓Zb,↓Zc,↓vdn,vup,Zm,Zk,Zn,Zl,Zh,List.map_cons,List.map_nil,cond_true,cond_false,aop,Zv,Zq,Zp,ev,sput,Zt,Zy,Ya,unK,Zd,Zw,Nat.reduceBEq,Nat.reduceAdd,Int.reduceBEq,Int.reduceBNe,Int.reduceLT,Zu,Zz,tup,tyf,List.take_succ_cons,List.take_zero]
     refine hN1 _ _ ?_
     clear hN1 N1
     simp only [List.drop_succ_cons,List.drop_zero]
     refine Yd 2 fun N1 hN1=>?_
     simp (maxSteps:=2000000) only [s92,↓Za,↓Zi,↓Zr,↓Ze,↓Zj,↓Zs,↓Zg,↓Zo,↓Zf,↓Zb,↓Zc,↓vdn,vup,Zm,Zk,Zn,Zl,Zh,List.map_cons,List.map_nil,cond_true,cond_false,aop,Zv,Zq,Zp,ev,sput,Zt,Zy,Ya,unK,Zd,Zw,Nat.reduceBEq,Nat.reduceAdd,Int.reduceBEq,Int.reduceBNe,Int.reduceLT,Zu,Zz,tup,tyf,List.take_succ_cons,List.take_zero,fldA Vw Xk,ld40 d9]
     refine hN1 _ _ ?_
     clear hN1 N1
     simp only [List.drop_succ_cons,List.drop_zero]
     refine Yd 2 fun N1 hN1=>?_
     simp (maxSteps:=2000000) only [s92,↓Za,↓Zi,↓Zr,↓Ze,↓Zj,↓Zs,↓Zg,↓Zo,↓Zf,↓Zb,↓Zc,↓vdn,vup,Zm,Zk,Zn,Zl,Zh,List.map_cons,List.map_nil,cond_true,cond_false,aop,Zv,Zq,Zp,ev,sput,Zt,Zy,Ya,unK,Zd,Zw,Nat.reduceBEq,Nat.reduceAdd,Int.reduceBEq,Int.reduceBNe,Int.reduceLT,Zu,Zz,tup,tyf,List.take_succ_cons,List.take_zero,fldA fld_108_1 Xk,ld41 d9]
     refine hN1 _ _ ?_
     clear hN1 N1
     simp only [List.drop_succ_cons,List.drop_zero]
     refine Yd 1 fun N1 hN1=>?_
     simp (maxSteps:=2000000) only [s92,↓Za,↓Zi,↓Zr,↓Ze,↓Zj,↓Zs,↓Zg,↓Zo,↓Zf,↓Zb,↓Zc,↓vdn,vup,Zm,Zk,Zn,Zl,Zh,List.map_cons,List.map_nil,cond_true,cond_false,aop,Zv,Zq,Zp,ev,sput,Zt,Zy,Ya,unK,Zd,Zw,Nat.reduceBEq,Nat.reduceAdd,Int.reduceBEq,Int.reduceBNe,Int.reduceLT,Zu,Zz,tup,tyf,List.take_succ_cons,List.take_zero,heq]
     refine hN1 _ _ ?_
     clear hN1 N1
     simp only [List.drop_succ_cons,List.drop_zero]
     simp (maxSteps:=2000000) only [s92,↓Za,↓Zi,↓Zr,↓Ze,↓Zj,↓Zs,↓Zg,↓Zo,↓Zf,↓Zb,↓Zc,↓vdn,vup,Zm,Zk,Zn,Zl,Zh,List.map_cons,List.map_nil,cond_true,cond_false,aop,Zv,Zq,Zp,ev,sput,Zt,Zy,Ya,unK,Zd,Zw,Nat.reduceBEq,Nat.reduceAdd,Int.reduceBEq,Int.reduceBNe,Int.reduceLT,Zu,Zz,tup,tyf]
     refine hN3 [(0,ordV o),(1,w),(2,ptB b2),(4,.bool false),(5,Zx (k:Nat)),(6,ptB b9),(9,n9),(10,l9),(11,k9),(34,.bool eq)] _ _ ?_ (by simp (maxSteps:=2000000) only [↓Za,↓Zi,↓Zr,↓Ze,↓Zj,↓Zs,↓Zg,↓Zo,↓Zf,↓Zb,↓Zc,↓vdn,vup,Zm,Zk,Zn,Zl,Zh,List.map_cons,List.map_nil,cond_true,cond_false,aop,Zv,Zq,Zp,ev,sput,Zt,Zy,Ya,unK,Zd,Zw,Nat.reduceBEq,Nat.reduceAdd,Int.reduceBEq,Int.reduceBNe,Int.reduceLT,Zu,Zz,tup,tyf])
     clear hN3
     try clear N3
     cases eq with
     | true =>
       rw [heq] at hbad
       refine Xb rfl ?_
       refine Yf ?_
       simp (maxSteps:=2000000) only [s92,↓Za,↓Zi,↓Zr,↓Ze,↓Zj,↓Zs,↓Zg,↓Zo,↓Zf,↓Zb,↓Zc,↓vdn,vup,Zm,Zk,Zn,Zl,Zh,List.map_cons,List.map_nil,cond_true,cond_false,aop,Zv,Zq,Zp,ev,sput,Zt,Zy,Ya,unK,Zd,Zw,Nat.reduceBEq,Nat.reduceAdd,Int.reduceBEq,Int.reduceBNe,Int.reduceLT,Zu,Zz,tup,tyf]
       exact hbad rfl _ rfl
     | false =>
       refine Xa rfl ?_
       refine Yf ?_
       simp (maxSteps:=2000000) only [s92,↓Za,↓Zi,↓Zr,↓Ze,↓Zj,↓Zs,↓Zg,↓Zo,↓Zf,↓Zb,↓Zc,↓vdn,vup,Zm,Zk,Zn,Zl,Zh,List.map_cons,List.map_nil,cond_true,cond_false,aop,Zv,Zq,Zp,ev,sput,Zt,Zy,Ya,unK,Zd,Zw,Nat.reduceBEq,Nat.reduceAdd,Int.reduceBEq,Int.reduceBNe,Int.reduceLT,Zu,Zz,tup,tyf]
       exact hok hA hB heq _ (by simp (maxSteps:=2000000) only [↓Za,↓Zi,↓Zr,↓Ze,↓Zj,↓Zs,↓Zg,↓Zo,↓Zf,↓Zb,↓Zc,↓vdn,vup,Zm,Zk,Zn,Zl,Zh,List.map_cons,List.map_nil,cond_true,cond_false,aop,Zv,Zq,Zp,ev,sput,Zt,Zy,Ya,unK,Zd,Zw,Nat.reduceBEq,Nat.reduceAdd,Int.reduceBEq,Int.reduceBNe,Int.reduceLT,Zu,Zz,tup,tyf])
theorem next92 [BitTab prog 1] {H:Yb} {w v0 v2 v6 v9 v10 v11 v39 v40 v41:Value} {P:List Qd} {k:Nat} {x:Int} {Q:Exit→Env→Yb→Prop} (hw:QuadSl H w P)
  (hok:nxB P.length k x=true→∀ e,ELe e [(0,v0),(1,w),(2,v2),(4,.bool false),(5,Zx (k:Nat)),(6,v6),(9,v9),(10,v10),(11,v11),(39,v39),(40,v40),(41,v41)]→Q .normal e H)
  (hbad:nxB P.length k x=false→∀ e,sget e 4 = .bool false→Q .ret e H) :
  AWS prog 63 (.seq q92_9 (.cond (.tmp 57) (.seq q92_10 .ret) .skip)) Q [(0,v0),(1,w),(2,v2),(4,.bool false),(5,Zx (k:Nat)),(6,v6),(8,Zx x),(9,v9),(10,v10),(11,v11),(39,v39),(40,v40),(41,v41)] H:=by
 obtain ⟨b1,h1⟩ : ∃ b1,(x != -1)=b1:=⟨_,rfl⟩
 obtain ⟨b2,h2⟩ : ∃ b2,decide (x≤(k:Int))=b2:=⟨_,rfl⟩
 obtain ⟨b3,h3⟩ : ∃ b3,decide ((P.length:Int)≤x)=b3:=⟨_,rfl⟩
 rw [nxB,h1,h2,h3] at hok hbad
 refine Yc fun N4 hN4=>?_
 refine Yd 3 fun N1 hN1=>?_
 simp (maxSteps:=2000000) only [s92,↓Za,↓Zi,↓Zr,↓Ze,↓Zj,↓Zs,↓Zg,↓Zo,↓Zf,↓Zb,↓Zc,↓vdn,vup,Zm,Zk,Zn,Zl,Zh,List.map_cons,List.map_nil,cond_true,cond_false,aop,Zv,Zq,Zp,ev,sput,Zt,Zy,Ya,unK,Zd,Zw,Nat.reduceBEq,Nat.reduceAdd,Int.reduceBEq,Int.reduceBNe,Int.reduceLT,Zu,Zz,tup,tyf,List.take_succ_cons,List.take_zero,h1]
 refine hN1 _ _ ?_
 clear hN1 N1
 simp only [List.drop_succ_cons,List.drop_zero]
 cases b1 with
 | false =>
   refine Yd 3 fun N1 hN1=>?_
   simp (maxSteps:=2000000) only [s92,↓Za,↓Zi,↓Zr,↓Ze,↓Zj,↓Zs,↓Zg,↓Zo,↓Zf,↓Zb,↓Zc,↓vdn,vup,Zm,Zk,Zn,Zl,Zh,List.map_cons,List.map_nil,cond_true,cond_false,aop,Zv,Zq,Zp,ev,sput,Zt,Zy,Ya,unK,Zd,Zw,Nat.reduceBEq,Nat.reduceAdd,Int.reduceBEq,Int.reduceBNe,Int.reduceLT,Zu,Zz,tup,tyf,List.take_succ_cons,List.take_zero]
   refine hN1 _ _ ?_
   clear hN1 N1
   simp only [List.drop_succ_cons,List.drop_zero]
   refine Yd 2 fun N1 hN1=>?_
   simp (maxSteps:=2000000) only [s92,↓Za,↓Zi,↓Zr,↓Ze,↓Zj,↓Zs,↓Zg,↓Zo,↓Zf,↓Zb,↓Zc,↓vdn,vup,Zm,Zk,Zn,Zl,Zh,List.map_cons,List.map_nil,cond_true,cond_false,aop,Zv,Zq,Zp,ev,sput,Zt,Zy,Ya,unK,Zd,Zw,Nat.reduceBEq,Nat.reduceAdd,Int.reduceBEq,Int.reduceBNe,Int.reduceLT,Zu,Zz,tup,tyf,List.take_succ_cons,List.take_zero]
   refine hN1 _ _ ?_
   clear hN1 N1
   simp only [List.drop_succ_cons,List.drop_zero]
   refine Yd 2 fun N1 hN1=>?_
   simp (maxSteps:=2000000) only [s92,↓Za,↓Zi,↓Zr,↓Ze,↓Zj,↓Zs,↓Zg,↓Zo,↓Zf,↓Zb,↓Zc,↓vdn,vup,Zm,Zk,Zn,Zl,Zh,List.map_cons,List.map_nil,cond_true,cond_false,aop,Zv,Zq,Zp,ev,sput,Zt,Zy,Ya,unK,Zd,Zw,Nat.reduceBEq,Nat.reduceAdd,Int.reduceBEq,Int.reduceBNe,Int.reduceLT,Zu,Zz,tup,tyf,List.take_succ_cons,List.take_zero]
   refine hN1 _ _ ?_
   clear hN1 N1
   simp only [List.drop_succ_cons,List.drop_zero]
   refine Yd 2 fun N1 hN1=>?_
   simp (maxSteps:=2000000) only [s92,↓Za,↓Zi,↓Zr,↓Ze,↓Zj,↓Zs,↓Zg,↓Zo,↓Zf,↓Zb,↓Zc,↓vdn,vup,Zm,Zk,Zn,Zl,Zh,List.map_cons,List.map_nil,cond_true,cond_false,aop,Zv,Zq,Zp,ev,sput,Zt,Zy,Ya,unK,Zd,Zw,Nat.reduceBEq,Nat.reduceAdd,Int.reduceBEq,Int.reduceBNe,Int.reduceLT,Zu,Zz,tup,tyf,List.take_succ_cons,List.take_zero,hw.len,ge_iff_le,h3]
   refine hN1 _ _ ?_
   clear hN1 N1
   simp only [List.drop_succ_cons,List.drop_zero]
   simp (maxSteps:=2000000) only [s92,↓Za,↓Zi,↓Zr,↓Ze,↓Zj,↓Zs,↓Zg,↓Zo,↓Zf,↓Zb,↓Zc,↓vdn,vup,Zm,Zk,Zn,Zl,Zh,List.map_cons,List.map_nil,cond_true,cond_false,aop,Zv,Zq,Zp,ev,sput,Zt,Zy,Ya,unK,Zd,Zw,Nat.reduceBEq,Nat.reduceAdd,Int.reduceBEq,Int.reduceBNe,Int.reduceLT,Zu,Zz,tup,tyf]
   refine hN4 [(0,v0),(1,w),(2,v2),(4,.bool false),(5,Zx (k:Nat)),(6,v6),(8,Zx x),(9,v9),(10,v10),(11,v11),(39,v39),(40,v40),(41,v41),(57,.bool b3)] _ _ ?_ (by simp (maxSteps:=2000000) only [↓Za,↓Zi,↓Zr,↓Ze,↓Zj,↓Zs,↓Zg,↓Zo,↓Zf,↓Zb,↓Zc,↓vdn,vup,Zm,Zk,Zn,Zl,Zh,List.map_cons,List.map_nil,cond_true,cond_false,aop,Zv,Zq,Zp,ev,sput,Zt,Zy,Ya,unK,Zd,Zw,Nat.reduceBEq,Nat.reduceAdd,Int.reduceBEq,Int.reduceBNe,Int.reduceLT,Zu,Zz,tup,tyf])
   clear hN4
   try clear N4
   cases b3 with
   | true =>
     refine Xb rfl ?_
     refine Yf ?_
     simp (maxSteps:=2000000) only [s92,↓Za,↓Zi,↓Zr,↓Ze,↓Zj,↓Zs,↓Zg,↓Zo,↓Zf,↓Zb,↓Zc,↓vdn,vup,Zm,Zk,Zn,Zl,Zh,List.map_cons,List.map_nil,cond_true,cond_false,aop,Zv,Zq,Zp,ev,sput,Zt,Zy,Ya,unK,Zd,Zw,Nat.reduceBEq,Nat.reduceAdd,Int.reduceBEq,Int.reduceBNe,Int.reduceLT,Zu,Zz,tup,tyf]
     exact hbad rfl _ rfl
   | false =>
     refine Xa rfl ?_
     refine Yf ?_
     simp (maxSteps:=2000000) only [s92,↓Za,↓Zi,↓Zr,↓Ze,↓Zj,↓Zs,↓Zg,↓Zo,↓Zf,↓Zb,↓Zc,↓vdn,vup,Zm,Zk,Zn,Zl,Zh,List.map_cons,List.map_nil,cond_true,cond_false,aop,Zv,Zq,Zp,ev,sput,Zt,Zy,Ya,unK,Zd,Zw,Nat.reduceBEq,Nat.reduceAdd,Int.reduceBEq,Int.reduceBNe,Int.reduceLT,Zu,Zz,tup,tyf]
     exact hok rfl _ (by simp (maxSteps:=2000000) only [↓Za,↓Zi,↓Zr,↓Ze,↓Zj,↓Zs,↓Zg,↓Zo,↓Zf,↓Zb,↓Zc,↓vdn,vup,Zm,Zk,Zn,Zl,Zh,List.map_cons,List.map_nil,cond_true,cond_false,aop,Zv,Zq,Zp,ev,sput,Zt,Zy,Ya,unK,Zd,Zw,Nat.reduceBEq,Nat.reduceAdd,Int.reduceBEq,Int.reduceBNe,Int.reduceLT,Zu,Zz,tup,tyf])
 | true =>
   refine Yd 3 fun N1 hN1=>?_
   simp (maxSteps:=2000000) only [s92,↓Za,↓Zi,↓Zr,↓Ze,↓Zj,↓Zs,↓Zg,↓Zo,↓Zf,↓Zb,↓Zc,↓vdn,vup,Zm,Zk,Zn,Zl,Zh,List.map_cons,List.map_nil,cond_true,cond_false,aop,Zv,Zq,Zp,ev,sput,Zt,Zy,Ya,unK,Zd,Zw,Nat.reduceBEq,Nat.reduceAdd,Int.reduceBEq,Int.reduceBNe,Int.reduceLT,Zu,Zz,tup,tyf,List.take_succ_cons,List.take_zero,h2]
   refine hN1 _ _ ?_
   clear hN1 N1
   simp only [List.drop_succ_cons,List.drop_zero]
   refine Yd 2 fun N1 hN1=>?_
   simp (maxSteps:=2000000) only [s92,↓Za,↓Zi,↓Zr,↓Ze,↓Zj,↓Zs,↓Zg,↓Zo,↓Zf,↓Zb,↓Zc,↓vdn,vup,Zm,Zk,Zn,Zl,Zh,List.map_cons,List.map_nil,cond_true,cond_false,aop,Zv,Zq,Zp,ev,sput,Zt,Zy,Ya,unK,Zd,Zw,Nat.reduceBEq,Nat.reduceAdd,Int.reduceBEq,Int.reduceBNe,Int.reduceLT,Zu,Zz,tup,tyf,List.take_succ_cons,List.take_zero]
   refine hN1 _ _ ?_
   clear hN1 N1
   simp only [List.drop_succ_cons,List.drop_zero]
   cases b2 with
   | true =>
     refine Yd 2 fun N1 hN1=>?_
     simp (maxSteps:=2000000) only [s92,↓Za,↓Zi,↓Zr,↓Ze,↓Zj,↓Zs,↓Zg,↓Zo,↓Zf,↓Zb,↓Zc,↓vdn,vup,Zm,Zk,Zn,Zl,Zh,List.map_cons,List.map_nil,cond_true,cond_false,aop,Zv,Zq,Zp,ev,sput,Zt,Zy,Ya,unK,Zd,Zw,Nat.reduceBEq,Nat.reduceAdd,Int.reduceBEq,Int.reduceBNe,Int.reduceLT,Zu,Zz,tup,tyf,List.take_succ_cons,List.take_zero]
     refine hN1 _ _ ?_
     clear hN1 N1
     simp only [List.drop_succ_cons,List.drop_zero]
     refine Yd 2 fun N1 hN1=>?_
     simp (maxSteps:=2000000) only [s92,↓Za,↓Zi,↓Zr,↓Ze,↓Zj,↓Zs,↓Zg,↓Zo,↓Zf,↓Zb,↓Zc,↓vdn,vup,Zm,Zk,Zn,Zl,Zh,List.map_cons,List.map_nil,cond_true,cond_false,aop,Zv,Zq,Zp,ev,sput,Zt,Zy,Ya,unK,Zd,Zw,Nat.reduceBEq,Nat.reduceAdd,Int.reduceBEq,Int.reduceBNe,Int.reduceLT,Zu,Zz,tup,tyf,List.take_succ_cons,List.take_zero]
     refine hN1 _ _ ?_
     clear hN1 N1
     simp only [List.drop_succ_cons,List.drop_zero]
     simp (maxSteps:=2000000) only [s92,↓Za,↓Zi,↓Zr,↓Ze,↓Zj,↓Zs,↓Zg,↓Zo,↓Zf,↓Zb,↓Zc,↓vdn,vup,Zm,Zk,Zn,Zl,Zh,List.map_cons,List.map_nil,cond_true,cond_false,aop,Zv,Zq,Zp,ev,sput,Zt,Zy,Ya,unK,Zd,Zw,Nat.reduceBEq,Nat.reduceAdd,Int.reduceBEq,Int.reduceBNe,Int.reduceLT,Zu,Zz,tup,tyf]
     refine hN4 [(0,v0),(1,w),(2,v2),(4,.bool false),(5,Zx (k:Nat)),(6,v6),(8,Zx x),(9,v9),(10,v10),(11,v11),(39,v39),(40,v40),(41,v41),(57,.bool true)] _ _ ?_ (by simp (maxSteps:=2000000) only [↓Za,↓Zi,↓Zr,↓Ze,↓Zj,↓Zs,↓Zg,↓Zo,↓Zf,↓Zb,↓Zc,↓vdn,vup,Zm,Zk,Zn,Zl,Zh,List.map_cons,List.map_nil,cond_true,cond_false,aop,Zv,Zq,Zp,ev,sput,Zt,Zy,Ya,unK,Zd,Zw,Nat.reduceBEq,Nat.reduceAdd,Int.reduceBEq,Int.reduceBNe,Int.reduceLT,Zu,Zz,tup,tyf])
     clear hN4
     try clear N4
     refine Xb rfl ?_
     refine Yf ?_
     simp (maxSteps:=2000000) only [s92,↓Za,↓Zi,↓Zr,↓Ze,↓Zj,↓Zs,↓Zg,↓Zo,↓Zf,↓Zb,↓Zc,↓vdn,vup,Zm,Zk,Zn,Zl,Zh,List.map_cons,List.map_nil,cond_true,cond_false,aop,Zv,Zq,Zp,ev,sput,Zt,Zy,Ya,unK,Zd,Zw,Nat.reduceBEq,Nat.reduceAdd,Int.reduceBEq,Int.reduceBNe,Int.reduceLT,Zu,Zz,tup,tyf]
     exact hbad rfl _ rfl
   | false =>
     refine Yd 2 fun N1 hN1=>?_
     simp (maxSteps:=2000000) only [s92,↓Za,↓Zi,↓Zr,↓Ze,↓Zj,↓Zs,↓Zg,↓Zo,↓Zf,↓Zb,↓Zc,↓vdn,vup,Zm,Zk,Zn,Zl,Zh,List.map_cons,List.map_nil,cond_true,cond_false,aop,Zv,Zq,Zp,ev,sput,Zt,Zy,Ya,unK,Zd,Zw,Nat.reduceBEq,Nat.reduceAdd,Int.reduceBEq,Int.reduceBNe,Int.reduceLT,Zu,Zz,tup,tyf,List.take_succ_cons,List.take_zero]
     refine hN1 _ _ ?_
     clear hN1 N1
     simp only [List.drop_succ_cons,List.drop_zero]
     refine Yd 2 fun N1 hN1=>?_
     simp (maxSteps:=2000000) only [s92,↓Za,↓Zi,↓Zr,↓Ze,↓Zj,↓Zs,↓Zg,↓Zo,↓Zf,↓Zb,↓Zc,↓vdn,vup,Zm,Zk,Zn,Zl,Zh,List.map_cons,List.map_nil,cond_true,cond_false,aop,Zv,Zq,Zp,ev,sput,Zt,Zy,Ya,unK,Zd,Zw,Nat.reduceBEq,Nat.reduceAdd,Int.reduceBEq,Int.reduceBNe,Int.reduceLT,Zu,Zz,tup,tyf,List.take_succ_cons,List.take_zero,hw.len,ge_iff_le,h3]
     refine hN1 _ _ ?_
     clear hN1 N1
     simp only [List.drop_succ_cons,List.drop_zero]
     simp (maxSteps:=2000000) only [s92,↓Za,↓Zi,↓Zr,↓Ze,↓Zj,↓Zs,↓Zg,↓Zo,↓Zf,↓Zb,↓Zc,↓vdn,vup,Zm,Zk,Zn,Zl,Zh,List.map_cons,List.map_nil,cond_true,cond_false,aop,Zv,Zq,Zp,ev,sput,Zt,Zy,Ya,unK,Zd,Zw,Nat.reduceBEq,Nat.reduceAdd,Int.reduceBEq,Int.reduceBNe,Int.reduceLT,Zu,Zz,tup,tyf]
     refine hN4 [(0,v0),(1,w),(2,v2),(4,.bool false),(5,Zx (k:Nat)),(6,v6),(8,Zx x),(9,v9),(10,v10),(11,v11),(39,v39),(40,v40),(41,v41),(57,.bool b3)] _ _ ?_ (by simp (maxSteps:=2000000) only [↓Za,↓Zi,↓Zr,↓Ze,↓Zj,↓Zs,↓Zg,↓Zo,↓Zf,↓Zb,↓Zc,↓vdn,vup,Zm,Zk,Zn,Zl,Zh,List.map_cons,List.map_nil,cond_true,cond_false,aop,Zv,Zq,Zp,ev,sput,Zt,Zy,Ya,unK,Zd,Zw,Nat.reduceBEq,Nat.reduceAdd,Int.reduceBEq,Int.reduceBNe,Int.reduceLT,Zu,Zz,tup,tyf])
     clear hN4
     try clear N4
     cases b3 with
     | true =>
       refine Xb rfl ?_
       refine Yf ?_
       simp (maxSteps:=2000000) only [s92,↓Za,↓Zi,↓Zr,↓Ze,↓Zj,↓Zs,↓Zg,↓Zo,↓Zf,↓Zb,↓Zc,↓vdn,vup,Zm,Zk,Zn,Zl,Zh,List.map_cons,List.map_nil,cond_true,cond_false,aop,Zv,Zq,Zp,ev,sput,Zt,Zy,Ya,unK,Zd,Zw,Nat.reduceBEq,Nat.reduceAdd,Int.reduceBEq,Int.reduceBNe,Int.reduceLT,Zu,Zz,tup,tyf]
       exact hbad rfl _ rfl
     | false =>
       refine Xa rfl ?_
       refine Yf ?_
       simp (maxSteps:=2000000) only [s92,↓Za,↓Zi,↓Zr,↓Ze,↓Zj,↓Zs,↓Zg,↓Zo,↓Zf,↓Zb,↓Zc,↓vdn,vup,Zm,Zk,Zn,Zl,Zh,List.map_cons,List.map_nil,cond_true,cond_false,aop,Zv,Zq,Zp,ev,sput,Zt,Zy,Ya,unK,Zd,Zw,Nat.reduceBEq,Nat.reduceAdd,Int.reduceBEq,Int.reduceBNe,Int.reduceLT,Zu,Zz,tup,tyf]
       exact hok rfl _ (by simp (maxSteps:=2000000) only [↓Za,↓Zi,↓Zr,↓Ze,↓Zj,↓Zs,↓Zg,↓Zo,↓Zf,↓Zb,↓Zc,↓vdn,vup,Zm,Zk,Zn,Zl,Zh,List.map_cons,List.map_nil,cond_true,cond_false,aop,Zv,Zq,Zp,ev,sput,Zt,Zy,Ya,unK,Zd,Zw,Nat.reduceBEq,Nat.reduceAdd,Int.reduceBEq,Int.reduceBNe,Int.reduceLT,Zu,Zz,tup,tyf])
theorem nexts92 [BitTab prog 1] {H:Yb} {w v0 v2 v9 v10 v11:Value} {P:List Qd} {k b9:Nat} {a b l m:Int} {Q:Exit→Env→Yb→Prop} (hw:QuadSl H w P) (d9:H[b9]? = some (.cells (c4 (a,b,l,m)) 108 false))
  (hok:nxB P.length k l=true→nxB P.length k m=true→∀ e H',Ext (fun _=>False) H H'→ELe e [(0,v0),(1,w),(2,v2),(4,.bool false),(9,v9),(10,v10),(11,v11)]→Q .normal e H')
  (hbad:(nxB P.length k l&&nxB P.length k m)=false→∀ e H',Ext (fun _=>False) H H'→sget e 4 = .bool false→Q .ret e H') :
  AWS prog 63 (.seq q92_6 (.block 2 (.loop l92_0))) Q [(0,v0),(1,w),(2,v2),(4,.bool false),(5,Zx (k:Nat)),(6,ptB b9),(9,v9),(10,v10),(11,v11)] H:=by
 have litH:IntSl (H++[Blk.ints [l,m] 3 false]) (.slice (some ⟨H.length,0,none⟩) 2 2) [l,m]:=litSl
 have hEH:Ext (fun _=>False) H (H++[Blk.ints [l,m] 3 false]):=Ext.app _ _ _
 have hwL:=hw.ext hEH
 refine Yc fun N5 hN5=>?_
 simp (maxSteps:=2000000) only [s92,↓Za,↓Zi,↓Zr,↓Ze,↓Zj,↓Zs,↓Zg,↓Zo,↓Zf,↓Zb,↓Zc,↓vdn,vup,Zm,Zk,Zn,Zl,Zh,List.map_cons,List.map_nil,cond_true,cond_false,aop,Zv,Zq,Zp,ev,sput,Zt,Zy,Ya,unK,Zd,Zw,Nat.reduceBEq,Nat.reduceAdd,Int.reduceBEq,Int.reduceBNe,Int.reduceLT,Zu,Zz,tup,tyf,fldA fld_108_2 Xk,fldA fld_108_3 Xk,ld42 d9,ld43 d9,lit2,lenK]
 generalize H++[Blk.ints [l,m] 3 false]=H2 at litH hEH hwL ⊢
 generalize (Value.slice (some ⟨H.length,0,none⟩) 2 2)=lv at litH ⊢
 refine hN5 [(0,v0),(1,w),(2,v2),(4,.bool false),(5,Zx (k:Nat)),(6,ptB b9),(9,v9),(10,v10),(11,v11),(39,lv),(40,Zx ((2:Nat):Int)),(41,.int .i64 0)] _ _ ?_ (by simp (maxSteps:=2000000) only [↓Za,↓Zi,↓Zr,↓Ze,↓Zj,↓Zs,↓Zg,↓Zo,↓Zf,↓Zb,↓Zc,↓vdn,vup,Zm,Zk,Zn,Zl,Zh,List.map_cons,List.map_nil,cond_true,cond_false,aop,Zv,Zq,Zp,ev,sput,Zt,Zy,Ya,unK,Zd,Zw,Nat.reduceBEq,Nat.reduceAdd,Int.reduceBEq,Int.reduceBNe,Int.reduceLT,Zu,Zz,tup,tyf])
 clear hN5
 try clear N5
 refine Xp ?_
 refine Xf fun Qa hQa=>?_
 refine Vi (γ:=Nat) (fun s=>s≤2∧∀ q,q<s→nxB P.length k (([l,m]:List Int).getD q 0)=true)
  (fun s=>([(0,v0),(1,w),(2,v2),(4,.bool false),(5,Zx (k:Nat)),(6,ptB b9),(9,v9),(10,v10),(11,v11),(39,lv),(40,Zx ((2:Nat):Int)),(41,Zx (s:Nat))],H2)) (fun s=>2-s) 0 ⟨Nat.zero_le _,fun q hq=>absurd hq (Nat.not_lt_zero q)⟩ (by simp (maxSteps:=2000000) only [↓Za,↓Zi,↓Zr,↓Ze,↓Zj,↓Zs,↓Zg,↓Zo,↓Zf,↓Zb,↓Zc,↓vdn,vup,Zm,Zk,Zn,Zl,Zh,List.map_cons,List.map_nil,cond_true,cond_false,aop,Zv,Zq,Zp,ev,sput,Zt,Zy,Ya,unK,Zd,Zw,Nat.reduceBEq,Nat.reduceAdd,Int.reduceBEq,Int.reduceBNe,Int.reduceLT,Zu,Zz,tup,tyf,Int.natCast_zero]) rfl ?_
 rintro q ⟨hq2,hqo⟩
 refine Xf fun Qb hQb=>?_
 simp only [l92_0]
 by_cases hqn:(q:Int)<((2:Nat):Int)
 · have hq' : q<([l,m]:List Int).length:=by simp; omega
   obtain ⟨x,hx⟩ : ∃ x:Int,([l,m]:List Int).getD q 0=x:=⟨_,rfl⟩
   have hldx:=litH.load Xd hq'
   rw [hx] at hldx
   refine Yc fun N6 hN6=>?_
   simp (maxSteps:=2000000) only [s92,↓Za,↓Zi,↓Zr,↓Ze,↓Zj,↓Zs,↓Zg,↓Zo,↓Zf,↓Zb,↓Zc,↓vdn,vup,Zm,Zk,Zn,Zl,Zh,List.map_cons,List.map_nil,cond_true,cond_false,aop,Zv,Zq,Zp,ev,sput,Zt,Zy,Ya,unK,Zd,Zw,Nat.reduceBEq,Nat.reduceAdd,Int.reduceBEq,Int.reduceBNe,Int.reduceLT,Zu,Zz,tup,tyf,hqn]
   refine hN6 [(0,v0),(1,w),(2,v2),(4,.bool false),(5,Zx (k:Nat)),(6,ptB b9),(9,v9),(10,v10),(11,v11),(39,lv),(40,Zx ((2:Nat):Int)),(41,Zx (q:Nat)),(42,.bool true)] _ _ ?_ (by simp (maxSteps:=2000000) only [↓Za,↓Zi,↓Zr,↓Ze,↓Zj,↓Zs,↓Zg,↓Zo,↓Zf,↓Zb,↓Zc,↓vdn,vup,Zm,Zk,Zn,Zl,Zh,List.map_cons,List.map_nil,cond_true,cond_false,aop,Zv,Zq,Zp,ev,sput,Zt,Zy,Ya,unK,Zd,Zw,Nat.reduceBEq,Nat.reduceAdd,Int.reduceBEq,Int.reduceBNe,Int.reduceLT,Zu,Zz,tup,tyf])
   clear hN6
   try clear N6
   refine Yc fun N7 hN7=>?_
   simp (maxSteps:=2000000) only [s92,↓Za,↓Zi,↓Zr,↓Ze,↓Zj,↓Zs,↓Zg,↓Zo,↓Zf,↓Zb,↓Zc,↓vdn,vup,Zm,Zk,Zn,Zl,Zh,List.map_cons,List.map_nil,cond_true,cond_false,aop,Zv,Zq,Zp,ev,sput,Zt,Zy,Ya,unK,Zd,Zw,Nat.reduceBEq,Nat.reduceAdd,Int.reduceBEq,Int.reduceBNe,Int.reduceLT,Zu,Zz,tup,tyf]
   refine hN7 [(0,v0),(1,w),(2,v2),(4,.bool false),(5,Zx (k:Nat)),(6,ptB b9),(9,v9),(10,v10),(11,v11),(39,lv),(40,Zx ((2:Nat):Int)),(41,Zx (q:Nat))] _ _ ?_ (by simp (maxSteps:=2000000) only [↓Za,↓Zi,↓Zr,↓Ze,↓Zj,↓Zs,↓Zg,↓Zo,↓Zf,↓Zb,↓Zc,↓vdn,vup,Zm,Zk,Zn,Zl,Zh,List.map_cons,List.map_nil,cond_true,cond_false,aop,Zv,Zq,Zp,ev,sput,Zt,Zy,Ya,unK,Zd,Zw,Nat.reduceBEq,Nat.reduceAdd,Int.reduceBEq,Int.reduceBNe,Int.reduceLT,Zu,Zz,tup,tyf])
   clear hN7
   try clear N7
   refine Ym fun Y hY=>?_
   refine Xp ?_
   refine Yc fun N8 hN8=>?_
   simp (maxSteps:=2000000) only [s92,↓Za,↓Zi,↓Zr,↓Ze,↓Zj,↓Zs,↓Zg,↓Zo,↓Zf,↓Zb,↓Zc,↓vdn,vup,Zm,Zk,Zn,Zl,Zh,List.map_cons,List.map_nil,cond_true,cond_false,aop,Zv,Zq,Zp,ev,sput,Zt,Zy,Ya,unK,Zd,Zw,Nat.reduceBEq,Nat.reduceAdd,Int.reduceBEq,Int.reduceBNe,Int.reduceLT,Zu,Zz,tup,tyf,litH.idx el_22 Xk hq',hldx]
   refine hN8 [(0,v0),(1,w),(2,v2),(4,.bool false),(5,Zx (k:Nat)),(6,ptB b9),(8,Zx x),(9,v9),(10,v10),(11,v11),(39,lv),(40,Zx ((2:Nat):Int)),(41,Zx (q:Nat))] _ _ ?_ (by simp (maxSteps:=2000000) only [↓Za,↓Zi,↓Zr,↓Ze,↓Zj,↓Zs,↓Zg,↓Zo,↓Zf,↓Zb,↓Zc,↓vdn,vup,Zm,Zk,Zn,Zl,Zh,List.map_cons,List.map_nil,cond_true,cond_false,aop,Zv,Zq,Zp,ev,sput,Zt,Zy,Ya,unK,Zd,Zw,Nat.reduceBEq,Nat.reduceAdd,Int.reduceBEq,Int.reduceBNe,Int.reduceLT,Zu,Zz,tup,tyf])
   clear hN8
   try clear N8
   refine next92 (x:=x) hwL (fun hn e he=>?_) fun hn e he=>?_
   · refine hY [(0,v0),(1,w),(2,v2),(4,.bool false),(5,Zx (k:Nat)),(6,ptB b9),(9,v9),(10,v10),(11,v11),(39,lv),(40,Zx ((2:Nat):Int)),(41,Zx (q:Nat))] _ _ ?_ he
     refine Yf ?_
     simp (maxSteps:=2000000) only [s92,↓Za,↓Zi,↓Zr,↓Ze,↓Zj,↓Zs,↓Zg,↓Zo,↓Zf,↓Zb,↓Zc,↓vdn,vup,Zm,Zk,Zn,Zl,Zh,List.map_cons,List.map_nil,cond_true,cond_false,aop,Zv,Zq,Zp,ev,sput,Zt,Zy,Ya,unK,Zd,Zw,Nat.reduceBEq,Nat.reduceAdd,Int.reduceBEq,Int.reduceBNe,Int.reduceLT,Zu,Zz,tup,tyf,add1 (show q<9223372036854775807 by omega)]
     exact hQb _ _ _ ⟨q+1,⟨by omega,fun q1 hq1=>by
      by_cases hc:q1=q
      · rw [hc,hx]; exact hn
      · exact hqo q1 (by omega)⟩,by show 2-(q+1)<2-q; omega,by simp (maxSteps:=2000000) only [↓Za,↓Zi,↓Zr,↓Ze,↓Zj,↓Zs,↓Zg,↓Zo,↓Zf,↓Zb,↓Zc,↓vdn,vup,Zm,Zk,Zn,Zl,Zh,List.map_cons,List.map_nil,cond_true,cond_false,aop,Zv,Zq,Zp,ev,sput,Zt,Zy,Ya,unK,Zd,Zw,Nat.reduceBEq,Nat.reduceAdd,Int.reduceBEq,Int.reduceBNe,Int.reduceLT,Zu,Zz,tup,tyf],rfl⟩
   · have hnb:(nxB P.length k l&&nxB P.length k m)=false:=by
      rcases q with _ | _ | q
      · rw [show l=x from hx,hn]; rfl
      · rw [show m=x from hx,hn]; simp
      · omega
     exact hQb _ _ _ (hQa _ _ _ (hbad hnb _ _ hEH he))
 · obtain rfl:q=2:=by omega
   refine Yc fun N9 hN9=>?_
   simp (maxSteps:=2000000) only [s92,↓Za,↓Zi,↓Zr,↓Ze,↓Zj,↓Zs,↓Zg,↓Zo,↓Zf,↓Zb,↓Zc,↓vdn,vup,Zm,Zk,Zn,Zl,Zh,List.map_cons,List.map_nil,cond_true,cond_false,aop,Zv,Zq,Zp,ev,sput,Zt,Zy,Ya,unK,Zd,Zw,Nat.reduceBEq,Nat.reduceAdd,Int.reduceBEq,Int.reduceBNe,Int.reduceLT,Zu,Zz,tup,tyf,hqn]
   refine hN9 [(0,v0),(1,w),(2,v2),(4,.bool false),(5,Zx (k:Nat)),(6,ptB b9),(9,v9),(10,v10),(11,v11),(39,lv),(40,Zx ((2:Nat):Int)),(41,Zx ((2:Nat):Int)),(42,.bool false)] _ _ ?_ (by simp (maxSteps:=2000000) only [↓Za,↓Zi,↓Zr,↓Ze,↓Zj,↓Zs,↓Zg,↓Zo,↓Zf,↓Zb,↓Zc,↓vdn,vup,Zm,Zk,Zn,Zl,Zh,List.map_cons,List.map_nil,cond_true,cond_false,aop,Zv,Zq,Zp,ev,sput,Zt,Zy,Ya,unK,Zd,Zw,Nat.reduceBEq,Nat.reduceAdd,Int.reduceBEq,Int.reduceBNe,Int.reduceLT,Zu,Zz,tup,tyf])
   clear hN9
   try clear N9
   refine Yc fun N10 hN10=>?_
   simp (maxSteps:=2000000) only [s92,↓Za,↓Zi,↓Zr,↓Ze,↓Zj,↓Zs,↓Zg,↓Zo,↓Zf,↓Zb,↓Zc,↓vdn,vup,Zm,Zk,Zn,Zl,Zh,List.map_cons,List.map_nil,cond_true,cond_false,aop,Zv,Zq,Zp,ev,sput,Zt,Zy,Ya,unK,Zd,Zw,Nat.reduceBEq,Nat.reduceAdd,Int.reduceBEq,Int.reduceBNe,Int.reduceLT,Zu,Zz,tup,tyf]
   refine hQb _ _ _ (hQa _ _ _ ?_)
   simp (maxSteps:=2000000) only [s92,↓Za,↓Zi,↓Zr,↓Ze,↓Zj,↓Zs,↓Zg,↓Zo,↓Zf,↓Zb,↓Zc,↓vdn,vup,Zm,Zk,Zn,Zl,Zh,List.map_cons,List.map_nil,cond_true,cond_false,aop,Zv,Zq,Zp,ev,sput,Zt,Zy,Ya,unK,Zd,Zw,Nat.reduceBEq,Nat.reduceAdd,Int.reduceBEq,Int.reduceBNe,Int.reduceLT,Zu,Zz,tup,tyf,if_true]
   exact hok (hqo 0 (by decide)) (hqo 1 (by decide)) _ _ hEH (by simp (maxSteps:=2000000) only [↓Za,↓Zi,↓Zr,↓Ze,↓Zj,↓Zs,↓Zg,↓Zo,↓Zf,↓Zb,↓Zc,↓vdn,vup,Zm,Zk,Zn,Zl,Zh,List.map_cons,List.map_nil,cond_true,cond_false,aop,Zv,Zq,Zp,ev,sput,Zt,Zy,Ya,unK,Zd,Zw,Nat.reduceBEq,Nat.reduceAdd,Int.reduceBEq,Int.reduceBNe,Int.reduceLT,Zu,Zz,tup,tyf])
theorem s92_callW [Tabs Tryd.prog] {args:List Value} {h:Yb} {Q:Value→Yb→Prop} (hsz:args.length≤63) (hk:AWS Tryd.prog 63 s92 (Zu Tryd.prog [.tmp 4] Q) (Zp 0 args) h):ACall Tryd.prog 92 args h Q :=
 Wn Tryd.func92 rfl (enters_of Tryd.func92 (by kernel_rfl) rfl) rfl rfl (by decide) s92_strip s92_ok hsz hk
theorem isplan_call [BitTab prog 1] {h:Yb} {v:Value} {P:List Qd} {o:List Int} (hv:QuadSl h v P) (ho:ord o=true) (hPl:P.length<4611686018427387904):APure prog 92 [ordV o,v] h (.bool (isPlB o.length P)):=by
 have hl:=Yz ho
 refine ACall.forget (.bool _) ?_
 refine s92_callW (by simp) ?_
 simp only [s92]
 refine Yc fun N11 hN11=>?_
 simp (maxSteps:=2000000) only [s92,↓Za,↓Zi,↓Zr,↓Ze,↓Zj,↓Zs,↓Zg,↓Zo,↓Zf,↓Zb,↓Zc,↓vdn,vup,Zm,Zk,Zn,Zl,Zh,List.map_cons,List.map_nil,cond_true,cond_false,aop,Zv,Zq,Zp,ev,sput,Zt,Zy,Ya,unK,Zd,Zw,Nat.reduceBEq,Nat.reduceAdd,Int.reduceBEq,Int.reduceBNe,Int.reduceLT,Zu,Zz,tup,tyf,boxO esz_77,Xj]
 have c0:=Yp h (Blk.cells (Xt o) 77 false)
 have hE:Ext (fun _=>False) h (h++[Blk.cells (Xt o) 77 false]):=Ext.app _ _ _
 have hvG:=hv.ext hE
 generalize h++[Blk.cells (Xt o) 77 false]=G at c0 hE hvG ⊢
 generalize h.length=b2 at c0 ⊢
 refine hN11 [(0,ordV o),(1,v),(2,ptB b2),(4,.bool false)] _ _ ?_ (by simp (maxSteps:=2000000) only [↓Za,↓Zi,↓Zr,↓Ze,↓Zj,↓Zs,↓Zg,↓Zo,↓Zf,↓Zb,↓Zc,↓vdn,vup,Zm,Zk,Zn,Zl,Zh,List.map_cons,List.map_nil,cond_true,cond_false,aop,Zv,Zq,Zp,ev,sput,Zt,Zy,Ya,unK,Zd,Zw,Nat.reduceBEq,Nat.reduceAdd,Int.reduceBEq,Int.reduceBNe,Int.reduceLT,Zu,Zz,tup,tyf])
 clear hN11
 try clear N11
 refine Ym fun M hM=>?_
 refine Yc fun N12 hN12=>?_
 simp (maxSteps:=2000000) only [s92,↓Za,↓Zi,↓Zr,↓Ze,↓Zj,↓Zs,↓Zg,↓Zo,↓Zf,↓Zb,↓Zc,↓vdn,vup,Zm,Zk,Zn,Zl,Zh,List.map_cons,List.map_nil,cond_true,cond_false,aop,Zv,Zq,Zp,ev,sput,Zt,Zy,Ya,unK,Zd,Zw,Nat.reduceBEq,Nat.reduceAdd,Int.reduceBEq,Int.reduceBNe,Int.reduceLT,Zu,Zz,tup,tyf,hvG.len]
 refine hN12 [(0,ordV o),(1,v),(2,ptB b2),(4,.bool false),(9,v),(10,Zx P.length),(11,.int .i64 0)] _ _ ?_ (by simp (maxSteps:=2000000) only [↓Za,↓Zi,↓Zr,↓Ze,↓Zj,↓Zs,↓Zg,↓Zo,↓Zf,↓Zb,↓Zc,↓vdn,vup,Zm,Zk,Zn,Zl,Zh,List.map_cons,List.map_nil,cond_true,cond_false,aop,Zv,Zq,Zp,ev,sput,Zt,Zy,Ya,unK,Zd,Zw,Nat.reduceBEq,Nat.reduceAdd,Int.reduceBEq,Int.reduceBNe,Int.reduceLT,Zu,Zz,tup,tyf])
 clear hN12
 try clear N12
 refine Xp ?_
 refine Xf fun Q hQ=>?_
 refine Vi (γ:=Nat×Yb) (fun s=>s.1≤P.length∧Ext (fun _=>False) G s.2∧∀ i,i<s.1→nodeB o.length P.length i (P.getD i qd0)=true)
  (fun s=>([(0,ordV o),(1,v),(2,ptB b2),(4,.bool false),(9,v),(10,Zx P.length),(11,Zx (s.1:Nat))],s.2)) (fun s=>P.length-s.1) (0,G) ⟨Nat.zero_le _,Ext.refl _ _,fun i hi=>absurd hi (Nat.not_lt_zero i)⟩ (by simp (maxSteps:=2000000) only [↓Za,↓Zi,↓Zr,↓Ze,↓Zj,↓Zs,↓Zg,↓Zo,↓Zf,↓Zb,↓Zc,↓vdn,vup,Zm,Zk,Zn,Zl,Zh,List.map_cons,List.map_nil,cond_true,cond_false,aop,Zv,Zq,Zp,ev,sput,Zt,Zy,Ya,unK,Zd,Zw,Nat.reduceBEq,Nat.reduceAdd,Int.reduceBEq,Int.reduceBNe,Int.reduceLT,Zu,Zz,tup,tyf,Int.natCast_zero]) rfl ?_
 rintro ⟨k,z⟩ ⟨hk,hEz,hok⟩
 simp only at hk hEz hok
 refine Xf fun Q2 hQ2=>?_
 simp only [l92_1]
 have hvz:=hvG.ext hEz
 by_cases hin:(k:Int)<P.length
 · have hk' : k<P.length:=by omega
   have hbad:nodeB o.length P.length k (P.getD k qd0)=false→∀ (e:Env) (H:Yb),Ext (fun _=>False) z H→sget e 4 = .bool false→Q2 .ret e H:=fun hb e H hE2 he=>by
    refine hQ2 _ _ _ (hQ _ _ _ ?_)
    simp only [Zq,Zv,Zu,Zz,he,tup]
    exact ⟨by rw [isPl_bad hk' hb],(hE.trans hEz).trans hE2⟩
   obtain ⟨⟨a,b,l,m⟩,hp⟩ : ∃ p:Qd,P.getD k qd0=p:=⟨_,rfl⟩
   have hld:=hvz.load shp_108 hk'
   rw [hp] at hbad hld
   have hnd:nodeB o.length P.length k (a,b,l,m)=((elB o.length a&&(elB o.length b && !(a==b)))&&(nxB P.length k l&&nxB P.length k m)):=by
    simp only [nodeB,Bool.and_assoc]
   refine Yc fun N13 hN13=>?_
   simp (maxSteps:=2000000) only [s92,↓Za,↓Zi,↓Zr,↓Ze,↓Zj,↓Zs,↓Zg,↓Zo,↓Zf,↓Zb,↓Zc,↓vdn,vup,Zm,Zk,Zn,Zl,Zh,List.map_cons,List.map_nil,cond_true,cond_false,aop,Zv,Zq,Zp,ev,sput,Zt,Zy,Ya,unK,Zd,Zw,Nat.reduceBEq,Nat.reduceAdd,Int.reduceBEq,Int.reduceBNe,Int.reduceLT,Zu,Zz,tup,tyf,hin]
   refine hN13 [(0,ordV o),(1,v),(2,ptB b2),(4,.bool false),(9,v),(10,Zx P.length),(11,Zx (k:Nat)),(12,.bool true)] _ _ ?_ (by simp (maxSteps:=2000000) only [↓Za,↓Zi,↓Zr,↓Ze,↓Zj,↓Zs,↓Zg,↓Zo,↓Zf,↓Zb,↓Zc,↓vdn,vup,Zm,Zk,Zn,Zl,Zh,List.map_cons,List.map_nil,cond_true,cond_false,aop,Zv,Zq,Zp,ev,sput,Zt,Zy,Ya,unK,Zd,Zw,Nat.reduceBEq,Nat.reduceAdd,Int.reduceBEq,Int.reduceBNe,Int.reduceLT,Zu,Zz,tup,tyf])
   clear hN13
   try clear N13
   refine Yc fun N14 hN14=>?_
   simp (maxSteps:=2000000) only [s92,↓Za,↓Zi,↓Zr,↓Ze,↓Zj,↓Zs,↓Zg,↓Zo,↓Zf,↓Zb,↓Zc,↓vdn,vup,Zm,Zk,Zn,Zl,Zh,List.map_cons,List.map_nil,cond_true,cond_false,aop,Zv,Zq,Zp,ev,sput,Zt,Zy,Ya,unK,Zd,Zw,Nat.reduceBEq,Nat.reduceAdd,Int.reduceBEq,Int.reduceBNe,Int.reduceLT,Zu,Zz,tup,tyf]
   refine hN14 [(0,ordV o),(1,v),(2,ptB b2),(4,.bool false),(9,v),(10,Zx P.length),(11,Zx (k:Nat))] _ _ ?_ (by simp (maxSteps:=2000000) only [↓Za,↓Zi,↓Zr,↓Ze,↓Zj,↓Zs,↓Zg,↓Zo,↓Zf,↓Zb,↓Zc,↓vdn,vup,Zm,Zk,Zn,Zl,Zh,List.map_cons,List.map_nil,cond_true,cond_false,aop,Zv,Zq,Zp,ev,sput,Zt,Zy,Ya,unK,Zd,Zw,Nat.reduceBEq,Nat.reduceAdd,Int.reduceBEq,Int.reduceBNe,Int.reduceLT,Zu,Zz,tup,tyf])
   clear hN14
   try clear N14
   refine Ym fun B hB=>?_
   refine Xp ?_
   refine Yc fun N15 hN15=>?_
   simp (maxSteps:=2000000) only [s92,↓Za,↓Zi,↓Zr,↓Ze,↓Zj,↓Zs,↓Zg,↓Zo,↓Zf,↓Zb,↓Zc,↓vdn,vup,Zm,Zk,Zn,Zl,Zh,List.map_cons,List.map_nil,cond_true,cond_false,aop,Zv,Zq,Zp,ev,sput,Zt,Zy,Ya,unK,Zd,Zw,Nat.reduceBEq,Nat.reduceAdd,Int.reduceBEq,Int.reduceBNe,Int.reduceLT,Zu,Zz,tup,tyf,hvz.idx el_63 esz_108 hk',hld,We,Xj,zero_108]
   obtain ⟨d9,hE9⟩:=box4 z (a,b,l,m)
   rw [st4 (Yp _ _) rfl]
   generalize (z++[Blk.cells [.int .i64 0,.int .i64 0,.int .i64 0,.int .i64 0] 108 false]).set z.length (.cells (c4 (a,b,l,m)) 108 false)=H at d9 hE9 ⊢
   have d0:=(hE9.2 _ (Yg ((hEz.2 _ (Yg c0) id).trans c0)) id).trans ((hEz.2 _ (Yg c0) id).trans c0)
   have hvH:=hvz.ext hE9
   generalize z.length=b9 at d9 ⊢
   refine hN15 [(0,ordV o),(1,v),(2,ptB b2),(4,.bool false),(5,Zx (k:Nat)),(6,ptB b9),(9,v),(10,Zx P.length),(11,Zx (k:Nat))] _ _ ?_ (by simp (maxSteps:=2000000) only [↓Za,↓Zi,↓Zr,↓Ze,↓Zj,↓Zs,↓Zg,↓Zo,↓Zf,↓Zb,↓Zc,↓vdn,vup,Zm,Zk,Zn,Zl,Zh,List.map_cons,List.map_nil,cond_true,cond_false,aop,Zv,Zq,Zp,ev,sput,Zt,Zy,Ya,unK,Zd,Zw,Nat.reduceBEq,Nat.reduceAdd,Int.reduceBEq,Int.reduceBNe,Int.reduceLT,Zu,Zz,tup,tyf])
   clear hN15
   try clear N15
   refine Ym fun D hD=>?_
   refine elems92 hl.2 d0 d9 (fun hA hBb hab e he=>?_) fun hb e he=>?_
   · refine hD [(0,ordV o),(1,v),(2,ptB b2),(4,.bool false),(5,Zx (k:Nat)),(6,ptB b9),(9,v),(10,Zx P.length),(11,Zx (k:Nat))] _ _ ?_ he
     refine nexts92 hvH d9 (fun h1 h2 e2 H2 hE2 he2=>?_) fun hb e2 H2 hE2 he2=>?_
     · refine hB [(0,ordV o),(1,v),(2,ptB b2),(4,.bool false),(9,v),(10,Zx P.length),(11,Zx (k:Nat))] _ _ ?_ he2
       refine Yf ?_
       simp (maxSteps:=2000000) only [s92,↓Za,↓Zi,↓Zr,↓Ze,↓Zj,↓Zs,↓Zg,↓Zo,↓Zf,↓Zb,↓Zc,↓vdn,vup,Zm,Zk,Zn,Zl,Zh,List.map_cons,List.map_nil,cond_true,cond_false,aop,Zv,Zq,Zp,ev,sput,Zt,Zy,Ya,unK,Zd,Zw,Nat.reduceBEq,Nat.reduceAdd,Int.reduceBEq,Int.reduceBNe,Int.reduceLT,Zu,Zz,tup,tyf,add1 (show k<9223372036854775807 by omega)]
       refine hQ2 _ _ _ ⟨(k+1,H2),⟨hk',(hEz.trans hE9).trans hE2,fun i hi=>?_⟩,by simp only; omega,by simp (maxSteps:=2000000) only [↓Za,↓Zi,↓Zr,↓Ze,↓Zj,↓Zs,↓Zg,↓Zo,↓Zf,↓Zb,↓Zc,↓vdn,vup,Zm,Zk,Zn,Zl,Zh,List.map_cons,List.map_nil,cond_true,cond_false,aop,Zv,Zq,Zp,ev,sput,Zt,Zy,Ya,unK,Zd,Zw,Nat.reduceBEq,Nat.reduceAdd,Int.reduceBEq,Int.reduceBNe,Int.reduceLT,Zu,Zz,tup,tyf],rfl⟩
       by_cases hc:i=k
       · rw [hc,hp,hnd,hA,hBb,hab,h1,h2]; rfl
       · exact hok i (by simp only at hi; omega)
     · exact hbad (by rw [hnd,hb,Bool.and_false]) _ _ (hE9.trans hE2) he2
   · exact hbad (by rw [hnd,hb,Bool.false_and]) _ _ hE9 he
 · obtain rfl:k=P.length:=by omega
   refine Yc fun N16 hN16=>?_
   simp (maxSteps:=2000000) only [s92,↓Za,↓Zi,↓Zr,↓Ze,↓Zj,↓Zs,↓Zg,↓Zo,↓Zf,↓Zb,↓Zc,↓vdn,vup,Zm,Zk,Zn,Zl,Zh,List.map_cons,List.map_nil,cond_true,cond_false,aop,Zv,Zq,Zp,ev,sput,Zt,Zy,Ya,unK,Zd,Zw,Nat.reduceBEq,Nat.reduceAdd,Int.reduceBEq,Int.reduceBNe,Int.reduceLT,Zu,Zz,tup,tyf,hin]
   refine hN16 [(0,ordV o),(1,v),(2,ptB b2),(4,.bool false),(9,v),(10,Zx P.length),(11,Zx (P.length:Nat)),(12,.bool false)] _ _ ?_ (by simp (maxSteps:=2000000) only [↓Za,↓Zi,↓Zr,↓Ze,↓Zj,↓Zs,↓Zg,↓Zo,↓Zf,↓Zb,↓Zc,↓vdn,vup,Zm,Zk,Zn,Zl,Zh,List.map_cons,List.map_nil,cond_true,cond_false,aop,Zv,Zq,Zp,ev,sput,Zt,Zy,Ya,unK,Zd,Zw,Nat.reduceBEq,Nat.reduceAdd,Int.reduceBEq,Int.reduceBNe,Int.reduceLT,Zu,Zz,tup,tyf])
   clear hN16
   try clear N16
   refine Yc fun N17 hN17=>?_
   simp (maxSteps:=2000000) only [s92,↓Za,↓Zi,↓Zr,↓Ze,↓Zj,↓Zs,↓Zg,↓Zo,↓Zf,↓Zb,↓Zc,↓vdn,vup,Zm,Zk,Zn,Zl,Zh,List.map_cons,List.map_nil,cond_true,cond_false,aop,Zv,Zq,Zp,ev,sput,Zt,Zy,Ya,unK,Zd,Zw,Nat.reduceBEq,Nat.reduceAdd,Int.reduceBEq,Int.reduceBNe,Int.reduceLT,Zu,Zz,tup,tyf]
   refine hQ2 _ _ _ (hQ _ _ _ ?_)
   simp (maxSteps:=2000000) only [s92,↓Za,↓Zi,↓Zr,↓Ze,↓Zj,↓Zs,↓Zg,↓Zo,↓Zf,↓Zb,↓Zc,↓vdn,vup,Zm,Zk,Zn,Zl,Zh,List.map_cons,List.map_nil,cond_true,cond_false,aop,Zv,Zq,Zp,ev,sput,Zt,Zy,Ya,unK,Zd,Zw,Nat.reduceBEq,Nat.reduceAdd,Int.reduceBEq,Int.reduceBNe,Int.reduceLT,Zu,Zz,tup,tyf,if_true]
   refine hM [(0,ordV o),(1,v),(2,ptB b2),(4,.bool false),(12,.bool false)] _ _ ?_ (by simp (maxSteps:=2000000) only [↓Za,↓Zi,↓Zr,↓Ze,↓Zj,↓Zs,↓Zg,↓Zo,↓Zf,↓Zb,↓Zc,↓vdn,vup,Zm,Zk,Zn,Zl,Zh,List.map_cons,List.map_nil,cond_true,cond_false,aop,Zv,Zq,Zp,ev,sput,Zt,Zy,Ya,unK,Zd,Zw,Nat.reduceBEq,Nat.reduceAdd,Int.reduceBEq,Int.reduceBNe,Int.reduceLT,Zu,Zz,tup,tyf])
   clear hM
   try clear M
   have hall:((List.range P.length).all fun i=>nodeB o.length P.length i (P.getD i qd0))=true:=List.all_eq_true.2 fun i hi=>hok i (List.mem_range.1 hi)
   have hle:decide ((P.length:Int)≤800)=decide (P.length≤800):=decide_eq_decide.2 (by omega)
   refine Yf ?_
   simp (maxSteps:=2000000) only [s92,↓Za,↓Zi,↓Zr,↓Ze,↓Zj,↓Zs,↓Zg,↓Zo,↓Zf,↓Zb,↓Zc,↓vdn,vup,Zm,Zk,Zn,Zl,Zh,List.map_cons,List.map_nil,cond_true,cond_false,aop,Zv,Zq,Zp,ev,sput,Zt,Zy,Ya,unK,Zd,Zw,Nat.reduceBEq,Nat.reduceAdd,Int.reduceBEq,Int.reduceBNe,Int.reduceLT,Zu,Zz,tup,tyf,hvz.len,hle]
   exact ⟨by rw [isPlB,hall]; rfl,hE.trans hEz⟩
end Go.Proofs.Tryd.Am
namespace Ord
open Go.Am
noncomputable def force (n:Nat) (f:Nat→Nat):Nat:=Nat.rec (f 0) (fun k _=>f (Nat.succ k)) n
noncomputable def ex (L:List (Nat×Nat)) (k:Nat):Nat→Nat :=
 Nat.rec (fun _=>1) (fun _ f s=>force s fun s=>List.rec 0 (fun p _ r=>Bool.rec r (f (Nat.xor s p.2)+r) (Nat.beq (Nat.land s p.1) p.2)) L) (k-1)
noncomputable def putL (L:List (Nat×Nat)) (a b:Nat):List (Nat×Nat) :=
 List.rec [] (fun p _ r=>(bif Nat.beq p.2 b then Nat.lor p.1 a else p.1,p.2)::r) L
noncomputable def anyL (p:Nat×Nat→Bool) (L:List (Nat×Nat)):Bool:=List.rec false (fun x _ r=>bif p x then true else r) L
noncomputable def allL (p:Nat×Nat→Bool) (L:List (Nat×Nat)):Bool:=List.rec true (fun x _ r=>bif p x then r else false) L
noncomputable def pcL (d:Nat) (L:List (Nat×Nat)):Nat:=List.rec 0 (fun x _ r=>bif Nat.beq (Nat.land d x.2) 0 then r else r+1) L
noncomputable def allN (p:Nat→Bool) (n:Nat):Bool:=Nat.rec true (fun k r=>bif p k then r else false) n
noncomputable def goodC (L:List (Nat×Nat)) (n c:Nat):Bool :=
 bif Nat.ble c 1 then true else anyL (fun y=>anyL (fun x=>bif Nat.ble y.2 x.2 then false else
  (bif Nat.ble c (3*ex (putL L x.2 y.2) n (2 ^ n-1)) then Nat.ble (3*ex (putL L x.2 y.2) n (2 ^ n-1)) (2*c) else false)) L) L
noncomputable def good (L:List (Nat×Nat)) (n:Nat):Bool:=goodC L n (ex L n (2 ^ n-1))
noncomputable def closed (d:Nat) (L:List (Nat×Nat)):Bool:=allL (fun p=>bif Nat.beq (Nat.land d p.2) 0 then true else Nat.beq (Nat.land d p.1) p.1) L
noncomputable def tree (f:Nat):Nat→List (Nat×Nat)→Nat→Bool :=
 Nat.rec (fun n L _=>good L n) (fun _ t n L p=>bif good L n then
  allN (fun d=>bif closed d L then (bif Nat.ble p (pcL d L) then t (n+1) ((Nat.lor d (2 ^ n),2 ^ n)::L) (pcL d L) else true) else true) (2 ^ n) else false) f
theorem force_eq (n:Nat) (f:Nat→Nat):force n f=f n:=by cases n <;> rfl
theorem pow2_inj {a b:Nat} (h:2 ^ a=2 ^ b):a=b:=by
 rcases Nat.lt_trichotomy a b with h1 | h1 | h1
 · have:=Nat.pow_lt_pow_right (a:=2) (by decide) h1; omega
 · exact h1
 · have:=Nat.pow_lt_pow_right (a:=2) (by decide) h1; omega
def exS (f:Nat→Nat) (s:Nat):List (Nat×Nat)→Nat
 | []=>0
 | p::L=>if s &&& p.1=p.2 then f (s ^^^ p.2)+exS f s L else exS f s L
theorem rec_exS (f:Nat→Nat) (s:Nat) : ∀ L:List (Nat×Nat),(List.rec (motive:=fun _=>Nat) 0 (fun p _ r=>Bool.rec (motive:=fun _=>Nat) r (f (Nat.xor s p.2)+r) (Nat.beq (Nat.land s p.1) p.2)) L:Nat)=exS f s L
 | []=>rfl
 | p::L=>by
   have ih:=rec_exS f s L
   rw [exS]
   cases h:Nat.beq (Nat.land s p.1) p.2 with
   | true =>
     rw [if_pos (show s &&& p.1=p.2 from Nat.eq_of_beq_eq_true h),← ih]
     simp only [h]; rfl
   | false =>
     rw [if_neg (show ¬ s &&& p.1=p.2 from Nat.ne_of_beq_eq_false h),← ih]
     simp only [h]
theorem ex_succ (L:List (Nat×Nat)) (k s:Nat):ex L (k+2) s=exS (ex L (k+1)) s L:=by
 rw [← rec_exS]
 unfold ex
 rw [show k+2-1=(k+1-1)+1 by omega]
 exact force_eq s _
def rel (m:Nat→Nat) (a b:Nat):Bool:=(m b).testBit a&&(a != b)
theorem exS_map {f:Nat→Nat} {s:Nat} {m:Nat→Nat} : ∀ K:List Nat,exS f s (K.map fun i=>(m i,2 ^ i))=((K.filter fun i=>decide (s &&& m i=2 ^ i)).map fun i=>f (s ^^^ 2 ^ i)).sum
 | []=>rfl
 | i::K=>by
   rw [List.map_cons,exS,exS_map K,List.filter_cons]
   by_cases h:s &&& m i=2 ^ i
   · rw [if_pos h,if_pos (by simpa using h),List.map_cons,List.sum_cons]
   · rw [if_neg h,if_neg (by simpa using h)]
theorem ex_cnt {J:List Nat} (hJ:J.Nodup) {m:Nat→Nat} (hm : ∀ i∈J,(m i).testBit i=true) : ∀ k s,(J.filter fun i=>s.testBit i).length=k+1→(∀ i,s.testBit i=true→i∈J) →
  ex (J.map fun i=>(m i,2 ^ i)) (k+1) s=cnt (rel m) (k+1) (J.filter fun i=>s.testBit i)
 | 0,s,hk,hs=>by
   obtain ⟨x,hx⟩:=List.length_eq_one_iff.1 hk
   rw [hx]
   show 1=_
   simp [cnt,Wi,rel]
 | k+1,s,hk,hs=>by
   rw [ex_succ,exS_map,cnt]
   have e1:Wi (rel m) (J.filter fun i=>s.testBit i)=J.filter fun i=>decide (s &&& m i=2 ^ i):=by
    rw [Wi,List.filter_filter]
    refine List.filter_congr fun i hi=>?_
    rw [Bool.eq_iff_iff,Bool.and_eq_true,decide_eq_true_eq,List.all_eq_true]
    constructor
    · rintro ⟨h1,h2⟩
      apply Nat.eq_of_testBit_eq
      intro j
      rw [Nat.testBit_and,Nat.testBit_two_pow]
      by_cases hij:i=j
      · subst hij; rw [h2,hm i hi]; simp
      · rw [decide_eq_false hij]
        cases hj:s.testBit j with
        | false=>rfl
        | true =>
          have:=h1 j (List.mem_filter.2 ⟨hs j hj,hj⟩)
          rw [rel] at this
          cases hb:(m i).testBit j with
          | false=>rfl
          | true=>rw [hb] at this; simp [Ne.symm hij] at this
    · intro h
      have hb : ∀ j,(s.testBit j&&(m i).testBit j)=decide (i=j):=fun j=>by
       rw [← Nat.testBit_and,h,Nat.testBit_two_pow]
      refine ⟨fun j hj=>?_,?_⟩
      · have hj':=(List.mem_filter.1 hj).2
        have:=hb j
        rw [hj',Bool.true_and] at this
        rw [rel,this]
        by_cases hij:i=j
        · subst hij; simp
        · rw [decide_eq_false hij]; rfl
      · have:=hb i
        rw [hm i hi,Bool.and_true,decide_eq_true rfl] at this
        exact this
   rw [e1]
   congr 1
   refine List.map_congr_left fun i hi=>?_
   obtain ⟨hiJ,hib⟩:=List.mem_filter.1 hi
   simp only [decide_eq_true_eq] at hib
   have hsi:s.testBit i=true:=by
    have:(s &&& m i).testBit i=true:=by rw [hib]; simp
    rw [Nat.testBit_and,hm i hiJ,Bool.and_true] at this
    exact this
   have hx : ∀ j,(s ^^^ 2 ^ i).testBit j=(s.testBit j&&(j != i)):=fun j=>by
    rw [Nat.testBit_xor,Nat.testBit_two_pow]
    by_cases hij:i=j
    · subst hij; rw [hsi]; simp
    · rw [decide_eq_false hij]; simp [Ne.symm hij]
   have e2:(J.filter fun j=>(s ^^^ 2 ^ i).testBit j)=(J.filter fun j=>s.testBit j).erase i:=by
    rw [List.Nodup.erase_eq_filter (hJ.filter _),List.filter_filter]
    refine List.filter_congr fun j _=>?_
    rw [hx,Bool.and_comm]
   have hmem:i∈J.filter fun j=>s.testBit j:=List.mem_filter.2 ⟨hiJ,hsi⟩
   rw [ex_cnt hJ hm k (s ^^^ 2 ^ i) (by rw [e2,List.length_erase_of_mem hmem,hk]; rfl) fun j hj=>by
    rw [hx,Bool.and_eq_true] at hj
    exact hs j hj.1]
   rw [e2]
theorem putL_map {m:Nat→Nat} {a b:Nat} : ∀ K:List Nat,putL (K.map fun i=>(m i,2 ^ i)) (2 ^ a) (2 ^ b)=K.map fun i=>(if i=b then m i ||| 2 ^ a else m i,2 ^ i)
 | []=>rfl
 | i::K=>by
   have ih:=putL_map (m:=m) (a:=a) (b:=b) K
   rw [List.map_cons,List.map_cons,← ih]
   show ((bif Nat.beq (2 ^ i) (2 ^ b) then Nat.lor (m i) (2 ^ a) else m i),2 ^ i)::_=_
   by_cases h:i=b
   · subst h; rw [if_pos rfl,show Nat.beq (2 ^ i) (2 ^ i)=true from Nat.beq_refl _]; rfl
   · have:Nat.beq (2 ^ i) (2 ^ b)=false:=by
      cases hb:Nat.beq (2 ^ i) (2 ^ b) with
      | false=>rfl
      | true=>exact absurd (pow2_inj (Nat.eq_of_beq_eq_true hb)) h
     rw [if_neg h,this]; rfl
theorem anyL_mem {p:Nat×Nat→Bool} : ∀ {L:List (Nat×Nat)},anyL p L=true→∃ x∈L,p x=true
 | [],h=>by cases h
 | x::L,h=>by
   have h' : (bif p x then true else anyL p L)=true:=h
   cases hp:p x with
   | true=>exact ⟨x,by simp,hp⟩
   | false =>
     rw [hp] at h'
     obtain ⟨y,hy,h2⟩:=anyL_mem (L:=L) h'
     exact ⟨y,by simp [hy],h2⟩
theorem allN_all {p:Nat→Bool} : ∀ {n:Nat},allN p n=true→∀ k,k<n→p k=true
 | 0,_,k,hk=>by omega
 | n+1,h,k,hk=>by
   have h' : (bif p n then allN p n else false)=true:=h
   cases hp:p n with
   | false=>rw [hp] at h'; cases h'
   | true =>
     rw [hp] at h'
     by_cases hkn:k=n
     · rw [hkn]; exact hp
     · exact allN_all (n:=n) h' k (by omega)
theorem good_of {L:List (Nat×Nat)} {n:Nat} (h:good L n=true):ex L n (2 ^ n-1)≤1∨∃ x∈L,∃ y∈L,x.2≠y.2∧ex L n (2 ^ n-1)≤3*ex (putL L x.2 y.2) n (2 ^ n-1)∧3*ex (putL L x.2 y.2) n (2 ^ n-1)≤2*ex L n (2 ^ n-1):=by
 rw [good] at h
 generalize ex L n (2 ^ n-1)=c at h ⊢
 rw [goodC] at h
 cases h1:Nat.ble c 1 with
 | true=>exact .inl (Nat.le_of_ble_eq_true h1)
 | false =>
   rw [h1] at h
   obtain ⟨y,hy,h2⟩:=anyL_mem h
   obtain ⟨x,hx,h3⟩:=anyL_mem h2
   cases h4:Nat.ble y.2 x.2 with
   | true=>rw [h4] at h3; cases h3
   | false =>
     rw [h4] at h3
     cases h5:Nat.ble c (3*ex (putL L x.2 y.2) n (2 ^ n-1)) with
     | false=>simp only [h5] at h3; cases h3
     | true =>
       simp only [h5] at h3
       refine .inr ⟨x,hx,y,hy,fun he=>?_,Nat.le_of_ble_eq_true h5,Nat.le_of_ble_eq_true h3⟩
       rw [he,Nat.ble_self_eq_true] at h4; cases h4
def Lof (m:Nat→Nat):Nat→List (Nat×Nat)
 | 0=>[]
 | k+1=>(m k,2 ^ k)::Lof m k
theorem Lof_eq (m:Nat→Nat) : ∀ k,Lof m k=((List.range k).reverse).map fun i=>(m i,2 ^ i)
 | 0=>rfl
 | k+1=>by rw [Lof,Lof_eq m k,List.range_succ,List.reverse_append]; rfl
theorem closed_of {m:Nat→Nat} {d:Nat} : ∀ k,(∀ i,i<k→d.testBit i=true→∀ j,(m i).testBit j=true→d.testBit j=true)→closed d (Lof m k)=true
 | 0,_=>rfl
 | k+1,h=>by
   have ih:=closed_of k fun i hi=>h i (by omega)
   show (bif (bif Nat.beq (Nat.land d (2 ^ k)) 0 then true else Nat.beq (Nat.land d (m k)) (m k)) then closed d (Lof m k) else false)=true
   rw [ih]
   cases hb:d.testBit k with
   | false =>
     have:d &&& 2 ^ k=0:=by
      apply Nat.eq_of_testBit_eq
      intro j
      rw [Nat.testBit_and,Nat.testBit_two_pow,Nat.zero_testBit]
      by_cases hkj:k=j
      · subst hkj; rw [hb]; rfl
      · rw [decide_eq_false hkj,Bool.and_false]
     rw [show Nat.land d (2 ^ k)=0 from this]; rfl
   | true =>
     have:d &&& m k=m k:=by
      apply Nat.eq_of_testBit_eq
      intro j
      rw [Nat.testBit_and]
      cases hj:(m k).testBit j with
      | false=>rw [Bool.and_false]
      | true=>rw [h k (by omega) hb j hj]; rfl
     rw [show Nat.land d (m k)=m k from this,show Nat.beq (m k) (m k)=true from Nat.beq_refl _]
     cases Nat.beq (Nat.land d (2 ^ k)) 0 <;> rfl
theorem pcL_eq {m:Nat→Nat} {d:Nat} : ∀ k,pcL d (Lof m k)=((List.range k).filter fun i=>d.testBit i).length
 | 0=>rfl
 | k+1=>by
   rw [List.range_succ,List.filter_append,List.length_append,← pcL_eq (m:=m) k]
   show (bif Nat.beq (Nat.land d (2 ^ k)) 0 then pcL d (Lof m k) else pcL d (Lof m k)+1)=_
   have hz:(Nat.land d (2 ^ k)=0)↔d.testBit k=false:=by
    show (d &&& 2 ^ k=0)↔_
    constructor
    · intro h
      have:(d &&& 2 ^ k).testBit k=false:=by rw [h]; simp
      simpa using this
    · intro hb
      apply Nat.eq_of_testBit_eq
      intro j
      rw [Nat.testBit_and,Nat.testBit_two_pow,Nat.zero_testBit]
      by_cases hkj:k=j
      · subst hkj; rw [hb]; rfl
      · rw [decide_eq_false hkj,Bool.and_false]
   cases hb:d.testBit k with
   | false=>rw [hz.2 hb]; simp [hb]
   | true =>
     have:Nat.beq (Nat.land d (2 ^ k)) 0=false:=by
      cases h:Nat.beq (Nat.land d (2 ^ k)) 0 with
      | false=>rfl
      | true=>rw [hz.1 (Nat.eq_of_beq_eq_true h)] at hb; cases hb
     rw [this]; simp [hb]
theorem tree_good {m d:Nat→Nat} {N:Nat} (hm : ∀ i,m i=d i ||| 2 ^ i) (hd : ∀ i,i<N→d i<2 ^ i) (hc : ∀ i,i<N→closed (d i) (Lof m i)=true) (hp : ∀ i,i+1<N→pcL (d i) (Lof m i)≤pcL (d (i+1)) (Lof m (i+1))) :
  ∀ f k,tree f (k+1) (Lof m (k+1)) (pcL (d k) (Lof m k))=true→∀ n,k+1≤n→n≤N→n≤k+1+f→good (Lof m n) n=true
 | 0,k,h,n,h1,h2,h3=>by
   obtain rfl:n=k+1:=by omega
   exact h
 | f+1,k,h,n,h1,h2,h3=>by
   have h' : (bif good (Lof m (k+1)) (k+1) then
    allN (fun e=>bif closed e (Lof m (k+1)) then (bif Nat.ble (pcL (d k) (Lof m k)) (pcL e (Lof m (k+1))) then tree f (k+1+1) ((Nat.lor e (2 ^ (k+1)),2 ^ (k+1))::Lof m (k+1)) (pcL e (Lof m (k+1))) else true) else true) (2 ^ (k+1)) else false)=true:=h
   cases hg:good (Lof m (k+1)) (k+1) with
   | false=>rw [hg] at h'; cases h'
   | true =>
     by_cases hn:n=k+1
     · rw [hn]; exact hg
     · rw [hg] at h'
       have h4:=allN_all h' (d (k+1)) (hd (k+1) (by omega))
       simp only [hc (k+1) (by omega),Nat.ble_eq_true_of_le (hp k (by omega)),cond_true] at h4
       have e:(Nat.lor (d (k+1)) (2 ^ (k+1)),2 ^ (k+1))::Lof m (k+1)=Lof m (k+1+1):=by
        show _=(m (k+1),2 ^ (k+1))::Lof m (k+1)
        rw [hm (k+1)]; rfl
       rw [e] at h4
       exact tree_good hm hd hc hp f (k+1) h4 n (by omega) h2 (by omega)
set_option maxRecDepth 1000000 in
theorem tree5:tree 5 1 [(1,1)] 0=true:=by kernel_rfl
end Ord
namespace Ord
open Go.Am
theorem filter_lt {α:Type} {p q:α→Bool} : ∀ {l:List α},(∀ x∈l,p x=true→q x=true)→(∃ x∈l,q x=true∧p x=false)→(l.filter p).length<(l.filter q).length
 | [],_,⟨x,hx,_⟩=>by cases hx
 | x::l,h,⟨y,hy,h1,h2⟩=>by
   have hle:(l.filter p).length≤(l.filter q).length:=by
    have : ∀ l:List α,(∀ x∈l,p x=true→q x=true)→(l.filter p).length≤(l.filter q).length:=by
     intro l
     induction l with
     | nil=>intro _; exact Nat.le_refl _
     | cons a l ih =>
       intro hl
       have:=ih fun x hx=>hl x (by simp [hx])
       rw [List.filter_cons,List.filter_cons]
       cases hp:p a with
       | false=>cases hq:q a <;> simp <;> omega
       | true=>rw [hl a (by simp) hp]; simp; omega
    exact this l fun x hx=>h x (by simp [hx])
   rw [List.filter_cons,List.filter_cons]
   rcases List.mem_cons.1 hy with rfl | hy
   · rw [h1,h2]; simp; omega
   · have ih:=filter_lt (l:=l) (fun x hx=>h x (by simp [hx])) ⟨y,hy,h1,h2⟩
     cases hp:p x with
     | false=>cases hq:q x <;> simp <;> omega
     | true=>rw [h x (by simp) hp]; simp; omega
theorem befN_cnt {o:List Int} (h:ord o=true) {i j:Nat} (hi:i<o.length) (hj:j<o.length) (hn:i≠j):befN o i j=cnt (fun a b=>ab o a b || (a==i&&b==j)) o.length (List.range o.length):=by
 have hirr : ∀ a,(fun a b=>ab o a b || (a==i&&b==j)) a a=false:=fun a=>by
  simp only [(ord_po h).irr,Bool.false_or,Bool.and_eq_false_iff,beq_eq_false_iff_ne]
  by_cases ha:a=i
  · right; omega
  · exact .inl ha
 rw [befN_eq h hi hj hn,← cnt_len]
 refine List.Perm.length_eq (perm_of_nodup ((Wr List.nodup_range).filter _) (Wr List.nodup_range) fun l=>?_)
 rw [Vm (r:=fun a b=>ab o a b || (a==i&&b==j)) hirr (by simp),List.mem_filter,mem_all h]
 constructor
 · rintro ⟨⟨hp,hw⟩,hb⟩
   have hl:l.Nodup:=hp.nodup_iff.2 List.nodup_range
   refine ⟨hp,(bef_pw hl).2 fun a ha b hb2 hab=>?_⟩
   have h1:=(bef_pw hl).1 hw a ha b hb2 hab
   simp only [h1,Bool.false_or,Bool.and_eq_false_iff,beq_eq_false_iff_ne]
   by_cases hbi:b=i
   · right
     rintro rfl
     subst hbi
     rw [bef_not hb2 ha hn] at hab
     rw [hb] at hab; cases hab
   · exact .inl hbi
 · rintro ⟨hp,hw⟩
   have hl:l.Nodup:=hp.nodup_iff.2 List.nodup_range
   have hw':=(bef_pw hl).1 hw
   refine ⟨⟨hp,(bef_pw hl).2 fun a ha b hb2 hab=>?_⟩,?_⟩
   · have:=hw' a ha b hb2 hab
     simp only [Bool.or_eq_false_iff] at this
     exact this.1
   · cases hb:bef l i j with
     | true=>rfl
     | false =>
       have hil:i∈l:=hp.mem_iff.2 (List.mem_range.2 hi)
       have hjl:j∈l:=hp.mem_iff.2 (List.mem_range.2 hj)
       have:=hw' j hjl i hil (by rw [bef_not hil hjl hn,hb]; rfl)
       simp at this
theorem third {o:List Int} (ho:ord o=true) (hc:1<cn o) : ∃ i j,i<o.length∧j<o.length∧i≠j∧cn o≤3*befN o i j∧3*befN o i j≤2*cn o:=by
 have hlen:=Yz ho
 have po:=ord_po ho
 obtain ⟨n,hn⟩ : ∃ n,n=o.length:=⟨_,rfl⟩
 rw [← hn] at hlen ⊢
 -- the elements, those with fewer below them first
 let key:Nat→Nat:=fun a=>((List.range n).filter fun b=>ab o b a).length
 have hkey : ∀ a,key a=((List.range n).filter fun b=>ab o b a).length:=fun _=>rfl
 obtain ⟨l,hl,hs⟩ : ∃ l:List Nat,l.Perm (List.range n)∧l.Pairwise fun a b=>key a≤key b:=by
  refine ⟨(List.range n).mergeSort fun a b=>decide (key a≤key b),List.mergeSort_perm _ _,?_⟩
  refine (List.pairwise_mergeSort (le:=fun a b=>decide (key a≤key b)) ?_ ?_ _).imp fun h=>by simpa using h
  · intro a b c h1 h2
    simp only [decide_eq_true_eq] at h1 h2 ⊢; omega
  · intro a b
    simp only [Bool.or_eq_true,decide_eq_true_eq]; omega
 have hll:l.length=n:=by rw [hl.length_eq,List.length_range]
 have hnd:l.Nodup:=hl.nodup_iff.2 List.nodup_range
 obtain ⟨f,hf⟩ : ∃ f:Nat→Nat,∀ k (hk:k<l.length),f k=l[k]:=⟨fun k=>l.getD k 0,fun k hk=>by simp [List.getD,hk]⟩
 have hfn : ∀ k,k<n→f k<n:=fun k hk=>by
  rw [hf k (by omega)]; exact List.mem_range.1 (hl.mem_iff.1 (List.getElem_mem _))
 have hinj : ∀ a,a<n→∀ b,b<n→f a=f b→a=b:=fun a ha b hb h=>by
  rw [hf a (by omega),hf b (by omega)] at h
  exact (List.getElem_inj hnd).1 h
 have hmap:(List.range n).map f=l:=List.ext_getElem (by simp [hll]) fun k h1 h2=>by rw [List.getElem_map,List.getElem_range,hf k h2]
 have hkm : ∀ a b,a<b→b<n→key (f a)≤key (f b):=fun a b hab hb=>by
  rw [hf a (by omega),hf b (by omega)]
  exact List.pairwise_iff_getElem.1 hs a b (by omega) (by omega) hab
 have hlt : ∀ a b,a<n→b<n→ab o (f a) (f b)=true→a<b:=fun a b ha hb h=>by
  have h1:key (f a)<key (f b):=by
   rw [hkey,hkey]
   refine filter_lt (fun x _ hx=>po.tr _ _ _ hx h) ⟨f a,List.mem_range.2 (hfn a ha),h,po.irr _⟩
  rcases Nat.lt_trichotomy a b with h2 | h2 | h2
  · exact h2
  · subst h2; omega
  · have:=hkm b a h2 ha; omega
 -- the sets of what is below
 let d:Nat→Nat:=fun b=>(List.range n).foldl (fun s j=>s ||| (if ab o (f j) (f b) then 2 ^ j else 0)) 0
 have hd : ∀ a b,(d b).testBit a=(decide (a<n)&&ab o (f a) (f b)):=fun a b=>by
  show ((List.range n).foldl (fun s j=>s ||| (if ab o (f j) (f b) then 2 ^ j else 0)) 0).testBit a=_
  rw [foldl_or_bit (f:=fun j=>if ab o (f j) (f b) then 2 ^ j else 0),Nat.zero_testBit,Bool.false_or,Bool.eq_iff_iff,List.any_eq_true]
  simp only [List.mem_range,Bool.and_eq_true,decide_eq_true_eq]
  constructor
  · rintro ⟨j,hj,h⟩
    split at h
    · next h2 =>
      rw [Nat.testBit_two_pow,decide_eq_true_eq] at h
      subst h; exact ⟨hj,h2⟩
    · rw [Nat.zero_testBit] at h; cases h
  · rintro ⟨ha,h⟩
    exact ⟨a,ha,by rw [if_pos h,Nat.testBit_two_pow]; simp⟩
 have hdl : ∀ b,b<n→d b<2 ^ b:=fun b hb=>lt_of_bits fun j hj=>by
  rw [hd]
  by_cases hjn:j<n
  · cases h:ab o (f j) (f b) with
    | false=>rw [Bool.and_false]
    | true=>have:=hlt j b hjn hb h; omega
  · rw [decide_eq_false hjn]; rfl
 let m:Nat→Nat:=fun i=>d i ||| 2 ^ i
 have hm : ∀ i,m i=d i ||| 2 ^ i:=fun _=>rfl
 have hmb : ∀ a b,(m b).testBit a=((d b).testBit a || decide (b=a)):=fun a b=>by rw [hm,Nat.testBit_or,Nat.testBit_two_pow]
 have hclo : ∀ k,k<n→closed (d k) (Lof m k)=true:=fun k hk=>closed_of k fun i hi h j hj=>by
  rw [hmb,Bool.or_eq_true] at hj
  rcases hj with hj | hj
  · rw [hd,Bool.and_eq_true] at h hj ⊢
    exact ⟨hj.1,po.tr _ _ _ hj.2 h.2⟩
  · rw [decide_eq_true_eq] at hj; subst hj; exact h
 have hpc : ∀ k,k<n→pcL (d k) (Lof m k)=key (f k):=fun k hk=>by
  rw [pcL_eq,hkey]
  have e1:((List.range k).filter fun i=>(d k).testBit i)=(List.range n).filter fun i=>(d k).testBit i:=by
   obtain ⟨q,rfl⟩ : ∃ q,n=k+q:=⟨n-k,by omega⟩
   rw [List.range_add,List.filter_append]
   have:((List.map (fun x=>k+x) (List.range q)).filter fun i=>(d k).testBit i)=[]:=by
    rw [List.filter_eq_nil_iff]
    intro x hx
    obtain ⟨y,_,rfl⟩:=List.mem_map.1 hx
    have h2:=Nat.testBit_lt_two_pow (Nat.lt_of_lt_of_le (hdl k hk) (Nat.pow_le_pow_right (n:=2) (by decide) (show k≤k+y by omega)))
    rw [h2]; decide
   rw [this,List.append_nil]
  rw [e1]
  have e2:((List.range n).filter fun i=>(d k).testBit i)=(List.range n).filter ((fun b=>ab o b (f k)) ∘ f):=List.filter_congr fun i hi=>by
   rw [hd,decide_eq_true (List.mem_range.1 hi)]; rfl
  rw [e2,← List.length_map (f:=f),← List.filter_map,hmap]
  exact (hl.filter _).length_eq
 have hmon : ∀ i,i+1<n→pcL (d i) (Lof m i)≤pcL (d (i+1)) (Lof m (i+1)):=fun i hi=>by
  rw [hpc i (by omega),hpc (i+1) hi]; exact hkm i (i+1) (by omega) hi
 have hgood:good (Lof m n) n=true:=by
  refine tree_good hm hdl hclo hmon 5 0 ?_ n (by omega) (Nat.le_refl _) (by omega)
  have h0:d 0=0:=by have:=hdl 0 (by omega); simpa using this
  have e:Lof m 1=[(1,1)]:=by rw [Lof,Lof,hm,h0]; rfl
  show tree 5 1 (Lof m 1) (pcL (d 0) [])=true
  rw [e]; exact tree5
 -- what is counted
 have hJ:((List.range n).reverse).Nodup:=(List.reverse_perm _).nodup_iff.2 List.nodup_range
 have hall:((List.range n).reverse.filter fun i=>(2 ^ n-1).testBit i)=(List.range n).reverse:=List.filter_eq_self.2 fun i hi=>by
  rw [Nat.testBit_two_pow_sub_one]; simpa using hi
 have hsub : ∀ i,(2 ^ n-1).testBit i=true→i∈(List.range n).reverse:=fun i hi=>by
  rw [Nat.testBit_two_pow_sub_one] at hi; simpa using hi
 obtain ⟨n1,hn1⟩ : ∃ n1,n=n1+1:=⟨n-1,by omega⟩
 have hcount : ∀ (M:Nat→Nat) (R:Nat→Nat→Bool),(∀ i,i<n→(M i).testBit i=true)→(∀ a,a<n→∀ b,b<n→R (f a) (f b)=rel M a b)→ex ((List.range n).reverse.map fun i=>(M i,2 ^ i)) n (2 ^ n-1)=cnt R n (List.range n):=by
  intro M R h1 h2
  have:=ex_cnt hJ (m:=M) (fun i hi=>h1 i (by simpa using hi)) n1 (2 ^ n-1) (by rw [hall,List.length_reverse,List.length_range]; exact hn1) hsub
  rw [← hn1,hall] at this
  rw [this,cnt_perm (rel M) (List.reverse_perm _),← cnt_map (r:=rel M) (r':=R) f (fun i hi j hj=>hinj i (List.mem_range.1 hi) j (List.mem_range.1 hj)) (fun i hi j hj=>h2 i (List.mem_range.1 hi) j (List.mem_range.1 hj)),hmap]
  exact cnt_perm R hl
 have hmself : ∀ i,i<n→(m i).testBit i=true:=fun i _=>by rw [hmb]; simp
 have hrel : ∀ a,a<n→∀ b,b<n→ab o (f a) (f b)=rel m a b:=fun a ha b hb=>by
  rw [rel,hmb,hd,decide_eq_true ha,Bool.true_and]
  by_cases hab:a=b
  · subst hab; rw [po.irr]; simp
  · rw [decide_eq_false (Ne.symm hab),Bool.or_false]; simp [hab]
 have hcn:ex (Lof m n) n (2 ^ n-1)=cn o:=by
  rw [Lof_eq,hcount m (ab o) hmself hrel,cn,← hn]
 rcases good_of hgood with h | ⟨x,hx,y,hy,hxy,h1,h2⟩
 · rw [hcn] at h; omega
 · rw [Lof_eq] at hx hy
   obtain ⟨a,ha,rfl⟩:=List.mem_map.1 hx
   obtain ⟨b,hb,rfl⟩:=List.mem_map.1 hy
   have ha' : a<n:=by simpa using ha
   have hb' : b<n:=by simpa using hb
   have hab:a≠b:=fun h=>hxy (by rw [h])
   have hfab:f a≠f b:=fun h=>hab (hinj a ha' b hb' h)
   have hbe:ex (putL (Lof m n) (2 ^ a) (2 ^ b)) n (2 ^ n-1)=befN o (f a) (f b):=by
    rw [Lof_eq,putL_map,hcount (fun i=>if i=b then m i ||| 2 ^ a else m i) (fun u v=>ab o u v || (u==f a&&v==f b)),befN_cnt ho (by rw [← hn]; exact hfn a ha') (by rw [← hn]; exact hfn b hb') hfab,← hn]
    · intro i hi
      split
      · rw [Nat.testBit_or,hmself i hi]; rfl
      · exact hmself i hi
    · intro u hu v hv
      rw [hrel u hu v hv,rel,rel]
      have e1:(f u==f a)=(u==a):=by
       by_cases h:u=a
       · subst h; simp
       · rw [beq_eq_false_iff_ne.2 h,beq_eq_false_iff_ne.2 fun he=>h (hinj u hu a ha' he)]
      have e2:(f v==f b)=(v==b):=by
       by_cases h:v=b
       · subst h; simp
       · rw [beq_eq_false_iff_ne.2 h,beq_eq_false_iff_ne.2 fun he=>h (hinj v hv b hb' he)]
      rw [e1,e2]
      by_cases hvb:v=b
      · subst hvb
        simp only [if_true,Nat.testBit_or,Nat.testBit_two_pow,beq_self_eq_true,Bool.and_true]
        by_cases hua:u=a
        · subst hua; simp [hab]
        · simp [hua,Ne.symm hua]
      · simp [hvb]
   simp only at h1 h2
   rw [hcn,hbe] at h1 h2
   exact ⟨f a,f b,hfn a ha',hfn b hb',hfab,h1,h2⟩
end Ord
namespace Ord
open Go.Am
/-! How many lines there are at most. -/
def fac:Nat→Nat
 | 0=>1
 | n+1=>(n+1)*fac n
theorem cnt_fac (r:Nat→Nat→Bool) : ∀ k S,S.length=k→cnt r k S≤fac k
 | 0,_,_=>Nat.le_refl _
 | k+1,S,hS=>by
   rw [cnt,fac]
   have h1:(Wi r S).length≤k+1:=by rw [← hS]; exact List.length_filter_le _ _
   have h2 : ∀ F:List Nat,(∀ i∈F,i∈S)→(F.map fun i=>cnt r k (S.erase i)).sum≤F.length*fac k:=by
    intro F
    induction F with
    | nil=>intro _; simp
    | cons a F ih =>
      intro h
      have e1:=ih fun i hi=>h i (by simp [hi])
      have e2:=cnt_fac r k (S.erase a) (by rw [List.length_erase_of_mem (h a (by simp)),hS]; rfl)
      rw [List.map_cons,List.sum_cons,List.length_cons,Nat.succ_mul]; omega
   exact Nat.le_trans (h2 _ fun i hi=>(Ve.1 hi).1) (Nat.mul_le_mul_right _ h1)
theorem fac_mono : ∀ {n:Nat},n≤6→fac n≤720
 | 0,_=>by decide
 | 1,_=>by decide
 | 2,_=>by decide
 | 3,_=>by decide
 | 4,_=>by decide
 | 5,_=>by decide
 | 6,_=>by decide
 | n+7,h=>by omega
theorem cn_720 {o:List Int} (h:ord o=true):cn o≤720 :=
 Nat.le_trans (cnt_fac _ _ _ (by simp)) (fac_mono (Yz h).2)
def hTo (o:List Int):Nat→Nat
 | 0=>0
 | k+1=>hTo o k+hsum o k
def Wu (f:Nat→Nat):Nat→Nat
 | 0=>0
 | k+1=>Wu f k+f k
theorem sumTo_range (f:Nat→Nat) : ∀ n,((List.range n).map f).sum=Wu f n
 | 0=>rfl
 | n+1=>by rw [List.range_succ,List.map_append,List.sum_append,sumTo_range f n,Wu]; simp
theorem sumTo_add (f g:Nat→Nat) : ∀ n,Wu (fun i=>f i+g i) n=Wu f n+Wu g n
 | 0=>rfl
 | n+1=>by rw [Wu,Wu,Wu,sumTo_add f g n]; omega
theorem Vc {f g:Nat→Nat} : ∀ n,(∀ i,i<n→f i=g i)→Wu f n=Wu g n
 | 0,_=>rfl
 | n+1,h=>by rw [Wu,Wu,Vc n fun i hi=>h i (by omega),h n (by omega)]
theorem sumTo_swap (F:Nat→Nat→Nat) : ∀ n m,Wu (fun i=>Wu (F i) m) n=Wu (fun j=>Wu (fun i=>F i j) n) m
 | 0,m=>by
   induction m with
   | zero=>rfl
   | succ m ih=>exact ih
 | n+1,m=>by
   rw [Wu,sumTo_swap F n m,← sumTo_add]; rfl
theorem sumTo_const (c:Nat) : ∀ n,Wu (fun _=>c) n=n*c
 | 0=>by simp [Wu]
 | n+1=>by rw [Wu,sumTo_const c n,Nat.succ_mul]
theorem hTo_sum (o:List Int) : ∀ k,hTo o k=Wu (hsum o) k
 | 0=>rfl
 | k+1=>by rw [hTo,Wu,hTo_sum o k]
theorem hsum_sumTo (o:List Int) (i:Nat):hsum o i=Wu (fun j=>if j=i then 0 else befN o j i) o.length:=by
 rw [hsum,← sumTo_range]
 generalize List.range o.length=J
 induction J with
 | nil=>rfl
 | cons j J ih =>
   rw [List.filter_cons]
   by_cases h:j=i
   · rw [if_neg (by simpa using h),ih,List.map_cons,List.sum_cons,if_pos h,Nat.zero_add]
   · rw [if_pos (by simpa using h),List.map_cons,List.sum_cons,ih,List.map_cons,List.sum_cons,if_neg h]
theorem sumTo_but (c:Nat) {i:Nat} : ∀ n,Wu (fun j=>if j=i then 0 else c) n+(if i<n then c else 0)=n*c
 | 0=>by simp [Wu]
 | n+1=>by
   have ih:=sumTo_but c (i:=i) n
   rw [Wu,Nat.succ_mul,← ih]
   by_cases h1:n=i
   · subst h1; simp
   · rw [if_neg h1]
     by_cases h2:i<n
     · rw [if_pos h2,if_pos (by omega)]
     · rw [if_neg h2,if_neg (by omega)]; omega
theorem heights {o:List Int} (ho:ord o=true):2*hTo o o.length=o.length*(o.length-1)*cn o:=by
 obtain ⟨n,hn⟩ : ∃ n,n=o.length:=⟨_,rfl⟩
 have h1:hTo o o.length=Wu (fun i=>Wu (fun j=>if j=i then 0 else befN o j i) o.length) o.length:=by
  rw [hTo_sum]; exact Vc _ fun i _=>hsum_sumTo o i
 have h2:hTo o o.length=Wu (fun i=>Wu (fun j=>if j=i then 0 else befN o i j) o.length) o.length:=by
  rw [h1,sumTo_swap]
  refine Vc _ fun i _=>Vc _ fun j _=>?_
  by_cases h:i=j
  · rw [if_pos h,if_pos h.symm]
  · rw [if_neg h,if_neg (Ne.symm h)]
 have h3:2*hTo o o.length=Wu (fun i=>Wu (fun j=>if j=i then 0 else cn o) o.length) o.length:=by
  rw [Nat.two_mul]
  conv=>lhs; lhs; rw [h1]
  conv=>lhs; rhs; rw [h2]
  rw [← sumTo_add]
  refine Vc _ fun i hi=>?_
  rw [← sumTo_add]
  refine Vc _ fun j hj=>?_
  by_cases h:j=i
  · rw [if_pos h,if_pos h,if_pos h]
  · rw [if_neg h,if_neg h,if_neg h,befN_two ho hj hi h]
 rw [h3,← hn]
 have h4 : ∀ i,i<n→Wu (fun j=>if j=i then 0 else cn o) n=(n-1)*cn o:=fun i hi=>by
  have:=sumTo_but (cn o) (i:=i) n
  rw [if_pos hi] at this
  rw [Nat.sub_mul,Nat.one_mul]; omega
 rw [Vc n h4,sumTo_const,Nat.mul_assoc]
end Ord
