/-
  bets: slices.Repeat of one fraction.
  bets: equations solved.
  bets: fractions: the reference's arithmetic; a fraction's checks.
  bets: the common multiple of fractions.
  bets: chances: their checks, sums over an event, parts.
  bets: parts as numbers; a slice of parts; the program's checks of chances; the chance of an event.
  bets: the program's forecasts: checks over all elements, the chance of an event.
  bets: forecasts, in the program and in the reference.
  bets: corners, as the program finds them. Plain Lean, no program.
  bets: a row of equations; bets that are valid.
-/
import Derived.Test.YtmjpngmoankpkaaDoorPk7
import Derived.Test.YtmjpngmoankpkaaDoorPk6
import Derived.Test.YtmjpngmoankpkaaDoorPk5
set_option linter.all false
namespace Go.Proofs.Tryd.Am.Be
open Go.Proofs.Tryd.Am
open Go.Am Bq
set_option maxRecDepth 100000
set_option maxHeartbeats 1000000
theorem small_and : ∀ y:Nat,y<6→Vl .and .u64 (y:Int) 4294967295=(y:Int)∧shrV .u64 (y:Int) 32=0∧mulV .u64 1 (y:Int)=(y:Int)∧mulV .u64 0 (y:Int)=0∧addV .u64 (y:Int) 0=(y:Int):=by decide
theorem s166_callW [Tabs Tryd.prog] {args:List Value} {h:Zh} {Q:Value→Zh→Prop} (hsz:args.length≤51) (hk:AWS Tryd.prog 51 s166 (Zs Tryd.prog [.tmp 4,.tmp 5] Q) (Zp 0 args) h):ACall Tryd.prog 166 args h Q :=
 Yz Tryd.func166 rfl (enters_of Tryd.func166 (by kernel_rfl) rfl) rfl rfl (by decide) s166_strip s166_ok hsz hk
theorem mul64_call [Tabs prog] {h:Zh} {y:Nat} (hy:y<6):Xj prog 166 [.int .u64 1,.int .u64 (y:Int)] h (.tuple #[.int .u64 0,.int .u64 (y:Int)]):=by
 obtain ⟨a1,a2,a3,a4,a5⟩:=small_and y hy
 have b1:Vl .and .u64 1 4294967295=1:=by decide
 have b2:shrV .u64 1 32=0:=by decide
 have b3:mulV .u64 1 0=0:=by decide
 have b4:mulV .u64 0 0=0:=by decide
 have b5:addV .u64 0 0=0:=by decide
 have b6:Vl .and .u64 0 4294967295=0:=by decide
 have b7:shrV .u64 0 32=0:=by decide
 have b8:(0:Int)≤32:=by decide
 refine s166_callW (by simp) ?_
 refine Zm ?_
 simp (maxSteps:=2000000) only [s166,↓Za,↓Zl,↓Zu,↓Zb,↓Zc,vup,cond_true,cond_false,aop,Zf,Zp,ev,sput,Ze,Yf,Yi,Nat.reduceBEq,Nat.reduceAdd,Zs,Xn,tup,a1,a2,a3,a4,b1,b2,b3,b4,b5,b6,b7,b8]
theorem s147_callW [Tabs Tryd.prog] {args:List Value} {h:Zh} {Q:Value→Zh→Prop} (hsz:args.length≤30) (hk:AWS Tryd.prog 30 s147 (Zs Tryd.prog [.tmp 4,.tmp 5] Q) (Zp 0 args) h):ACall Tryd.prog 147 args h Q :=
 Yz Tryd.func147 rfl (enters_of Tryd.func147 (by kernel_rfl) rfl) rfl rfl (by decide) s147_strip s147_ok hsz hk
theorem mul_call [Tabs prog] {h:Zh} {y:Nat} (hy:y<6):Xj prog 147 [.int .u64 1,.int .u64 (y:Int)] h (.tuple #[.int .u64 0,.int .u64 (y:Int)]):=by
 refine s147_callW (by simp) ?_
 simp only [s147]
 refine Zg fun N1 hN1=>?_
 simp (maxSteps:=2000000) only [↓Za,↓Zb,↓Zc,vup,cond_false,aop,Zf,Zp,ev,sput,Ze,Nat.reduceBEq,Nat.reduceAdd]
 refine hN1 [(0,.int .u64 1),(1,.int .u64 (y:Int)),(4,.int .u64 0),(5,.int .u64 0)] _ _ ?_ (by simp (maxSteps:=2000000) only [vup,cond_true,cond_false,Nat.reduceBEq])
 clear hN1
 try clear N1
 refine Zt fun Z hZ=>?_
 refine Xh rfl ?_
 refine Zm ?_
 simp (maxSteps:=2000000) only [↓Zn,Zf]
 refine hZ [(0,.int .u64 1),(1,.int .u64 (y:Int)),(4,.int .u64 0),(5,.int .u64 0)] _ _ ?_ (by simp (maxSteps:=2000000) only [vup,cond_true,cond_false,Nat.reduceBEq])
 clear hZ
 try clear Z
 refine Zm ?_
 simp (maxSteps:=2000000) only [↓Za,↓Zl,↓Zu,↓Zb,↓Zc,vup,List.map_cons,List.map_nil,cond_true,cond_false,aop,Zf,ev,sput,Ze,Nat.reduceBEq,Zs,Xn,tup,Yn,List.nil_append,List.append_nil]
 refine (mul64_call hy).mono ?_
 rintro _ h ⟨rfl,rfl⟩
 simp (maxSteps:=2000000) only [vup,Wh,Wi]
theorem conv_u : ∀ y:Nat,y<6→IntKind.u64.wrap (y:Int)=(y:Int)∧IntKind.i64.wrap (y:Int)=(y:Int):=by decide
theorem litF [Tabs prog] {h:Zh} {x y:Int} (K:Value→Zh→Prop):Yj prog h 43 1 [(0,.agg #[Zd x,Zd y])] K=K (.slice (some ⟨h.length,0,none⟩) 1 1) (h++[.ints [x,y] 45 false]):=by
 simp only [Yj,el_43,zero_45,Ub,reps,Vx,mkb,Wk,cellsOf,List.length_cons,List.length_nil,Nat.zero_add,Nat.zero_mul,Yk]
 refine propext ⟨fun h=>?_,fun h=>⟨trivial,by decide,by decide,?_⟩⟩
 · simpa [Yv] using h.2.2.2
 · simpa [Yv] using h
theorem flatP_take : ∀ (L:List (Int×Int)) (o:Nat),Ye (L.take o)=(Ye L).take (o*2)
 | [],o=>by simp [Ye]
 | p::L,0=>by simp [Ye]
 | p::L,o+1=>by
   have e : ∀ l:List (Int×Int),Ye (p::l)=p.1::p.2::Ye l:=fun l=>rfl
   rw [List.take_succ_cons,e,e,flatP_take L o,show (o+1)*2=o*2+1+1 by omega,List.take_succ_cons,List.take_succ_cons]
theorem flatP_drop : ∀ (L:List (Int×Int)) (o:Nat),Ye (L.drop o)=(Ye L).drop (o*2)
 | [],o=>by simp [Ye]
 | p::L,0=>by simp
 | p::L,o+1=>by
   have e : ∀ l:List (Int×Int),Ye (p::l)=p.1::p.2::Ye l:=fun l=>rfl
   rw [List.drop_succ_cons,e,flatP_drop L o,show (o+1)*2=o*2+1+1 by omega,List.drop_succ_cons,List.drop_succ_cons]
theorem flatP_splice {L S:List (Int×Int)} {o:Nat}:Ye (Yk L o S)=Yk (Ye L) (o*2) (Ye S):=by
 simp only [Yk,flatP_app,flatP_take,flatP_drop,Xz,Nat.add_mul]
theorem storesP {h:Zh} {b o:Nat} {L S:List (Int×Int)} {e:TypeId} (hb:h[b]? = some (.cells ((Ye L).map Zd) e false)) (ho:o+S.length≤L.length) (K:Zh→Prop)
  (hk:K (h.set b (.cells ((Ye (Yk L o S)).map Zd) e false))):storesK h b (o*2) ((Ye S).map Zd) K:=by
 simp only [storesK,hb,← splice_map]
 refine ⟨?_,?_,?_⟩
 · rw [List.all_eq_true]
   intro v hv
   obtain ⟨n,_,rfl⟩:=List.mem_map.1 hv
   rfl
 · simp only [List.length_map,Xz]; omega
 · rw [← flatP_splice]; exact hk
theorem cellsP {h:Zh} {b o s:Nat} {L:List (Int×Int)} {e:TypeId} {ro:Bool} (hb:h[b]? = some (.cells ((Ye L).map Zd) e ro)) (ho:o+s≤L.length) (K:List Value→Prop)
  (hk:K ((Ye ((L.drop o).take s)).map Zd)):Xr h b (o*2) (s*2) K:=by
 simp only [Xr,hb]
 refine ⟨by simp only [List.length_map,Xz]; omega,?_⟩
 rw [flatP_take,flatP_drop,List.map_take,List.map_drop] at hk
 exact hk
def repL (x y:Int) (n c:Nat):List (Int×Int):=List.replicate c (x,y)++List.replicate (n-c) (0,0)
theorem repL_len {x y:Int} {n c:Nat} (h:c≤n):(repL x y n c).length=n:=by simp [repL]; omega
theorem repL_next {x y:Int} {n c:Nat} (h:c≤n):Yk (repL x y n c) c (((repL x y n c).drop 0).take (min c (n-c)))=repL x y n (c+min c (n-c)):=by
 have e1:((repL x y n c).drop 0).take (min c (n-c))=List.replicate (min c (n-c)) (x,y):=by
  rw [List.drop_zero,repL,List.take_append_of_le_length (by simp; omega),List.take_replicate,Nat.min_eq_left (Nat.min_le_left _ _)]
 rw [e1,Yk,repL,List.take_append_of_le_length (by simp),List.take_of_length_le (by simp),List.drop_append,List.length_replicate,List.length_replicate,List.drop_of_length_le (by simp),List.nil_append,List.drop_replicate,List.replicate_append_replicate,repL]
 congr 2
 omega
theorem s120_callW [Tabs Tryd.prog] {args:List Value} {h:Zh} {Q:Value→Zh→Prop} (hsz:args.length≤48) (hk:AWS Tryd.prog 48 s120 (Zs Tryd.prog [.tmp 4] Q) (Zp 0 args) h):ACall Tryd.prog 120 args h Q :=
 Yz Tryd.func120 rfl (enters_of Tryd.func120 (by kernel_rfl) rfl) rfl rfl (by decide) s120_strip s120_ok hsz hk
theorem repeat_call [Tabs prog] {h:Zh} {b0 n:Nat} {x y:Int} (hb:h[b0]? = some (.ints [x,y] 45 false)) (hn:1≤n) (hn5:n<6) :
  ADet prog 120 [.slice (some ⟨b0,0,none⟩) 1 1,Zd (n:Nat)] h (.slice (some ⟨h.length,0,none⟩) n n) (h++[.cells ((Ye (List.replicate n (x,y))).map Zd) 45 false]):=by
 obtain ⟨cu,ci⟩:=conv_u n hn5
 have cu1:IntKind.u64.wrap 1=1:=by decide
 have hneg : ¬ ((n:Nat):Int)<0:=by omega
 have hbig : ¬ ((n:Nat):Int) > 9223372036854775807:=by omega
 have h00 : ¬ (0:Int) > 0:=by decide
 refine s120_callW (by simp) ?_
 simp only [s120]
 refine Zg fun N2 hN2=>?_
 simp (maxSteps:=2000000) only [↓Za,↓Zb,↓Zc,vup,cond_false,aop,Zf,Zp,ev,sput,Ze,Nat.reduceBEq,Nat.reduceAdd]
 refine hN2 [(0,.slice (some ⟨b0,0,none⟩) 1 1),(1,Zd (n:Nat)),(4,.slice none 0 0)] _ _ ?_ (by simp (maxSteps:=2000000) only [vup,cond_true,cond_false,Nat.reduceBEq])
 clear hN2
 try clear N2
 refine Zg fun N3 hN3=>?_
 simp (maxSteps:=2000000) only [↓Za,↓Zn,↓Zl,↓Zb,↓Zc,↓vdn,vup,cond_true,cond_false,aop,Zf,ev,sput,Ze,Yf,Yi,Nat.reduceBEq,hneg]
 refine hN3 [(0,.slice (some ⟨b0,0,none⟩) 1 1),(1,Zd (n:Nat)),(4,.slice none 0 0)] _ _ ?_ (by simp (maxSteps:=2000000) only [vup,cond_true,cond_false,Nat.reduceBEq])
 clear hN3
 try clear N3
 refine Zg fun N4 hN4=>?_
 simp (maxSteps:=2000000) only [↓Za,↓Zb,↓Zc,vup,List.map_cons,List.map_nil,cond_true,cond_false,aop,Zf,ev,sput,Ze,Zi,Nat.reduceBEq,tyf,lenK,Int.natCast_one,convK,cu,cu1]
 simp (maxSteps:=2000000) only [Yn,List.nil_append,List.append_nil]
 refine (mul_call hn5).mono ?_
 rintro _ h ⟨rfl,rfl⟩
 simp (maxSteps:=2000000) only [Wh,Wi]
 refine hN4 [(0,.slice (some ⟨b0,0,none⟩) 1 1),(1,Zd (n:Nat)),(4,.slice none 0 0),(5,.int .u64 0),(6,.int .u64 (n:Int))] _ _ ?_ (by simp (maxSteps:=2000000) only [vup,cond_true,cond_false,Nat.reduceBEq])
 clear hN4
 try clear N4
 refine Zg fun N5 hN5=>?_
 simp (maxSteps:=2000000) only [↓Za,↓Zn,↓Zl,↓Zb,↓Zc,↓vdn,vup,cond_true,cond_false,aop,Zf,ev,sput,Ze,Yf,Yi,Nat.reduceBEq,h00,hbig]
 refine hN5 [(0,.slice (some ⟨b0,0,none⟩) 1 1),(1,Zd (n:Nat)),(4,.slice none 0 0),(5,.int .u64 0),(6,.int .u64 (n:Int))] _ _ ?_ (by simp (maxSteps:=2000000) only [vup,cond_true,cond_false,Nat.reduceBEq])
 clear hN5
 try clear N5
 have hmk : ∀ {K:Value→Zh→Prop},makeK prog h 43 (Zd (n:Nat)) (Zd (n:Nat)) K=K (.slice (some ⟨h.length,0,none⟩) n n) (h++[.cells ((Ye (List.replicate n (0,0))).map Zd) 45 false]):=fun {K}=>makeP el_43 zero_45 info_45 rfl (by omega)
 refine Zg fun N6 hN6=>?_
 simp (maxSteps:=2000000) only [↓Za,↓Zb,↓Zc,vup,cond_true,cond_false,aop,Zf,ev,sput,Ze,Nat.reduceBEq,tyf,convK,ci,hmk]
 refine hN6 [(0,.slice (some ⟨b0,0,none⟩) 1 1),(1,Zd (n:Nat)),(4,.slice none 0 0),(7,.slice (some ⟨h.length,0,none⟩) n n)] _ _ ?_ (by simp (maxSteps:=2000000) only [vup,cond_true,cond_false,Nat.reduceBEq])
 clear hN6
 try clear N6
 obtain ⟨H,hH⟩ : ∃ H:Nat→Zh,H=fun c=>h++[.cells ((Ye (repL x y n c)).map Zd) 45 false]:=⟨_,rfl⟩
 have hHc : ∀ c,(H c)[h.length]? = some (.cells ((Ye (repL x y n c)).map Zd) 45 false):=fun c=>by rw [hH]; exact Zr _ _
 have hset : ∀ c d,(H c).set h.length (.cells ((Ye (repL x y n d)).map Zd) 45 false)=H d:=fun c d=>by simp only [hH]; rw [set_new]
 have hH0:h++[.cells ((Ye (List.replicate n ((0:Int),(0:Int)))).map Zd) 45 false]=H 0:=by rw [hH]; simp [repL]
 rw [hH0]
 have hb0:(H 0)[b0]? = some (.ints [x,y] 45 false):=by rw [hH]; exact Yp hb _
 have hcp : ∀ {K:Value→Zh→Prop},K (Zd 1) (H 1)→copyK prog (H 0) 43 (.slice (some ⟨h.length,0,none⟩) n n) (.slice (some ⟨b0,0,none⟩) 1 1) K:=fun {K} hK=>by
  simp only [copyK,el_43,Ub]
  have e1:min 1 n=1:=by omega
  rw [e1]
  simp only [Xr,hb0]
  refine ⟨by simp,?_⟩
  rw [show min ((1:Nat):Int) ((n:Nat):Int)=1 by omega]
  have st:=storesP (S:=[(x,y)]) (o:=0) (hHc 0) (by rw [repL_len (by omega)]; simp; omega) (fun h'=>K (Zd 1) h') (by
   have e2:Yk (repL x y n 0) 0 [(x,y)]=repL x y n 1:=by
    rw [repL,repL,List.replicate_zero,List.nil_append,show n-0=(n-1)+1 by omega,List.replicate_succ]
    simp [Yk]
   rw [e2,hset]; exact hK)
  exact st
 refine Zg fun N7 hN7=>?_
 simp (maxSteps:=2000000) only [↓Za,↓Zb,↓Zc,vup,List.map_cons,List.map_nil,cond_true,cond_false,aop,Zf,ev,sput,Ze,Zi,Nat.reduceBEq]
 refine hcp ?_
 refine hN7 [(0,.slice (some ⟨b0,0,none⟩) 1 1),(1,Zd (n:Nat)),(4,.slice none 0 0),(7,.slice (some ⟨h.length,0,none⟩) n n),(8,.int .i64 1)] _ _ ?_ (by simp (maxSteps:=2000000) only [vup,cond_true,cond_false,Nat.reduceBEq])
 clear hN7
 try clear N7
 refine Zt fun Z hZ=>?_
 refine Zx ?_
 refine Zy fun Q hQ=>?_
 refine Xa (γ:=Nat) (fun c=>1≤c∧c≤n) (fun c=>([(0,.slice (some ⟨b0,0,none⟩) 1 1),(1,Zd (n:Nat)),(4,.slice none 0 0),(7,.slice (some ⟨h.length,0,none⟩) n n),(8,Zd (c:Nat))],H c)) (fun c=>n-c) 1 ⟨Nat.le_refl _,hn⟩ (by simp (maxSteps:=2000000) only [vup,cond_true,cond_false,Nat.reduceBEq,Int.natCast_one]) rfl ?_
 rintro c ⟨hc1,hc⟩
 refine Zy fun Q2 hQ2=>?_
 simp only [l120_0]
 by_cases hin:(c:Int)<n
 · have hcn:c<n:=by omega
   refine Zg fun N8 hN8=>?_
   simp (maxSteps:=2000000) only [↓Za,↓Zn,↓Zl,↓Zb,↓Zc,↓vdn,vup,List.map_cons,List.map_nil,cond_true,cond_false,aop,Zf,ev,sput,Ze,Yf,Yi,Zi,Nat.reduceBEq,tyf,lenK,hin]
   refine hN8 [(0,.slice (some ⟨b0,0,none⟩) 1 1),(1,Zd (n:Nat)),(4,.slice none 0 0),(7,.slice (some ⟨h.length,0,none⟩) n n),(8,Zd (c:Nat))] _ _ ?_ (by simp (maxSteps:=2000000) only [vup,cond_true,cond_false,Nat.reduceBEq])
   clear hN8
   try clear N8
   refine Zm ?_
   simp only [q120_9,Yr]
   refine Yx [] (by kernel_rfl) (by kernel_rfl) (by kernel_rfl) (by kernel_rfl) ?_
   have hs1 : ∀ {K:Value→Prop},K (.slice (some ⟨h.length,c*2,none⟩) (n-c) (n-c))→Xv prog 43 (.slice (some ⟨h.length,0,none⟩) n n) (some (Zd (c:Nat))) none none K:=fun {K} hK=>by
    simp only [Xv,el_43,Ub,bnd]
    refine ⟨by omega,by omega,by omega,fun _=>?_,fun h0=>absurd rfl h0⟩
    rw [if_neg (by omega),show ((n:Int)-(c:Int)).toNat=n-c by omega,Int.toNat_natCast,Nat.zero_add]
    exact hK
   have hs2 : ∀ {K:Value→Prop},K (.slice (some ⟨h.length,0,none⟩) c n)→Xv prog 43 (.slice (some ⟨h.length,0,none⟩) n n) none (some (Zd (c:Nat))) none K:=fun {K} hK=>by
    simp only [Xv,el_43,Ub,bnd]
    refine ⟨by omega,by omega,by omega,fun _=>?_,fun h0=>absurd rfl h0⟩
    rw [if_neg (by omega)]
    simpa using hK
   have hcp2 : ∀ {K:Value→Zh→Prop},K (Zd (min c (n-c):Nat)) (H (c+min c (n-c)))→copyK prog (H c) 43 (.slice (some ⟨h.length,c*2,none⟩) (n-c) (n-c)) (.slice (some ⟨h.length,0,none⟩) c n) K:=fun {K} hK=>by
    simp only [copyK,el_43,Ub]
    refine cellsP (o:=0) (hHc c) (by rw [repL_len (by omega)]; omega) _ ?_
    refine storesP (hHc c) (by rw [List.length_take,List.length_drop,repL_len (by omega)]; omega) _ ?_
    rw [repL_next (by omega),hset,show min ((c:Nat):Int) ((n-c:Nat):Int)=((min c (n-c):Nat):Int) by omega]
    exact hK
   simp (maxSteps:=2000000) only [↓Zz,↓vdn,vup,List.map_cons,List.map_nil,cond_true,cond_false,aop,Zo,ev,sput,Ze,Yf,Yi,Zi,Nat.reduceBEq,tyf,Option.map_some,Option.map_none]
   refine hs1 ?_
   refine hs2 ?_
   refine hcp2 ?_
   have ha:addV .i64 (c:Int) ((min c (n-c):Nat):Int)=((c+min c (n-c):Nat):Int):=by rw [addN (by omega)]; push_cast; rfl
   simp (maxSteps:=2000000) only [vup,ha]
   exact hQ2 _ _ _ ⟨c+min c (n-c),⟨by omega,by omega⟩,by omega,by simp (maxSteps:=2000000) only [vup,cond_true,cond_false,Nat.reduceBEq],rfl⟩
 · have hcn:n=c:=by omega
   subst hcn
   refine Zg fun N9 hN9=>?_
   simp (maxSteps:=2000000) only [↓Za,↓Zl,↓Yo,↓Zb,↓Zc,↓vdn,vup,List.map_cons,List.map_nil,cond_true,cond_false,aop,Zf,ev,sput,Ze,Yf,Yi,Zi,Nat.reduceBEq,tyf,lenK,hin]
   refine hQ2 _ _ _ (hQ _ _ _ ?_)
   simp (maxSteps:=2000000) only [Zf,Zo,Zs,if_true]
   refine hZ [(0,.slice (some ⟨b0,0,none⟩) 1 1),(1,Zd (n:Nat)),(4,.slice none 0 0),(7,.slice (some ⟨h.length,0,none⟩) n n),(8,Zd (n:Nat))] _ _ ?_ (by simp (maxSteps:=2000000) only [vup,cond_true,cond_false,Nat.reduceBEq])
   clear hZ
   try clear Z
   refine Zm ?_
   simp (maxSteps:=2000000) only [↓Za,↓Zl,↓Zu,↓Zb,↓Zc,vup,cond_true,cond_false,aop,Zf,ev,sput,Ze,Nat.reduceBEq,Zs,Xn,tup]
   rw [hH]; simp [repL]
end Go.Proofs.Tryd.Am.Be
namespace Go.Proofs.Tryd.Am.Be
open Go.Proofs.Tryd.Am
open Go.Am Bq
set_option maxRecDepth 100000
set_option maxHeartbeats 1000000
theorem findP_fst (m a:Nat) (T:Wp) (ha:a≤m):match findP m a T with | none=>fstI (m-a) (fun i=>decide (T (a+i) a≠0)) = -1 | some p=>a≤p∧p<m∧fstI (m-a) (fun i=>decide (T (a+i) a≠0))=((p-a:Nat):Int):=by
 cases hf:findP m a T with
 | none =>
   simp only
   rw [fstI,find_none]
   intro i hi
   rw [findP,List.find?_eq_none] at hf
   have:=hf (a+i) (List.mem_range.2 (by omega))
   simpa using this
 | some p =>
   obtain ⟨h1,h2,h3,h4⟩:=findP_some hf
   simp only
   refine ⟨h2,h1,?_⟩
   rw [fstI,find_spec (k:=p-a) (by omega) (by simp only [show a+(p-a)=p by omega]; simpa using h3) (fun i hi=>by simpa using h4 (a+i) (by omega) (by omega))]
def normTo (a c:Nat) (T:Wp):Wp:=fun i d=>if i=a∧d<c then T a d / T a a else T i d
theorem normTo_zero (a:Nat) (T:Wp):normTo a 0 T=T:=by funext i d; simp [normTo]
theorem normTo_at (a c:Nat) (T:Wp):normTo a c T a c=T a c:=by simp [normTo]
theorem normTo_succ (a c:Nat) (T:Wp):upd (normTo a c T) a c (T a c / T a a)=normTo a (c+1) T:=by
 funext i d
 simp only [upd,normTo]
 by_cases h1:i=a
 · subst h1
   by_cases h2:d=c
   · subst h2; simp
   · by_cases h3:d<c
     · simp [h2,h3,show d<c+1 by omega]
     · simp [h2,h3,show ¬ d<c+1 by omega]
 · simp [h1]
theorem normTo_all {a k i d:Nat} (T:Wp) (hd:d≤k):normTo a (k+1) T i d=normT a T i d:=by
 simp only [normTo,normT]
 by_cases h1:i=a
 · simp [h1,show d<k+1 by omega]
 · simp [h1]
def We (a r:Nat) (T:Wp):Wp:=fun i d=>if i<r∧i≠a then T i d-T i a*T a d else T i d
def elimTo (a i c:Nat) (T:Wp):Wp:=fun i' d=>if i' = i∧d<c then T i d-T i a*T a d else T i' d
theorem elimRows_zero (a:Nat) (T:Wp):We a 0 T=T:=by funext i d; simp [We]
theorem elimTo_zero (a i:Nat) (T:Wp):elimTo a i 0 T=T:=by funext i' d; simp [elimTo]
theorem elimTo_at (a i c:Nat) (T:Wp):elimTo a i c T i c=T i c:=by simp [elimTo]
theorem elimTo_other {a i c i' : Nat} (T:Wp) (h:i'≠i) (d:Nat):elimTo a i c T i' d=T i' d:=by simp [elimTo,h]
theorem elimTo_succ (a i c:Nat) (T:Wp):upd (elimTo a i c T) i c (T i c-T i a*T a c)=elimTo a i (c+1) T:=by
 funext i' d
 simp only [upd,elimTo]
 by_cases h1:i' = i
 · subst h1
   by_cases h2:d=c
   · subst h2; simp
   · by_cases h3:d<c
     · simp [h2,h3,show d<c+1 by omega]
     · simp [h2,h3,show ¬ d<c+1 by omega]
 · simp [h1]
theorem elimRows_row (a r:Nat) (T:Wp):We a r T r=T r∧We a r T a=T a:=by
 constructor <;> (funext d; simp [We])
theorem elimRows_next {a r k:Nat} (T:Wp) (h:r≠a) {i d:Nat} (hd:d≤k):elimTo a r (k+1) (We a r T) i d=We a (r+1) T i d:=by
 obtain ⟨e1,e2⟩:=elimRows_row a r T
 simp only [elimTo,e1,e2]
 by_cases h1:i=r
 · subst h1; simp [We,h,show d<k+1 by omega]
 · simp only [h1,false_and,if_false,We]
   by_cases h2:i<r
   · simp [h2,show i<r+1 by omega]
   · simp [h2,show ¬ i<r+1 by omega]
theorem elimRows_skip {a r:Nat} (T:Wp) (h:r=a∨T r a=0) (i d:Nat):We a r T i d=We a (r+1) T i d:=by
 simp only [We]
 by_cases h1:i=r
 · subst h1
   rcases h with h | h
   · simp [h]
   · by_cases h3:i=a
     · simp [h3]
     · simp only [Nat.lt_irrefl,false_and,if_false,show i<i+1 by omega,true_and,ne_eq,h3,not_false_eq_true,if_true,h]
       grind
 · by_cases h2:i<r
   · simp [h2,show i<r+1 by omega]
   · simp [h2,show ¬ i<r+1 by omega]
theorem elimRows_all {a m i d:Nat} (T:Wp) (hi:i<m):We a m T i d=elimT a T i d:=by
 simp only [We,elimT]
 by_cases h:i=a
 · simp [h]
 · simp [h,hi]
theorem clear_fits [Tabs prog] {D0 D1:Nat} {x0 x1 x2:Int} {p f r:Rat} (h0:Rp D0 x0 p) (h1:Rp D0 x1 f) (h2:Rp D1 x2 r) (hD0:D0≤1073741824) (hD1:D1≤1073741824) (b0:x0.natAbs≤1073741824) (b1:x1.natAbs≤1073741824) (b2:x2.natAbs≤1073741824) (h:Zh) :
  Xj prog 125 [qV f,qV r] h (qV (f*r))∧Xj prog 124 [qV p,Zd (-1),qV (f*r)] h (qV (p-f*r)):=by
 have hDD:D0*D1≤1152921504606846976:=Nat.le_trans (Nat.mul_le_mul hD0 hD1) (by decide)
 have hxx:(x1*x2).natAbs≤1152921504606846976:=by rw [Int.natAbs_mul]; exact Nat.le_trans (Nat.mul_le_mul b1 b2) (by decide)
 have hm:=h1.mul h2
 have hx0:(x0*(D1:Int)).natAbs≤1152921504606846976:=by rw [Int.natAbs_mul,Int.natAbs_natCast]; exact Nat.le_trans (Nat.mul_le_mul b0 hD1) (by decide)
 have f1:Fits f:=⟨by have:=h1.le; omega,by have:=h1.den_le; omega⟩
 have f2:Fits r:=⟨by have:=h2.le; omega,by have:=h2.den_le; omega⟩
 have f3:Fits (f*r):=⟨by have:=hm.le; omega,by have:=hm.den_le; omega⟩
 refine ⟨times_call f1 f2 f3,?_⟩
 have:=plus_call (h:=h) (k:=-1) (h0.up D1 h2.pos) hm (by omega) (by omega)
 rwa [show p+((-1:Int):Rat)*(f*r)=p-f*r by rw [show (((-1:Int)):Rat) = -1 from rfl]; grind] at this
theorem tame_fits {m k:Nat} {T:Wp} (h:Tame m k T) {i c:Nat} (hi:i<m) (hc:c≤k):Fits (T i c):=by
 obtain ⟨D,h1,h2,h3⟩:=h
 obtain ⟨x,g1,g2⟩:=h3 i c hi hc
 exact ⟨by have:=g1.le; omega,by have:=g1.den_le; omega⟩
def Tch (B m:Nat) (bk:Nat→Nat) (b:Nat):Prop:=b=B∨∃ i,i<m∧b=bk i
set_option maxHeartbeats 4000000
theorem Mat.tail2 {h:Zh} {B m k C:Nat} {w:Nat→Value} {bk:Nat→Nat} {T:Wp} (M:Mat h B m k w bk T) {a:Nat} (ha:a≤m) (hm1:1≤m) (hC:m≤C) {K:Value→Prop}
  (hk : ∀ v,(∀ K:Value→Prop,lenK v K=K (Zd ((m-a:Nat):Int)))→(∀ i,i<m-a→∀ K:Value→Prop,Xb prog 125 v (Zd (i:Nat)) K=K (Ue v 1 i))→(∀ i,i<m-a→∀ K:Value→Prop,Xs prog h 43 (Ue v 1 i) K=K (w (a+i)))→K v) :
  Xv prog 125 (.slice (some ⟨B,0,some 0⟩) m C) (some (Zd (a:Nat))) none none K:=by
 rcases Nat.lt_or_ge a m with h1 | h1
 · refine M.tail h1 hC fun v hv=>?_
   have hlen:((List.range (m-a)).map fun i=>w (a+i)).length=m-a:=by simp
   refine hk v (fun K=>by rw [hv.len,hlen]) (fun i hi K=>hv.idx el_125 esz_43 (by rw [hlen]; exact hi) K) fun i hi K=>?_
   rw [hv.load shp_43 (by rw [hlen]; exact hi)]
   simp [List.getD,hi]
 · obtain rfl:a=m:=by omega
   have key:K void:=hk void (fun K=>by rw [Nat.sub_self]; rfl) (fun i hi=>by omega) (fun i hi=>by omega)
   simp only [Xv,el_125,esz_43,bnd]
   exact ⟨by omega,by omega,by omega,fun h0=>by simp at h0,fun _=>.inr ⟨by omega,.inr ⟨trivial,key⟩⟩⟩
theorem s74_callW [Tabs Tryd.prog] {args:List Value} {h:Zh} {Q:Value→Zh→Prop} (hsz:args.length≤176) (hk:AWS Tryd.prog 176 s74 (Zs Tryd.prog [.tmp 4,.tmp 5] Q) (Zp 0 args) h):ACall Tryd.prog 74 args h Q :=
 Yz Tryd.func74 rfl (enters_of Tryd.func74 (by kernel_rfl) rfl) rfl rfl (by decide) s74_strip s74_ok hsz hk
theorem solve_call [Tabs prog] {h:Zh} {B m k C:Nat} {w0:Nat→Value} {bk0:Nat→Nat} {T0:Wp} (M0:Mat h B m k w0 bk0 T0) (hC:m≤C) (hm1:1≤m) (hm:m≤100) (hk1:1≤k) (hk:k≤100)
  (htame : ∀ j S,j≤k→Xp m T0 j=some S→Tame m k S) :
  ACall prog 74 [.slice (some ⟨B,0,some 0⟩) m C,Zd (k:Nat)] h fun r h'=>Ext (Tch B m bk0) h h'∧∃ x ok,r = .tuple #[x,.bool ok] ∧
   (match Wu m k T0 with | none=>ok=false∧x = .slice none 0 0 | some xs=>ok=true∧OwnP 45 h' x (xs.map ofQ)∧∀ b,Yc x=some b→h.length≤b):=by
 refine s74_callW (by simp) ?_
 simp only [s74]
 refine Zg fun N1 hN1=>?_
 simp (maxSteps:=2000000) only [↓Za,↓Zb,↓Zc,vup,cond_false,aop,Zf,Zp,ev,sput,Ze,Nat.reduceBEq,Nat.reduceAdd]
 refine hN1 [(0,.slice (some ⟨B,0,some 0⟩) m C),(1,Zd (k:Nat)),(4,.slice none 0 0),(5,.bool false)] _ _ ?_ (by simp (maxSteps:=2000000) only [vup,cond_true,cond_false,Nat.reduceBEq])
 clear hN1
 try clear N1
 refine Zg fun N2 hN2=>?_
 simp (maxSteps:=2000000) only [↓Za,↓Zb,↓Zc,vup,cond_false,aop,Zf,ev,sput,Ze,Nat.reduceBEq]
 refine hN2 [(0,.slice (some ⟨B,0,some 0⟩) m C),(1,Zd (k:Nat)),(4,.slice none 0 0),(5,.bool false),(6,.int .i64 0)] _ _ ?_ (by simp (maxSteps:=2000000) only [vup,cond_true,cond_false,Nat.reduceBEq])
 clear hN2
 try clear N2
 refine Zt fun Z hZ=>?_
 refine Zg fun N3 hN3=>?_
 simp (maxSteps:=2000000) only [↓Za,↓Zb,↓Zc,vup,cond_true,cond_false,aop,Zf,ev,sput,Ze,Nat.reduceBEq]
 refine hN3 [(0,.slice (some ⟨B,0,some 0⟩) m C),(1,Zd (k:Nat)),(4,.slice none 0 0),(5,.bool false),(6,.int .i64 0),(18,Zd (k:Nat)),(19,.int .i64 0)] _ _ ?_ (by simp (maxSteps:=2000000) only [vup,cond_true,cond_false,Nat.reduceBEq])
 clear hN3
 try clear N3
 refine Zx ?_
 refine Zy fun Q hQ=>?_
 refine Xa (γ:=Nat×Zh×(Nat→Value)×(Nat→Nat)×Wp) (fun s=>s.1≤k∧s.1≤m∧(s.1<k→s.1<m)∧Xp m T0 s.1=some s.2.2.2.2∧Mat s.2.1 B m k s.2.2.1 s.2.2.2.1 s.2.2.2.2∧Ext (Tch B m bk0) h s.2.1∧∀ i,i<m→Tch B m bk0 (s.2.2.2.1 i))
  (fun s=>([(0,.slice (some ⟨B,0,some 0⟩) m C),(1,Zd (k:Nat)),(4,.slice none 0 0),(5,.bool false),(6,Zd (s.1:Nat)),(18,Zd (k:Nat)),(19,Zd (s.1:Nat))],s.2.1)) (fun s=>k-s.1) (0,h,w0,bk0,T0) ⟨Nat.zero_le _,Nat.zero_le _,fun _=>hm1,rfl,M0,Ext.refl _ _,fun i hi=>.inr ⟨i,hi,rfl⟩⟩ (by simp (maxSteps:=2000000) only [vup,cond_true,cond_false,Nat.reduceBEq,Int.natCast_zero]) rfl ?_
 rintro ⟨j,hp,w,bk,T⟩ ⟨hj,hjm,hjkm,hrun,M,hE,hS⟩
 simp only at hj hjm hjkm hrun M hE hS
 refine Zy fun Q2 hQ2=>?_
 simp only [l74_3]
 by_cases hin:(j:Int)<k
 · have hjk:j<k:=by omega
   have hjm' : j<m:=hjkm hjk
   have hBh:h.length≤hp.length:=hE.1
   refine Zg fun N4 hN4=>?_
   simp (maxSteps:=2000000) only [↓Za,↓Zb,↓Zc,vup,cond_true,cond_false,aop,Zf,ev,sput,Ze,Yf,Yi,Nat.reduceBEq,hin]
   refine hN4 [(0,.slice (some ⟨B,0,some 0⟩) m C),(1,Zd (k:Nat)),(4,.slice none 0 0),(5,.bool false),(6,Zd (j:Nat)),(18,Zd (k:Nat)),(19,Zd (j:Nat)),(20,.bool true)] _ _ ?_ (by simp (maxSteps:=2000000) only [vup,cond_true,cond_false,Nat.reduceBEq])
   clear hN4
   try clear N4
   refine Zg fun N5 hN5=>?_
   simp (maxSteps:=2000000) only [↓Zn,↓vdn,vup,cond_true,cond_false,Zf,ev,Nat.reduceBEq]
   refine hN5 [(0,.slice (some ⟨B,0,some 0⟩) m C),(1,Zd (k:Nat)),(4,.slice none 0 0),(5,.bool false),(6,Zd (j:Nat)),(18,Zd (k:Nat)),(19,Zd (j:Nat))] _ _ ?_ (by simp (maxSteps:=2000000) only [vup,cond_true,cond_false,Nat.reduceBEq])
   clear hN5
   try clear N5
   refine Zt fun Y hY=>?_
   refine Zx ?_
   -- the column's number
   obtain ⟨H1,hH1⟩ : ∃ H1,H1=hp++[Blk.cells [Zd (j:Nat)] 3 false]:=⟨_,rfl⟩
   have b7:H1[hp.length]? = some (.cells [Zd (j:Nat)] 3 false):=by rw [hH1]; exact Zr _ _
   have M1:Mat H1 B m k w bk T:=by rw [hH1]; exact M.ext (Ext.app _ _ _)
   have hE1:Ext (Tch B m bk0) h H1:=by rw [hH1]; exact hE.trans (Ext.app _ _ _)
   have hH1l:H1.length=hp.length+1:=by rw [hH1]; simp
   refine Zg fun N6 hN6=>?_
   simp (maxSteps:=2000000) only [↓Za,↓Zb,↓Zc,vup,cond_true,cond_false,aop,Zf,ev,sput,Ze,Nat.reduceBEq,tyf,Xg,Yg,store1 (v':=Zd (j:Nat)) (Zr hp (.cells [.int .i64 0] 3 false)) Yy rfl,set_new]
   rw [← hH1]
   refine hN6 [(0,.slice (some ⟨B,0,some 0⟩) m C),(1,Zd (k:Nat)),(4,.slice none 0 0),(5,.bool false),(6,Zd (j:Nat)),(7,.pointer (some ⟨hp.length,0,none⟩)),(18,Zd (k:Nat)),(19,Zd (j:Nat))] _ _ ?_ (by simp (maxSteps:=2000000) only [vup,cond_true,cond_false,Nat.reduceBEq])
   clear hN6
   try clear N6
   -- the first row with a number there
   have hfst:=findP_fst m j T hjm
   refine Zg fun N7 hN7=>?_
   simp (maxSteps:=2000000) only [↓Za,↓Zb,↓Zc,vup,List.map_cons,List.map_nil,cond_true,cond_false,aop,Zf,ev,sput,Ze,Nat.reduceBEq,Option.map_some,Option.map_none]
   refine M1.tail hjm' hC fun v hv=>?_
   have ix:=idxRow_call (F:=fun i=>decide (T (j+i) j≠0)) (g:=122) (cap:=#[.pointer (some ⟨hp.length,0,none⟩)]) hv (by simp; omega) (fun i hi=>by
    simp only [List.length_map,List.length_range] at hi
    have e:((List.range (m-j)).map fun i=>w (j+i)).getD i undef=w (j+i):=by simp [List.getD,hi]
    rw [e]
    exact nonzero_call M1 b7 (by omega) (by omega))
   rw [List.length_map,List.length_range] at ix
   simp (maxSteps:=2000000) only [vup,List.map_cons,List.map_nil,cond_true,cond_false,ev,Nat.reduceBEq,Yn,List.nil_append,List.append_nil,List.map_toArray]
   refine (ix).mono ?_
   rintro _ H1 ⟨rfl,rfl⟩
   refine hN7 [(0,.slice (some ⟨B,0,some 0⟩) m C),(1,Zd (k:Nat)),(4,.slice none 0 0),(5,.bool false),(6,Zd (j:Nat)),(7,.pointer (some ⟨hp.length,0,none⟩)),(8,Zd (fstI (m-j) fun i=>decide (T (j+i) j≠0))),(18,Zd (k:Nat)),(19,Zd (j:Nat))] _ _ ?_ (by simp (maxSteps:=2000000) only [vup,cond_true,cond_false,Nat.reduceBEq])
   clear hN7
   try clear N7
   cases hf:findP m j T with
   | none =>
     rw [hf] at hfst
     simp only at hfst
     refine Zm ?_
     simp (maxSteps:=2000000) only [↓Za,↓Zl,↓Zu,↓Zb,↓Zc,↓vdn,vup,cond_true,cond_false,aop,Zf,Zo,ev,sput,Ze,Yf,Yi,Nat.reduceBEq,Int.reduceLT,hfst]
     refine hQ2 _ _ _ (hQ _ _ _ ?_)
     simp (maxSteps:=2000000) only [vup,cond_true,cond_false,Zf,Zo,Nat.reduceBEq,Zs,Xn,tup]
     have hs:Wu m k T0=none:=by
      have : ∀ d,Xp m T0 (j+1+d)=none:=by
       intro d
       induction d with
       | zero =>
         show (Xp m T0 j).bind (Vg m j)=none
         rw [hrun]
         show Vg m j T=none
         rw [Vg,hf]; rfl
       | succ d ih=>rw [← Nat.add_assoc,Xp,ih]; rfl
      rw [Wu,show k=j+1+(k-(j+1)) by omega,this]; rfl
     rw [hs]
     exact ⟨hE1,_,_,rfl,rfl,rfl⟩
   | some p =>
     rw [hf] at hfst
     simp only at hfst
     obtain ⟨hap,hpm,hfst⟩:=hfst
     rw [hfst]
     have hpj : ¬ ((p-j:Nat):Int)<0:=by omega
     refine Zg fun N8 hN8=>?_
     simp (maxSteps:=2000000) only [↓Za,↓Zn,↓Zl,↓Zb,↓Zc,↓vdn,vup,cond_true,cond_false,aop,Zf,ev,sput,Ze,Yf,Yi,Nat.reduceBEq,hpj]
     refine hN8 [(0,.slice (some ⟨B,0,some 0⟩) m C),(1,Zd (k:Nat)),(4,.slice none 0 0),(5,.bool false),(6,Zd (j:Nat)),(7,.pointer (some ⟨hp.length,0,none⟩)),(8,Zd (p-j:Nat)),(18,Zd (k:Nat)),(19,Zd (j:Nat))] _ _ ?_ (by simp (maxSteps:=2000000) only [vup,cond_true,cond_false,Nat.reduceBEq])
     clear hN8
     try clear N8
     -- two rows change places
     obtain ⟨h1,H2,st1,st2,M2,hE2,hk2⟩:=M1.swap hjm' hpm
     have hb7:hp.length≠B:=by have:=M.blt; omega
     have b7:H2[hp.length]? = some (.cells [Zd (j:Nat)] 3 false):=by rw [hk2 _ hb7]; exact b7
     have hlen2:=Yb b7
     have hE2:Ext (Tch B m bk0) h H2:=hE1.trans (hE2.mono fun b hb=>.inl hb)
     have hS2 : ∀ i,i<m→Tch B m bk0 (swp j p bk i):=fun i hi=>by
      simp only [swp]; split
      · exact hS p hpm
      · split
        · exact hS j hjm'
        · exact hS i hi
     have ajp:addV .i64 (j:Int) ((p-j:Nat):Int)=(p:Int):=by rw [addN (by omega)]; omega
     refine Zg fun N9 hN9=>?_
     simp only [q74_8]
     refine Yx [] (by kernel_rfl) (by kernel_rfl) (by kernel_rfl) (by kernel_rfl) ?_
     simp (maxSteps:=2000000) only [↓Zz,↓vdn,vup,cond_true,cond_false,aop,Zf,ev,sput,Ze,Yf,Yi,Nat.reduceBEq,Nat.reduceAdd,ajp,Mat.idx j hjm',Mat.idx p hpm,M1.loadRow hpm,M1.loadRow hjm',st1,st2]
     refine hN9 [(0,.slice (some ⟨B,0,some 0⟩) m C),(1,Zd (k:Nat)),(4,.slice none 0 0),(5,.bool false),(6,Zd (j:Nat)),(7,.pointer (some ⟨hp.length,0,none⟩)),(18,Zd (k:Nat)),(19,Zd (j:Nat))] _ _ ?_ (by simp (maxSteps:=2000000) only [vup,cond_true,cond_false,Nat.reduceBEq])
     clear hN9
     try clear N9
     have hTp:T p j≠0:=(findP_some hf).2.2.1
     have hnext:Xp m T0 (j+1)=some (elimT j (normT j (Vz j p T))):=by
      show (Xp m T0 j).bind (Vg m j)=_
      rw [hrun]
      show Vg m j T=_
      rw [Vg,hf]; rfl
     have tame0:=htame j T hj hrun
     have tame1:=htame (j+1) _ hjk hnext
     have hU0:Vz j p T j j≠0:=by simp only [Vz,if_true]; exact hTp
     have tameU:Tame m k (Vz j p T):=by
      obtain ⟨D,g1,g2,g3⟩:=tame0
      refine ⟨D,g1,g2,fun i c hi hc=>?_⟩
      simp only [Vz]
      split
      · exact g3 p c hpm hc
      · split
        · exact g3 j c hjm' hc
        · exact g3 i c hi hc
     clear hk2 st1 st2 h1 M1 M hE hE1 hS ix
     obtain ⟨w',hw'⟩ : ∃ w',w' = swp j p w:=⟨_,rfl⟩
     obtain ⟨bk',hbk'⟩ : ∃ w',w' = swp j p bk:=⟨_,rfl⟩
     obtain ⟨U,hU⟩ : ∃ U,U=Vz j p T:=⟨_,rfl⟩
     rw [← hw',← hbk',← hU] at M2
     rw [← hbk'] at hS2
     rw [← hU] at hnext tame1 hU0 tameU
     clear hw' hbk' hU
     -- what it is divided by
     obtain ⟨H3,hH3⟩ : ∃ H3,H3=H2++[fC (U j j).num (U j j).den]:=⟨_,rfl⟩
     have b9:H3[H2.length]? = some (fC (U j j).num (U j j).den):=by rw [hH3]; exact Zr _ _
     have M3:Mat H3 B m k w' bk' U:=by rw [hH3]; exact M2.ext (Ext.app _ _ _)
     have hE3:Ext (Tch B m bk0) h H3:=by rw [hH3]; exact hE2.trans (Ext.app _ _ _)
     have b7:H3[hp.length]? = some (.cells [Zd (j:Nat)] 3 false):=by rw [hH3]; exact Yp b7 _
     refine Zg fun N10 hN10=>?_
     simp only [q74_9]
     refine aw_drawE (fun _=>True) [] 7 9 [3,4,6] (by kernel_rfl) (by kernel_rfl) (by kernel_rfl) (by kernel_rfl) (by kernel_rfl) (by rfl) trivial ?_
     have b7' : H2[hp.length]? = some (.cells [Zd (j:Nat)] 3 false):=by
      rw [hH3,List.getElem?_append_left hlen2] at b7; exact b7
     simp (maxSteps:=2000000) only [↓Wa,↓vdn,vup,cond_true,cond_false,aop,Zf,ev,sput,Ze,Nat.reduceBEq,Nat.reduceAdd,tyf,Mat.idx j hjm',M2.loadRow hjm',Xl b7' Yy,M2.idxR hjm' (show j≤k by omega),M2.loadE hjm' (show j≤k by omega),Xg,Yg]
     simp only [qV,frV,storeF (Zr H2 z0) rfl,set_new]
     rw [← hH3]
     refine hN10 [(0,.slice (some ⟨B,0,some 0⟩) m C),(1,Zd (k:Nat)),(4,.slice none 0 0),(5,.bool false),(6,Zd (j:Nat)),(7,.pointer (some ⟨hp.length,0,none⟩)),(9,.pointer (some ⟨H2.length,0,none⟩)),(18,Zd (k:Nat)),(19,Zd (j:Nat))] _ _ ?_ (by simp (maxSteps:=2000000) only [vup,cond_true,cond_false,Nat.reduceBEq])
     clear hN10
     try clear N10
     obtain ⟨D1,d1,d2,d3⟩:=tame1
     have hT1 : ∀ i c,elimT j (normT j U) i c=if i=j then U j c / U j j else U i c-U i j*(U j c / U j j):=fun i c=>by
      simp only [elimT,normT]
      by_cases h:i=j
      · simp [h]
      · simp [h]
     have tame1:Tame m k (elimT j (normT j U)):=⟨D1,d1,d2,d3⟩
     have hlen3:H2.length<H3.length:=by rw [hH3]; simp
     -- the row is divided
     refine Zt fun X hX=>?_
     refine Zg fun N11 hN11=>?_
     simp (maxSteps:=2000000) only [↓Za,↓Zb,↓Zc,vup,List.map_cons,List.map_nil,cond_true,cond_false,aop,Zf,ev,sput,Ze,Zi,Nat.reduceBEq,tyf,Mat.idx j hjm',M3.loadRow hjm',M3.lenR hjm']
     refine hN11 [(0,.slice (some ⟨B,0,some 0⟩) m C),(1,Zd (k:Nat)),(4,.slice none 0 0),(5,.bool false),(6,Zd (j:Nat)),(7,.pointer (some ⟨hp.length,0,none⟩)),(9,.pointer (some ⟨H2.length,0,none⟩)),(18,Zd (k:Nat)),(19,Zd (j:Nat)),(58,Zd ((k+1:Nat):Int)),(59,.int .i64 0)] _ _ ?_ (by simp (maxSteps:=2000000) only [vup,cond_true,cond_false,Nat.reduceBEq])
     clear hN11
     try clear N11
     refine Zx ?_
     refine Zy fun Qa hQa=>?_
     refine Xa (γ:=Nat×Zh) (fun s=>s.1≤k+1∧Mat s.2 B m k w' bk' (normTo j s.1 U)∧Ext (Tch B m bk0) h s.2∧s.2[hp.length]? = some (.cells [Zd (j:Nat)] 3 false)∧s.2[H2.length]? = some (fC (U j j).num (U j j).den))
      (fun s=>([(0,.slice (some ⟨B,0,some 0⟩) m C),(1,Zd (k:Nat)),(4,.slice none 0 0),(5,.bool false),(6,Zd (j:Nat)),(7,.pointer (some ⟨hp.length,0,none⟩)),(9,.pointer (some ⟨H2.length,0,none⟩)),(18,Zd (k:Nat)),(19,Zd (j:Nat)),(58,Zd ((k+1:Nat):Int)),(59,Zd (s.1:Nat))],s.2)) (fun s=>k+1-s.1) (0,H3) ⟨Nat.zero_le _,by simp only; rw [normTo_zero]; exact M3,hE3,b7,b9⟩ (by simp (maxSteps:=2000000) only [vup,cond_true,cond_false,Nat.reduceBEq,Int.natCast_zero]) rfl ?_
     rintro ⟨c,G⟩ ⟨hc,MG,hEG,g7,g9⟩
     simp only at hc MG hEG g7 g9
     refine Zy fun Qb hQb=>?_
     simp only [l74_0]
     by_cases hcin:(c:Int)<((k+1:Nat):Int)
     · have hc' : c≤k:=by omega
       have ov:Xj prog 123 [qV (U j c),qV (U j j)] G (qV (U j c / U j j)):=by
        refine over_call (tame_fits tameU hjm' hc') (tame_fits tameU hjm' (by omega)) hU0 ?_
        have:=tame_fits tame1 hjm' hc'
        rw [hT1,if_pos rfl] at this
        exact this
       obtain ⟨G',st,MG',hEG',hk'⟩:=MG.storeE hjm' hc' (U j c / U j j)
       rw [normTo_succ] at MG'
       refine Zg fun N12 hN12=>?_
       simp (maxSteps:=2000000) only [↓Za,↓Zb,↓Zc,vup,cond_true,cond_false,aop,Zf,ev,sput,Ze,Yf,Yi,Nat.reduceBEq,hcin]
       refine hN12 [(0,.slice (some ⟨B,0,some 0⟩) m C),(1,Zd (k:Nat)),(4,.slice none 0 0),(5,.bool false),(6,Zd (j:Nat)),(7,.pointer (some ⟨hp.length,0,none⟩)),(9,.pointer (some ⟨H2.length,0,none⟩)),(18,Zd (k:Nat)),(19,Zd (j:Nat)),(58,Zd ((k+1:Nat):Int)),(59,Zd (c:Nat)),(60,.bool true)] _ _ ?_ (by simp (maxSteps:=2000000) only [vup,cond_true,cond_false,Nat.reduceBEq])
       clear hN12
       try clear N12
       refine Zg fun N13 hN13=>?_
       simp (maxSteps:=2000000) only [↓Zn,↓vdn,vup,cond_true,cond_false,Zf,ev,Nat.reduceBEq]
       refine hN13 [(0,.slice (some ⟨B,0,some 0⟩) m C),(1,Zd (k:Nat)),(4,.slice none 0 0),(5,.bool false),(6,Zd (j:Nat)),(7,.pointer (some ⟨hp.length,0,none⟩)),(9,.pointer (some ⟨H2.length,0,none⟩)),(18,Zd (k:Nat)),(19,Zd (j:Nat)),(58,Zd ((k+1:Nat):Int)),(59,Zd (c:Nat))] _ _ ?_ (by simp (maxSteps:=2000000) only [vup,cond_true,cond_false,Nat.reduceBEq])
       clear hN13
       try clear N13
       refine Zt fun W hW=>?_
       refine Zx ?_
       refine Zg fun N14 hN14=>?_
       simp (maxSteps:=2000000) only [↓Za,↓Zb,↓Zc,vup,cond_true,cond_false,aop,Zf,ev,sput,Ze,Nat.reduceBEq]
       refine hN14 [(0,.slice (some ⟨B,0,some 0⟩) m C),(1,Zd (k:Nat)),(4,.slice none 0 0),(5,.bool false),(6,Zd (j:Nat)),(7,.pointer (some ⟨hp.length,0,none⟩)),(9,.pointer (some ⟨H2.length,0,none⟩)),(10,Zd (c:Nat)),(18,Zd (k:Nat)),(19,Zd (j:Nat)),(58,Zd ((k+1:Nat):Int)),(59,Zd (c:Nat))] _ _ ?_ (by simp (maxSteps:=2000000) only [vup,cond_true,cond_false,Nat.reduceBEq])
       clear hN14
       try clear N14
       refine Zm ?_
       simp only [q74_13]
       refine Yx [(13,1)] (by kernel_rfl) (by kernel_rfl) (by kernel_rfl) (by kernel_rfl) ?_
       simp (maxSteps:=2000000) only [↓Zz,↓vdn,vup,List.map_cons,List.map_nil,cond_true,cond_false,aop,Zf,Zo,ev,sput,Ze,Nat.reduceBEq,Nat.reduceAdd,Mat.idx j hjm',MG.loadRow hjm',MG.idxR hjm' hc',MG.loadE hjm' hc',normTo_at,loadF g9,Yn,List.nil_append,List.append_nil]
       refine ⟨_,_,ov,rfl,?_⟩
       simp (maxSteps:=2000000) only [st]
       refine hW [(0,.slice (some ⟨B,0,some 0⟩) m C),(1,Zd (k:Nat)),(4,.slice none 0 0),(5,.bool false),(6,Zd (j:Nat)),(7,.pointer (some ⟨hp.length,0,none⟩)),(9,.pointer (some ⟨H2.length,0,none⟩)),(18,Zd (k:Nat)),(19,Zd (j:Nat)),(58,Zd ((k+1:Nat):Int)),(59,Zd (c:Nat))] _ _ ?_ (by simp (maxSteps:=2000000) only [vup,cond_true,cond_false,Nat.reduceBEq])
       clear hW
       try clear W
       refine Zm ?_
       simp (maxSteps:=2000000) only [↓Za,↓Zb,↓Zc,vup,cond_true,cond_false,aop,ev,sput,Ze,Yf,Yi,Nat.reduceBEq,add1 (show c<9223372036854775807 by omega)]
       have hbj:bk' j<G.length:=MG.lt hjm'
       have n7:hp.length≠bk' j:=fun he=>by
        obtain ⟨cc,xs,e1,e2,e3⟩:=MG.row j hjm'
        rw [← he,g7] at e3; cases e3
       have n9:H2.length≠bk' j:=fun he=>by
        obtain ⟨cc,xs,e1,e2,e3⟩:=MG.row j hjm'
        rw [← he,g9] at e3; cases e3
       refine hQb _ _ _ ⟨(c+1,G'),⟨by simp only; omega,MG',hEG.trans (hEG'.mono fun b hb=>by rw [hb]; exact hS2 j hjm'),by simp only; rw [hk' _ n7]; exact g7,by simp only; rw [hk' _ n9]; exact g9⟩,by simp only; omega,by simp (maxSteps:=2000000) only [vup,cond_true,cond_false,Nat.reduceBEq],rfl⟩
     obtain rfl:c=k+1:=by omega
     refine Zg fun N15 hN15=>?_
     simp (maxSteps:=2000000) only [↓Za,↓Zb,↓Zc,vup,cond_true,cond_false,aop,Zf,ev,sput,Ze,Yf,Yi,Nat.reduceBEq,hcin]
     refine hN15 [(0,.slice (some ⟨B,0,some 0⟩) m C),(1,Zd (k:Nat)),(4,.slice none 0 0),(5,.bool false),(6,Zd (j:Nat)),(7,.pointer (some ⟨hp.length,0,none⟩)),(9,.pointer (some ⟨H2.length,0,none⟩)),(18,Zd (k:Nat)),(19,Zd (j:Nat)),(58,Zd ((k+1:Nat):Int)),(59,Zd ((k+1:Nat):Int)),(60,.bool false)] _ _ ?_ (by simp (maxSteps:=2000000) only [vup,cond_true,cond_false,Nat.reduceBEq])
     clear hN15
     try clear N15
     refine Zg fun N16 hN16=>?_
     simp (maxSteps:=2000000) only [↓Yo,↓vdn,vup,cond_true,cond_false,Zf,ev,Nat.reduceBEq]
     refine hQb _ _ _ (hQa _ _ _ ?_)
     simp (maxSteps:=2000000) only [Zf,Zo,if_true]
     refine hX [(0,.slice (some ⟨B,0,some 0⟩) m C),(1,Zd (k:Nat)),(4,.slice none 0 0),(5,.bool false),(6,Zd (j:Nat)),(7,.pointer (some ⟨hp.length,0,none⟩)),(18,Zd (k:Nat)),(19,Zd (j:Nat)),(60,.bool false)] _ _ ?_ (by simp (maxSteps:=2000000) only [vup,cond_true,cond_false,Nat.reduceBEq])
     clear hX
     try clear X
     have MV:Mat G B m k w' bk' (normT j U):=MG.congr fun i d hi hd=>normTo_all U hd
     clear MG g9 b9 b7 M3 M2 hE2 b7' hlen3
     obtain ⟨V,hV⟩ : ∃ V,V=normT j U:=⟨_,rfl⟩
     rw [← hV] at MV hnext tame1 d3
     have hVj : ∀ c,elimT j V j c=V j c:=fun c=>by simp [elimT]
     have hVi : ∀ i,i≠j→V i=U i:=fun i hi=>by rw [hV]; funext d; simp [normT,hi]
     -- the other rows are cleared
     refine Zt fun X hX=>?_
     refine Zg fun N17 hN17=>?_
     simp (maxSteps:=2000000) only [↓Za,↓Zb,↓Zc,vup,List.map_cons,List.map_nil,cond_true,cond_false,aop,Zf,ev,sput,Ze,Zi,Nat.reduceBEq,tyf,lenK]
     refine hN17 [(0,.slice (some ⟨B,0,some 0⟩) m C),(1,Zd (k:Nat)),(4,.slice none 0 0),(5,.bool false),(6,Zd (j:Nat)),(7,.pointer (some ⟨hp.length,0,none⟩)),(18,Zd (k:Nat)),(19,Zd (j:Nat)),(60,.bool false),(78,.slice (some ⟨B,0,some 0⟩) m C),(79,Zd (m:Nat)),(80,.int .i64 0)] _ _ ?_ (by simp (maxSteps:=2000000) only [vup,cond_true,cond_false,Nat.reduceBEq])
     clear hN17
     try clear N17
     refine Zx ?_
     refine Zy fun Qa hQa=>?_
     refine Xa (γ:=Nat×Zh) (fun s=>s.1≤m∧Mat s.2 B m k w' bk' (We j s.1 V)∧Ext (Tch B m bk0) h s.2∧s.2[hp.length]? = some (.cells [Zd (j:Nat)] 3 false))
      (fun s=>([(0,.slice (some ⟨B,0,some 0⟩) m C),(1,Zd (k:Nat)),(4,.slice none 0 0),(5,.bool false),(6,Zd (j:Nat)),(7,.pointer (some ⟨hp.length,0,none⟩)),(18,Zd (k:Nat)),(19,Zd (j:Nat)),(60,.bool false),(78,.slice (some ⟨B,0,some 0⟩) m C),(79,Zd (m:Nat)),(80,Zd (s.1:Nat))],s.2)) (fun s=>m-s.1) (0,G) ⟨Nat.zero_le _,by simp only; rw [elimRows_zero]; exact MV,hEG,g7⟩ (by simp (maxSteps:=2000000) only [vup,cond_true,cond_false,Nat.reduceBEq,Int.natCast_zero]) rfl ?_
     rintro ⟨r,G1⟩ ⟨hr,MR,hER,r7⟩
     simp only at hr MR hER r7
     refine Zy fun Qb hQb=>?_
     simp only [l74_2]
     by_cases hrin:(r:Int)<(m:Int)
     · have hr' : r<m:=by omega
       obtain ⟨er1,er2⟩:=elimRows_row j r V
       refine Zg fun N18 hN18=>?_
       simp (maxSteps:=2000000) only [↓Za,↓Zb,↓Zc,vup,cond_true,cond_false,aop,Zf,ev,sput,Ze,Yf,Yi,Nat.reduceBEq,hrin]
       refine hN18 [(0,.slice (some ⟨B,0,some 0⟩) m C),(1,Zd (k:Nat)),(4,.slice none 0 0),(5,.bool false),(6,Zd (j:Nat)),(7,.pointer (some ⟨hp.length,0,none⟩)),(18,Zd (k:Nat)),(19,Zd (j:Nat)),(60,.bool false),(78,.slice (some ⟨B,0,some 0⟩) m C),(79,Zd (m:Nat)),(80,Zd (r:Nat)),(81,.bool true)] _ _ ?_ (by simp (maxSteps:=2000000) only [vup,cond_true,cond_false,Nat.reduceBEq])
       clear hN18
       try clear N18
       refine Zg fun N19 hN19=>?_
       simp (maxSteps:=2000000) only [↓Zn,↓vdn,vup,cond_true,cond_false,Zf,ev,Nat.reduceBEq]
       refine hN19 [(0,.slice (some ⟨B,0,some 0⟩) m C),(1,Zd (k:Nat)),(4,.slice none 0 0),(5,.bool false),(6,Zd (j:Nat)),(7,.pointer (some ⟨hp.length,0,none⟩)),(18,Zd (k:Nat)),(19,Zd (j:Nat)),(60,.bool false),(78,.slice (some ⟨B,0,some 0⟩) m C),(79,Zd (m:Nat)),(80,Zd (r:Nat))] _ _ ?_ (by simp (maxSteps:=2000000) only [vup,cond_true,cond_false,Nat.reduceBEq])
       clear hN19
       try clear N19
       refine Zt fun W hW=>?_
       refine Zx ?_
       refine Zg fun N20 hN20=>?_
       simp (maxSteps:=2000000) only [↓Za,↓Zb,↓Zc,vup,cond_true,cond_false,aop,Zf,ev,sput,Ze,Nat.reduceBEq]
       refine hN20 [(0,.slice (some ⟨B,0,some 0⟩) m C),(1,Zd (k:Nat)),(4,.slice none 0 0),(5,.bool false),(6,Zd (j:Nat)),(7,.pointer (some ⟨hp.length,0,none⟩)),(11,Zd (r:Nat)),(18,Zd (k:Nat)),(19,Zd (j:Nat)),(60,.bool false),(78,.slice (some ⟨B,0,some 0⟩) m C),(79,Zd (m:Nat)),(80,Zd (r:Nat))] _ _ ?_ (by simp (maxSteps:=2000000) only [vup,cond_true,cond_false,Nat.reduceBEq])
       clear hN20
       try clear N20
       refine Zg fun N21 hN21=>?_
       simp only [q74_18]
       refine aw_drawE (fun _=>True) [] 7 12 [3,4,6] (by kernel_rfl) (by kernel_rfl) (by kernel_rfl) (by kernel_rfl) (by kernel_rfl) (by rfl) trivial ?_
       simp (maxSteps:=2000000) only [↓Wa,↓vdn,vup,cond_true,cond_false,aop,Zf,ev,sput,Ze,Nat.reduceBEq,Nat.reduceAdd,tyf,Mat.idx r hr',MR.loadRow hr',Xl r7 Yy,MR.idxR hr' (show j≤k by omega),MR.loadE hr' (show j≤k by omega),er1,Xg,Yg]
       simp only [qV,frV,storeF (Zr G1 z0) rfl,set_new]
       obtain ⟨G2,hG2⟩ : ∃ G2,G2=G1++[fC (V r j).num (V r j).den]:=⟨_,rfl⟩
       have b12:G2[G1.length]? = some (fC (V r j).num (V r j).den):=by rw [hG2]; exact Zr _ _
       have M2:Mat G2 B m k w' bk' (We j r V):=by rw [hG2]; exact MR.ext (Ext.app _ _ _)
       have hE2:Ext (Tch B m bk0) h G2:=by rw [hG2]; exact hER.trans (Ext.app _ _ _)
       have b7:G2[hp.length]? = some (.cells [Zd (j:Nat)] 3 false):=by rw [hG2]; exact Yp r7 _
       rw [← hG2]
       refine hN21 [(0,.slice (some ⟨B,0,some 0⟩) m C),(1,Zd (k:Nat)),(4,.slice none 0 0),(5,.bool false),(6,Zd (j:Nat)),(7,.pointer (some ⟨hp.length,0,none⟩)),(11,Zd (r:Nat)),(12,.pointer (some ⟨G1.length,0,none⟩)),(18,Zd (k:Nat)),(19,Zd (j:Nat)),(60,.bool false),(78,.slice (some ⟨B,0,some 0⟩) m C),(79,Zd (m:Nat)),(80,Zd (r:Nat))] _ _ ?_ (by simp (maxSteps:=2000000) only [vup,cond_true,cond_false,Nat.reduceBEq])
       clear hN21
       try clear N21
       have fin : ∀ e H,Mat H B m k w' bk' (We j (r+1) V)→Ext (Tch B m bk0) h H→H[hp.length]? = some (.cells [Zd (j:Nat)] 3 false)→ELe e [(0,.slice (some ⟨B,0,some 0⟩) m C),(1,Zd (k:Nat)),(4,.slice none 0 0),(5,.bool false),(6,Zd (j:Nat)),(7,.pointer (some ⟨hp.length,0,none⟩)),(18,Zd (k:Nat)),(19,Zd (j:Nat)),(60,.bool false),(78,.slice (some ⟨B,0,some 0⟩) m C),(79,Zd (m:Nat)),(80,Zd (r:Nat))]→W e H:=by
        intro e H f1 f2 f3 he
        refine hW _ _ _ ?_ he
        refine Zm ?_
        simp (maxSteps:=2000000) only [↓Za,↓Zb,↓Zc,vup,cond_true,cond_false,aop,ev,sput,Ze,Yf,Yi,Nat.reduceBEq,add1 (show r<9223372036854775807 by omega)]
        exact hQb _ _ _ ⟨(r+1,H),⟨hr',f1,f2,f3⟩,by simp only; omega,by simp (maxSteps:=2000000) only [vup,cond_true,cond_false,Nat.reduceBEq],rfl⟩
       by_cases hrj:r=j
       · have hne:(((r:Nat):Int) != ((j:Nat):Int))=false:=by simp [hrj]
         refine Zg fun N22 hN22=>?_
         simp (maxSteps:=2000000) only [↓Za,↓Zb,↓Zc,↓vdn,vup,cond_true,cond_false,aop,Zf,ev,sput,Ze,Yf,Yi,Nat.reduceBEq,hne]
         refine hN22 [(0,.slice (some ⟨B,0,some 0⟩) m C),(1,Zd (k:Nat)),(4,.slice none 0 0),(5,.bool false),(6,Zd (j:Nat)),(7,.pointer (some ⟨hp.length,0,none⟩)),(11,Zd (r:Nat)),(12,.pointer (some ⟨G1.length,0,none⟩)),(18,Zd (k:Nat)),(19,Zd (j:Nat)),(60,.bool false),(78,.slice (some ⟨B,0,some 0⟩) m C),(79,Zd (m:Nat)),(80,Zd (r:Nat)),(97,.bool false)] _ _ ?_ (by simp (maxSteps:=2000000) only [vup,cond_true,cond_false,Nat.reduceBEq])
         clear hN22
         try clear N22
         refine Zm ?_
         simp (maxSteps:=2000000) only [↓Zn,↓vdn,vup,cond_true,cond_false,Zf,Zo,ev,Nat.reduceBEq]
         exact fin _ _ (M2.congr fun i d _ _=>elimRows_skip V (.inl hrj) i d) hE2 b7 (by simp (maxSteps:=2000000) only [vup,cond_true,cond_false,Nat.reduceBEq])
       have hne:(((r:Nat):Int) != ((j:Nat):Int))=true:=by
        have : ¬ ((r:Nat):Int)=((j:Nat):Int):=by omega
        simpa [bne] using this
       by_cases hf0:V r j=0
       · have hnz:((V r j).num != 0)=false:=by simp [hf0]
         refine Zg fun N23 hN23=>?_
         simp (maxSteps:=2000000) only [↓Za,↓Zb,↓Zc,↓vdn,vup,cond_true,cond_false,aop,Zf,ev,sput,Ze,Yf,Yi,Nat.reduceBEq,tyf,hne,fA0,loadF0 b12,hnz]
         refine hN23 [(0,.slice (some ⟨B,0,some 0⟩) m C),(1,Zd (k:Nat)),(4,.slice none 0 0),(5,.bool false),(6,Zd (j:Nat)),(7,.pointer (some ⟨hp.length,0,none⟩)),(11,Zd (r:Nat)),(12,.pointer (some ⟨G1.length,0,none⟩)),(18,Zd (k:Nat)),(19,Zd (j:Nat)),(60,.bool false),(78,.slice (some ⟨B,0,some 0⟩) m C),(79,Zd (m:Nat)),(80,Zd (r:Nat)),(97,.bool false)] _ _ ?_ (by simp (maxSteps:=2000000) only [vup,cond_true,cond_false,Nat.reduceBEq])
         clear hN23
         try clear N23
         refine Zm ?_
         simp (maxSteps:=2000000) only [↓Zn,↓vdn,vup,cond_true,cond_false,Zf,Zo,ev,Nat.reduceBEq]
         exact fin _ _ (M2.congr fun i d _ _=>elimRows_skip V (.inr hf0) i d) hE2 b7 (by simp (maxSteps:=2000000) only [vup,cond_true,cond_false,Nat.reduceBEq])
       have hnz:((V r j).num != 0)=true:=by
        have : ¬ (V r j).num=0:=fun hc=>hf0 (Rat.num_eq_zero.1 hc)
        simpa [bne] using this
       refine Zg fun N24 hN24=>?_
       simp (maxSteps:=2000000) only [↓Za,↓Zb,↓Zc,↓vdn,vup,cond_true,cond_false,aop,Zf,ev,sput,Ze,Yf,Yi,Nat.reduceBEq,tyf,hne,fA0,loadF0 b12,hnz]
       refine hN24 [(0,.slice (some ⟨B,0,some 0⟩) m C),(1,Zd (k:Nat)),(4,.slice none 0 0),(5,.bool false),(6,Zd (j:Nat)),(7,.pointer (some ⟨hp.length,0,none⟩)),(11,Zd (r:Nat)),(12,.pointer (some ⟨G1.length,0,none⟩)),(18,Zd (k:Nat)),(19,Zd (j:Nat)),(60,.bool false),(78,.slice (some ⟨B,0,some 0⟩) m C),(79,Zd (m:Nat)),(80,Zd (r:Nat)),(97,.bool true)] _ _ ?_ (by simp (maxSteps:=2000000) only [vup,cond_true,cond_false,Nat.reduceBEq])
       clear hN24
       try clear N24
       refine Xu rfl ?_
       obtain ⟨D0,z1,z2,z3⟩:=tameU
       obtain ⟨x1,y1,y2⟩:=z3 r j hr' (by omega)
       rw [← hVi r hrj] at y1
       refine Zg fun N25 hN25=>?_
       simp (maxSteps:=2000000) only [↓Za,↓Zb,↓Zc,vup,List.map_cons,List.map_nil,cond_true,cond_false,aop,Zf,ev,sput,Ze,Zi,Nat.reduceBEq,tyf,Mat.idx r hr',M2.loadRow hr',M2.lenR hr']
       refine hN25 [(0,.slice (some ⟨B,0,some 0⟩) m C),(1,Zd (k:Nat)),(4,.slice none 0 0),(5,.bool false),(6,Zd (j:Nat)),(7,.pointer (some ⟨hp.length,0,none⟩)),(11,Zd (r:Nat)),(12,.pointer (some ⟨G1.length,0,none⟩)),(18,Zd (k:Nat)),(19,Zd (j:Nat)),(60,.bool false),(78,.slice (some ⟨B,0,some 0⟩) m C),(79,Zd (m:Nat)),(80,Zd (r:Nat)),(102,Zd ((k+1:Nat):Int)),(103,.int .i64 0)] _ _ ?_ (by simp (maxSteps:=2000000) only [vup,cond_true,cond_false,Nat.reduceBEq])
       clear hN25
       try clear N25
       refine Zx ?_
       refine Zy fun Qc hQc=>?_
       refine Xa (γ:=Nat×Zh) (fun s=>s.1≤k+1∧Mat s.2 B m k w' bk' (elimTo j r s.1 (We j r V))∧Ext (Tch B m bk0) h s.2∧s.2[hp.length]? = some (.cells [Zd (j:Nat)] 3 false)∧s.2[G1.length]? = some (fC (V r j).num (V r j).den))
        (fun s=>([(0,.slice (some ⟨B,0,some 0⟩) m C),(1,Zd (k:Nat)),(4,.slice none 0 0),(5,.bool false),(6,Zd (j:Nat)),(7,.pointer (some ⟨hp.length,0,none⟩)),(11,Zd (r:Nat)),(12,.pointer (some ⟨G1.length,0,none⟩)),(18,Zd (k:Nat)),(19,Zd (j:Nat)),(60,.bool false),(78,.slice (some ⟨B,0,some 0⟩) m C),(79,Zd (m:Nat)),(80,Zd (r:Nat)),(102,Zd ((k+1:Nat):Int)),(103,Zd (s.1:Nat))],s.2)) (fun s=>k+1-s.1) (0,G2) ⟨Nat.zero_le _,by simp only; rw [elimTo_zero]; exact M2,hE2,b7,b12⟩ (by simp (maxSteps:=2000000) only [vup,cond_true,cond_false,Nat.reduceBEq,Int.natCast_zero]) rfl ?_
       rintro ⟨c,G⟩ ⟨hc,MG,hEG,g7,g12⟩
       simp only at hc MG hEG g7 g12
       refine Zy fun Qd hQd=>?_
       simp only [l74_1]
       by_cases hcin:(c:Int)<((k+1:Nat):Int)
       · have hc' : c≤k:=by omega
         obtain ⟨x0,y3,y4⟩:=z3 r c hr' hc'
         obtain ⟨x2,y5,y6⟩:=d3 j c hjm' hc'
         rw [hVj] at y5
         rw [← hVi r hrj] at y3
         obtain ⟨cl1,cl2⟩:=clear_fits y3 y1 y5 z2 d2 y4 y2 y6 G
         have e1:elimTo j r c (We j r V) r c=V r c:=by rw [elimTo_at,er1]
         have e2:elimTo j r c (We j r V) j c=V j c:=by rw [elimTo_other _ (Ne.symm hrj),er2]
         obtain ⟨G',st,MG',hEG',hk'⟩:=MG.storeE hr' hc' (V r c-V r j*V j c)
         have e3:=elimTo_succ j r c (We j r V)
         rw [er1,er2] at e3
         rw [e3] at MG'
         refine Zg fun N26 hN26=>?_
         simp (maxSteps:=2000000) only [↓Za,↓Zb,↓Zc,vup,cond_true,cond_false,aop,Zf,ev,sput,Ze,Yf,Yi,Nat.reduceBEq,hcin]
         refine hN26 [(0,.slice (some ⟨B,0,some 0⟩) m C),(1,Zd (k:Nat)),(4,.slice none 0 0),(5,.bool false),(6,Zd (j:Nat)),(7,.pointer (some ⟨hp.length,0,none⟩)),(11,Zd (r:Nat)),(12,.pointer (some ⟨G1.length,0,none⟩)),(18,Zd (k:Nat)),(19,Zd (j:Nat)),(60,.bool false),(78,.slice (some ⟨B,0,some 0⟩) m C),(79,Zd (m:Nat)),(80,Zd (r:Nat)),(102,Zd ((k+1:Nat):Int)),(103,Zd (c:Nat)),(104,.bool true)] _ _ ?_ (by simp (maxSteps:=2000000) only [vup,cond_true,cond_false,Nat.reduceBEq])
         clear hN26
         try clear N26
         refine Zg fun N27 hN27=>?_
         simp (maxSteps:=2000000) only [↓Zn,↓vdn,vup,cond_true,cond_false,Zf,ev,Nat.reduceBEq]
         refine hN27 [(0,.slice (some ⟨B,0,some 0⟩) m C),(1,Zd (k:Nat)),(4,.slice none 0 0),(5,.bool false),(6,Zd (j:Nat)),(7,.pointer (some ⟨hp.length,0,none⟩)),(11,Zd (r:Nat)),(12,.pointer (some ⟨G1.length,0,none⟩)),(18,Zd (k:Nat)),(19,Zd (j:Nat)),(60,.bool false),(78,.slice (some ⟨B,0,some 0⟩) m C),(79,Zd (m:Nat)),(80,Zd (r:Nat)),(102,Zd ((k+1:Nat):Int)),(103,Zd (c:Nat))] _ _ ?_ (by simp (maxSteps:=2000000) only [vup,cond_true,cond_false,Nat.reduceBEq])
         clear hN27
         try clear N27
         refine Zt fun U hU=>?_
         refine Zx ?_
         refine Zg fun N28 hN28=>?_
         simp (maxSteps:=2000000) only [↓Za,↓Zb,↓Zc,vup,cond_true,cond_false,aop,Zf,ev,sput,Ze,Nat.reduceBEq]
         refine hN28 [(0,.slice (some ⟨B,0,some 0⟩) m C),(1,Zd (k:Nat)),(4,.slice none 0 0),(5,.bool false),(6,Zd (j:Nat)),(7,.pointer (some ⟨hp.length,0,none⟩)),(11,Zd (r:Nat)),(12,.pointer (some ⟨G1.length,0,none⟩)),(13,Zd (c:Nat)),(18,Zd (k:Nat)),(19,Zd (j:Nat)),(60,.bool false),(78,.slice (some ⟨B,0,some 0⟩) m C),(79,Zd (m:Nat)),(80,Zd (r:Nat)),(102,Zd ((k+1:Nat):Int)),(103,Zd (c:Nat))] _ _ ?_ (by simp (maxSteps:=2000000) only [vup,cond_true,cond_false,Nat.reduceBEq])
         clear hN28
         try clear N28
         refine Zm ?_
         simp only [q74_23]
         refine Yx [(20,1),(21,1)] (by kernel_rfl) (by kernel_rfl) (by kernel_rfl) (by kernel_rfl) ?_
         simp (maxSteps:=2000000) only [↓Zz,↓vdn,vup,List.map_cons,List.map_nil,cond_true,cond_false,aop,Zf,Zo,ev,sput,Ze,Nat.reduceBEq,Nat.reduceAdd,Mat.idx r hr',MG.loadRow hr',MG.idxR hr' hc',MG.loadE hr' hc',e1,loadF g12,Mat.idx j hjm',MG.loadRow hjm',MG.idxR hjm' hc',MG.loadE hjm' hc',e2,Yn,List.nil_append,List.append_nil]
         refine ⟨_,_,cl1,rfl,_,_,cl2,rfl,?_⟩
         simp (maxSteps:=2000000) only [st]
         refine hU [(0,.slice (some ⟨B,0,some 0⟩) m C),(1,Zd (k:Nat)),(4,.slice none 0 0),(5,.bool false),(6,Zd (j:Nat)),(7,.pointer (some ⟨hp.length,0,none⟩)),(11,Zd (r:Nat)),(12,.pointer (some ⟨G1.length,0,none⟩)),(18,Zd (k:Nat)),(19,Zd (j:Nat)),(60,.bool false),(78,.slice (some ⟨B,0,some 0⟩) m C),(79,Zd (m:Nat)),(80,Zd (r:Nat)),(102,Zd ((k+1:Nat):Int)),(103,Zd (c:Nat))] _ _ ?_ (by simp (maxSteps:=2000000) only [vup,cond_true,cond_false,Nat.reduceBEq])
         clear hU
         try clear U
         refine Zm ?_
         simp (maxSteps:=2000000) only [↓Za,↓Zb,↓Zc,vup,cond_true,cond_false,aop,ev,sput,Ze,Yf,Yi,Nat.reduceBEq,add1 (show c<9223372036854775807 by omega)]
         have n7:hp.length≠bk' r:=fun he=>by
          obtain ⟨cc,xs,e1,e2,e3⟩:=MG.row r hr'
          rw [← he,g7] at e3; cases e3
         have n12:G1.length≠bk' r:=fun he=>by
          obtain ⟨cc,xs,e1,e2,e3⟩:=MG.row r hr'
          rw [← he,g12] at e3; cases e3
         refine hQd _ _ _ ⟨(c+1,G'),⟨by simp only; omega,MG',hEG.trans (hEG'.mono fun b hb=>by rw [hb]; exact hS2 r hr'),by simp only; rw [hk' _ n7]; exact g7,by simp only; rw [hk' _ n12]; exact g12⟩,by simp only; omega,by simp (maxSteps:=2000000) only [vup,cond_true,cond_false,Nat.reduceBEq],rfl⟩
       obtain rfl:c=k+1:=by omega
       refine Zg fun N29 hN29=>?_
       simp (maxSteps:=2000000) only [↓Za,↓Zb,↓Zc,vup,cond_true,cond_false,aop,Zf,ev,sput,Ze,Yf,Yi,Nat.reduceBEq,hcin]
       refine hN29 [(0,.slice (some ⟨B,0,some 0⟩) m C),(1,Zd (k:Nat)),(4,.slice none 0 0),(5,.bool false),(6,Zd (j:Nat)),(7,.pointer (some ⟨hp.length,0,none⟩)),(11,Zd (r:Nat)),(12,.pointer (some ⟨G1.length,0,none⟩)),(18,Zd (k:Nat)),(19,Zd (j:Nat)),(60,.bool false),(78,.slice (some ⟨B,0,some 0⟩) m C),(79,Zd (m:Nat)),(80,Zd (r:Nat)),(102,Zd ((k+1:Nat):Int)),(103,Zd ((k+1:Nat):Int)),(104,.bool false)] _ _ ?_ (by simp (maxSteps:=2000000) only [vup,cond_true,cond_false,Nat.reduceBEq])
       clear hN29
       try clear N29
       refine Zg fun N30 hN30=>?_
       simp (maxSteps:=2000000) only [↓Yo,↓vdn,vup,cond_true,cond_false,Zf,ev,Nat.reduceBEq]
       refine hQd _ _ _ (hQc _ _ _ ?_)
       simp (maxSteps:=2000000) only [Zf,Zo,if_true]
       exact fin _ _ (MG.congr fun i d _ hd=>elimRows_next V hrj hd) hEG g7 (by simp (maxSteps:=2000000) only [vup,cond_true,cond_false,Nat.reduceBEq])
     have hrm:m=r:=by omega
     subst hrm
     refine Zg fun N31 hN31=>?_
     simp (maxSteps:=2000000) only [↓Za,↓Zb,↓Zc,vup,cond_true,cond_false,aop,Zf,ev,sput,Ze,Yf,Yi,Nat.reduceBEq,hrin]
     refine hN31 [(0,.slice (some ⟨B,0,some 0⟩) m C),(1,Zd (k:Nat)),(4,.slice none 0 0),(5,.bool false),(6,Zd (j:Nat)),(7,.pointer (some ⟨hp.length,0,none⟩)),(18,Zd (k:Nat)),(19,Zd (j:Nat)),(60,.bool false),(78,.slice (some ⟨B,0,some 0⟩) m C),(79,Zd (m:Nat)),(80,Zd (m:Nat)),(81,.bool false)] _ _ ?_ (by simp (maxSteps:=2000000) only [vup,cond_true,cond_false,Nat.reduceBEq])
     clear hN31
     try clear N31
     refine Zg fun N32 hN32=>?_
     simp (maxSteps:=2000000) only [↓Yo,↓vdn,vup,cond_true,cond_false,Zf,ev,Nat.reduceBEq]
     refine hQb _ _ _ (hQa _ _ _ ?_)
     simp (maxSteps:=2000000) only [Zf,Zo,if_true]
     refine hX [(0,.slice (some ⟨B,0,some 0⟩) m C),(1,Zd (k:Nat)),(4,.slice none 0 0),(5,.bool false),(6,Zd (j:Nat)),(7,.pointer (some ⟨hp.length,0,none⟩)),(18,Zd (k:Nat)),(19,Zd (j:Nat)),(81,.bool false)] _ _ ?_ (by simp (maxSteps:=2000000) only [vup,cond_true,cond_false,Nat.reduceBEq])
     clear hX
     try clear X
     have MT:Mat G1 B m k w' bk' (elimT j V):=MR.congr fun i d hi _=>elimRows_all V hi
     refine Zg fun N33 hN33=>?_
     simp (maxSteps:=2000000) only [↓Za,↓Zb,↓Zc,vup,cond_true,cond_false,aop,Zf,ev,sput,Ze,Yf,Yi,Nat.reduceBEq,add1 (show j<9223372036854775807 by omega)]
     refine hN33 [(0,.slice (some ⟨B,0,some 0⟩) m C),(1,Zd (k:Nat)),(4,.slice none 0 0),(5,.bool false),(6,Zd ((j+1:Nat):Int)),(7,.pointer (some ⟨hp.length,0,none⟩)),(18,Zd (k:Nat)),(19,Zd (j:Nat)),(81,.bool false)] _ _ ?_ (by simp (maxSteps:=2000000) only [vup,cond_true,cond_false,Nat.reduceBEq])
     clear hN33
     try clear N33
     have goOn:(j+1<k→j+1<m)→∀ e,ELe e [(0,.slice (some ⟨B,0,some 0⟩) m C),(1,Zd (k:Nat)),(4,.slice none 0 0),(5,.bool false),(6,Zd ((j+1:Nat):Int)),(18,Zd (k:Nat)),(19,Zd (j:Nat)),(81,.bool false)]→Y e G1:=by
      intro hlt e he
      refine hY _ _ _ ?_ he
      refine Zm ?_
      simp (maxSteps:=2000000) only [↓Za,↓Zb,↓Zc,vup,cond_true,cond_false,aop,ev,sput,Ze,Yf,Yi,Nat.reduceBEq,add1 (show j<9223372036854775807 by omega)]
      exact hQ2 _ _ _ ⟨(j+1,G1,w',bk',elimT j V),⟨hjk,hjm',hlt,hnext,MT,hER,hS2⟩,by simp only; omega,by simp (maxSteps:=2000000) only [vup,cond_true,cond_false,Nat.reduceBEq],rfl⟩
     by_cases hjm2:j+1=m
     · have h1:(((j+1:Nat):Int)==((m:Nat):Int))=true:=by simp [hjm2]
       by_cases hjk2:j+1<k
       · have h2:(((j+1:Nat):Int)<((k:Nat):Int)):=by omega
         refine Zg fun N34 hN34=>?_
         simp (maxSteps:=2000000) only [↓Za,↓Zb,↓Zc,↓vdn,vup,List.map_cons,List.map_nil,cond_true,cond_false,aop,Zf,ev,sput,Ze,Yf,Yi,Zi,Nat.reduceBEq,tyf,lenK,h1,Xl r7 Yy,add1 (show j<9223372036854775807 by omega),h2]
         refine hN34 [(0,.slice (some ⟨B,0,some 0⟩) m C),(1,Zd (k:Nat)),(4,.slice none 0 0),(5,.bool false),(6,Zd ((j+1:Nat):Int)),(7,.pointer (some ⟨hp.length,0,none⟩)),(18,Zd (k:Nat)),(19,Zd (j:Nat)),(81,.bool false),(142,.bool true)] _ _ ?_ (by simp (maxSteps:=2000000) only [vup,cond_true,cond_false,Nat.reduceBEq])
         clear hN34
         try clear N34
         refine Zm ?_
         simp (maxSteps:=2000000) only [↓Za,↓Zl,↓Zu,↓Zb,↓Zc,↓vdn,vup,cond_true,cond_false,aop,Zf,Zo,ev,sput,Ze,Nat.reduceBEq]
         refine hQ2 _ _ _ (hQ _ _ _ ?_)
         simp (maxSteps:=2000000) only [vup,cond_true,cond_false,Zf,Zo,Nat.reduceBEq,Zs,Xn,tup]
         have hs:Wu m k T0=none:=by
          have hfn:findP m (j+1) (elimT j V)=none:=by
           rw [findP]
           refine find_none fun i hi=>?_
           simp; omega
          have : ∀ d,Xp m T0 (j+2+d)=none:=by
           intro d
           induction d with
           | zero =>
             show (Xp m T0 (j+1)).bind (Vg m (j+1))=none
             rw [hnext]
             show Vg m (j+1) _=none
             rw [Vg,hfn]; rfl
           | succ d ih=>rw [← Nat.add_assoc,Xp,ih]; rfl
          rw [Wu,show k=j+2+(k-(j+2)) by omega,this]; rfl
         rw [hs]
         exact ⟨hER,_,_,rfl,rfl,rfl⟩
       · have h2 : ¬ (((j+1:Nat):Int)<((k:Nat):Int)):=by omega
         refine Zg fun N35 hN35=>?_
         simp (maxSteps:=2000000) only [↓Za,↓Zb,↓Zc,↓vdn,vup,List.map_cons,List.map_nil,cond_true,cond_false,aop,Zf,ev,sput,Ze,Yf,Yi,Zi,Nat.reduceBEq,tyf,lenK,h1,Xl r7 Yy,add1 (show j<9223372036854775807 by omega),h2]
         refine hN35 [(0,.slice (some ⟨B,0,some 0⟩) m C),(1,Zd (k:Nat)),(4,.slice none 0 0),(5,.bool false),(6,Zd ((j+1:Nat):Int)),(7,.pointer (some ⟨hp.length,0,none⟩)),(18,Zd (k:Nat)),(19,Zd (j:Nat)),(81,.bool false),(142,.bool false)] _ _ ?_ (by simp (maxSteps:=2000000) only [vup,cond_true,cond_false,Nat.reduceBEq])
         clear hN35
         try clear N35
         refine Zm ?_
         simp (maxSteps:=2000000) only [↓Zn,↓vdn,vup,cond_true,cond_false,Zf,Zo,ev,Nat.reduceBEq]
         exact goOn (fun h=>absurd h hjk2) _ (by simp (maxSteps:=2000000) only [vup,cond_true,cond_false,Nat.reduceBEq])
     · have h1:(((j+1:Nat):Int)==((m:Nat):Int))=false:=by
        have : ¬ ((j+1:Nat):Int)=((m:Nat):Int):=by omega
        simpa using this
       refine Zg fun N36 hN36=>?_
       simp (maxSteps:=2000000) only [↓Za,↓Zb,↓Zc,↓vdn,vup,List.map_cons,List.map_nil,cond_true,cond_false,aop,Zf,ev,sput,Ze,Yf,Yi,Zi,Nat.reduceBEq,tyf,lenK,h1]
       refine hN36 [(0,.slice (some ⟨B,0,some 0⟩) m C),(1,Zd (k:Nat)),(4,.slice none 0 0),(5,.bool false),(6,Zd ((j+1:Nat):Int)),(7,.pointer (some ⟨hp.length,0,none⟩)),(18,Zd (k:Nat)),(19,Zd (j:Nat)),(81,.bool false),(142,.bool false)] _ _ ?_ (by simp (maxSteps:=2000000) only [vup,cond_true,cond_false,Nat.reduceBEq])
       clear hN36
       try clear N36
       refine Zm ?_
       simp (maxSteps:=2000000) only [↓Zn,↓vdn,vup,cond_true,cond_false,Zf,Zo,ev,Nat.reduceBEq]
       exact goOn (fun h=>by omega) _ (by simp (maxSteps:=2000000) only [vup,cond_true,cond_false,Nat.reduceBEq])
 · have hjk:k=j:=by omega
   subst hjk
   have hEl:=hE.1
   refine Zg fun N37 hN37=>?_
   simp (maxSteps:=2000000) only [↓Za,↓Zb,↓Zc,vup,cond_true,cond_false,aop,Zf,ev,sput,Ze,Yf,Yi,Nat.reduceBEq,hin]
   refine hN37 [(0,.slice (some ⟨B,0,some 0⟩) m C),(1,Zd (k:Nat)),(4,.slice none 0 0),(5,.bool false),(6,Zd (k:Nat)),(18,Zd (k:Nat)),(19,Zd (k:Nat)),(20,.bool false)] _ _ ?_ (by simp (maxSteps:=2000000) only [vup,cond_true,cond_false,Nat.reduceBEq])
   clear hN37
   try clear N37
   refine Zg fun N38 hN38=>?_
   simp (maxSteps:=2000000) only [↓Yo,↓vdn,vup,cond_true,cond_false,Zf,ev,Nat.reduceBEq]
   refine hQ2 _ _ _ (hQ _ _ _ ?_)
   simp (maxSteps:=2000000) only [Zf,Zo,Zs,if_true]
   refine hZ [(0,.slice (some ⟨B,0,some 0⟩) m C),(1,Zd (k:Nat)),(4,.slice none 0 0),(5,.bool false),(6,Zd (k:Nat)),(20,.bool false)] _ _ ?_ (by simp (maxSteps:=2000000) only [vup,cond_true,cond_false,Nat.reduceBEq])
   clear hZ
   try clear Z
   have hrest : ∀ S,Xp m T0 k=some S→Wu m k T0=if restT m k S then none else some ((List.range k).map fun i=>S i k):=fun S hS=>by rw [Wu,hS]; rfl
   have hsol:=hrest T hrun
   -- what is left
   refine Zt fun Y hY=>?_
   refine Zg fun N39 hN39=>?_
   simp (maxSteps:=2000000) only [↓Za,↓Zb,↓Zc,vup,List.map_cons,List.map_nil,cond_true,cond_false,aop,Zf,ev,sput,Ze,Zi,Nat.reduceBEq,tyf,Option.map_some,Option.map_none]
   refine M.tail2 hjm hm1 hC fun v hlen hidx hload=>?_
   simp (maxSteps:=2000000) only [hlen]
   refine hN39 [(0,.slice (some ⟨B,0,some 0⟩) m C),(1,Zd (k:Nat)),(4,.slice none 0 0),(5,.bool false),(6,Zd (k:Nat)),(20,.bool false),(146,v),(147,Zd ((m-k:Nat):Int)),(148,.int .i64 0)] _ _ ?_ (by simp (maxSteps:=2000000) only [vup,cond_true,cond_false,Nat.reduceBEq])
   clear hN39
   try clear N39
   refine Zx ?_
   refine Zy fun Qa hQa=>?_
   refine Xa (γ:=Nat) (fun r=>r≤m-k∧∀ i,i<r→T (k+i) k=0)
    (fun r=>([(0,.slice (some ⟨B,0,some 0⟩) m C),(1,Zd (k:Nat)),(4,.slice none 0 0),(5,.bool false),(6,Zd (k:Nat)),(20,.bool false),(146,v),(147,Zd ((m-k:Nat):Int)),(148,Zd (r:Nat))],hp)) (fun r=>m-k-r) 0 ⟨Nat.zero_le _,fun i hi=>by omega⟩ (by simp (maxSteps:=2000000) only [vup,cond_true,cond_false,Nat.reduceBEq,Int.natCast_zero]) rfl ?_
   rintro r ⟨hr,hzero⟩
   refine Zy fun Qb hQb=>?_
   simp only [l74_4]
   by_cases hrin:(r:Int)<((m-k:Nat):Int)
   · have hr' : r<m-k:=by omega
     refine Zg fun N40 hN40=>?_
     simp (maxSteps:=2000000) only [↓Za,↓Zb,↓Zc,vup,cond_true,cond_false,aop,Zf,ev,sput,Ze,Yf,Yi,Nat.reduceBEq,hrin]
     refine hN40 [(0,.slice (some ⟨B,0,some 0⟩) m C),(1,Zd (k:Nat)),(4,.slice none 0 0),(5,.bool false),(6,Zd (k:Nat)),(20,.bool false),(146,v),(147,Zd ((m-k:Nat):Int)),(148,Zd (r:Nat)),(149,.bool true)] _ _ ?_ (by simp (maxSteps:=2000000) only [vup,cond_true,cond_false,Nat.reduceBEq])
     clear hN40
     try clear N40
     refine Zg fun N41 hN41=>?_
     simp (maxSteps:=2000000) only [↓Zn,↓vdn,vup,cond_true,cond_false,Zf,ev,Nat.reduceBEq]
     refine hN41 [(0,.slice (some ⟨B,0,some 0⟩) m C),(1,Zd (k:Nat)),(4,.slice none 0 0),(5,.bool false),(6,Zd (k:Nat)),(20,.bool false),(146,v),(147,Zd ((m-k:Nat):Int)),(148,Zd (r:Nat))] _ _ ?_ (by simp (maxSteps:=2000000) only [vup,cond_true,cond_false,Nat.reduceBEq])
     clear hN41
     try clear N41
     refine Zt fun W hW=>?_
     refine Zx ?_
     refine Zg fun N42 hN42=>?_
     simp (maxSteps:=2000000) only [↓Za,↓Zb,↓Zc,vup,cond_true,cond_false,aop,Zf,ev,sput,Ze,Nat.reduceBEq,hidx r hr',hload r hr']
     refine hN42 [(0,.slice (some ⟨B,0,some 0⟩) m C),(1,Zd (k:Nat)),(4,.slice none 0 0),(5,.bool false),(6,Zd (k:Nat)),(15,w (k+r)),(20,.bool false),(146,v),(147,Zd ((m-k:Nat):Int)),(148,Zd (r:Nat))] _ _ ?_ (by simp (maxSteps:=2000000) only [vup,cond_true,cond_false,Nat.reduceBEq])
     clear hN42
     try clear N42
     refine Zm ?_
     by_cases hnz:T (k+r) k=0
     · have hn:((T (k+r) k).num != 0)=false:=by simp [hnz]
       simp (maxSteps:=2000000) only [↓Za,↓Zn,↓Zl,↓Zu,↓Zb,↓Zc,↓vdn,vup,cond_true,cond_false,aop,Zf,Zo,ev,sput,Ze,Yf,Yi,Nat.reduceBEq,tyf,M.idxR (show k+r<m by omega) (Nat.le_refl k),fA0o,M.loadN (show k+r<m by omega) (Nat.le_refl k),hn]
       refine hW [(0,.slice (some ⟨B,0,some 0⟩) m C),(1,Zd (k:Nat)),(4,.slice none 0 0),(5,.bool false),(6,Zd (k:Nat)),(20,.bool false),(146,v),(147,Zd ((m-k:Nat):Int)),(148,Zd (r:Nat))] _ _ ?_ (by simp (maxSteps:=2000000) only [vup,cond_true,cond_false,Nat.reduceBEq])
       clear hW
       try clear W
       refine Zm ?_
       simp (maxSteps:=2000000) only [↓Za,↓Zb,↓Zc,vup,cond_true,cond_false,aop,ev,sput,Ze,Yf,Yi,Nat.reduceBEq,add1 (show r<9223372036854775807 by omega)]
       refine hQb _ _ _ ⟨r+1,⟨hr',fun i hi=>?_⟩,by omega,by simp (maxSteps:=2000000) only [vup,cond_true,cond_false,Nat.reduceBEq],rfl⟩
       rcases Nat.lt_or_ge i r with h1 | h1
       · exact hzero i h1
       · rw [show i=r by omega]; exact hnz
     · have hn:((T (k+r) k).num != 0)=true:=by
        have : ¬ (T (k+r) k).num=0:=fun hc=>hnz (Rat.num_eq_zero.1 hc)
        simpa [bne] using this
       simp (maxSteps:=2000000) only [↓Za,↓Zn,↓Zl,↓Zu,↓Zb,↓Zc,↓vdn,vup,cond_true,cond_false,aop,Zf,Zo,ev,sput,Ze,Yf,Yi,Nat.reduceBEq,tyf,M.idxR (show k+r<m by omega) (Nat.le_refl k),fA0o,M.loadN (show k+r<m by omega) (Nat.le_refl k),hn]
       refine hQb _ _ _ (hQa _ _ _ ?_)
       simp (maxSteps:=2000000) only [vup,cond_true,cond_false,Zf,Zo,Nat.reduceBEq,Zs,Xn,tup]
       have hrt:restT m k T=true:=by
        rw [restT,List.any_eq_true]
        exact ⟨k+r,List.mem_range.2 (by omega),by simp [hnz]⟩
       rw [hsol,hrt]
       exact ⟨hE,_,_,rfl,rfl,rfl⟩
   have hrm:r=m-k:=by omega
   have hrt:restT m k T=false:=by
    rw [restT,List.any_eq_false]
    intro i hi
    have hi':=List.mem_range.1 hi
    simp only [Bool.and_eq_true,decide_eq_true_eq,not_and,Decidable.not_not]
    intro hki
    have:=hzero (i-k) (by omega)
    rwa [show k+(i-k)=i by omega] at this
   rw [hrt,if_neg (by decide)] at hsol
   refine Zg fun N43 hN43=>?_
   simp (maxSteps:=2000000) only [↓Za,↓Zb,↓Zc,vup,cond_true,cond_false,aop,Zf,ev,sput,Ze,Yf,Yi,Nat.reduceBEq,hrin]
   refine hN43 [(0,.slice (some ⟨B,0,some 0⟩) m C),(1,Zd (k:Nat)),(4,.slice none 0 0),(5,.bool false),(6,Zd (k:Nat)),(20,.bool false),(146,v),(147,Zd ((m-k:Nat):Int)),(148,Zd (r:Nat)),(149,.bool false)] _ _ ?_ (by simp (maxSteps:=2000000) only [vup,cond_true,cond_false,Nat.reduceBEq])
   clear hN43
   try clear N43
   refine Zg fun N44 hN44=>?_
   simp (maxSteps:=2000000) only [↓Yo,↓vdn,vup,cond_true,cond_false,Zf,ev,Nat.reduceBEq]
   refine hQb _ _ _ (hQa _ _ _ ?_)
   simp (maxSteps:=2000000) only [Zf,Zo,Zs,if_true]
   refine hY [(0,.slice (some ⟨B,0,some 0⟩) m C),(1,Zd (k:Nat)),(4,.slice none 0 0),(5,.bool false),(6,Zd (k:Nat)),(20,.bool false),(149,.bool false)] _ _ ?_ (by simp (maxSteps:=2000000) only [vup,cond_true,cond_false,Nat.reduceBEq])
   clear hY
   try clear Y
   -- the solution
   have hsl : ∀ K:Value→Prop,K (.slice (some ⟨B,0,some 0⟩) k C)→Xv prog 125 (.slice (some ⟨B,0,some 0⟩) m C) none (some (Zd (k:Nat))) none K:=fun K hK=>by
    simp only [Xv,el_125,esz_43,bnd]
    exact ⟨by omega,by omega,by omega,fun h0=>by simp at h0,fun _=>.inl ⟨rfl,by simpa using hK⟩⟩
   refine Zt fun Y hY=>?_
   refine Zg fun N45 hN45=>?_
   simp (maxSteps:=2000000) only [↓Za,↓Zb,↓Zc,vup,List.map_cons,List.map_nil,cond_true,cond_false,aop,Zf,ev,sput,Ze,Zi,Nat.reduceBEq,tyf,Option.map_some,Option.map_none]
   refine hsl _ ?_
   simp (maxSteps:=2000000) only [lenK]
   refine hN45 [(0,.slice (some ⟨B,0,some 0⟩) m C),(1,Zd (k:Nat)),(4,.slice none 0 0),(5,.bool false),(6,Zd (k:Nat)),(20,.bool false),(149,.bool false),(161,.slice (some ⟨B,0,some 0⟩) k C),(162,Zd (k:Nat)),(163,.int .i64 0)] _ _ ?_ (by simp (maxSteps:=2000000) only [vup,cond_true,cond_false,Nat.reduceBEq])
   clear hN45
   try clear N45
   refine Zx ?_
   refine Zy fun Qa hQa=>?_
   refine Xa (γ:=Nat×Value×Zh) (fun s=>s.1≤k∧OwnP 45 s.2.2 s.2.1 ((List.range s.1).map fun i=>ofQ (T i k))∧Ext (fun _=>False) hp s.2.2∧∀ b,Yc s.2.1=some b→hp.length≤b)
    (fun s=>([(0,.slice (some ⟨B,0,some 0⟩) m C),(1,Zd (k:Nat)),(4,s.2.1),(5,.bool false),(6,Zd (k:Nat)),(20,.bool false),(149,.bool false),(161,.slice (some ⟨B,0,some 0⟩) k C),(162,Zd (k:Nat)),(163,Zd (s.1:Nat))],s.2.2)) (fun s=>k-s.1) (0,.slice none 0 0,hp) ⟨Nat.zero_le _,.inl ⟨rfl,rfl⟩,Ext.refl _ _,fun b hb=>by cases hb⟩ (by simp (maxSteps:=2000000) only [vup,cond_true,cond_false,Nat.reduceBEq,Int.natCast_zero]) rfl ?_
   rintro ⟨r,x,G⟩ ⟨hr,ho,hEG,hbx⟩
   simp only at hr ho hEG hbx
   refine Zy fun Qb hQb=>?_
   simp only [l74_5]
   by_cases hrin:(r:Int)<(k:Int)
   · have hr' : r<k:=by omega
     have MG:=M.ext hEG
     refine Zg fun N46 hN46=>?_
     simp (maxSteps:=2000000) only [↓Za,↓Zb,↓Zc,vup,cond_true,cond_false,aop,Zf,ev,sput,Ze,Yf,Yi,Nat.reduceBEq,hrin]
     refine hN46 [(0,.slice (some ⟨B,0,some 0⟩) m C),(1,Zd (k:Nat)),(4,x),(5,.bool false),(6,Zd (k:Nat)),(20,.bool false),(149,.bool false),(161,.slice (some ⟨B,0,some 0⟩) k C),(162,Zd (k:Nat)),(163,Zd (r:Nat)),(164,.bool true)] _ _ ?_ (by simp (maxSteps:=2000000) only [vup,cond_true,cond_false,Nat.reduceBEq])
     clear hN46
     try clear N46
     refine Zg fun N47 hN47=>?_
     simp (maxSteps:=2000000) only [↓Zn,↓vdn,vup,cond_true,cond_false,Zf,ev,Nat.reduceBEq]
     refine hN47 [(0,.slice (some ⟨B,0,some 0⟩) m C),(1,Zd (k:Nat)),(4,x),(5,.bool false),(6,Zd (k:Nat)),(20,.bool false),(149,.bool false),(161,.slice (some ⟨B,0,some 0⟩) k C),(162,Zd (k:Nat)),(163,Zd (r:Nat))] _ _ ?_ (by simp (maxSteps:=2000000) only [vup,cond_true,cond_false,Nat.reduceBEq])
     clear hN47
     try clear N47
     refine Zt fun W hW=>?_
     refine Zx ?_
     refine Zg fun N48 hN48=>?_
     simp (maxSteps:=2000000) only [↓Za,↓Zb,↓Zc,vup,cond_true,cond_false,aop,Zf,ev,sput,Ze,Nat.reduceBEq,Mat.idx r hr',MG.loadRow (show r<m by omega)]
     refine hN48 [(0,.slice (some ⟨B,0,some 0⟩) m C),(1,Zd (k:Nat)),(4,x),(5,.bool false),(6,Zd (k:Nat)),(17,w r),(20,.bool false),(149,.bool false),(161,.slice (some ⟨B,0,some 0⟩) k C),(162,Zd (k:Nat)),(163,Zd (r:Nat))] _ _ ?_ (by simp (maxSteps:=2000000) only [vup,cond_true,cond_false,Nat.reduceBEq])
     clear hN48
     try clear N48
     refine Zm ?_
     simp (maxSteps:=2000000) only [↓Za,↓Zb,↓Zc,vup,List.map_cons,List.map_nil,cond_true,cond_false,aop,Zf,Zo,ev,sput,Ze,Zi,Nat.reduceBEq,MG.idxR (show r<m by omega) (Nat.le_refl k),MG.loadE (show r<m by omega) (Nat.le_refl k),qV,frV,litF]
     refine OwnP.append (x:=(T r k).num) (y:=(T r k).den) (ho.ext (Ext.app _ _ _)) app_43_43 (by simp; omega) (Zr _ _) ?_
     intro x' G' ho' hE' hb'
     have hnx:((List.range r).map fun i=>ofQ (T i k))++[((T r k).num,((T r k).den:Int))]=(List.range (r+1)).map fun i=>ofQ (T i k):=by
      rw [List.range_succ,List.map_append]; rfl
     rw [hnx] at ho'
     refine hW [(0,.slice (some ⟨B,0,some 0⟩) m C),(1,Zd (k:Nat)),(4,x'),(5,.bool false),(6,Zd (k:Nat)),(20,.bool false),(149,.bool false),(161,.slice (some ⟨B,0,some 0⟩) k C),(162,Zd (k:Nat)),(163,Zd (r:Nat))] _ _ ?_ (by simp (maxSteps:=2000000) only [vup,cond_true,cond_false,Nat.reduceBEq])
     clear hW
     try clear W
     refine Zm ?_
     simp (maxSteps:=2000000) only [↓Za,↓Zb,↓Zc,vup,cond_true,cond_false,aop,ev,sput,Ze,Yf,Yi,Nat.reduceBEq,add1 (show r<9223372036854775807 by omega)]
     refine hQb _ _ _ ⟨(r+1,x',G'),⟨hr',ho',?_,fun b hb0=>?_⟩,by simp only; omega,by simp (maxSteps:=2000000) only [vup,cond_true,cond_false,Nat.reduceBEq],rfl⟩
     · have hl':=hE'.1
       have l1:=hEG.1
       rw [List.length_append,List.length_singleton] at hl'
       refine ⟨by simp only; omega,fun q hq _=>?_⟩
       simp only
       rw [hE'.2 q (by rw [List.length_append]; omega) (fun hb0=>by have:=hbx q hb0; omega),List.getElem?_append_left (by omega)]
       exact hEG.2 q hq id
     · simp only at hb0
       rcases hb' with hb' | ⟨b',hb1,hb2⟩
       · exact hbx b (hb'▸hb0)
       · rw [hb1] at hb0; cases hb0
         rw [List.length_append] at hb2
         have:=hEG.1; omega
   have hrk:k=r:=by omega
   subst hrk
   refine Zg fun N49 hN49=>?_
   simp (maxSteps:=2000000) only [↓Za,↓Zb,↓Zc,vup,cond_true,cond_false,aop,Zf,ev,sput,Ze,Yf,Yi,Nat.reduceBEq,hrin]
   refine hN49 [(0,.slice (some ⟨B,0,some 0⟩) m C),(1,Zd (k:Nat)),(4,x),(5,.bool false),(6,Zd (k:Nat)),(20,.bool false),(149,.bool false),(161,.slice (some ⟨B,0,some 0⟩) k C),(162,Zd (k:Nat)),(163,Zd (k:Nat)),(164,.bool false)] _ _ ?_ (by simp (maxSteps:=2000000) only [vup,cond_true,cond_false,Nat.reduceBEq])
   clear hN49
   try clear N49
   refine Zg fun N50 hN50=>?_
   simp (maxSteps:=2000000) only [↓Yo,↓vdn,vup,cond_true,cond_false,Zf,ev,Nat.reduceBEq]
   refine hQb _ _ _ (hQa _ _ _ ?_)
   simp (maxSteps:=2000000) only [Zf,Zo,Zs,if_true]
   refine hY [(0,.slice (some ⟨B,0,some 0⟩) m C),(1,Zd (k:Nat)),(4,x),(5,.bool false),(6,Zd (k:Nat)),(20,.bool false),(149,.bool false),(164,.bool false)] _ _ ?_ (by simp (maxSteps:=2000000) only [vup,cond_true,cond_false,Nat.reduceBEq])
   clear hY
   try clear Y
   refine Zm ?_
   simp (maxSteps:=2000000) only [↓Za,↓Zl,↓Zu,↓Zb,↓Zc,vup,cond_true,cond_false,aop,Zf,ev,sput,Ze,Nat.reduceBEq,Zs,Xn,tup]
   refine ⟨hE.trans (hEG.mono fun b hb=>hb.elim),x,true,rfl,?_⟩
   rw [hsol]
   refine ⟨rfl,?_,fun b hb=>by have:=hbx b hb; omega⟩
   rw [List.map_map]; exact ho
end Go.Proofs.Tryd.Am.Be
namespace Go.Proofs.Tryd.Am.Be
open Go.Proofs.Tryd.Am
open Go.Am Bq
set_option maxRecDepth 100000
set_option maxHeartbeats 1000000
theorem s144_callW [Tabs Tryd.prog] {args:List Value} {h:Zh} {Q:Value→Zh→Prop} (hsz:args.length≤22) (hk:AWS Tryd.prog 22 s144 (Zs Tryd.prog [.tmp 4] Q) (Zp 0 args) h):ACall Tryd.prog 144 args h Q :=
 Yz Tryd.func144 rfl (enters_of Tryd.func144 (by kernel_rfl) rfl) rfl rfl (by decide) s144_strip s144_ok hsz hk
theorem lowest_call [Tabs prog] {h:Zh} {x y m:Int} (hm:m<9223372036854775808):Xj prog 144 [frV x y,Zd m] h (.bool (decide (1≤y)&&(decide (y≤m)&&(Nat.gcd x.natAbs y.natAbs==1)))):=by
 have hE:Ext (fun _=>False) h (h++[fC x y]):=Ext.app _ _ _
 refine ACall.forget (Low.bool _) ?_
 refine s144_callW (by simp) ?_
 refine Zm ?_
 by_cases h1:1≤y
 · by_cases h2:y≤m
   · simp (maxSteps:=2000000) only [s144,↓Za,↓Zl,↓Zu,↓Zb,↓Zc,↓vdn,vup,List.map_cons,List.map_nil,cond_true,cond_false,aop,Zf,Zp,ev,sput,Ze,Yf,Yi,Nat.reduceBEq,Nat.reduceAdd,Zs,Xn,tup,tyf,frV,boxF,Yg,fA0,fA1,loadF0 (Zr h _),loadF1 (Zr h _),h1,h2,Yn,List.nil_append,List.append_nil]
     refine (gcd_call (.inr (by omega)) (by omega)).mono ?_
     rintro _ _ ⟨rfl,rfl⟩
     have e:((((Nat.gcd x.natAbs y.natAbs:Nat)):Int)==1)=(Nat.gcd x.natAbs y.natAbs==1):=by
      rw [Bool.eq_iff_iff]; simp; omega
     simp (maxSteps:=2000000) only [vup,e,Bool.true_and]
     exact hE
   · simp (maxSteps:=2000000) only [s144,↓Za,↓Zl,↓Zu,↓Zb,↓Zc,↓vdn,vup,cond_true,cond_false,aop,Zf,Zp,ev,sput,Ze,Yf,Yi,Nat.reduceBEq,Nat.reduceAdd,Zs,Xn,tup,tyf,frV,boxF,Yg,fA1,loadF1 (Zr h _),h1,h2,Bool.true_and,Bool.false_and]
     exact hE
 · simp (maxSteps:=2000000) only [s144,↓Za,↓Zl,↓Zu,↓Zb,↓Zc,↓vdn,vup,cond_true,cond_false,aop,Zf,Zp,ev,sput,Ze,Yf,Yi,Nat.reduceBEq,Nat.reduceAdd,Zs,Xn,tup,tyf,frV,boxF,Yg,fA1,loadF1 (Zr h _),h1,Bool.false_and]
   exact hE
theorem s112_callW [Tabs Tryd.prog] {args:List Value} {h:Zh} {Q:Value→Zh→Prop} (hsz:args.length≤20) (hk:AWS Tryd.prog 20 s112 (Zs Tryd.prog [.tmp 4] Q) (Zp 0 args) h):ACall Tryd.prog 112 args h Q :=
 Yz Tryd.func112 rfl (enters_of Tryd.func112 (by kernel_rfl) rfl) rfl rfl (by decide) s112_strip s112_ok hsz hk
theorem chance_call [Tabs prog] {h:Zh} {x y m:Int} (hm:m<9223372036854775808):Xj prog 112 [frV x y,Zd m] h (.bool (chB m (x,y))):=by
 have hE:Ext (fun _=>False) h (h++[fC x y]):=Ext.app _ _ _
 refine ACall.forget (Low.bool _) ?_
 refine s112_callW (by simp) ?_
 refine Zm ?_
 simp (maxSteps:=2000000) only [s112,↓Za,↓Zl,↓Zb,↓Zc,vup,List.map_cons,List.map_nil,cond_true,cond_false,aop,Zf,Zp,ev,sput,Ze,Nat.reduceBEq,Nat.reduceAdd,frV,boxF,Yg,loadF (Zr h _),Yn,List.nil_append,List.append_nil]
 refine (show Xj prog 144 [.agg #[Zd x,Zd y],Zd m] (h++[Blk.cells [Zd x,Zd y] 45 false]) _ from lowest_call hm).mono ?_
 rintro _ _ ⟨rfl,rfl⟩
 rw [chB]
 cases hl:(decide (1≤y)&&(decide (y≤m)&&(Nat.gcd x.natAbs y.natAbs==1))) with
 | false =>
   simp (maxSteps:=2000000) only [↓Zu,↓Zb,↓Zc,↓vdn,vup,cond_true,cond_false,aop,Zf,ev,sput,Ze,Nat.reduceBEq,Zs,Xn,tup,Bool.false_and]
   exact hE
 | true =>
   by_cases h1:0≤x
   · simp (maxSteps:=2000000) only [↓Zu,↓Zb,↓Zc,↓vdn,vup,cond_true,cond_false,aop,Zf,ev,sput,Ze,Yf,Yi,Nat.reduceBEq,Zs,Xn,tup,tyf,fA0,fA1,loadF0 (Zr h _),loadF1 (Zr h _),h1,Bool.true_and]
     exact hE
   · simp (maxSteps:=2000000) only [↓Zu,↓Zb,↓Zc,↓vdn,vup,cond_true,cond_false,aop,Zf,ev,sput,Ze,Yf,Yi,Nat.reduceBEq,Zs,Xn,tup,tyf,fA0,loadF0 (Zr h _),h1,Bool.true_and,Bool.false_and]
     exact hE
end Go.Proofs.Tryd.Am.Be
namespace Go.Proofs.Tryd.Am.Be
open Go.Proofs.Tryd.Am
open Go.Am Bq
set_option maxRecDepth 100000
set_option maxHeartbeats 1000000
def InR (ps:List (Int×Int)):Prop:=∀ p∈ps,(-(2 ^ 63)≤p.1∧p.1<2 ^ 63)∧-(2 ^ 63)≤p.2∧p.2<2 ^ 63
theorem drop_getD {ps:List (Int×Int)} {k:Nat} (hk:k<ps.length):ps.drop k=ps.getD k (0,0)::ps.drop (k+1):=by
 rw [List.getD,List.getElem?_eq_getElem hk]; exact List.drop_eq_getElem_cons hk
theorem mulTo_no {p:Int×Int} {ps:List (Int×Int)} {m:Nat} (h:okP p=false):mulTo (p::ps) m=0:=by rw [mulTo,h]; simp
theorem lcm_gt' {m n:Nat} (hm:0<m) (hn:0<n):(10000000000 / (n / Nat.gcd m n)<m)↔10000000000<Nat.lcm m n:=by
 have hg:=Nat.gcd_pos_of_pos_left n hm
 have e:Nat.lcm m n=m*(n / Nat.gcd m n):=by rw [Nat.lcm,Nat.mul_div_assoc _ (Nat.gcd_dvd_right _ _)]
 rw [e]; exact Nat.div_lt_iff_lt_mul (Nat.div_pos (Nat.le_of_dvd hn (Nat.gcd_dvd_right _ _)) hg)
end Go.Proofs.Tryd.Am.Be
namespace Go.Proofs.Tryd.Am.Be
open Go.Proofs.Tryd.Am
open Go.Am Bq
set_option maxRecDepth 100000
set_option maxHeartbeats 1000000
def chances (n:Int) (ps:List (Int×Int)):Bool:=decide ((ps.length:Int)=n)&&(decide (mult ps≠0)&&ps.all fun p=>decide (p.1≤p.2))
theorem chances_chn {n:Int} {ps:List (Int×Int)} (h:chances n ps=true):Chn ps∧(ps.length:Int)=n:=by
 simp only [chances,Bool.and_eq_true,decide_eq_true_eq,List.all_eq_true] at h
 exact ⟨⟨h.2.1,h.2.2⟩,h.1⟩
end Go.Proofs.Tryd.Am.Be
namespace Go.Proofs.Tryd.Am.Be
open Go.Proofs.Tryd.Am
open Go.Am Bq
set_option maxRecDepth 100000
set_option maxHeartbeats 1000000
def inEv (f:Nat→Rat) (evt:Nat) (w:Nat):Rat:=if evt.testBit w then f w else 0
theorem litI1 [Tabs prog] {h:Zh} {x:Int} (K:Value→Zh→Prop):Yj prog h 27 1 [(0,Zd x)] K=K (.slice (some ⟨h.length,0,none⟩) 1 1) (h++[.ints [x] 3 false]):=by
 simp only [Yj,Vy,zero_3,Wm,reps,Vx,mkb,Wk,cellsOf,List.length_singleton,Nat.mul_one,Nat.zero_add]
 exact propext ⟨fun h=>h.2.2.2,fun h=>⟨trivial,by decide,by decide,h⟩⟩
theorem take_snoc {α:Type} {l:List α} {k:Nat} {d:α} (hk:k<l.length):l.take (k+1)=l.take k++[l.getD k d]:=by
 rw [List.take_succ,List.getElem?_eq_getElem hk,List.getD,List.getElem?_eq_getElem hk]; rfl
theorem s66_callW [Tabs Tryd.prog] {args:List Value} {h:Zh} {Q:Value→Zh→Prop} (hsz:args.length≤31) (hk:AWS Tryd.prog 31 s66 (Zs Tryd.prog [.tmp 2] Q) (Zp 0 args) h):ACall Tryd.prog 66 args h Q :=
 Yz Tryd.func66 rfl (enters_of Tryd.func66 (by kernel_rfl) rfl) rfl rfl (by decide) s66_strip s66_ok hsz hk
theorem common_call [Tabs prog] {h:Zh} {v:Value} {ps:List (Int×Int)} (hv:PairSl h v ps) (hl:ps.length<9223372036854775808) (hx:InR ps):Xj prog 66 [v] h (.bool (decide (mult ps≠0)&&ps.all fun p=>decide (p.1≤p.2))):=by
 refine ACall.forget (Low.bool _) ?_
 refine s66_callW (by simp) ?_
 simp only [s66]
 refine Zg fun N1 hN1=>?_
 simp (maxSteps:=2000000) only [↓Za,↓Zb,↓Zc,vup,cond_false,aop,Zf,Zp,ev,sput,Ze,Nat.reduceBEq]
 refine hN1 [(0,v),(2,.bool false)] _ _ ?_ (by simp (maxSteps:=2000000) only [vup,cond_true,cond_false,Nat.reduceBEq])
 clear hN1
 try clear N1
 refine Zg fun N2 hN2=>?_
 simp (maxSteps:=2000000) only [↓Za,↓Zb,↓Zc,vup,cond_false,aop,Zf,ev,sput,Ze,Nat.reduceBEq]
 refine hN2 [(0,v),(2,.bool false),(3,.int .i64 1)] _ _ ?_ (by simp (maxSteps:=2000000) only [vup,cond_true,cond_false,Nat.reduceBEq])
 clear hN2
 try clear N2
 refine Zt fun M hM=>?_
 refine Zg fun N3 hN3=>?_
 simp (maxSteps:=2000000) only [↓Za,↓Zb,↓Zc,vup,List.map_cons,List.map_nil,cond_true,cond_false,aop,Zf,ev,sput,Ze,Zi,Nat.reduceBEq,tyf,hv.len]
 refine hN3 [(0,v),(2,.bool false),(3,.int .i64 1),(7,v),(8,Zd ps.length),(9,.int .i64 0)] _ _ ?_ (by simp (maxSteps:=2000000) only [vup,cond_true,cond_false,Nat.reduceBEq])
 clear hN3
 try clear N3
 refine Zx ?_
 refine Zy fun Q hQ=>?_
 refine Xa (γ:=Nat×Nat×Zh) (fun s=>s.1≤ps.length∧0<s.2.1∧s.2.1≤10000000000∧mulTo (ps.drop s.1) s.2.1=mult ps∧(∀ p∈ps.take s.1,p.1≤p.2)∧Ext (fun _=>False) h s.2.2)
  (fun s=>([(0,v),(2,.bool false),(3,Zd (s.2.1:Nat)),(7,v),(8,Zd ps.length),(9,Zd (s.1:Nat))],s.2.2)) (fun s=>ps.length-s.1) (0,1,h) ⟨Nat.zero_le _,Nat.one_pos,(by decide:(1:Nat)≤10000000000),rfl,by simp,Ext.refl _ _⟩ (by simp (maxSteps:=2000000) only [vup,cond_true,cond_false,Nat.reduceBEq,Int.natCast_zero,Int.natCast_one]) rfl ?_
 rintro ⟨k,m,hp⟩ ⟨hk,hm0,hm,hmul,hall,hE⟩
 simp only at hk hm0 hm hmul hall hE
 refine Zy fun Q2 hQ2=>?_
 simp only [l66_0]
 by_cases hin:(k:Int)<ps.length
 · have hk' : k<ps.length:=by omega
   have hvp:=hv.ext hE
   obtain ⟨⟨x,y⟩,hxy⟩ : ∃ p,ps.getD k (0,0)=p:=⟨_,rfl⟩
   have hmem:(x,y)∈ps:=hxy▸Ji hk'
   have hr:=hx _ hmem
   simp only at hr
   have hdr:=drop_getD hk'
   rw [hxy] at hdr
   rw [hdr] at hmul
   obtain ⟨H,hH⟩ : ∃ H,H=hp++[fC x y]:=⟨_,rfl⟩
   have c5:H[hp.length]? = some (fC x y):=by rw [hH]; exact Zr _ _
   have hEH:Ext (fun _=>False) h H:=by rw [hH]; exact hE.trans (Ext.app _ _ _)
   refine Zg fun N4 hN4=>?_
   simp (maxSteps:=2000000) only [↓Za,↓Zb,↓Zc,vup,cond_true,cond_false,aop,Zf,ev,sput,Ze,Yf,Yi,Nat.reduceBEq,hin]
   refine hN4 [(0,v),(2,.bool false),(3,Zd (m:Nat)),(7,v),(8,Zd ps.length),(9,Zd (k:Nat)),(10,.bool true)] _ _ ?_ (by simp (maxSteps:=2000000) only [vup,cond_true,cond_false,Nat.reduceBEq])
   clear hN4
   try clear N4
   refine Zg fun N5 hN5=>?_
   simp (maxSteps:=2000000) only [↓Zn,↓vdn,vup,cond_true,cond_false,Zf,ev,Nat.reduceBEq]
   refine hN5 [(0,v),(2,.bool false),(3,Zd (m:Nat)),(7,v),(8,Zd ps.length),(9,Zd (k:Nat))] _ _ ?_ (by simp (maxSteps:=2000000) only [vup,cond_true,cond_false,Nat.reduceBEq])
   clear hN5
   try clear N5
   refine Zt fun B hB=>?_
   refine Zx ?_
   refine Zg fun N6 hN6=>?_
   simp (maxSteps:=2000000) only [↓Za,↓Zb,↓Zc,vup,cond_true,cond_false,aop,Zf,ev,sput,Ze,Nat.reduceBEq,tyf,hvp.idx el_43 Ub hk',hvp.load Je hk',hxy,Xg,Yg,storeF (Zr hp z0) rfl,set_new]
   rw [← hH]
   refine hN6 [(0,v),(2,.bool false),(3,Zd (m:Nat)),(5,.pointer (some ⟨hp.length,0,none⟩)),(7,v),(8,Zd ps.length),(9,Zd (k:Nat))] _ _ ?_ (by simp (maxSteps:=2000000) only [vup,cond_true,cond_false,Nat.reduceBEq])
   clear hN6
   try clear N6
   have none0:(decide (mult ps≠0)&&ps.all fun p=>decide (p.1≤p.2))=false→∀ e,sget e 2 = .bool false→Q2 .ret e H:=by
    intro h0 e he
    refine hQ2 _ _ _ (hQ _ _ _ ?_)
    simp (maxSteps:=2000000) only [Zf,Zo,Zs,Xn,tup,he]
    rw [h0]
    exact ⟨rfl,hEH⟩
   have cc:Xj prog 112 [.agg #[Zd x,Zd y],.int .i64 10000000000] H (.bool (chB 10000000000 (x,y))):=chance_call (by decide)
   refine Zt fun C hC=>?_
   refine Zg fun N7 hN7=>?_
   simp (maxSteps:=2000000) only [↓Za,↓Zb,↓Zc,vup,List.map_cons,List.map_nil,cond_true,cond_false,aop,Zf,ev,sput,Ze,unK,Nat.reduceBEq,Yn,List.nil_append,List.append_nil,loadF c5]
   refine (cc).mono ?_
   rintro _ H2 ⟨rfl,rfl⟩
   refine hN7 [(0,v),(2,.bool false),(3,Zd (m:Nat)),(5,.pointer (some ⟨hp.length,0,none⟩)),(7,v),(8,Zd ps.length),(9,Zd (k:Nat)),(15,.bool (!chB 10000000000 (x,y)))] _ _ ?_ (by simp (maxSteps:=2000000) only [vup,cond_true,cond_false,Nat.reduceBEq])
   clear hN7
   try clear N7
   refine Zm ?_
   cases hch:chB 10000000000 (x,y) with
   | false =>
     simp (maxSteps:=2000000) only [↓Za,↓Zl,↓Zu,↓Zb,↓Zc,↓vdn,vup,cond_true,cond_false,aop,Zf,Zo,ev,sput,Ze,Nat.reduceBEq]
     refine none0 ?_ _ rfl
     rw [chB_okP] at hch
     rcases Bool.and_eq_false_iff.1 hch with h1 | h1
     · rw [← hmul,mulTo_no h1]; rfl
     · have h2:(ps.all fun p=>decide (p.1≤p.2))=false:=by
        rw [List.all_eq_false]; exact ⟨_,hmem,by simpa using h1⟩
       rw [h2,Bool.and_false]
   | true =>
     simp (maxSteps:=2000000) only [↓Zn,↓vdn,vup,cond_true,cond_false,Zf,ev,Nat.reduceBEq]
     rw [chB_okP,Bool.and_eq_true] at hch
     obtain ⟨hok,hxy1⟩:=hch
     have hxy2:x≤y:=by simpa using hxy1
     have hok':=hok
     simp only [okP,Bool.and_eq_true,decide_eq_true_eq] at hok'
     obtain ⟨n,hn⟩ : ∃ n:Nat,y=n:=⟨y.toNat,by omega⟩
     subst hn
     have hn0:0<n:=by omega
     have hgp:=Nat.gcd_pos_of_pos_left n hm0
     have hg0 : ¬ ((Nat.gcd m n:Nat):Int)=0:=by omega
     have q1:=quoD (x:=n) (show n<9223372036854775808 by omega) (Nat.gcd_dvd_right m n)
     have hd0:0<n / Nat.gcd m n:=Nat.div_pos (Nat.le_of_dvd hn0 (Nat.gcd_dvd_right _ _)) hgp
     have hd0' : ¬ ((n / Nat.gcd m n:Nat):Int)=0:=by omega
     have q2:quoV .i64 10000000000 ((n / Nat.gcd m n:Nat):Int)=((10000000000 / (n / Nat.gcd m n):Nat):Int):=by
      generalize n / Nat.gcd m n=d
      have h5:(10000000000:Int).tdiv ((d:Nat):Int)=((10000000000 / d:Nat):Int):=by rw [Int.tdiv_eq_ediv_of_nonneg (by omega)]; rfl
      have h6:=Nat.div_le_self 10000000000 d
      rw [quoV,h5]
      generalize 10000000000 / d=z at h6 ⊢
      exact Uh (by omega) (by omega)
     have el:Nat.lcm m n=m*(n / Nat.gcd m n):=by rw [Nat.lcm,Nat.mul_div_assoc _ (Nat.gcd_dvd_right _ _)]
     have hgt:=lcm_gt' hm0 hn0
     have gc:Xj prog 75 [Zd (m:Nat),Zd (n:Nat)] H2 _:=gcd_call (a:=(m:Int)) (b:=(n:Int)) (.inl (by omega)) (by omega)
     rw [Int.natAbs_natCast,Int.natAbs_natCast] at gc
     rw [mulTo] at hmul
     refine hC [(0,v),(2,.bool false),(3,Zd (m:Nat)),(5,.pointer (some ⟨hp.length,0,none⟩)),(7,v),(8,Zd ps.length),(9,Zd (k:Nat))] _ _ ?_ (by simp (maxSteps:=2000000) only [vup,cond_true,cond_false,Nat.reduceBEq])
     clear hC
     try clear C
     refine Zg fun N8 hN8=>?_
     simp only [q66_7]
     refine Yx [(5,1)] (by kernel_rfl) (by kernel_rfl) (by kernel_rfl) (by kernel_rfl) ?_
     simp (maxSteps:=2000000) only [↓Zz,↓vdn,vup,List.map_cons,List.map_nil,cond_true,cond_false,aop,Zf,ev,sput,Ze,Yf,Yi,Nat.reduceBEq,Nat.reduceAdd,tyf,fA1,loadF1 c5,Yn,List.nil_append,List.append_nil]
     refine ⟨_,_,gc,rfl,?_⟩
     simp (maxSteps:=2000000) only [vup,ne_eq,hg0,not_false_eq_true,q1]
     refine hN8 [(0,v),(2,.bool false),(3,Zd (m:Nat)),(5,.pointer (some ⟨hp.length,0,none⟩)),(6,Zd (n / Nat.gcd m n:Nat)),(7,v),(8,Zd ps.length),(9,Zd (k:Nat))] _ _ ?_ (by simp (maxSteps:=2000000) only [vup,cond_true,cond_false,Nat.reduceBEq])
     clear hN8
     try clear N8
     refine Zg fun N9 hN9=>?_
     by_cases hbig:10000000000<Nat.lcm m n
     · have hb2:(m:Int) > ((10000000000 / (n / Nat.gcd m n):Nat):Int):=by have:=hgt.2 hbig; omega
       rw [if_neg (by rw [Int.natAbs_natCast]; omega)] at hmul
       simp (maxSteps:=2000000) only [↓Za,↓Zl,↓Zu,↓Zb,↓Zc,↓vdn,vup,cond_true,cond_false,aop,Zf,Zo,ev,sput,Ze,Yf,Yi,Nat.reduceBEq,ne_eq,hd0',not_false_eq_true,q2,hb2]
       exact none0 (by rw [← hmul]; rfl) _ rfl
     · have hb2 : ¬ (m:Int) > ((10000000000 / (n / Nat.gcd m n):Nat):Int):=by
        intro hc
        exact hbig (hgt.1 (by omega))
       rw [if_pos ⟨hok,by rw [Int.natAbs_natCast]; omega⟩,Int.natAbs_natCast] at hmul
       have m1:mulV .i64 (m:Int) ((n / Nat.gcd m n:Nat):Int)=((Nat.lcm m n:Nat):Int):=by
        rw [mulN (by rw [← Int.natCast_mul,← el]; omega),el,Int.natCast_mul]
       simp (maxSteps:=2000000) only [↓Za,↓Zn,↓Zl,↓Zb,↓Zc,↓vdn,vup,cond_true,cond_false,aop,Zf,ev,sput,Ze,Yf,Yi,Nat.reduceBEq,ne_eq,hd0',not_false_eq_true,q2,hb2]
       refine hN9 [(0,v),(2,.bool false),(3,Zd (m:Nat)),(5,.pointer (some ⟨hp.length,0,none⟩)),(6,Zd (n / Nat.gcd m n:Nat)),(7,v),(8,Zd ps.length),(9,Zd (k:Nat))] _ _ ?_ (by simp (maxSteps:=2000000) only [vup,cond_true,cond_false,Nat.reduceBEq])
       clear hN9
       try clear N9
       refine Zm ?_
       simp (maxSteps:=2000000) only [↓Za,↓Zb,↓Zc,vup,cond_true,cond_false,aop,Zf,Zo,ev,sput,Ze,Yf,Yi,Nat.reduceBEq,m1]
       refine hB [(0,v),(2,.bool false),(3,Zd (Nat.lcm m n:Nat)),(6,Zd (n / Nat.gcd m n:Nat)),(7,v),(8,Zd ps.length),(9,Zd (k:Nat))] _ _ ?_ (by simp (maxSteps:=2000000) only [vup,cond_true,cond_false,Nat.reduceBEq])
       clear hB
       try clear B
       refine Zm ?_
       simp (maxSteps:=2000000) only [↓Za,↓Zb,↓Zc,vup,cond_true,cond_false,aop,ev,sput,Ze,Yf,Yi,Nat.reduceBEq,add1 (show k<9223372036854775807 by omega)]
       refine hQ2 _ _ _ ⟨(k+1,Nat.lcm m n,H2),⟨hk',Nat.lcm_pos hm0 hn0,by simp only; omega,hmul,?_,hEH⟩,by simp only; omega,by simp (maxSteps:=2000000) only [vup,cond_true,cond_false,Nat.reduceBEq],rfl⟩
       intro p hp'
       simp only [take_snoc (d:=((0,0):Int×Int)) hk',hxy] at hp'
       rcases List.mem_append.1 hp' with h3 | h3
       · exact hall p h3
       · simp at h3; subst h3; simp only; omega
 · obtain rfl:k=ps.length:=by omega
   rw [List.drop_length,mulTo] at hmul
   rw [List.take_length] at hall
   refine Zg fun N10 hN10=>?_
   simp (maxSteps:=2000000) only [↓Za,↓Zb,↓Zc,vup,cond_true,cond_false,aop,Zf,ev,sput,Ze,Yf,Yi,Nat.reduceBEq,hin]
   refine hN10 [(0,v),(2,.bool false),(3,Zd (m:Nat)),(7,v),(8,Zd ps.length),(9,Zd ps.length),(10,.bool false)] _ _ ?_ (by simp (maxSteps:=2000000) only [vup,cond_true,cond_false,Nat.reduceBEq])
   clear hN10
   try clear N10
   refine Zg fun N11 hN11=>?_
   simp (maxSteps:=2000000) only [↓Yo,↓vdn,vup,cond_true,cond_false,Zf,ev,Nat.reduceBEq]
   refine hQ2 _ _ _ (hQ _ _ _ ?_)
   simp (maxSteps:=2000000) only [Zf,Zo,Zs,if_true]
   refine hM [(0,v),(2,.bool false),(3,Zd (m:Nat)),(7,v),(8,Zd ps.length),(9,Zd ps.length),(10,.bool false)] _ _ ?_ (by simp (maxSteps:=2000000) only [vup,cond_true,cond_false,Nat.reduceBEq])
   clear hM
   try clear M
   refine Zm ?_
   simp (maxSteps:=2000000) only [↓Za,↓Zl,↓Zu,↓Zb,↓Zc,vup,cond_true,cond_false,aop,Zf,ev,sput,Ze,Nat.reduceBEq,Zs,Xn,tup]
   refine ⟨?_,hE⟩
   have h2:(ps.all fun p=>decide (p.1≤p.2))=true:=by
    rw [List.all_eq_true]; exact fun p hp=>by simp [hall p hp]
   rw [h2,← hmul]
   simp; omega
end Go.Proofs.Tryd.Am.Be
namespace Go.Proofs.Tryd.Am.Be
open Go.Proofs.Tryd.Am
open Go.Am Bq
set_option maxRecDepth 100000
set_option maxHeartbeats 1000000
theorem frV_q {p:Int×Int} (h:ofQ (toQ p)=p):frV p.1 p.2=qV (toQ p):=by
 conv=>lhs; rw [← h]
 rfl
theorem plus_fits [Tabs prog] {h:Zh} {a b:Rat} {k:Int} {N A B:Nat} (hN:0<N) (hN2:N<9223372036854775808) (da:a.den∣N) (db:b.den∣N) (a1 : -(A:Rat)≤a) (a2:a≤A) (b1 : -(B:Rat)≤b) (b2:b≤B)
  (hh:(A+k.natAbs*B)*N<9223372036854775808):Xj prog 124 [qV a,Zd k,qV b] h (qV (a+k*b)):=by
 obtain ⟨x,hx⟩:=rp_of hN da
 obtain ⟨y,hy⟩:=rp_of hN db
 have h1:=hx.bound a1 a2
 have h2:=hy.bound b1 b2
 refine plus_call hx hy ?_ hN2
 rw [Int.natAbs_mul]
 have h3:k.natAbs*y.natAbs≤k.natAbs*(B*N):=Nat.mul_le_mul_left _ h2
 rw [Nat.add_mul,Nat.mul_assoc] at hh
 omega
section
theorem s146_callW [Tabs Tryd.prog] {args:List Value} {h:Zh} {Q:Value→Zh→Prop} (hsz:args.length≤19) (hk:AWS Tryd.prog 19 s146 (Zs Tryd.prog [.tmp 4] Q) (Zp 0 args) h):ACall Tryd.prog 146 args h Q :=
 Yz Tryd.func146 rfl (enters_of Tryd.func146 (by kernel_rfl) rfl) rfl rfl (by decide) s146_strip s146_ok hsz hk
theorem idxF_call [Tabs prog] {h:Zh} {v:Value} {ps:List (Int×Int)} {g:FuncId} {cap:Array Value} {f:Int×Int→Bool} (hv:PairSl h v ps) (hl:ps.length<9223372036854775808)
  (hc : ∀ h',Ext (fun _=>False) h h'→∀ p∈ps,Xj prog g ([frV p.1 p.2]++cap.toList) h' (.bool (f p))):ACall prog 146 [v,.func (.func g) #[] cap] h fun r h'=>h' = h∧∃ i:Int,r=Zd i∧decide (0≤i)=ps.any f:=by
 refine s146_callW (by simp) ?_
 simp only [s146]
 refine Zg fun N1 hN1=>?_
 simp (maxSteps:=2000000) only [↓Za,↓Zb,↓Zc,vup,cond_false,aop,Zf,Zp,ev,sput,Ze,Nat.reduceBEq,Nat.reduceAdd]
 refine hN1 [(0,v),(1,.func (.func g) #[] cap),(4,.int .i64 0)] _ _ ?_ (by simp (maxSteps:=2000000) only [vup,cond_true,cond_false,Nat.reduceBEq])
 clear hN1
 try clear N1
 refine Zt fun Z hZ=>?_
 refine Zg fun N2 hN2=>?_
 simp (maxSteps:=2000000) only [↓Za,↓Zb,↓Zc,vup,List.map_cons,List.map_nil,cond_true,cond_false,aop,Zf,ev,sput,Ze,Zi,Nat.reduceBEq,tyf,hv.len]
 refine hN2 [(0,v),(1,.func (.func g) #[] cap),(4,.int .i64 0),(6,v),(7,Zd ps.length),(8,.int .i64 0)] _ _ ?_ (by simp (maxSteps:=2000000) only [vup,cond_true,cond_false,Nat.reduceBEq])
 clear hN2
 try clear N2
 refine Zx ?_
 refine Zy fun Q hQ=>?_
 refine Xa (γ:=Nat) (fun k=>k≤ps.length∧∀ p∈ps.take k,f p=false)
  (fun k=>([(0,v),(1,.func (.func g) #[] cap),(4,.int .i64 0),(6,v),(7,Zd ps.length),(8,Zd (k:Nat))],h)) (fun k=>ps.length-k) 0 ⟨Nat.zero_le _,by simp⟩ (by simp (maxSteps:=2000000) only [vup,cond_true,cond_false,Nat.reduceBEq,Int.natCast_zero]) rfl ?_
 rintro k ⟨hk,hall⟩
 refine Zy fun Q2 hQ2=>?_
 simp only [l146_0]
 by_cases hin:(k:Int)<ps.length
 · have hk' : k<ps.length:=by omega
   obtain ⟨⟨x,y⟩,hxy⟩ : ∃ p,ps.getD k (0,0)=p:=⟨_,rfl⟩
   have hmem:(x,y)∈ps:=hxy▸Ji hk'
   refine Zg fun N3 hN3=>?_
   simp (maxSteps:=2000000) only [↓Za,↓Zb,↓Zc,vup,cond_true,cond_false,aop,Zf,ev,sput,Ze,Yf,Yi,Nat.reduceBEq,hin]
   refine hN3 [(0,v),(1,.func (.func g) #[] cap),(4,.int .i64 0),(6,v),(7,Zd ps.length),(8,Zd (k:Nat)),(9,.bool true)] _ _ ?_ (by simp (maxSteps:=2000000) only [vup,cond_true,cond_false,Nat.reduceBEq])
   clear hN3
   try clear N3
   refine Zg fun N4 hN4=>?_
   simp (maxSteps:=2000000) only [↓Zn,↓vdn,vup,cond_true,cond_false,Zf,ev,Nat.reduceBEq]
   refine hN4 [(0,v),(1,.func (.func g) #[] cap),(4,.int .i64 0),(6,v),(7,Zd ps.length),(8,Zd (k:Nat))] _ _ ?_ (by simp (maxSteps:=2000000) only [vup,cond_true,cond_false,Nat.reduceBEq])
   clear hN4
   try clear N4
   refine Zt fun B hB=>?_
   refine Zx ?_
   refine Zg fun N5 hN5=>?_
   simp (maxSteps:=2000000) only [↓Za,↓Zb,↓Zc,vup,cond_true,cond_false,aop,Zf,ev,sput,Ze,Nat.reduceBEq]
   refine hN5 [(0,v),(1,.func (.func g) #[] cap),(4,.int .i64 0),(5,Zd (k:Nat)),(6,v),(7,Zd ps.length),(8,Zd (k:Nat))] _ _ ?_ (by simp (maxSteps:=2000000) only [vup,cond_true,cond_false,Nat.reduceBEq])
   clear hN5
   try clear N5
   refine Zg fun N6 hN6=>?_
   simp (maxSteps:=2000000) only [↓Za,↓Zb,↓Zc,vup,List.map_cons,List.map_nil,cond_true,cond_false,aop,Zf,ev,sput,Ze,Nat.reduceBEq,hv.idx el_43 Ub hk',hv.load Je hk',hxy,Yn,List.nil_append]
   refine (show Xj prog g ([.agg #[Zd x,Zd y]]++cap.toList) h (.bool (f (x,y))) from hc h (Ext.refl _ _) _ hmem).mono ?_
   rintro _ h ⟨rfl,rfl⟩
   refine hN6 [(0,v),(1,.func (.func g) #[] cap),(4,.int .i64 0),(5,Zd (k:Nat)),(6,v),(7,Zd ps.length),(8,Zd (k:Nat)),(16,.bool (f (x,y)))] _ _ ?_ (by simp (maxSteps:=2000000) only [vup,cond_true,cond_false,Nat.reduceBEq])
   clear hN6
   try clear N6
   refine Zm ?_
   cases hf:f (x,y) with
   | true =>
     simp (maxSteps:=2000000) only [↓Za,↓Zl,↓Zu,↓Zb,↓Zc,↓vdn,vup,cond_true,cond_false,aop,Zf,Zo,ev,sput,Ze,Nat.reduceBEq]
     refine hQ2 _ _ _ (hQ _ _ _ ?_)
     simp (maxSteps:=2000000) only [vup,cond_true,cond_false,Zf,Zo,Nat.reduceBEq,Zs,Xn,tup]
     exact ⟨_,rfl,by rw [show ps.any f=true from List.any_eq_true.2 ⟨_,hmem,hf⟩]; simp⟩
   | false =>
     simp (maxSteps:=2000000) only [↓Zn,↓vdn,vup,cond_true,cond_false,Zf,Zo,ev,Nat.reduceBEq]
     refine hB [(0,v),(1,.func (.func g) #[] cap),(4,.int .i64 0),(6,v),(7,Zd ps.length),(8,Zd (k:Nat))] _ _ ?_ (by simp (maxSteps:=2000000) only [vup,cond_true,cond_false,Nat.reduceBEq])
     clear hB
     try clear B
     refine Zm ?_
     simp (maxSteps:=2000000) only [↓Za,↓Zb,↓Zc,vup,cond_true,cond_false,aop,ev,sput,Ze,Yf,Yi,Nat.reduceBEq,add1 (show k<9223372036854775807 by omega)]
     refine hQ2 _ _ _ ⟨k+1,⟨hk',fun p hp=>?_⟩,by omega,by simp (maxSteps:=2000000) only [vup,cond_true,cond_false,Nat.reduceBEq],rfl⟩
     rw [take_snoc (d:=((0,0):Int×Int)) hk',hxy] at hp
     rcases List.mem_append.1 hp with h3 | h3
     · exact hall p h3
     · simp at h3; subst h3; exact hf
 · obtain rfl:k=ps.length:=by omega
   refine Zg fun N7 hN7=>?_
   simp (maxSteps:=2000000) only [↓Za,↓Zb,↓Zc,vup,cond_true,cond_false,aop,Zf,ev,sput,Ze,Yf,Yi,Nat.reduceBEq,hin]
   refine hN7 [(0,v),(1,.func (.func g) #[] cap),(4,.int .i64 0),(6,v),(7,Zd ps.length),(8,Zd ps.length),(9,.bool false)] _ _ ?_ (by simp (maxSteps:=2000000) only [vup,cond_true,cond_false,Nat.reduceBEq])
   clear hN7
   try clear N7
   refine Zg fun N8 hN8=>?_
   simp (maxSteps:=2000000) only [↓Yo,↓vdn,vup,cond_true,cond_false,Zf,ev,Nat.reduceBEq]
   refine hQ2 _ _ _ (hQ _ _ _ ?_)
   simp (maxSteps:=2000000) only [Zf,Zo,Zs,if_true]
   refine hZ [(0,v),(1,.func (.func g) #[] cap),(4,.int .i64 0),(6,v),(7,Zd ps.length),(8,Zd ps.length),(9,.bool false)] _ _ ?_ (by simp (maxSteps:=2000000) only [vup,cond_true,cond_false,Nat.reduceBEq])
   clear hZ
   try clear Z
   refine Zm ?_
   simp (maxSteps:=2000000) only [↓Za,↓Zl,↓Zu,↓Zb,↓Zc,vup,cond_true,cond_false,aop,Zf,ev,sput,Ze,Nat.reduceBEq,Zs,Xn,tup]
   rw [List.take_length] at hall
   exact ⟨_,rfl,by rw [show ps.any f=false from List.any_eq_false.2 fun p hp=>by simp [hall p hp]]; decide⟩
end
theorem s118_callW [Tabs Tryd.prog] {args:List Value} {h:Zh} {Q:Value→Zh→Prop} (hsz:args.length≤9) (hk:AWS Tryd.prog 9 s118 (Zs Tryd.prog [.tmp 4] Q) (Zp 0 args) h):ACall Tryd.prog 118 args h Q :=
 Yz Tryd.func118 rfl (enters_of Tryd.func118 (by kernel_rfl) rfl) rfl rfl (by decide) s118_strip s118_ok hsz hk
theorem hasF_call [Tabs prog] {h:Zh} {v:Value} {ps:List (Int×Int)} {g:FuncId} {cap:Array Value} {f:Int×Int→Bool} (hv:PairSl h v ps) (hl:ps.length<9223372036854775808)
  (hc : ∀ h',Ext (fun _=>False) h h'→∀ p∈ps,Xj prog g ([frV p.1 p.2]++cap.toList) h' (.bool (f p))):Xj prog 118 [v,.func (.func g) #[] cap] h (.bool (ps.any f)):=by
 refine s118_callW (by simp) ?_
 refine Zm ?_
 simp (maxSteps:=2000000) only [s118,↓Za,↓Zl,↓Zu,↓Zb,↓Zc,vup,List.map_cons,List.map_nil,cond_true,cond_false,aop,Zf,Zp,ev,sput,Ze,Yf,Yi,Nat.reduceBEq,Nat.reduceAdd,Zs,Xn,tup,tyf,Yn,List.nil_append,List.append_nil]
 refine (idxF_call hv hl hc).mono ?_
 rintro _ h1 ⟨rfl,i,rfl,hi⟩
 simp (maxSteps:=2000000) only [vup,hi]
theorem any_not (f:Int×Int→Bool) (ps:List (Int×Int)):(!ps.any fun p=>!f p)=ps.all f:=by
 rw [List.all_eq_not_any_not]
theorem s113_callW [Tabs Tryd.prog] {args:List Value} {h:Zh} {Q:Value→Zh→Prop} (hsz:args.length≤26) (hk:AWS Tryd.prog 26 s113 (Zs Tryd.prog [.cell 4 45] Q) (Zp 0 args) h):ACall Tryd.prog 113 args h Q :=
 Yz Tryd.func113 rfl (enters_of Tryd.func113 (by kernel_rfl) rfl) rfl rfl (by decide) s113_strip s113_ok hsz hk
theorem of_call [Tabs prog] {h:Zh} {v:Value} {evt N:Nat} {ps:List (Int×Int)} (hv:PairSl h v ps) (hl:ps.length≤100) (hvl:Vld ps) (hev:evt<9223372036854775808) (hN:0<N) (hN2:N≤10000000000000)
  (hq : ∀ k,k<ps.length→0≤fq ps k∧fq ps k≤1∧(fq ps k).den∣N):Xj prog 113 [v,Zd (evt:Nat)] h (qV (Zv (inEv (fq ps) evt) ps.length)):=by
 have hq2 : ∀ k,k<ps.length→0≤inEv (fq ps) evt k∧inEv (fq ps) evt k≤1∧(inEv (fq ps) evt k).den∣N:=fun k hk=>by
  rw [inEv]; split
  · exact hq k hk
  · exact ⟨Rat.le_refl,by decide,Nat.one_dvd _⟩
 have hs : ∀ k,k≤ps.length→0≤Zv (inEv (fq ps) evt) k∧Zv (inEv (fq ps) evt) k≤(100:Nat)∧(Zv (inEv (fq ps) evt) k).den∣N:=fun k hk=>by
  refine ⟨sumTo_nonneg fun i hi=>(hq2 i (by omega)).1,?_,sumTo_den hN fun i hi=>(hq2 i (by omega)).2.2⟩
  have : ∀ j,j≤k→Zv (inEv (fq ps) evt) j≤(j:Nat):=by
   intro j
   induction j with
   | zero=>intro _; exact Rat.le_refl
   | succ j ih =>
     intro hj
     have h1:=ih (by omega)
     have h2:=(hq2 j (by omega)).2.1
     rw [Zv]; push_cast; grind
  refine Rat.le_trans (this k (Nat.le_refl _)) ?_
  exact_mod_cast (show k≤100 by omega)
 refine ACall.forget (low_frV _ _) ?_
 refine s113_callW (by simp) ?_
 simp only [s113]
 refine Zg fun N9 hN9=>?_
 simp (maxSteps:=2000000) only [↓Za,↓Zb,↓Zc,vup,cond_false,aop,Zf,Zp,sput,Ze,Nat.reduceBEq,Nat.reduceAdd,tyf,Xg,Yg]
 refine hN9 [(0,v),(1,Zd (evt:Nat)),(4,.pointer (some ⟨h.length,0,none⟩))] _ _ ?_ (by simp (maxSteps:=2000000) only [vup,cond_true,cond_false,Nat.reduceBEq])
 clear hN9
 try clear N9
 refine Zg fun N10 hN10=>?_
 simp (maxSteps:=2000000) only [↓Za,↓Zb,↓Zc,vup,List.map_cons,List.map_nil,cond_true,cond_false,aop,Zf,ev,sput,Ze,Nat.reduceBEq,Yn,List.nil_append,List.append_nil]
 refine ((show Xj prog 72 [.int .i64 0] (h++[z0]) (qV ((0:Int):Rat)) from Uo)).mono ?_
 rintro _ H1 ⟨rfl,hH1⟩
 have h1l:H1.length=h.length+1:=by rw [hH1]; simp
 have q0:qV ((0:Int):Rat) = .agg #[Zd 0,Zd 1]:=rfl
 have n5:(H1++[Blk.cells [.int .i64 0,.int .i64 0] 45 false])[H1.length]? = some z0:=Zr _ _
 simp (maxSteps:=2000000) only [tyf,Xg,Yg,q0,storeF n5 rfl,set_new]
 rw [h1l]
 obtain ⟨H0,hH0⟩ : ∃ H0,H0=H1++[fC 0 1]:=⟨_,rfl⟩
 have d4:H0[h.length]? = some z0:=by rw [hH0,hH1]; exact b2_0 ..
 have d5:H0[h.length+1]? = some (fC 0 1):=by rw [hH0,hH1]; exact b2_1 ..
 have dE:Ext (fun _=>False) h H0:=by rw [hH0,hH1]; exact e2 ..
 rw [← hH0]
 refine hN10 [(0,v),(1,Zd (evt:Nat)),(4,.pointer (some ⟨h.length,0,none⟩)),(5,.pointer (some ⟨h.length+1,0,none⟩))] _ _ ?_ (by simp (maxSteps:=2000000) only [vup,cond_true,cond_false,Nat.reduceBEq])
 clear hN10
 try clear N10
 refine Zt fun Z hZ=>?_
 refine Zg fun N11 hN11=>?_
 simp (maxSteps:=2000000) only [↓Za,↓Zb,↓Zc,vup,List.map_cons,List.map_nil,cond_true,cond_false,aop,Zf,ev,sput,Ze,Zi,Nat.reduceBEq,tyf,hv.len]
 refine hN11 [(0,v),(1,Zd (evt:Nat)),(4,.pointer (some ⟨h.length,0,none⟩)),(5,.pointer (some ⟨h.length+1,0,none⟩)),(9,v),(10,Zd ps.length),(11,.int .i64 0)] _ _ ?_ (by simp (maxSteps:=2000000) only [vup,cond_true,cond_false,Nat.reduceBEq])
 clear hN11
 try clear N11
 refine Zx ?_
 refine Zy fun Q hQ=>?_
 refine Xa (γ:=Nat×Zh) (fun s=>s.1≤ps.length∧Ext (fun _=>False) h s.2∧s.2[h.length]? = some z0∧s.2[h.length+1]? = some (fC (Zv (inEv (fq ps) evt) s.1).num (Zv (inEv (fq ps) evt) s.1).den))
  (fun s=>([(0,v),(1,Zd (evt:Nat)),(4,.pointer (some ⟨h.length,0,none⟩)),(5,.pointer (some ⟨h.length+1,0,none⟩)),(9,v),(10,Zd ps.length),(11,Zd (s.1:Nat))],s.2)) (fun s=>ps.length-s.1) (0,H0) ⟨Nat.zero_le _,dE,d4,d5⟩ (by simp (maxSteps:=2000000) only [vup,cond_true,cond_false,Nat.reduceBEq,Int.natCast_zero]) rfl ?_
 rintro ⟨k,hp⟩ ⟨hk,hE,k4,k5⟩
 simp only at hk hE k4 k5
 refine Zy fun Q2 hQ2=>?_
 simp only [l113_0]
 by_cases hin:(k:Int)<ps.length
 · have hk' : k<ps.length:=by omega
   have hvp:=hv.ext hE
   obtain ⟨⟨x,y⟩,hxy⟩ : ∃ p,ps.getD k (0,0)=p:=⟨_,rfl⟩
   have hmem:(x,y)∈ps:=hxy▸Ji hk'
   have hxq:=frV_q (hvl _ hmem)
   have hfq:fq ps k=toQ (x,y):=by rw [fq,hxy]
   have ht:=testV (y:=k) hev
   obtain ⟨s1,s2,s3⟩:=hs k hk
   obtain ⟨t1,t2,t3⟩:=hq k hk'
   have hnext:Zv (inEv (fq ps) evt) (k+1)=Zv (inEv (fq ps) evt) k+if evt.testBit k then fq ps k else 0:=rfl
   obtain ⟨H,hH⟩ : ∃ H,H=hp++[fC x y]:=⟨_,rfl⟩
   have c7:H[hp.length]? = some (fC x y):=by rw [hH]; exact Zr _ _
   have c4:H[h.length]? = some z0:=by rw [hH]; exact Yp k4 _
   have c5:H[h.length+1]? = some (fC (Zv (inEv (fq ps) evt) k).num (Zv (inEv (fq ps) evt) k).den):=by rw [hH]; exact Yp k5 _
   have hEH:Ext (fun _=>False) h H:=by rw [hH]; exact hE.trans (Ext.app _ _ _)
   refine Zg fun N12 hN12=>?_
   simp (maxSteps:=2000000) only [↓Za,↓Zb,↓Zc,vup,cond_true,cond_false,aop,Zf,ev,sput,Ze,Yf,Yi,Nat.reduceBEq,hin]
   refine hN12 [(0,v),(1,Zd (evt:Nat)),(4,.pointer (some ⟨h.length,0,none⟩)),(5,.pointer (some ⟨h.length+1,0,none⟩)),(9,v),(10,Zd ps.length),(11,Zd (k:Nat)),(12,.bool true)] _ _ ?_ (by simp (maxSteps:=2000000) only [vup,cond_true,cond_false,Nat.reduceBEq])
   clear hN12
   try clear N12
   refine Zg fun N13 hN13=>?_
   simp (maxSteps:=2000000) only [↓Zn,↓vdn,vup,cond_true,cond_false,Zf,ev,Nat.reduceBEq]
   refine hN13 [(0,v),(1,Zd (evt:Nat)),(4,.pointer (some ⟨h.length,0,none⟩)),(5,.pointer (some ⟨h.length+1,0,none⟩)),(9,v),(10,Zd ps.length),(11,Zd (k:Nat))] _ _ ?_ (by simp (maxSteps:=2000000) only [vup,cond_true,cond_false,Nat.reduceBEq])
   clear hN13
   try clear N13
   refine Zt fun B hB=>?_
   refine Zx ?_
   refine Zg fun N14 hN14=>?_
   simp (maxSteps:=2000000) only [↓Za,↓Zb,↓Zc,vup,cond_true,cond_false,aop,Zf,ev,sput,Ze,Nat.reduceBEq,tyf,hvp.idx el_122 Ub hk',hvp.load Je hk',hxy,Xg,Yg,storeF (Zr hp z0) rfl,set_new]
   rw [← hH]
   refine hN14 [(0,v),(1,Zd (evt:Nat)),(4,.pointer (some ⟨h.length,0,none⟩)),(5,.pointer (some ⟨h.length+1,0,none⟩)),(6,Zd (k:Nat)),(7,.pointer (some ⟨hp.length,0,none⟩)),(9,v),(10,Zd ps.length),(11,Zd (k:Nat))] _ _ ?_ (by simp (maxSteps:=2000000) only [vup,cond_true,cond_false,Nat.reduceBEq])
   clear hN14
   try clear N14
   have fin : ∀ e h2,Ext (fun _=>False) h h2→h2[h.length]? = some z0→h2[h.length+1]? = some (fC (Zv (inEv (fq ps) evt) (k+1)).num (Zv (inEv (fq ps) evt) (k+1)).den)→ELe e [(0,v),(1,Zd (evt:Nat)),(4,.pointer (some ⟨h.length,0,none⟩)),(5,.pointer (some ⟨h.length+1,0,none⟩)),(9,v),(10,Zd ps.length),(11,Zd (k:Nat))]→B e h2:=by
    intro e h2 g1 g2 g3 he
    refine hB _ _ _ ?_ he
    refine Zm ?_
    simp (maxSteps:=2000000) only [↓Za,↓Zb,↓Zc,vup,cond_true,cond_false,aop,ev,sput,Ze,Yf,Yi,Nat.reduceBEq,add1 (show k<9223372036854775807 by omega)]
    exact hQ2 _ _ _ ⟨(k+1,h2),⟨hk',g1,g2,g3⟩,by simp only; omega,by simp (maxSteps:=2000000) only [vup,cond_true,cond_false,Nat.reduceBEq],rfl⟩
   refine Zg fun N15 hN15=>?_
   simp (maxSteps:=2000000) only [↓Za,↓Zb,↓Zc,vup,cond_true,cond_false,aop,Zf,ev,sput,Ze,Yf,Yi,Nat.reduceBEq,ht,beq1]
   refine hN15 [(0,v),(1,Zd (evt:Nat)),(4,.pointer (some ⟨h.length,0,none⟩)),(5,.pointer (some ⟨h.length+1,0,none⟩)),(6,Zd (k:Nat)),(7,.pointer (some ⟨hp.length,0,none⟩)),(9,v),(10,Zd ps.length),(11,Zd (k:Nat)),(20,.bool (evt.testBit k))] _ _ ?_ (by simp (maxSteps:=2000000) only [vup,cond_true,cond_false,Nat.reduceBEq])
   clear hN15
   try clear N15
   refine Zm ?_
   cases hbit:evt.testBit k with
   | false =>
     rw [hbit,if_neg (by decide),Rat.add_zero] at hnext
     simp (maxSteps:=2000000) only [↓Zn,↓vdn,vup,cond_true,cond_false,Zf,Zo,ev,Nat.reduceBEq]
     exact fin _ _ hEH c4 (by rw [hnext]; exact c5) (by simp (maxSteps:=2000000) only [vup,cond_true,cond_false,Nat.reduceBEq])
   | true =>
     rw [hbit,if_pos rfl] at hnext
     have pl:=plus_fits (h:=H) (k:=1) (A:=100) (B:=1) hN (by omega) s3 t3 (Rat.le_trans (by decide) s1) s2 (Rat.le_trans (by decide) t1) t2 (by simp; omega)
     rw [show (((1:Int)):Rat)=1 from rfl,Rat.one_mul,← hnext,hfq,← hxq] at pl
     obtain ⟨q,hqq⟩ : ∃ q,Zv (inEv (fq ps) evt) (k+1)=q:=⟨_,rfl⟩
     rw [hqq] at pl fin
     obtain ⟨s,hss⟩ : ∃ s,Zv (inEv (fq ps) evt) k=s:=⟨_,rfl⟩
     rw [hss] at pl c5
     simp (maxSteps:=2000000) only [↓Za,↓Zb,↓Zc,↓vdn,vup,List.map_cons,List.map_nil,cond_true,cond_false,aop,Zf,Zo,ev,sput,Ze,Nat.reduceBEq,loadF c5,loadF c7,Yn,List.nil_append,List.append_nil]
     refine (show Xj prog 124 [.agg #[Zd s.num,Zd s.den],Zd 1,.agg #[Zd x,Zd y]] H (qV q) from pl).mono ?_
     rintro _ H ⟨rfl,rfl⟩
     simp (maxSteps:=2000000) only [qV,frV,storeF c5 rfl]
     refine fin _ _ (hEH.set_ge (by omega) _) (by rw [List.getElem?_set_ne (by omega)]; exact c4) (Xf (Yb c5) _) (by simp (maxSteps:=2000000) only [vup,cond_true,cond_false,Nat.reduceBEq])
 · obtain rfl:k=ps.length:=by omega
   refine Zg fun N16 hN16=>?_
   simp (maxSteps:=2000000) only [↓Za,↓Zb,↓Zc,vup,cond_true,cond_false,aop,Zf,ev,sput,Ze,Yf,Yi,Nat.reduceBEq,hin]
   refine hN16 [(0,v),(1,Zd (evt:Nat)),(4,.pointer (some ⟨h.length,0,none⟩)),(5,.pointer (some ⟨h.length+1,0,none⟩)),(9,v),(10,Zd ps.length),(11,Zd ps.length),(12,.bool false)] _ _ ?_ (by simp (maxSteps:=2000000) only [vup,cond_true,cond_false,Nat.reduceBEq])
   clear hN16
   try clear N16
   refine Zg fun N17 hN17=>?_
   simp (maxSteps:=2000000) only [↓Yo,↓vdn,vup,cond_true,cond_false,Zf,ev,Nat.reduceBEq]
   refine hQ2 _ _ _ (hQ _ _ _ ?_)
   simp (maxSteps:=2000000) only [Zf,Zo,Zs,if_true]
   refine hZ [(0,v),(1,Zd (evt:Nat)),(4,.pointer (some ⟨h.length,0,none⟩)),(5,.pointer (some ⟨h.length+1,0,none⟩)),(9,v),(10,Zd ps.length),(11,Zd ps.length),(12,.bool false)] _ _ ?_ (by simp (maxSteps:=2000000) only [vup,cond_true,cond_false,Nat.reduceBEq])
   clear hZ
   try clear Z
   obtain ⟨q,hqq⟩ : ∃ q,Zv (inEv (fq ps) evt) ps.length=q:=⟨_,rfl⟩
   rw [hqq] at k5 ⊢
   refine Zm ?_
   simp (maxSteps:=2000000) only [↓Za,↓Zl,↓Zu,↓Zb,↓Zc,vup,cond_true,cond_false,aop,Zf,ev,sput,Ze,Nat.reduceBEq,Zs,Xn,tup,loadF k5,storeF k4 rfl,loadF (Xf (Yb k4) _)]
   exact ⟨rfl,hE.set_ge (Nat.le_refl _) _⟩
end Go.Proofs.Tryd.Am.Be
namespace Go.Proofs.Tryd.Am.Be
open Go.Proofs.Tryd.Am
open Go.Am Bq
set_option maxRecDepth 100000
set_option maxHeartbeats 1000000
theorem qeq (a b:Rat):(([a.num,(a.den:Int)]:List Int)==[b.num,(b.den:Int)])=decide (a=b):=by
 rw [Bool.eq_iff_iff,beq_iff_eq,decide_eq_true_eq,List.cons.injEq,List.cons.injEq]
 constructor
 · rintro ⟨h1,h2,_⟩; exact Rat.ext h1 (by omega)
 · rintro rfl; exact ⟨rfl,rfl,rfl⟩
theorem shl1 {n:Nat} (h:n≤62):shlV .i64 1 n=2 ^ n:=by
 have h2:2 ^ n≤2 ^ 62:=Nat.pow_le_pow_right (by decide) h
 have:=shlV_nat (a:=1) (y:=n) (by omega) (by omega)
 simpa using this
theorem Vm (n:Nat):((2 ^ n:Nat):Int)=2 ^ n:=by simp
theorem pow_le {n:Nat} (h:n≤62):2 ^ n≤4611686018427387904:=Nat.pow_le_pow_right (n:=2) (j:=62) (by decide) h
theorem all_worlds {n:Nat} (h:n≤62):subV .i64 (2 ^ n) 1=((2 ^ n-1:Nat):Int):=by
 have:=pow_le h
 have:=Nat.two_pow_pos n
 rw [← Vm,subV_id (by omega) (by omega)]; omega
theorem inEv_all {f:Nat→Rat} {n:Nat}:Zv (inEv f (2 ^ n-1)) n=Zv f n:=Zk fun i hi=>by
 rw [inEv,Nat.testBit_two_pow_sub_one]; simp [hi]
end Go.Proofs.Tryd.Am.Be
namespace Bq
def bitQ (e w:Nat):Rat:=if e.testBit w then 1 else 0
def Zj (set k:Nat):List Nat:=(List.range k).filter fun w=>set.testBit w
def Xd (n set:Nat):List Nat:=Zj set n
theorem Ws (set k:Nat):Zj set (k+1)=Zj set k++if set.testBit k then [k] else []:=by
 rw [Zj,List.range_succ,List.filter_append]
 simp only [List.filter_cons,List.filter_nil,Zj]
theorem Uf (set k:Nat):(Zj set k).length≤k:=by
 have:=List.length_filter_le (fun w=>set.testBit w) (List.range k)
 rwa [List.length_range] at this
theorem worldsTo_lt {set k w:Nat} (h:w∈Zj set k):w<k∧set.testBit w=true:=by
 obtain ⟨h1,h2⟩:=List.mem_filter.1 h
 exact ⟨List.mem_range.1 h1,h2⟩
theorem worldsN_pos {n set:Nat} (h1:1≤set) (h2:set<2 ^ n):1≤(Xd n set).length:=by
 rcases Nat.eq_zero_or_pos (Xd n set).length with h | h
 · exfalso
   have h0:=List.eq_nil_of_length_eq_zero h
   have:set=0:=by
    apply Nat.eq_of_testBit_eq
    intro i
    rw [Nat.zero_testBit]
    cases hb:set.testBit i with
    | false=>rfl
    | true =>
      have hi:i<n:=by
       rcases Nat.lt_or_ge i n with h | h
       · exact h
       · rw [Nat.testBit_lt_two_pow (Nat.lt_of_lt_of_le h2 (Nat.pow_le_pow_right (by decide) h))] at hb; cases hb
      have hm:i∈Xd n set:=List.mem_filter.2 ⟨List.mem_range.2 hi,hb⟩
      rw [h0] at hm; cases hm
   omega
 · exact h
def sysB (n:Nat) (l:List (Int×Int)) (ws:List Nat):Wp:=fun i c =>
 if i=0 then (if c<ws.length then bitQ (2 ^ n-1) (ws.getD c 0) else 1)
 else (if c<ws.length then bitQ (l.getD (i-1) (0,0)).1.toNat (ws.getD c 0) else Rat.divInt (l.getD (i-1) (0,0)).2 12)
def Wr (n:Nat) (ws:List Nat) (x:List Rat):Nat→List Rat
 | 0=>List.replicate n 0
 | k+1=>(Wr n ws x k).set (ws.getD k 0) (x.getD k 0)
theorem Uw (n:Nat) (ws:List Nat) (x:List Rat) : ∀ k,(Wr n ws x k).length=n
 | 0=>by simp [Wr]
 | k+1=>by rw [Wr,List.length_set]; exact Uw n ws x k
def Jb (n:Nat) (l:List (Int×Int)) (set:Nat):Option (List Rat) :=
 (Wu (l.length+1) (Xd n set).length (sysB n l (Xd n set))).bind fun x=>if x.any (fun q=>decide (q<0)) then none else some (Wr n (Xd n set) x (Xd n set).length)
def Ve (n:Nat) (l:List (Int×Int)):Nat→List (List Rat)
 | 0=>[]
 | s+1=>Ve n l s++(Jb n l (s+1)).toList
def Wl (n:Nat) (l:List (Int×Int)):List (List Rat):=Ve n l (2 ^ n-1)
theorem cornersTo_len (n:Nat) (l:List (Int×Int)) : ∀ s,(Ve n l s).length≤s
 | 0=>Nat.le_refl _
 | s+1=>by
   have:=cornersTo_len n l s
   rw [Ve,List.length_append]
   cases Jb n l (s+1) <;> simp <;> omega
theorem solveT_len {m k:Nat} {T:Wp} {x:List Rat} (h:Wu m k T=some x):x.length=k:=by
 rw [Wu] at h
 cases hr:Xp m T k with
 | none=>rw [hr] at h; cases h
 | some S =>
   rw [hr] at h
   simp only [Option.bind_some] at h
   split at h
   · cases h
   · cases h; simp
def TameAll (n:Nat) (l:List (Int×Int)):Prop:=∀ set,1≤set→set<2 ^ n→∀ j S,j≤(Xd n set).length→Xp (l.length+1) (sysB n l (Xd n set)) j=some S→Tame (l.length+1) (Xd n set).length S
/-! A decision, for one input. -/
def tameB (D m k:Nat) (T:Wp):Bool:=(List.range m).all fun i=>(List.range (k+1)).all fun c=>decide ((T i c).den∣D)&&decide ((T i c).num.natAbs*(D / (T i c).den)≤1073741824)
theorem tame_of {D m k:Nat} {T:Wp} (hD:0<D) (hD2:D≤1073741824) (h:tameB D m k T=true):Tame m k T:=by
 refine ⟨D,hD,hD2,fun i c hi hc=>?_⟩
 rw [tameB,List.all_eq_true] at h
 have h1:=h i (List.mem_range.2 hi)
 rw [List.all_eq_true] at h1
 have h2:=h1 c (List.mem_range.2 (by omega))
 simp only [Bool.and_eq_true,decide_eq_true_eq] at h2
 refine ⟨_,Rp.up' (Rp.own _) h2.1 hD,?_⟩
 rw [Int.natAbs_mul,Int.natAbs_natCast]
 exact h2.2
def tameRun (D m k:Nat) (T:Wp) (j:Nat):Bool:=match Xp m T j with | none=>true | some S=>tameB D m k S
def tameAllB (D n:Nat) (l:List (Int×Int)):Bool:=(List.range (2 ^ n)).all fun set=>decide (set=0) || (List.range ((Xd n set).length+1)).all fun j=>tameRun D (l.length+1) (Xd n set).length (sysB n l (Xd n set)) j
theorem tameAll_of {D n:Nat} {l:List (Int×Int)} (hD:0<D) (hD2:D≤1073741824) (h:tameAllB D n l=true):TameAll n l:=by
 intro set h1 h2 j S hj hS
 rw [tameAllB,List.all_eq_true] at h
 have h3:=h set (List.mem_range.2 h2)
 simp only [show set≠0 by omega,decide_false,Bool.false_or] at h3
 rw [List.all_eq_true] at h3
 have h4:=h3 j (List.mem_range.2 (by omega))
 rw [tameRun,hS] at h4
 exact tame_of hD hD2 h4
theorem tame_awake:TameAll 2 [(1,6)]:=tameAll_of (D:=2) (by decide) (by decide) (by decide +kernel)
theorem corners_awake:Wl 2 [(1,6)]=[[1 / 2,1 / 2]]:=by decide +kernel
end Bq
namespace Go.Proofs.Tryd.Am.Be
open Go.Proofs.Tryd.Am
open Go.Am Bq
set_option maxRecDepth 100000
set_option maxHeartbeats 1000000
def Vo (ws:List Nat):List Int:=ws.map fun (w:Nat)=>(w:Int)
def rowL (e:Nat) (ws:List Nat) (q:Rat):List (Int×Int):=(ws.map fun w=>ofQ (bitQ e w))++[ofQ q]
theorem castI_len (ws:List Nat):(Vo ws).length=ws.length:=by simp [Vo]
theorem castI_getD (ws:List Nat) (k:Nat):(Vo ws).getD k 0=((ws.getD k 0:Nat):Int):=by
 by_cases h:k<ws.length
 · simp [Vo,List.getD,h]
 · simp [Vo,List.getD,List.getElem?_eq_none (show ws.length≤k by omega)]
theorem ext_app {h hp H' h' : Zh} {w:Value} (hE:Ext (fun _=>False) h hp) (hl:hp.length≤H'.length) (hk : ∀ q,q<h.length→H'[q]? = hp[q]?) (hb : ∀ b,Yc w=some b→h.length≤b) (hE' : Ext (fun i=>Yc w=some i) H' h'):Ext (fun _=>False) h h':=by
 refine ⟨by have:=hE.1; have:=hE'.1; omega,fun q hq _=>?_⟩
 have l1:=hE.1
 rw [hE'.2 q (by omega) (fun hb0=>by have:=hb q hb0; omega),hk q hq]
 exact hE.2 q hq id
theorem s117_callW [Tabs Tryd.prog] {args:List Value} {h:Zh} {Q:Value→Zh→Prop} (hsz:args.length≤28) (hk:AWS Tryd.prog 28 s117 (Zs Tryd.prog [.tmp 5] Q) (Zp 0 args) h):ACall Tryd.prog 117 args h Q :=
 Yz Tryd.func117 rfl (enters_of Tryd.func117 (by kernel_rfl) rfl) rfl rfl (by decide) s117_strip s117_ok hsz hk
theorem row_call [Tabs prog] {h:Zh} {e bw:Nat} {q:Rat} {wv:Value} {ws:List Nat} (hb:h[bw]? = some (.cells [wv] 27 false)) (hw:IntSl h wv (Vo ws)) (hl:ws.length≤100) (he:e<9223372036854775808) :
  ACall prog 117 [Zd (e:Nat),qV q,.pointer (some ⟨bw,0,none⟩)] h fun r h'=>Ext (fun _=>False) h h'∧OwnP 45 h' r (rowL e ws q)∧∀ b,Yc r=some b→h.length≤b:=by
 obtain ⟨H,hH⟩ : ∃ H,H=h++[fC q.num q.den]:=⟨_,rfl⟩
 have hE:Ext (fun _=>False) h H:=by rw [hH]; exact Ext.app _ _ _
 have b2:H[bw]? = some (.cells [wv] 27 false):=by rw [hH]; exact Yp hb _
 have b4:H[h.length]? = some (fC q.num q.den):=by rw [hH]; exact Zr _ _
 have hwH:IntSl H wv (Vo ws):=by rw [hH]; exact hw.grow _
 have hlc:=castI_len ws
 refine s117_callW (by simp) ?_
 simp only [s117]
 refine Zg fun N1 hN1=>?_
 simp (maxSteps:=2000000) only [↓Za,↓Zb,↓Zc,vup,cond_true,cond_false,aop,Zf,Zp,ev,sput,Ze,Nat.reduceBEq,Nat.reduceAdd,qV,frV,boxF,Yg]
 rw [← hH]
 refine hN1 [(0,Zd (e:Nat)),(2,.pointer (some ⟨bw,0,none⟩)),(4,.pointer (some ⟨h.length,0,none⟩)),(5,.slice none 0 0)] _ _ ?_ (by simp (maxSteps:=2000000) only [vup,cond_true,cond_false,Nat.reduceBEq])
 clear hN1
 try clear N1
 refine Zg fun N2 hN2=>?_
 simp (maxSteps:=2000000) only [↓Za,↓Zb,↓Zc,vup,cond_false,aop,Zf,ev,sput,Ze,Nat.reduceBEq]
 refine hN2 [(0,Zd (e:Nat)),(2,.pointer (some ⟨bw,0,none⟩)),(4,.pointer (some ⟨h.length,0,none⟩)),(5,.slice none 0 0),(6,.slice none 0 0)] _ _ ?_ (by simp (maxSteps:=2000000) only [vup,cond_true,cond_false,Nat.reduceBEq])
 clear hN2
 try clear N2
 refine Zt fun Z hZ=>?_
 refine Zg fun N3 hN3=>?_
 simp (maxSteps:=2000000) only [↓Za,↓Zb,↓Zc,vup,List.map_cons,List.map_nil,cond_true,cond_false,aop,Zf,ev,sput,Ze,Zi,Nat.reduceBEq,tyf,Xl b2 Xy,hwH.len,hlc]
 refine hN3 [(0,Zd (e:Nat)),(2,.pointer (some ⟨bw,0,none⟩)),(4,.pointer (some ⟨h.length,0,none⟩)),(5,.slice none 0 0),(6,.slice none 0 0),(9,wv),(10,Zd ws.length),(11,.int .i64 0)] _ _ ?_ (by simp (maxSteps:=2000000) only [vup,cond_true,cond_false,Nat.reduceBEq])
 clear hN3
 try clear N3
 refine Zx ?_
 refine Zy fun Q hQ=>?_
 refine Xa (γ:=Nat×Value×Zh) (fun s=>s.1≤ws.length∧OwnP 45 s.2.2 s.2.1 ((ws.take s.1).map fun w=>ofQ (bitQ e w))∧Ext (fun _=>False) H s.2.2∧∀ b,Yc s.2.1=some b→h.length≤b)
  (fun s=>([(0,Zd (e:Nat)),(2,.pointer (some ⟨bw,0,none⟩)),(4,.pointer (some ⟨h.length,0,none⟩)),(5,.slice none 0 0),(6,s.2.1),(9,wv),(10,Zd ws.length),(11,Zd (s.1:Nat))],s.2.2)) (fun s=>ws.length-s.1) (0,.slice none 0 0,H) ⟨Nat.zero_le _,.inl ⟨rfl,by simp⟩,Ext.refl _ _,fun b hb=>by cases hb⟩ (by simp (maxSteps:=2000000) only [vup,cond_true,cond_false,Nat.reduceBEq,Int.natCast_zero]) rfl ?_
 rintro ⟨k,x,hp⟩ ⟨hk,ho,hEp,hbx⟩
 simp only at hk ho hEp hbx
 refine Zy fun Q2 hQ2=>?_
 simp only [l117_0]
 have hwp:IntSl hp wv (Vo ws):=hwH.same fun b hb=>hEp.2 b (hwH.lt hb) id
 by_cases hin:(k:Int)<ws.length
 · have hk' : k<ws.length:=by omega
   have hkc:k<(Vo ws).length:=by omega
   have ht:=testV (y:=ws.getD k 0) he
   have wc : ∀ h',Xj prog 72 [Zd (if e.testBit (ws.getD k 0) then (1:Int) else 0)] h' (qV (bitQ e (ws.getD k 0))):=fun h'=>by
    have e1:(((if e.testBit (ws.getD k 0) then (1:Int) else 0:Int)):Rat)=bitQ e (ws.getD k 0):=by
     rw [bitQ]; split <;> rfl
    rw [← e1]; exact Uo
   refine Zg fun N4 hN4=>?_
   simp (maxSteps:=2000000) only [↓Za,↓Zb,↓Zc,vup,cond_true,cond_false,aop,Zf,ev,sput,Ze,Yf,Yi,Nat.reduceBEq,hin]
   refine hN4 [(0,Zd (e:Nat)),(2,.pointer (some ⟨bw,0,none⟩)),(4,.pointer (some ⟨h.length,0,none⟩)),(5,.slice none 0 0),(6,x),(9,wv),(10,Zd ws.length),(11,Zd (k:Nat)),(12,.bool true)] _ _ ?_ (by simp (maxSteps:=2000000) only [vup,cond_true,cond_false,Nat.reduceBEq])
   clear hN4
   try clear N4
   refine Zg fun N5 hN5=>?_
   simp (maxSteps:=2000000) only [↓Zn,↓vdn,vup,cond_true,cond_false,Zf,ev,Nat.reduceBEq]
   refine hN5 [(0,Zd (e:Nat)),(2,.pointer (some ⟨bw,0,none⟩)),(4,.pointer (some ⟨h.length,0,none⟩)),(5,.slice none 0 0),(6,x),(9,wv),(10,Zd ws.length),(11,Zd (k:Nat))] _ _ ?_ (by simp (maxSteps:=2000000) only [vup,cond_true,cond_false,Nat.reduceBEq])
   clear hN5
   try clear N5
   refine Zt fun B hB=>?_
   refine Zx ?_
   refine Zg fun N6 hN6=>?_
   simp (maxSteps:=2000000) only [↓Za,↓Zb,↓Zc,vup,cond_true,cond_false,aop,Zf,ev,sput,Ze,Nat.reduceBEq,hwp.idx Vy Wm hkc,hwp.load Yy hkc,castI_getD]
   refine hN6 [(0,Zd (e:Nat)),(2,.pointer (some ⟨bw,0,none⟩)),(4,.pointer (some ⟨h.length,0,none⟩)),(5,.slice none 0 0),(6,x),(8,Zd (ws.getD k 0:Nat)),(9,wv),(10,Zd ws.length),(11,Zd (k:Nat))] _ _ ?_ (by simp (maxSteps:=2000000) only [vup,cond_true,cond_false,Nat.reduceBEq])
   clear hN6
   try clear N6
   refine Zm ?_
   simp (maxSteps:=2000000) only [↓Za,↓Zb,↓Zc,vup,List.map_cons,List.map_nil,cond_true,cond_false,aop,Zf,Zo,ev,sput,Ze,Yf,Yi,Zi,Nat.reduceBEq,Yn,List.nil_append,List.append_nil,ht,Int.natCast_nonneg]
   refine (wc hp).mono ?_
   rintro _ hp ⟨rfl,rfl⟩
   simp (maxSteps:=2000000) only [qV,frV,litF]
   refine OwnP.append (x:=(bitQ e (ws.getD k 0)).num) (y:=(bitQ e (ws.getD k 0)).den) (ho.ext (Ext.app _ _ _)) app_43_43 (by simp; omega) (Zr _ _) ?_
   intro x' h' ho' hE' hb'
   have hnx:((ws.take k).map fun w=>ofQ (bitQ e w))++[((bitQ e (ws.getD k 0)).num,((bitQ e (ws.getD k 0)).den:Int))]=(ws.take (k+1)).map fun w=>ofQ (bitQ e w):=by
    rw [take_snoc (d:=(0:Nat)) hk',List.map_append]; rfl
   rw [hnx] at ho'
   have hEn:=ext_app (hE.trans hEp) (H':=hp++[Blk.ints [(bitQ e (ws.getD k 0)).num,((bitQ e (ws.getD k 0)).den:Int)] 45 false]) (by simp) (fun q hq=>List.getElem?_append_left (by have:=hE.1; have:=hEp.1; omega)) hbx hE'
   have hEn2:Ext (fun _=>False) H h':=by
    have hl':=hE'.1
    have l0:=hE.1
    have l1:=hEp.1
    rw [List.length_append] at hl'
    refine ⟨by omega,fun q hq _=>?_⟩
    by_cases hqh:q<h.length
    · rw [hEn.2 q hqh id,hE.2 q hqh id]
    · rw [hE'.2 q (by rw [List.length_append]; omega) (fun hb0=>?_),List.getElem?_append_left (by omega)]
      · exact hEp.2 q hq id
      · obtain ⟨rfl⟩:q=h.length:=by rw [hH] at hq; simp at hq; omega
        rcases ho with ⟨rfl,_⟩ | ⟨b,ys,rfl,hbb⟩
        · cases hb0
        · cases hb0
          rw [hEp.2 _ hq id,b4] at hbb; cases hbb
   refine hB [(0,Zd (e:Nat)),(2,.pointer (some ⟨bw,0,none⟩)),(4,.pointer (some ⟨h.length,0,none⟩)),(5,.slice none 0 0),(6,x'),(9,wv),(10,Zd ws.length),(11,Zd (k:Nat))] _ _ ?_ (by simp (maxSteps:=2000000) only [vup,cond_true,cond_false,Nat.reduceBEq])
   clear hB
   try clear B
   refine Zm ?_
   simp (maxSteps:=2000000) only [↓Za,↓Zb,↓Zc,vup,cond_true,cond_false,aop,ev,sput,Ze,Yf,Yi,Nat.reduceBEq,add1 (show k<9223372036854775807 by omega)]
   refine hQ2 _ _ _ ⟨(k+1,x',h'),⟨hk',ho',hEn2,fun b hb0=>?_⟩,by simp only; omega,by simp (maxSteps:=2000000) only [vup,cond_true,cond_false,Nat.reduceBEq],rfl⟩
   simp only at hb0
   rcases hb' with hb' | ⟨b',hb1,hb2⟩
   · exact hbx b (hb'▸hb0)
   · rw [hb1] at hb0; cases hb0
     rw [List.length_append] at hb2
     have:=hE.1; have:=hEp.1; omega
 · have hkk:ws.length=k:=by omega
   refine Zg fun N7 hN7=>?_
   simp (maxSteps:=2000000) only [↓Za,↓Zb,↓Zc,vup,cond_true,cond_false,aop,Zf,ev,sput,Ze,Yf,Yi,Nat.reduceBEq,hin]
   refine hN7 [(0,Zd (e:Nat)),(2,.pointer (some ⟨bw,0,none⟩)),(4,.pointer (some ⟨h.length,0,none⟩)),(5,.slice none 0 0),(6,x),(9,wv),(10,Zd ws.length),(11,Zd (k:Nat)),(12,.bool false)] _ _ ?_ (by simp (maxSteps:=2000000) only [vup,cond_true,cond_false,Nat.reduceBEq])
   clear hN7
   try clear N7
   refine Zg fun N8 hN8=>?_
   simp (maxSteps:=2000000) only [↓Yo,↓vdn,vup,cond_true,cond_false,Zf,ev,Nat.reduceBEq]
   refine hQ2 _ _ _ (hQ _ _ _ ?_)
   simp (maxSteps:=2000000) only [Zf,Zo,Zs,if_true]
   refine hZ [(0,Zd (e:Nat)),(2,.pointer (some ⟨bw,0,none⟩)),(4,.pointer (some ⟨h.length,0,none⟩)),(5,.slice none 0 0),(6,x),(12,.bool false)] _ _ ?_ (by simp (maxSteps:=2000000) only [vup,cond_true,cond_false,Nat.reduceBEq])
   clear hZ
   try clear Z
   have b4p:hp[h.length]? = some (fC q.num q.den):=(hEp.2 _ (Yb b4) id).trans b4
   refine Zm ?_
   simp (maxSteps:=2000000) only [↓Za,↓Zl,↓Zu,↓Zb,↓Zc,vup,List.map_cons,List.map_nil,cond_true,cond_false,aop,Zf,ev,sput,Ze,Zi,Nat.reduceBEq,Zs,Xn,tup,loadF b4p,litF]
   refine OwnP.append (x:=q.num) (y:=q.den) (ho.ext (Ext.app _ _ _)) app_43_43 (by simp; omega) (Zr _ _) ?_
   intro x' h' ho' hE' hb'
   rw [← hkk,List.take_length] at ho'
   refine ⟨ext_app (hE.trans hEp) (H':=hp++[Blk.ints [q.num,(q.den:Int)] 45 false]) (by simp) (fun z hz=>List.getElem?_append_left (by have:=hE.1; have:=hEp.1; omega)) hbx hE',ho',fun b hb0=>?_⟩
   rcases hb' with hb' | ⟨b',hb1,hb2⟩
   · exact hbx b (hb'▸hb0)
   · rw [hb1] at hb0; cases hb0
     rw [List.length_append] at hb2
     have:=hE.1; have:=hEp.1; omega
theorem s119_callW [Tabs Tryd.prog] {args:List Value} {h:Zh} {Q:Value→Zh→Prop} (hsz:args.length≤6) (hk:AWS Tryd.prog 6 s119 (Zs Tryd.prog [.tmp 2] Q) (Zp 0 args) h):ACall Tryd.prog 119 args h Q :=
 Yz Tryd.func119 rfl (enters_of Tryd.func119 (by kernel_rfl) rfl) rfl rfl (by decide) s119_strip s119_ok hsz hk
theorem neg_call [Tabs prog] {h:Zh} {x y:Int}:Xj prog 119 [frV x y] h (.bool (decide (x<0))):=by
 refine ACall.forget (Low.bool _) ?_
 refine s119_callW (by simp) ?_
 refine Zm ?_
 simp (maxSteps:=2000000) only [s119,↓Za,↓Zl,↓Zu,↓Zb,↓Zc,vup,cond_true,cond_false,aop,Zf,Zp,ev,sput,Ze,Yf,Yi,Nat.reduceBEq,Zs,Xn,tup,tyf,frV,boxF,Yg,fA0,loadF0 (Zr h _)]
 exact Ext.app _ _ _
end Go.Proofs.Tryd.Am.Be
