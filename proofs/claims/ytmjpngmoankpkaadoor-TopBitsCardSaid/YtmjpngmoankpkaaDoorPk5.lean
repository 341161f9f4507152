/-
  The abstract machine, part Z, third: maps from ints to ints.
  The abstract machine: maps whose keys are arrays or structs of ints, as lists of pairs.
  The abstract machine: types all of whose cells are ints serve as keys.
  The abstract machine, part Y d: slices of structs of two ints, out of what a statement grants.
  The abstract machine, part Y e: a drawing region cut in two.
  The abstract machine, part Y f: a whole slice of pairs behind one that a run owns.
  The abstract machine: what a call hands back in a block of its own gets the next name (a call that is left open becomes one that is named); in a region whose order Go leaves open several variables may be laid earlier than the text says.
  The abstract machine: in a region whose order Go leaves open, several variables may be laid earlier than the text says (AmY's rule for one, made many).
-/
import Derived.Test.YtmjpngmoankpkaaDoorPk4
import Derived.ChangeArms
set_option linter.all false
namespace Go.Am
section
variable {P:Program} {h:Yb} {b:Nat} {l:List (Int×Int)} {t kt et:TypeId}
end
section
variable {P:Program} [Tabs P] {R:Yb→Prop} {qs:List (Nat×Nat)} {N:Env→Yb→Prop} {k:Nat} {e:Env} {h:Yb} {dst:Option Nat} {l:List SOp} {t:TypeId} {x i m v:Operand} {ok:Bool}
theorem Vn (hf:frm qs k=false):Xj P qs N k (⟨dst,.lookup t x i ok,none⟩::l) e h=Vk P h t (ev e x) (ev e i) ok (fun v=>Xj P qs N (k+1) l (Zt e dst v) h):=by
 have:cls qs k (.lookup t x i ok)=bif frm qs k then 2 else 1:=rfl
 simp only [Xj,this,aop,hf,cond_false,true_and]
 cases piv qs k <;> rfl
theorem dopsR_lookup (hp:piv qs k=false) (hf:frm qs k=false):Yr P R qs N k (⟨dst,.lookup t x i ok,none⟩::l) e h=Vk P h t (ev e x) (ev e i) ok (fun v=>Yr P R qs N (k+1) l (Zt e dst v) h):=by
 have:cls qs k (.lookup t x i ok)=bif frm qs k then 2 else 1:=rfl
 simp only [Yr,this,aop,hp,hf,cond_false,true_and]
theorem Vd:Yr P R qs N k (⟨dst,.mapUpdate t m i v,none⟩::l) e h=aop P true (.mapUpdate t m i v) (ev e) h (fun v h'=>(bif Vp qs (k+1) then True else R h')∧Yr P R qs N (k+1) l (Zt e dst v) h'):=Vm rfl rfl rfl
theorem dopsR_max {as:Array Operand} {ts:Array TypeId} (hp:piv qs k=false):Yr P R qs N k (⟨dst,.call { callee:=.builtin .max,args:=as,argTypes:=ts },none⟩::l) e h=aop P true (.call { callee:=.builtin .max,args:=as,argTypes:=ts }) (ev e) h (fun v h'=>Yr P R qs N (k+1) l (Zt e dst v) h'):=dopsR_0 hp rfl
theorem Wp:Xj P qs N k (⟨dst,.mapUpdate t m i v,none⟩::l) e h=aop P true (.mapUpdate t m i v) (ev e) h (fun v h'=>Xj P qs N (k+1) l (Zt e dst v) h'):=Vl rfl rfl rfl
end
theorem isPick_map:(∀ t x,Wa (.range t x)=false)∧(∀ x b,Wa (.next x b)=false)∧(∀ x,Wa (.entry x)=false)∧(∀ t x i ok,Wa (.lookup t x i ok)=false)∧(∀ t m k v,Wa (.mapUpdate t m k v)=false)∧(∀ t r,Wa (.makeMap t r)=false) :=
 ⟨fun _ _=>rfl,fun _ _=>rfl,fun _=>rfl,fun _ _ _ _=>rfl,fun _ _ _ _=>rfl,fun _ _=>rfl⟩
end Go.Am
namespace Go.Am
section
variable {β:Type} (f:β→Value)
def mA (l:List (List Int×β)):List (Value×Value):=l.map fun p=>(.agg (p.1.map Zx).toArray,f p.2)
def aget (k:List Int):List (List Int×β)→Option β
 | []=>none
 | (m,v)::l=>if m=k then some v else aget k l
def aput (k:List Int) (v:β):List (List Int×β)→List (List Int×β)
 | []=>[(k,v)]
 | (m,u)::l=>if m=k then (k,v)::l else (m,u)::aput k v l
theorem mA_get (k:List Int) : ∀ l:List (List Int×β),mgetA k (mA f l)=(aget k l).map f
 | []=>rfl
 | (m,v)::l=>by
   show (if Yx (m.map Zx).toArray.toList=some k then some (f v) else mgetA k (mA f l))=_
   rw [show Yx (m.map Zx).toArray.toList=some m from Xv m,aget]
   by_cases h:m=k
   · rw [if_pos (by rw [h]),if_pos h]; rfl
   · rw [if_neg (fun hc=>h (Option.some.inj hc)),if_neg h,mA_get k l]
theorem mA_put (k:List Int) (v:β) : ∀ l:List (List Int×β),mputA k (f v) (mA f l)=mA f (aput k v l)
 | []=>rfl
 | (m,u)::l=>by
   show (if Yx (m.map Zx).toArray.toList=some k then (Value.agg (k.map Zx).toArray,f v)::mA f l else (.agg (m.map Zx).toArray,f u)::mputA k (f v) (mA f l))=_
   rw [show Yx (m.map Zx).toArray.toList=some m from Xv m,aput]
   by_cases h:m=k
   · rw [if_pos (by rw [h]),if_pos h]; rfl
   · rw [if_neg (fun hc=>h (Option.some.inj hc)),if_neg h,mA_put k v l]; rfl
def KeysN (n:Nat) (l:List (List Int×β)):Prop:=∀ p∈l,p.1.length=n∧inR64 p.1
theorem KeysN.put {n:Nat} {l:List (List Int×β)} {k:List Int} {v:β} (h:KeysN n l) (hk:k.length=n) (hr:inR64 k):KeysN n (aput k v l):=by
 induction l with
 | nil=>intro p hp; rw [List.mem_singleton.1 hp]; exact ⟨hk,hr⟩
 | cons q l ih =>
   obtain ⟨m,u⟩:=q
   have h1:KeysN n l:=fun p hp=>h p (by simp [hp])
   rw [aput]
   split
   · intro p hp
     rcases List.mem_cons.1 hp with rfl | hp
     · exact ⟨hk,hr⟩
     · exact h1 p hp
   · intro p hp
     rcases List.mem_cons.1 hp with rfl | hp
     · exact h (m,u) (by simp)
     · exact ih h1 p hp
theorem mA_keys {n:Nat} {l:List (List Int×β)} (h:KeysN n l):keysA n (mA f l):=fun p hp=>by
 obtain ⟨q,hq,rfl⟩:=List.mem_map.1 hp
 exact ⟨q.1,(h q hq).1,(h q hq).2,rfl⟩
theorem aget_aput (m k:List Int) (v:β) : ∀ l:List (List Int×β),aget m (aput k v l)=if m=k then some v else aget m l
 | []=>by
   show (if k=m then some v else none)=_
   by_cases h:k=m
   · rw [if_pos h,if_pos h.symm]
   · rw [if_neg h,if_neg (Ne.symm h)]; rfl
 | (j,u)::l=>by
   rw [aput]
   by_cases h:j=k
   · rw [if_pos h]
     show (if k=m then some v else aget m l)=if m=k then some v else (if j=m then some u else aget m l)
     by_cases h2:k=m
     · rw [if_pos h2,if_pos h2.symm]
     · rw [if_neg h2,if_neg (Ne.symm h2),if_neg (fun hc=>h2 (h.symm.trans hc))]
   · rw [if_neg h]
     show (if j=m then some u else aget m (aput k v l))=if m=k then some v else (if j=m then some u else aget m l)
     rw [aget_aput m k v l]
     by_cases h2:j=m
     · rw [if_pos h2,if_pos h2,if_neg (fun hc=>h (h2.trans hc))]
     · rw [if_neg h2,if_neg h2]
end
section
variable {P:Program} [Tabs P] {h:Yb} {b:Nat} {t kt et:TypeId} {β:Type} {f:β→Value} {l:List (List Int×β)}
theorem lookupA {n:Nat} {z:Value} {ks:Array Value} {is:List Int} (hb:h[b]? = some (.map (mA f l))) (hu:P.underlying t=some (.map kt et)) (hT:KeyT P kt n) (hz:zeroV P et=some z) (hl:KeysN n l) (hks:Yx ks.toList=some is) (hn:is.length=n) (hr:inR64 is) {ok:Bool} {K:Value→Prop}
  (hk:K (bif ok then .tuple #[((aget is l).map f).getD z,.bool (aget is l).isSome] else ((aget is l).map f).getD z)):Vk P h t (.map (some b)) (.agg ks) ok K:=by
 simp only [Vk,hu]
 refine ⟨is,hks,hr,by rw [hn]; exact hT,?_⟩
 simp only [hb,hz]
 refine ⟨by rw [hn]; exact mA_keys f hl,?_⟩
 rw [mA_get]
 have:((aget is l).map f).isSome=(aget is l).isSome:=by cases aget is l <;> rfl
 rw [this]; exact hk
theorem updateA {n:Nat} {ks:Array Value} {is:List Int} {v:β} (hb:h[b]? = some (.map (mA f l))) (hu:P.underlying t=some (.map kt et)) (hT:KeyT P kt n) (hl:KeysN n l) (hks:Yx ks.toList=some is) (hn:is.length=n) (hr:inR64 is) {K:Yb→Prop}
  (hk:K (h.set b (.map (mA f (aput is v l))))):mapUpdK P h t (.map (some b)) (.agg ks) (f v) K:=by
 simp only [mapUpdK,hu]
 refine ⟨is,hks,hr,by rw [hn]; exact hT,?_⟩
 simp only [hb]
 refine ⟨by rw [hn]; exact mA_keys f hl,?_⟩
 rw [mA_put]; exact hk
end
end Go.Am
namespace Go.Am
def intsAt (P:Program):Nat→TypeId→Bool
 | 0,_=>false
 | d+1,t=>match P.underlying t with
   | some (.int .i64)=>P.cellsOf t==1
   | some (.array n e)=>P.cellsOf t==n*P.cellsOf e&&intsAt P d e
   | some (.struct fs)=>fs.all fun f=>f.name != "_" && (decide (f.offset+P.cellsOf f.type≤P.cellsOf t)&&intsAt P d f.type)
   | _=>false
theorem mapM_ex {α β:Type} {f:α→Option β} : ∀ {l:List α},(∀ a∈l,∃ b,f a=some b)→∃ bs,l.mapM f=some bs
 | [],_=>⟨[],rfl⟩
 | a::l,h=>by
   obtain ⟨b,hb⟩:=h a (by simp)
   obtain ⟨bs,hbs⟩:=mapM_ex fun x hx=>h x (List.mem_cons_of_mem a hx)
   exact ⟨b::bs,by rw [List.mapM_cons,hb,hbs]; rfl⟩
theorem inR64.sub {xs:List Int} (h:inR64 xs) (o n:Nat):inR64 ((xs.drop o).take n):=fun x hx=>h x (List.mem_of_mem_drop (List.mem_of_mem_take hx))
theorem cut_vint (xs:List Int) (o n:Nat):((xs.map Zx).drop o).take n=((xs.drop o).take n).map Zx:=by rw [← List.map_drop,← List.map_take]
theorem keyLits_ints {P:Program} : ∀ (d:Nat) (t:TypeId),intsAt P d t=true→∀ (k:Nat) (xs:List Int),xs.length=P.cellsOf t→inR64 xs→∃ la,P.keyLits (d+k) t (xs.map Zx)=some la
 | 0,_,h,_,_,_,_=>by simp [intsAt] at h
 | d+1,t,h,k,xs,hx,hr=>by
   rw [show d+1+k=(d+k)+1 by omega]
   rw [intsAt] at h
   split at h
   · rename_i hu
     rw [beq_iff_eq.1 h] at hx
     match xs,hx with
     | [a],_ =>
       have ha:=hr a (by simp)
       have hw:(Lit.int .i64 a).wf=true:=by
        simp only [Lit.wf,Bool.and_eq_true,decide_eq_true_eq]
        exact ⟨ha.1,by have:=ha.2; show a≤9223372036854775807; omega⟩
       exact ⟨[.int .i64 a],by unfold Program.keyLits; simp [hu,hw]⟩
   · rename_i n e hu
     rw [Bool.and_eq_true,beq_iff_eq] at h
     unfold Program.keyLits
     simp only [hu]
     rw [if_pos (by rw [List.length_map]; exact hx)]
     obtain ⟨bs,hbs⟩:=mapM_ex (f:=fun i=>P.keyLits (d+k) e (((xs.map Zx).drop (i*P.cellsOf e)).take (P.cellsOf e))) (l:=List.range n) fun i hi=>by
      have hi':=List.mem_range.1 hi
      rw [cut_vint]
      refine keyLits_ints d e h.2 k _ ?_ (hr.sub _ _)
      have:(i+1)*P.cellsOf e≤n*P.cellsOf e:=Nat.mul_le_mul_right _ hi'
      rw [Nat.add_mul,Nat.one_mul] at this
      rw [List.length_take,List.length_drop,hx,h.1]; omega
     exact ⟨_,by rw [hbs]; rfl⟩
   · rename_i fs hu
     have hn:fs.all (·.name != "_")=true:=by
      rw [Array.all_eq_true_iff_forall_mem] at h ⊢
      intro f hf
      have:=h f hf
      rw [Bool.and_eq_true] at this
      exact this.1
     unfold Program.keyLits
     simp only [hu]
     rw [if_pos ⟨by rw [List.length_map]; exact hx,hn⟩]
     obtain ⟨bs,hbs⟩:=mapM_ex (f:=fun f:Field=>P.keyLits (d+k) f.type (((xs.map Zx).drop f.offset).take (P.cellsOf f.type))) (l:=fs.toList) fun f hf=>by
      have h1:=Array.all_eq_true_iff_forall_mem.1 h f (Array.mem_toList_iff.1 hf)
      rw [Bool.and_eq_true,Bool.and_eq_true,decide_eq_true_eq] at h1
      rw [cut_vint]
      refine keyLits_ints d f.type h1.2.2 k _ ?_ (hr.sub _ _)
      rw [List.length_take,List.length_drop,hx]; omega
     exact ⟨_,by rw [hbs]; rfl⟩
   · cases h
theorem keyT_ints {P:Program} {t:TypeId} {n d m:Nat} (hw:(match P.underlying t with | some (.array _ _) | some (.struct _)=>true | _=>false)=true) (hd:intsAt P d t=true) (hdp:d≤P.types.size+1) (hm:m≤10000) (hk:P.keyTypeAt m t=true) (ht:P.tiled m t=true) (hkt:P.keyType t=true) (hn:P.cellsOf t=n):KeyT P t n:=by
 refine keyT_of hm hk ht hw fun xs hx hr=>?_
 have hf:Value.formed P t (.agg (xs.map Zx).toArray)=true:=by
  unfold Value.formed
  split at hw <;> simp_all
 obtain ⟨k,hk2⟩ : ∃ k,P.types.size+1=d+k:=⟨P.types.size+1-d,by omega⟩
 obtain ⟨la,hla⟩:=keyLits_ints d t hd k xs (hx.trans hn.symm) hr
 refine ⟨?_,hf,d+k,la,hla⟩
 unfold keyOf
 have hc:(Value.agg (xs.map Zx).toArray).cells.toList=xs.map Zx:=by simp [Value.cells]
 split at hw
 · rename_i hu
   simp only [hu,hkt,hf,Bool.and_self,if_true,hc,hk2,hla]; rfl
 · rename_i hu
   simp only [hu,hkt,hf,Bool.and_self,if_true,hc,hk2,hla]; rfl
 · cases hw
end Go.Am
namespace Go.Am
section read
variable {H:Type} {enc:TypeId×Value→H} {P:Program} {w:World} {base:Nat} {r:Reach}
end read
end Go.Am
namespace Go.Am
end Go.Am
namespace Go.Am
section
variable {P:Program} {e:TypeId} {h:Yb} {v w:Value} {ps zs:List (Int×Int)}
theorem PairSl.copyO {t t2:TypeId} {b0:Nat} (hv:PairSl h v ps) (hx:ps≠[]) (hT:appT P t t2=some (e,2,16)) (hn:ps.length<1099511627776) (hb0:h[b0]? = some (.ints [] e false)) {K:Value→Yb→Prop}
  (hk : ∀ r g,OwnP e (h++g) r ps→Yw r=some h.length→K r (h++g)):Xg P h t t2 (.slice (some ⟨b0,0,none⟩) 0 0) v K:=by
 simp only [Xg,hT]
 have hpos:0<ps.length:=List.length_pos_iff.2 hx
 have hgo:putK h e 2 16 (.slice (some ⟨b0,0,none⟩) 0 0) ps.length ((Ym ps).map Zx) K:=by
  simp only [putK]
  refine ⟨fun h=>by omega,fun _=>⟨by omega,?_⟩⟩
  simp only [Xr,hb0]
  refine ⟨by simp,hk _ _ (.inr ⟨h.length,[],by simp,?_⟩) rfl⟩
  rw [Yt]; simp [mkb,intsOf_map',Ym]
 have hv':=hv
 rcases hv with ⟨_,h1⟩ | ⟨b,o,sp,cap,c,e',ro,rfl,hc,hb,_⟩
 · exact absurd h1 hx
 · exact ⟨fun h=>absurd (List.length_eq_zero_iff.1 h) hx,fun _=>hv'.cells hx rfl hgo⟩
theorem OwnP.app {t t2:TypeId} (ho:OwnP e h v ps) (hw:PairSl h w zs) (hz:zs≠[]) (hT:appT P t t2=some (e,2,16)) (hn:ps.length+zs.length<1099511627776) {K:Value→Yb→Prop}
  (hk : ∀ v' h',OwnP e h' v' (ps++zs)→Ext (fun i=>Yw v=some i) h h'→K v' h'):Xg P h t t2 v w K:=by
 have hpos:0<zs.length:=List.length_pos_iff.2 hz
 have hone:((Ym zs).map Zx).all one=true:=by rw [List.all_eq_true]; intro x hx; obtain ⟨y,_,rfl⟩:=List.mem_map.1 hx; rfl
 have l1:=Wv ps
 have l2:=Wv zs
 have hgo:putK h e 2 16 v zs.length ((Ym zs).map Zx) K:=by
  rcases ho with ⟨rfl,rfl⟩ | ⟨b,ys,rfl,hb⟩
  · simp only [putK]
    refine ⟨fun h=>by omega,fun _=>⟨by simp at hn; omega,hk _ _ (.inr ⟨h.length,[],by simp,?_⟩) (Ext.app _ _ _)⟩⟩
    rw [Yt,mkb,intsOf_map']; simp [Ym]
  · have l3:=Wv ys
    simp only [putK,hb,intsOf_map']
    refine ⟨fun hroom=>⟨fun h=>by omega,fun _=>⟨hone,by simp only [List.length_append]; omega,?_⟩⟩,fun hroom=>⟨by omega,trivial,hone,by simp [view,hb,Blk.view],?_⟩⟩
    · refine hk _ _ (.inr ⟨b,ys.drop zs.length,by simp; omega,?_⟩) (Ext.set _ rfl)
      have e1:Yk (Ym ps++Ym ys) (0+ps.length*2) (Ym zs)=Ym ps++Ym zs++(Ym ys).drop (zs.length*2):=by
       rw [Yk,Nat.zero_add,show ps.length*2=(Ym ps).length by omega,List.take_left,List.drop_append,List.drop_eq_nil_of_le (by omega),List.nil_append,Nat.add_sub_cancel_left,show (Ym zs).length=zs.length*2 by omega]
      have e2 : ∀ (l:List (Int×Int)) (k:Nat),Ym (l.drop k)=(Ym l).drop (k*2):=by
       intro l
       induction l with
       | nil=>intro k; simp [Ym]
       | cons p l ih =>
         intro k
         cases k with
         | zero=>rfl
         | succ k =>
           have:Ym (p::l)=p.1::p.2::Ym l:=rfl
           rw [List.drop_succ_cons,ih,this,show (k+1)*2=k*2+1+1 by omega]; rfl
      rw [Xf (Yu hb),e1,flatP_app,e2]
    · simp only [Xr,hb]
      refine ⟨by simp only [List.length_append]; omega,hk _ _ (.inr ⟨h.length,[],by simp,?_⟩) ((Ext.set (S:=fun i=>Yw (.slice (some ⟨b,0,some 0⟩) ps.length (ps.length+ys.length))=some i) .dead rfl).trans (Ext.app _ _ _))⟩
      rw [List.getElem?_append_right (by simp)]
      have:Yx (List.map Zx (List.take (ps.length*2) (List.drop 0 (Ym ps++Ym ys)))++List.map Zx (Ym zs))=some (Ym ps++Ym zs):=by
       rw [← List.map_append,List.drop_zero,show ps.length*2=(Ym ps).length by omega,List.take_left]; exact intsOf_map' _
      simp only [mkb,List.length_set,Nat.sub_self,List.getElem?_cons_zero,this,flatP_app]
      simp [Ym]
 simp only [Xg,hT]
 have hw':=hw
 rcases hw with ⟨_,h1⟩ | ⟨b,o,sp,cap,c,e',ro,rfl,hc,hb,_⟩
 · exact absurd h1 hz
 · exact ⟨fun h=>absurd (List.length_eq_zero_iff.1 h) hz,fun _=>hw'.cells hz rfl hgo⟩
end
end Go.Am
namespace Go.Am
end Go.Am
namespace Go.Am
def extS (af:List (List Nat)) (Z:List (Nat×Nat×List Nat)):List (List Nat):=Z.foldl (fun af p=>extE af p.1 p.2.2) af
theorem extS_mem : ∀ (Z:List (Nat×Nat×List Nat)) (af:List (List Nat)) {i e:Nat},(∀ p∈Z,p.1<af.length)→(e∈(extS af Z).getD i []↔e∈af.getD i []∨∃ p∈Z,p.1=i∧e∈p.2.2)
 | [],af,i,e,_=>by simp [extS]
 | p::Z,af,i,e,h=>by
   have hl:(extE af p.1 p.2.2).length=af.length:=by simp [extE]
   have:=extS_mem Z (extE af p.1 p.2.2) (i:=i) (e:=e) (fun q hq=>by rw [hl]; exact h q (List.mem_cons_of_mem _ hq))
   rw [extS,List.foldl_cons]
   rw [extS] at this
   rw [this]
   by_cases hi:i=p.1
   · subst hi
     rw [extE_same (h p (List.mem_cons_self ..)),List.mem_append]
     constructor
     · rintro (h | ⟨q,hq,h1,h2⟩)
       · rcases h with h | h
         · exact .inl h
         · exact .inr ⟨p,List.mem_cons_self ..,rfl,h⟩
       · exact .inr ⟨q,List.mem_cons_of_mem _ hq,h1,h2⟩
     · rintro (h | ⟨q,hq,h1,h2⟩)
       · exact .inl (.inl h)
       · rcases List.mem_cons.1 hq with rfl | hq
         · exact .inl (.inr h2)
         · exact .inr ⟨q,hq,h1,h2⟩
   · rw [extE_ne hi]
     constructor
     · rintro (h | ⟨q,hq,h1,h2⟩)
       · exact .inl h
       · exact .inr ⟨q,List.mem_cons_of_mem _ hq,h1,h2⟩
     · rintro (h | ⟨q,hq,h1,h2⟩)
       · exact .inl h
       · rcases List.mem_cons.1 hq with rfl | hq
         · exact absurd h1.symm hi
         · exact .inr ⟨q,hq,h1,h2⟩
def manyOK (l:List SOp) (af:List (List Nat)) (Z:List (Nat×Nat×List Nat)):Bool :=
 Z.all fun p=>earlyOK l af p.1 p.2.1 p.2.2&&(Z.all (fun p'=>!(p.2.2.contains p'.1) || p'.2.2.all fun k=>p.2.2.contains k)&&(Z.all (fun p'=>p'.1 != p.1 || p' == p)&&(af.getD p.1 []).all fun e=>Z.all fun p'=>p'.1 != e))
theorem manyOK_spec {l:List SOp} {af:List (List Nat)} {Z:List (Nat×Nat×List Nat)} (h:manyOK l af Z=true) {p:Nat×Nat×List Nat} (hp:p∈Z) :
  earlyOK l af p.1 p.2.1 p.2.2=true∧(∀ q∈Z,q.1∈p.2.2→∀ k∈q.2.2,k∈p.2.2)∧(∀ q∈Z,q.1=p.1→q=p)∧∀ e∈af.getD p.1 [],∀ q∈Z,q.1≠e:=by
 have:=List.all_eq_true.1 h p hp
 simp only [Bool.and_eq_true,List.all_eq_true] at this
 refine ⟨this.1,fun q hq h1 k hk=>?_,fun q hq h1=>?_,fun e he q hq=>by simpa using this.2.2.2 e he q hq⟩
 · have:=this.2.1 q hq
   simp only [Bool.or_eq_true,Bool.not_eq_true',List.contains_eq_mem,decide_eq_false_iff_not,List.all_eq_true,decide_eq_true_eq] at this
   exact this.resolve_left (fun h=>h h1) k hk
 · have:=this.2.2.1 q hq
   simp only [Bool.or_eq_true,bne_iff_ne,ne_eq,beq_iff_eq] at this
   exact this.resolve_left (fun h=>h h1)
structure Pnd (P:Program) (z d:Nat) (t:TypeId) (c:List Value) (l:Loc) (n0:Nat) (hb:Yb) (ρb:Nat→Loc) (wb:World) (a:Act):Prop where
 cell : ∃ c' : Array Value,wb.heap[l.blk]? = some (.cells c' t (0,0))∧c'.size=l.sz∧c.length≤c'.size∧∀ k,k<c.length→∀ n ρ,VRel n ρ (c.getD k undef) (c'.getD k undef)
 info:(P.info? t).map (·.size)=some l.es
 nl : ¬ Live hb ρb l.blk
 ge:n0≤l.blk
 ptr:a.tmps.getD d undef = .pointer (some ⟨l.blk,0,none⟩)
theorem Pnd.lt {P:Program} {z d:Nat} {t:TypeId} {c:List Value} {l:Loc} {n0:Nat} {hb:Yb} {ρb:Nat→Loc} {wb:World} {a:Act} (p:Pnd P z d t c l n0 hb ρb wb a):l.blk<wb.heap.size:=by
 obtain ⟨c',h,_⟩:=p.cell
 exact (Array.getElem?_eq_some_iff.1 h).1
theorem Pnd.evo {P:Program} {z d:Nat} {t:TypeId} {c:List Value} {l:Loc} {n0:Nat} {hb h:Yb} {ρb ρ:Nat→Loc} {wb w:World} {a a' : Act} (p:Pnd P z d t c l n0 hb ρb wb a) (hE:Evo hb ρb wb h ρ w) (ha:a'.tmps.getD d undef=a.tmps.getD d undef):Pnd P z d t c l n0 h ρ w a':=by
 obtain ⟨c',h1,h2,h3,h4⟩:=p.cell
 refine ⟨⟨c',?_,h2,h3,h4⟩,p.info,fun hl=>?_,p.ge,ha.trans p.ptr⟩
 · rw [hE.keep l.blk p.lt fun ⟨i,c1,e1,hv,hk⟩=>p.nl ⟨i,_,hv,hk⟩]; exact h1
 · have:=p.lt
   exact (hE.live _ hl).elim (fun h1=>by omega) p.nl
section
variable {P:Program} [Tabs P] {R:Yb→Prop} {qs:List (Nat×Nat)} {ops:Array Oper} {af:List (List Nat)} {tr:List (Value×Yb)} {e0:Env} {h0:Yb} {ρ0:Nat→Loc} {w0:World} {r:Option Nat} {m sz:Nat}
theorem wpOpIn_puts {F:Fence} {n:Nat} {Q:Exit→Act→World→Prop} {i:Nat} {a:Act} {w:World} {o:Oper} (ho:ops[i]? = some o) : ∀ (S:List (Nat×Nat×List Nat)) {K:Act→World→Prop},(∀ p∈S,o.dst≠some p.2.1) →
  wpOpIn F n P ops Q i K a w→wpOpIn F n P ops Q i (fun a' w'=>K a' w'∧∀ p∈S,a'.tmps.getD p.2.1 undef=a.tmps.getD p.2.1 undef) a w
 | [],K,_,h=>wpOpIn_mono (fun a' w' hk=>⟨hk,fun p hp=>by cases hp⟩) h
 | p::S,K,hd,h=>by
   have h1:=wpOpIn_put ho (hd p (List.mem_cons_self ..)) h
   refine wpOpIn_mono (fun a' w' hk=>?_) (wpOpIn_puts ho S (fun q hq=>hd q (List.mem_cons_of_mem _ hq)) h1)
   obtain ⟨⟨k1,k2⟩,k3⟩:=hk
   refine ⟨k1,fun q hq=>?_⟩
   rcases List.mem_cons.1 hq with rfl | hq
   · exact k2
   · exact k3 q hq
def PSt (P:Program) [Tabs P] (qs:List (Nat×Nat)) (ops:Array Oper) (af:List (List Nat)) (tr:List (Value×Yb)) (e0:Env) (h0:Yb) (ρ0:Nat→Loc) (w0:World) (r:Option Nat) (m sz:Nat) (Z S:List (Nat×Nat×List Nat)) (listed:Array Bool) (a:Act) (w:World):Prop :=
 ∃ (L:Nat→Loc) (listed' : Array Bool) (hb:Yb) (ρb:Nat→Loc) (wb:World),listed.size=ops.size∧(∀ p∈S,p∈Z)∧(∀ p∈S,listed.getD p.1 false=true∧∀ e∈af.getD p.1 [],listed.getD e false=true) ∧
   (∀ j,listed'.getD j false=true↔listed.getD j false=true∧∀ p∈S,p.1≠j)∧Evo h0 ρ0 w0 hb ρb wb∧MidB P qs ops (extS af Z) tr e0 h0 hb ρb wb r m sz listed' a w ∧
   (∀ p∈S,∃ t c,(Ye ops)[p.1]? = some ⟨some p.2.1,.alloc t,none⟩∧Xn P t=some c∧Pnd P p.1 p.2.1 t c (L p.1) w0.heap.size hb ρb wb a)∧∀ p∈S,∀ q∈S,p.1≠q.1→(L p.1).blk≠(L q.1).blk
variable {Z S:List (Nat×Nat×List Nat)}
theorem PSt.name {listed:Array Bool} {a:Act} {w:World} (hd:drawOK (Ye ops) (extS af Z) qs=true) (hZ:manyOK (Ye ops) af Z=true)
  (hsp : ∀ k o,(Ye ops)[k]? = some o→∃ v,tr[k]? = some (v,Yd tr h0 (k+1))∧StepD P R (cls qs k o.op) o (Xa (Ye ops) tr e0 k) (Yd tr h0 k) v (Yd tr h0 (k+1)))
  (htl:tr.length=(Ye ops).length) (htab : ∀ p∈Tabs.tabs P,p.1<w0.heap.size) (hfw : ∀ j e,e∈af.getD j []→e<j)
  (st:PSt P qs ops af tr e0 h0 ρ0 w0 r m sz Z S listed a w) {q:Nat×Nat×List Nat} (hq:q∈S) (hall : ∀ k∈q.2.2,listed.getD k false=true∧∀ p∈S,p.1≠k) :
  PSt P qs ops af tr e0 h0 ρ0 w0 r m sz Z (S.filter fun p=>p.1 != q.1) listed a w:=by
 obtain ⟨L,listed',hb,ρb,wb,g1,g2,g3,g4,g5,M,g6,g7⟩:=st
 have hqZ:=g2 q hq
 obtain ⟨t,c,hso,hzc,pq⟩:=g6 q hq
 obtain ⟨hE0,_,hqu,hqe⟩:=manyOK_spec hZ hqZ
 obtain ⟨_,hzl,hXz,huq,hdep⟩:=earlyOK_spec hE0
 have hXs:=trace_same hsp htl
 obtain ⟨c0,hzc0,htr,htz⟩:=trace_alloc hsp hso
 rw [hzc] at hzc0; cases hzc0
 have hlen : ∀ p∈Z,p.1<af.length:=fun p hp=>(earlyOK_spec (manyOK_spec hZ hp).1).2.1
 have hz' : ¬ listed'.getD q.1 false=true:=fun h=>((g4 q.1).1 h).2 q hq rfl
 have hzs:q.1<listed'.size:=by
  have h1:=(g3 q hq).1
  have:q.1<listed.size:=by
   rcases Nat.lt_or_ge q.1 listed.size with h | h
   · exact h
   · simp [Array.getD_eq_getD_getElem?,Array.getElem?_eq_none h] at h1
  have:=M.size; omega
 have hc3:cls qs q.1 (.alloc t)=3:=rfl
 have hedge : ∀ e∈(extS af Z).getD q.1 [],listed'.getD e false=true:=fun e he=>by
  rcases (extS_mem Z af hlen).1 he with h | ⟨p,hp,h1,h2⟩
  · exact (g4 e).2 ⟨(g3 q hq).2 e h,fun p hp=>hqe e h p (g2 p hp)⟩
  · obtain rfl:=hqu p hp h1
    exact (g4 e).2 (hall e h2)
 obtain ⟨ρ,e,h,hE,hS,hA,_,hheapi,_,_,hnext⟩:=midB_next hd hso htr hXs M hzs hz' hedge
 have hh:=hheapi (.inl hc3)
 have pq2:=pq.evo hE rfl
 obtain ⟨c',k5,k6,k7,k8⟩:=pq2.cell
 have hSn:=sim_name (c:=c) hS k5 k6 k7 k8 pq2.info pq2.nl fun p hp he=>by have:=htab p hp; have:=pq2.ge; omega
 have hEn:=evo_name (c:=c) (t:=t) (g5.trans hE) pq2.ge
 have hag : ∀ i,i<h.length→Loc.upd ρ h.length (L q.1) i=ρ i:=fun i hi=>Loc.upd_lt ρ _ hi
 have hM:=hnext (h++[.cells c t false]) (Loc.upd ρ h.length (L q.1)) w (h++[.cells c t false]) (fun _=>by rw [htz,hh]) (fun h1=>absurd hc3 h1) _ a w (.refl _ _ _) hSn ⟨hA.size,fun i hi=>?_,hA.marks,hA.round⟩
 · refine ⟨L,listed'.setIfInBounds q.1 true,h++[.cells c t false],Loc.upd ρ h.length (L q.1),w,g1,fun p hp=>g2 p (List.mem_filter.1 hp).1,fun p hp=>g3 p (List.mem_filter.1 hp).1,fun j=>?_,hEn,hM,fun p hp=>?_,fun p hp p' hp'=>g7 p (List.mem_filter.1 hp).1 p' (List.mem_filter.1 hp').1⟩
   · rw [Yj hzs]
     constructor
     · rintro (rfl | h)
       · refine ⟨(g3 q hq).1,fun p hp hpe=>?_⟩
         have:=(List.mem_filter.1 hp).2
         simp [hpe] at this
       · exact ⟨((g4 j).1 h).1,fun p hp=>((g4 j).1 h).2 p (List.mem_filter.1 hp).1⟩
     · rintro ⟨h1,h2⟩
       by_cases hj:j=q.1
       · exact .inl hj
       · refine .inr ((g4 j).2 ⟨h1,fun p hp hpe=>h2 p (List.mem_filter.2 ⟨hp,?_⟩) hpe⟩)
         simp [hpe,hj]
   · obtain ⟨hp1,hp2⟩:=List.mem_filter.1 hp
     have hpne:p.1≠q.1:=by simpa using hp2
     obtain ⟨t',c2,f1,f2,f3⟩:=g6 p hp1
     have f4:=f3.evo hE rfl
     refine ⟨t',c2,f1,f2,f4.cell,f4.info,?_,f4.ge,f4.ptr⟩
     rintro ⟨i,x,hv,hk⟩
     rcases Xp hv with ⟨hi,hv1⟩ | ⟨rfl,hv1⟩
     · rw [hag i hi] at hk; exact f4.nl ⟨i,x,hv1,hk⟩
     · rw [Loc.upd_same] at hk; exact g7 p hp1 q hq hpne hk.symm
 · simp only [Zt,sget_sput]
   by_cases hid:q.2.1=i
   · subst hid
     rw [if_pos rfl,pq2.ptr,← hh]
     have:=VRel.ptr (n:=(h++[Blk.cells c t false]).length) (ρ:=Loc.upd ρ h.length (L q.1)) (b:=h.length) (o:=0) (by simp)
     rwa [Loc.upd_same] at this
   · rw [if_neg hid]
     exact (hA.env i hi).mono (by simp) hag
theorem PSt.enter {n:Nat} {Qx:Exit→Act→World→Prop} {listed:Array Bool} {a:Act} {w:World} {o' : Oper} {q:Nat×Nat×List Nat} (ho' : ops[q.1]? = some o') (hok : ∀ o∈ops.toList,opsOK sz ops o=true) (hZ:manyOK (Ye ops) af Z=true) (hqZ:q∈Z)
  (hsp : ∀ k o,(Ye ops)[k]? = some o→∃ v,tr[k]? = some (v,Yd tr h0 (k+1))∧StepD P R (cls qs k o.op) o (Xa (Ye ops) tr e0 k) (Yd tr h0 k) v (Yd tr h0 (k+1)))
  (hud:sget e0 q.2.1=undef) (hm:m≤w0.heap.size) (st:PSt P qs ops af tr e0 h0 ρ0 w0 r m sz Z S listed a w) (hil:q.1<listed.size) (hiS : ¬ listed.getD q.1 false=true) (hedge : ∀ e∈af.getD q.1 [],listed.getD e false=true) (K:Act→World→Prop)
  (hK : ∀ a' w',PSt P qs ops af tr e0 h0 ρ0 w0 r m sz Z (q::S) (listed.setIfInBounds q.1 true) a' w'→K a' w'):wpOpIn (fence r) n P ops Qx q.1 K a w:=by
 obtain ⟨L,listed',hb,ρb,wb,g1,g2,g3,g4,g5,M,g6,g7⟩:=st
 obtain ⟨hE0,_,hqu,hqe⟩:=manyOK_spec hZ hqZ
 obtain ⟨⟨t,hso⟩,hzl,hXz,huq,hdep⟩:=earlyOK_spec hE0
 obtain ⟨c,hzc,htr,htz⟩:=trace_alloc hsp hso
 have hnS : ∀ p∈S,p.1≠q.1:=fun p hp hpe=>hiS (hpe▸(g3 p hp).1)
 have hiS' : ¬ listed'.getD q.1 false=true:=fun h=>hiS ((g4 _).1 h).1
 have hdst' : ∀ p∈S,o'.dst≠some p.2.1:=fun p hp hpd=>by
  obtain ⟨_,_,f1,_⟩:=g6 p hp
  have hse:=strip_get' ho'
  rw [hso] at hse
  injection hse with hse
  have hdst:o'.dst=some q.2.1:=by injection hse with h1 _ _; exact h1.symm
  rw [hdst] at hpd
  injection hpd with hpd
  exact hnS p hp (huq p.1 _ f1 (by show some p.2.1=some q.2.1; rw [hpd]))
 have hget:=M.st
 obtain ⟨ρ,e,h,hE,hS,hA,hslot,kh,hheap,hheapS⟩:=hget
 have hse:=strip_get' ho'
 rw [hso] at hse
 injection hse with hse
 have hdst:o'.dst=some q.2.1:=by injection hse with h1 _ _; exact h1.symm
 have hop:o'.op = .alloc t:=by injection hse with _ h1 _; exact h1.symm
 have hgd:o'.guard=none:=by
  injection hse with _ _ h1
  cases hg:o'.guard with
  | none=>rfl
  | some p=>rw [hg] at h1; cases h1
 have hmem:o'∈ops.toList:=by rw [Array.mem_toList_iff]; exact Array.mem_of_getElem? ho'
 have hok':=hok o' hmem
 simp only [opsOK,Bool.and_eq_true] at hok'
 have hds:q.2.1<sz:=by
  have:=hok'.1
  simp only [opOK,hdst,Bool.and_eq_true,decide_eq_true_eq] at this
  exact this.2
 have hmw:m≤w.heap.size:=Nat.le_trans hm (Nat.le_trans g5.wsize hE.wsize)
 have hun:sget e q.2.1=undef:=by
  obtain ⟨k,k1,k2⟩:=hslot q.2.1
  rw [k1,← hud]
  exact envAt_eq (b:=0) fun j oj hj hdj=>by
   have hjz:=huq j oj hj hdj
   subst hjz
   have:=k2 _ oj hj hdj
   exact ⟨fun h=>absurd (this.2 h) hiS',fun h=>by omega⟩
 have hk:aop P false o'.op (ev e) h (fun v' h'=>(fun e1 h2=>e1=Zt e (some q.2.1) (Xh h)∧h2=h++[.cells c t false]) (Zt e o'.dst v') h'):=by
  rw [hop]
  simp only [aop,Wi,hzc,hdst]
  refine ⟨?_,?_⟩ <;> trivial
 have run:wpOpIn (fence r) n P ops Qx q.1 (fun a' w'=>∃ ρ',Evo h ρ w (h++[.cells c t false]) ρ' w'∧Sim P ρ' (h++[.cells c t false]) w'∧ARel r m sz ρ' (h++[.cells c t false]) (Zt e (some q.2.1) (Xh h)) a' w') a w:=by
  unfold wpOpIn
  rw [ho']
  simp only
  rw [if_pos (by simp [Region.wanted,hgd])]
  refine Oper.wpIn_mono ?_ (op_ok (P:=P) (sz:=sz) (K:=fun e1 h2=>e1=Zt e (some q.2.1) (Xh h)∧h2=h++[.cells c t false]) hok'.1 hk r n m ρ a w hmw hS hA Qx)
  rintro a' w' ⟨ρ',_,_,⟨rfl,rfl⟩,gE,gS,gA⟩
  exact ⟨ρ',gE,gS,gA⟩
 refine wpOpIn_mono ?_ (wpOpIn_puts ho' S hdst' run)
 rintro a' w' ⟨⟨ρ',gE,gS,gA⟩,hput⟩
 refine hK a' w' ?_
 obtain ⟨fS,fE⟩:=sim_forget hS gE gS
 have hnew:view (h++[.cells c t false]) h.length=some (c,t,false):=by simp [view,Blk.view]
 obtain ⟨c',fr,k1,k2,k3,k4,k5⟩:=gS.cells h.length c t false hnew (by rw [side_new]; rfl)
 obtain ⟨rfl,k6⟩:=k5 rfl
 have hnl : ¬ Live h ρ' (ρ' h.length).blk:=by
  rintro ⟨i,x,hv,hb⟩
  have:=gS.inj i h.length x _ (view_ext (Ext.app _ _ _) hv) hnew hb
  have:=Wl hv; omega
 have hptr:a'.tmps.getD q.2.1 undef = .pointer (some ⟨(ρ' h.length).blk,0,none⟩):=by
  have h1:=gA.env q.2.1 (by rw [gA.size]; exact hds)
  simp only [Zt,sget_sput,if_pos] at h1
  exact h1.ptr'.2.2
 have hge:w.heap.size≤(ρ' h.length).blk:=by
  rcases gE.orig _ ⟨h.length,c,t,hnew,rfl⟩ with h1 | ⟨i,c1,e1,hv,hb⟩
  · exact h1
  · exact absurd ⟨i,_,hv,by rw [gE.agree i (Wl hv)]; exact hb⟩ hnl
 have old : ∀ p∈S,∃ t c,(Ye ops)[p.1]? = some ⟨some p.2.1,.alloc t,none⟩∧Xn P t=some c∧Pnd P p.1 p.2.1 t c (L p.1) w0.heap.size h ρ w a:=fun p hp=>by
  obtain ⟨t',c2,f1,f2,f3⟩:=g6 p hp
  exact ⟨t',c2,f1,f2,f3.evo hE rfl⟩
 have oldlt : ∀ p∈S,(L p.1).blk<w.heap.size:=fun p hp=>by
  obtain ⟨t',c2,f1,f2,f3⟩:=old p hp
  exact f3.lt
 have hL : ∀ p∈S,(fun j=>if j=q.1 then ρ' h.length else L j) p.1=L p.1:=fun p hp=>by simp [hnS p hp]
 have hLq:(fun j=>if j=q.1 then ρ' h.length else L j) q.1=ρ' h.length:=by simp
 refine ⟨fun j=>if j=q.1 then ρ' h.length else L j,listed',h,ρ',w',by simp [g1],fun p hp=>?_,fun p hp=>?_,fun j=>?_,g5.trans (hE.trans fE),?_,fun p hp=>?_,fun p hp p' hp' hne=>?_⟩
 · rcases List.mem_cons.1 hp with rfl | hp
   · exact hqZ
   · exact g2 p hp
 · rcases List.mem_cons.1 hp with rfl | hp
   · exact ⟨(Yj hil).2 (.inl rfl),fun e he=>(Yj hil).2 (.inr (hedge e he))⟩
   · exact ⟨(Yj hil).2 (.inr (g3 p hp).1),fun e he=>(Yj hil).2 (.inr ((g3 p hp).2 e he))⟩
 · rw [g4 j,Yj hil]
   constructor
   · rintro ⟨h1,h2⟩
     refine ⟨.inr h1,fun p hp=>?_⟩
     rcases List.mem_cons.1 hp with rfl | hp
     · rintro rfl; exact hiS h1
     · exact h2 p hp
   · rintro ⟨h1,h2⟩
     rcases h1 with rfl | h1
     · exact absurd rfl (h2 q (List.mem_cons_self ..))
     · exact ⟨h1,fun p hp=>h2 p (List.mem_cons_of_mem _ hp)⟩
 · refine ⟨M.size,M.closed,ρ',e,h,.refl _ _ _,fS,⟨gA.size,fun i hi=>?_,gA.marks,gA.round⟩,hslot,kh,hheap,hheapS⟩
   by_cases hid:i=q.2.1
   · subst hid; rw [hun]; exact .any _
   · have h1:=gA.env i hi
     simp only [Zt,sget_sput,if_neg (Ne.symm hid)] at h1
     exact (hA.env i (by rw [hA.size,← gA.size]; exact hi)).restrict h1 gE.agree
 · rcases List.mem_cons.1 hp with rfl | hp
   · refine ⟨t,c,hso,hzc,?_⟩
     rw [hLq]
     exact ⟨⟨c',k1,k2,k3,fun k hk=>(k4 k hk).of_atom (zeroOf_atom hzc k hk)⟩,k6,hnl,Nat.le_trans (Nat.le_trans g5.wsize hE.wsize) hge,hptr⟩
   · obtain ⟨t',c2,f1,f2,f3⟩:=old p hp
     rw [hL p hp]
     exact ⟨t',c2,f1,f2,f3.evo fE (hput p hp)⟩
 · rcases List.mem_cons.1 hp with e1 | h1 <;> rcases List.mem_cons.1 hp' with e2 | h2
   · rw [e1,e2] at hne; exact absurd rfl hne
   · rw [e1,hLq,hL p' h2]
     have:=oldlt p' h2; omega
   · rw [e2,hLq,hL p h1]
     have:=oldlt p h1; omega
   · rw [hL p h1,hL p' h2]
     exact g7 p h1 p' h2 hne
end
end Go.Am
