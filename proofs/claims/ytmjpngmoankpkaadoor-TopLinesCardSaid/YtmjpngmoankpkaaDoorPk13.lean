/-
  top: TopLines' event: in which lines a stands ahead of b.
  top: TopLines' bets: one pair.
  top: TopLines' bets: all pairs.
  top: TopLines: the even chances, a bet changed, copies.
  top: the law TopLines.
-/
import Derived.Test.YtmjpngmoankpkaaDoorPk12
set_option linter.all false
namespace Go.Proofs.Tryd.Am.Tl
open Go.Proofs.Tryd.Am
open Go.Am Ord Bq
set_option maxRecDepth 100000
set_option maxHeartbeats 4000000
abbrev pt (b:Nat):Value:=.pointer (some ⟨b,0,none⟩)
theorem shlI (n:Nat) (h:n≤62):shlV .i64 1 (n:Int)=((2 ^ n:Nat):Int):=by
 rw [Or.shl1 h]; simp
theorem set_last (g:Zh) (B C:Blk):(g++[B]).set g.length C=g++[C]:=Be.set_new g B C
theorem idx_cast (l:List Nat) (a:Nat):(Or.castN l).idxOf ((a:Nat):Int)=l.idxOf a:=by
 induction l with
 | nil=>rfl
 | cons x l ih =>
   rw [Or.castN,List.map_cons,List.idxOf_cons,List.idxOf_cons]
   have e:(((x:Nat):Int)==((a:Nat):Int))=(x==a):=by
    rw [Bool.eq_iff_iff,beq_iff_eq,beq_iff_eq]; exact Int.ofNat_inj
   rw [e]
   have ih' : List.idxOf ((a:Nat):Int) (List.map (fun (i:Nat)=>(i:Int)) l)=l.idxOf a:=ih
   rw [ih']
theorem line_loop [Tabs prog] {G:Zh} {wv:Value} {L:List (List Nat)} {m a b:Nat} (hR:RdL 3 G wv (L.map Or.castN)) (hL:L.length≤4) (hp : ∀ l∈L,l.Perm (List.range m)) (hm:m≤6) (ha:a<m) (hb:b<m)
  {v ov av:Value} {z c:Int} {N:Nat} {Q:Exit→Env→Zh→Prop}
  (hk : ∀ e,ELe e [(0,v),(1,Zd z),(2,Zd c),(6,.bool false),(7,wv),(9,Zd (N:Nat)),(10,ov),(12,av),(13,Zd (a:Nat)),(14,Zd (b:Nat)),(15,pt G.length),(62,Zd m),(63,Zd (a:Nat)),(67,Zd m),(68,Zd (b:Nat))]→Q .normal e (G++[.cells [Zd (evN L a b L.length:Nat)] 3 false])) :
  AWS prog 212 (.seq q5_24 (.block 6 (.loop l5_1))) Q [(0,v),(1,Zd z),(2,Zd c),(6,.bool false),(7,wv),(9,Zd (N:Nat)),(10,ov),(12,av),(13,Zd (a:Nat)),(14,Zd (b:Nat)),(15,pt G.length),(62,Zd m),(63,Zd (a:Nat)),(67,Zd m),(68,Zd (b:Nat))] (G++[.cells [Zd 0] 3 false]):=by
 have hRk : ∀ k:Nat,RdL 3 (G++[Blk.cells [Zd (evN L a b k:Nat)] 3 false]) wv (L.map Or.castN):=fun k=>hR.ext (Ext.app _ _ _)
 have hlen:(L.map Or.castN).length=L.length:=List.length_map ..
 have hb15 : ∀ k:Nat,(G++[Blk.cells [Zd (evN L a b k:Nat)] 3 false])[G.length]? = some (.cells [Zd (evN L a b k:Nat)] 3 false):=fun k=>Zr _ _
 have ld : ∀ (k:Nat) {K:Value→Prop},Xs prog (G++[Blk.cells [Zd (evN L a b k:Nat)] 3 false]) 3 (.pointer (some ⟨G.length,0,none⟩)) K=K (Zd (evN L a b k:Nat)):=fun k {K}=>loadC (o:=0) (hb15 k) Yy rfl
 have st : ∀ (k:Nat) {x:Int} {K:Zh→Prop},Xq prog (G++[Blk.cells [Zd (evN L a b k:Nat)] 3 false]) 3 (.pointer (some ⟨G.length,0,none⟩)) (.int .i64 x) K=K (G++[Blk.cells [Zd x] 3 false]):=fun k {x K}=>by
  rw [storeC (hb15 k) Yy rfl (by simp),set_last]; rfl
 have rl:=hR.len
 rw [hlen] at rl
 refine Zg fun N1 hN1=>?_
 simp (maxSteps:=2000000) only [↓Za,↓Zb,↓Zc,vup,List.map_cons,List.map_nil,cond_true,cond_false,aop,Zf,ev,sput,Ze,Zi,Nat.reduceBEq,tyf,rl]
 refine hN1 [(0,v),(1,Zd z),(2,Zd c),(6,.bool false),(7,wv),(9,Zd (N:Nat)),(10,ov),(12,av),(13,Zd (a:Nat)),(14,Zd (b:Nat)),(15,pt G.length),(62,Zd m),(63,Zd (a:Nat)),(67,Zd m),(68,Zd (b:Nat)),(76,wv),(77,Zd L.length),(78,.int .i64 0)] _ _ ?_ (by simp (maxSteps:=2000000) only [vup,cond_true,cond_false,Nat.reduceBEq])
 clear hN1
 try clear N1
 refine Zx ?_
 refine Zy fun Q1 hQ1=>?_
 refine Xa (γ:=Nat) (fun k=>k≤L.length) (fun k=>([(0,v),(1,Zd z),(2,Zd c),(6,.bool false),(7,wv),(9,Zd (N:Nat)),(10,ov),(12,av),(13,Zd (a:Nat)),(14,Zd (b:Nat)),(15,pt G.length),(62,Zd m),(63,Zd (a:Nat)),(67,Zd m),(68,Zd (b:Nat)),(76,wv),(77,Zd L.length),(78,Zd (k:Nat))],G++[Blk.cells [Zd (evN L a b k:Nat)] 3 false])) (fun k=>L.length-k) 0 (Nat.zero_le _) (by simp (maxSteps:=2000000) only [vup,cond_true,cond_false,Nat.reduceBEq,Int.natCast_zero]) rfl ?_
 rintro k hkL
 refine Zy fun Q2 hQ2=>?_
 simp only [l5_1]
 by_cases hin:(k:Int)<L.length
 · have hk' : k<L.length:=by omega
   have hmem:L.getD k []∈L:=by rw [List.getD,List.getElem?_eq_getElem hk']; exact List.getElem_mem hk'
   have hpk:=hp _ hmem
   obtain ⟨w,hw,hld⟩:=(hRk k).load (t:=27) Xy (show k<(L.map Or.castN).length by omega)
   have hidx:=(hRk k).idx (P:=prog) (t:=22) el_22 esz_27 (k:=.i64) (show k<(L.map Or.castN).length by omega)
   have hrow:(L.map Or.castN).getD k []=Or.castN (L.getD k []):=by simp [List.getD,List.getElem?_eq_getElem hk']
   rw [hrow] at hw
   have hwl:(Or.castN (L.getD k [])).length<9223372036854775807:=by rw [Or.castN,List.length_map,hpk.length_eq,List.length_range]; omega
   have hia:((a:Nat):Int)∈Or.castN (L.getD k []):=List.mem_map.2 ⟨a,hpk.mem_iff.2 (List.mem_range.2 ha),rfl⟩
   have hib:((b:Nat):Int)∈Or.castN (L.getD k []):=List.mem_map.2 ⟨b,hpk.mem_iff.2 (List.mem_range.2 hb),rfl⟩
   refine Zg fun N2 hN2=>?_
   simp (maxSteps:=2000000) only [↓Za,↓Zb,↓Zc,vup,cond_true,cond_false,aop,Zf,ev,sput,Ze,Yf,Yi,Nat.reduceBEq,hin]
   refine hN2 [(0,v),(1,Zd z),(2,Zd c),(6,.bool false),(7,wv),(9,Zd (N:Nat)),(10,ov),(12,av),(13,Zd (a:Nat)),(14,Zd (b:Nat)),(15,pt G.length),(62,Zd m),(63,Zd (a:Nat)),(67,Zd m),(68,Zd (b:Nat)),(76,wv),(77,Zd L.length),(78,Zd (k:Nat)),(79,.bool true)] _ _ ?_ (by simp (maxSteps:=2000000) only [vup,cond_true,cond_false,Nat.reduceBEq])
   clear hN2
   try clear N2
   refine Zg fun N3 hN3=>?_
   simp (maxSteps:=2000000) only [↓Zn,↓vdn,vup,cond_true,cond_false,Zf,ev,Nat.reduceBEq]
   refine hN3 [(0,v),(1,Zd z),(2,Zd c),(6,.bool false),(7,wv),(9,Zd (N:Nat)),(10,ov),(12,av),(13,Zd (a:Nat)),(14,Zd (b:Nat)),(15,pt G.length),(62,Zd m),(63,Zd (a:Nat)),(67,Zd m),(68,Zd (b:Nat)),(76,wv),(77,Zd L.length),(78,Zd (k:Nat))] _ _ ?_ (by simp (maxSteps:=2000000) only [vup,cond_true,cond_false,Nat.reduceBEq])
   clear hN3
   try clear N3
   refine Zt fun B hB=>?_
   refine Zx ?_
   refine Zg fun N4 hN4=>?_
   simp (maxSteps:=2000000) only [↓Za,↓Zb,↓Zc,vup,cond_true,cond_false,aop,Zf,ev,sput,Ze,Nat.reduceBEq,hidx,hld]
   refine hN4 [(0,v),(1,Zd z),(2,Zd c),(6,.bool false),(7,wv),(9,Zd (N:Nat)),(10,ov),(12,av),(13,Zd (a:Nat)),(14,Zd (b:Nat)),(15,pt G.length),(16,Zd (k:Nat)),(17,w),(62,Zd m),(63,Zd (a:Nat)),(67,Zd m),(68,Zd (b:Nat)),(76,wv),(77,Zd L.length),(78,Zd (k:Nat))] _ _ ?_ (by simp (maxSteps:=2000000) only [vup,cond_true,cond_false,Nat.reduceBEq])
   clear hN4
   try clear N4
   have hbf:decide (((L.getD k []).idxOf a:Int)<((L.getD k []).idxOf b:Int))=bef (L.getD k []) a b:=by
    rw [bef,Bool.eq_iff_iff,decide_eq_true_eq,decide_eq_true_eq]; exact Int.ofNat_lt
   refine Zg fun N5 hN5=>?_
   simp (maxSteps:=2000000) only [↓Za,↓Zb,↓Zc,vup,List.map_cons,List.map_nil,cond_true,cond_false,aop,Zf,ev,sput,Ze,Yf,Yi,Nat.reduceBEq,tyf,Yn,List.nil_append,List.append_nil]
   refine (index_call hw.int hwl hia).mono ?_
   rintro _ H1 ⟨rfl,rfl⟩
   refine (index_call hw.int hwl hib).mono ?_
   rintro _ H1 ⟨rfl,rfl⟩
   simp (maxSteps:=2000000) only [vup,idx_cast,hbf]
   refine hN5 [(0,v),(1,Zd z),(2,Zd c),(6,.bool false),(7,wv),(9,Zd (N:Nat)),(10,ov),(12,av),(13,Zd (a:Nat)),(14,Zd (b:Nat)),(15,pt G.length),(16,Zd (k:Nat)),(17,w),(62,Zd m),(63,Zd (a:Nat)),(67,Zd m),(68,Zd (b:Nat)),(76,wv),(77,Zd L.length),(78,Zd (k:Nat)),(89,.bool (bef (L.getD k []) a b))] _ _ ?_ (by simp (maxSteps:=2000000) only [vup,cond_true,cond_false,Nat.reduceBEq])
   clear hN5
   try clear N5
   cases hbe:bef (L.getD k []) a b with
   | false =>
     have hev:evN L a b (k+1)=evN L a b k:=by rw [evN,if_neg (by rw [hbe]; decide)]
     refine Xh rfl ?_
     refine Zm ?_
     simp (maxSteps:=2000000) only [↓Zn,Zf,Zo]
     refine hB [(0,v),(1,Zd z),(2,Zd c),(6,.bool false),(7,wv),(9,Zd (N:Nat)),(10,ov),(12,av),(13,Zd (a:Nat)),(14,Zd (b:Nat)),(15,pt G.length),(62,Zd m),(63,Zd (a:Nat)),(67,Zd m),(68,Zd (b:Nat)),(76,wv),(77,Zd L.length),(78,Zd (k:Nat))] _ _ ?_ (by simp (maxSteps:=2000000) only [vup,cond_true,cond_false,Nat.reduceBEq])
     clear hB
     try clear B
     refine Zm ?_
     simp (maxSteps:=2000000) only [↓Za,↓Zb,↓Zc,vup,cond_true,cond_false,aop,ev,sput,Ze,Yf,Yi,Nat.reduceBEq,add1 (show k<9223372036854775807 by omega)]
     exact hQ2 _ _ _ ⟨k+1,hk',by omega,by simp (maxSteps:=2000000) only [vup,cond_true,cond_false,Nat.reduceBEq],by rw [hev]⟩
   | true =>
     have hev:evN L a b (k+1)=evN L a b k ||| 2 ^ k:=by rw [evN,if_pos hbe]
     have hlt:=evN_lt L a b k
     have h16:(2:Nat) ^ k≤2 ^ 4:=Nat.pow_le_pow_right (by decide) (by omega)
     have hor:Vl .or .i64 ((evN L a b k:Nat):Int) ((2 ^ k:Nat):Int)=((evN L a b (k+1):Nat):Int):=by
      rw [bitsV_or (by omega) (by omega),hev]
     refine Xu rfl ?_
     simp only [q5_28]
     refine Zm ?_
     refine Yx [] (by kernel_rfl) (by kernel_rfl) (by kernel_rfl) (by kernel_rfl) ?_
     simp (maxSteps:=2000000) only [↓Zz,↓vdn,vup,cond_true,cond_false,aop,Zf,Zo,ev,sput,Ze,Yf,Yi,Nat.reduceBEq,tyf,ld k,Int.natCast_nonneg,shlI k (by omega),hor,st k]
     refine hB [(0,v),(1,Zd z),(2,Zd c),(6,.bool false),(7,wv),(9,Zd (N:Nat)),(10,ov),(12,av),(13,Zd (a:Nat)),(14,Zd (b:Nat)),(15,pt G.length),(62,Zd m),(63,Zd (a:Nat)),(67,Zd m),(68,Zd (b:Nat)),(76,wv),(77,Zd L.length),(78,Zd (k:Nat))] _ _ ?_ (by simp (maxSteps:=2000000) only [vup,cond_true,cond_false,Nat.reduceBEq])
     clear hB
     try clear B
     refine Zm ?_
     simp (maxSteps:=2000000) only [↓Za,↓Zb,↓Zc,vup,cond_true,cond_false,aop,ev,sput,Ze,Yf,Yi,Nat.reduceBEq,add1 (show k<9223372036854775807 by omega)]
     exact hQ2 _ _ _ ⟨k+1,hk',by omega,by simp (maxSteps:=2000000) only [vup,cond_true,cond_false,Nat.reduceBEq],rfl⟩
 obtain rfl:k=L.length:=by omega
 refine Zg fun N6 hN6=>?_
 simp (maxSteps:=2000000) only [↓Za,↓Zb,↓Zc,vup,cond_true,cond_false,aop,Zf,ev,sput,Ze,Yf,Yi,Nat.reduceBEq,hin]
 refine hN6 [(0,v),(1,Zd z),(2,Zd c),(6,.bool false),(7,wv),(9,Zd (N:Nat)),(10,ov),(12,av),(13,Zd (a:Nat)),(14,Zd (b:Nat)),(15,pt G.length),(62,Zd m),(63,Zd (a:Nat)),(67,Zd m),(68,Zd (b:Nat)),(76,wv),(77,Zd L.length),(78,Zd L.length),(79,.bool false)] _ _ ?_ (by simp (maxSteps:=2000000) only [vup,cond_true,cond_false,Nat.reduceBEq])
 clear hN6
 try clear N6
 refine Zg fun N7 hN7=>?_
 simp (maxSteps:=2000000) only [↓Yo,↓vdn,vup,cond_true,cond_false,Zf,ev,Nat.reduceBEq]
 refine hQ2 _ _ _ (hQ1 _ _ _ ?_)
 simp (maxSteps:=2000000) only [Zo,if_true]
 exact hk _ (by simp (maxSteps:=2000000) only [vup,cond_true,cond_false,Nat.reduceBEq])
end Go.Proofs.Tryd.Am.Tl
namespace Go.Proofs.Tryd.Am.Tl
open Go.Proofs.Tryd.Am
open Go.Am Ord Bq
set_option maxRecDepth 100000
set_option maxHeartbeats 4000000
structure AL (h hp:Zh) (N:Nat) (av:Value) (l:List (Int×Int)):Prop where
 own:OwnP 51 hp av l
 ext:Ext (fun _=>False) h hp
 blk : ∀ b,Yc av=some b→h.length≤b
 bok : ∀ p∈l,BOK N p
 nd:(l.map (·.1)).Nodup
 six:l.length≤6
theorem AL.nil (h:Zh) (N:Nat):AL h h N (.slice none 0 0) []:=⟨.inl ⟨rfl,rfl⟩,Ext.refl _ _,nofun,nofun,List.nodup_nil,by decide⟩
theorem AL.more {h hp hq:Zh} {N:Nat} {av:Value} {l:List (Int×Int)} (s:AL h hp N av l) (hE:Ext (fun _=>False) hp hq):AL h hq N av l:=⟨s.own.ext hE,s.ext.trans hE,s.blk,s.bok,s.nd,s.six⟩
theorem bldB {x y:Int} {K:Value→Prop}:Wv prog 51 [(0,Zd x),(1,Zd y)] K=K (.agg #[Zd x,Zd y]):=by
 simp [Wv,zero_51,Vx,pl_51_0,pl_51_1,Wk,cellsOf,Yk]
theorem litB {h:Zh} {x y:Int} {K:Value→Zh→Prop}:Yj prog h 46 1 [(0,.agg #[Zd x,Zd y])] K=K (.slice (some ⟨h.length,0,none⟩) 1 1) (h++[.ints [x,y] 51 false]):=by
 simp only [Yj,el_46,zero_51,esz_51,reps,Vx,mkb,Wk,cellsOf,List.length_cons,List.length_nil,Nat.zero_add,Nat.zero_mul,Yk]
 refine propext ⟨fun h=>?_,fun h=>⟨trivial,by decide,by decide,?_⟩⟩
 · simpa [Yv] using h.2.2.2
 · simpa [Yv] using h
theorem pair_step [BitTab prog 0] {h hp:Zh} {o:List Int} {v wv ov av:Value} {z c:Int} {a b:Nat} {l:List (Int×Int)} {Q:Exit→Env→Zh→Prop} (ho:ord o=true) (hx : ∀ x∈o,-9223372036854775808≤x∧x<9223372036854775808)
  (h2:2≤cn o) (h4:cn o≤4) (hv:IntSl h v o) (hR:RdL 3 h wv ((Wg o).map Or.castN)) (s:AL h hp (cn o) av l) (ha:a<o.length) (hb:b<o.length) (hf:fr o a b=true)
  (hk : ∀ e hq av' l',AL h hq (cn o) av' l'→l'≠[]→ELe e [(0,v),(1,Zd z),(2,Zd c),(6,.bool false),(7,wv),(9,Zd (cn o:Nat)),(10,ov),(12,av'),(13,Zd (a:Nat)),(14,Zd (b:Nat)),(62,Zd o.length),(63,Zd (a:Nat)),(67,Zd o.length),(68,Zd (b:Nat))]→Q .normal e hq) :
  AWS prog 212 (.seq q5_23 (.seq (.seq q5_24 (.block 6 (.loop l5_1))) (.seq q5_30 (.seq (.seq q5_31 (.cond (.tmp 115) (.seq q5_32 .ret) .skip)) (.seq q5_33 (.seq q5_34 (.cond (.tmp 132) q5_35 .skip))))))) Q [(0,v),(1,Zd z),(2,Zd c),(6,.bool false),(7,wv),(9,Zd (cn o:Nat)),(10,ov),(12,av),(13,Zd (a:Nat)),(14,Zd (b:Nat)),(62,Zd o.length),(63,Zd (a:Nat)),(67,Zd o.length),(68,Zd (b:Nat))] hp:=by
 have hol:=Wj ho
 have hab:a≠b:=fun hc=>by rw [fr,hc] at hf; simp at hf
 have n00:((0:Int) != 0)=false:=rfl
 have st0 : ∀ {K:Zh→Prop},Xq prog (hp++[Blk.cells [.int .i64 0] 3 false]) 3 (.pointer (some ⟨hp.length,0,none⟩)) (.int .i64 0) K=K (hp++[Blk.cells [Zd 0] 3 false]):=fun {K}=>by
  rw [storeC (Zr _ _) Yy rfl (by simp),set_last]; rfl
 refine Zg fun N1 hN1=>?_
 simp (maxSteps:=2000000) only [↓Za,↓Zb,↓Zc,vup,cond_true,cond_false,aop,Zf,ev,sput,Ze,Nat.reduceBEq,tyf,Xg,Yg,st0]
 refine hN1 [(0,v),(1,Zd z),(2,Zd c),(6,.bool false),(7,wv),(9,Zd (cn o:Nat)),(10,ov),(12,av),(13,Zd (a:Nat)),(14,Zd (b:Nat)),(15,pt hp.length),(62,Zd o.length),(63,Zd (a:Nat)),(67,Zd o.length),(68,Zd (b:Nat))] _ _ ?_ (by simp (maxSteps:=2000000) only [vup,cond_true,cond_false,Nat.reduceBEq])
 clear hN1
 try clear N1
 refine Zt fun B hB=>?_
 refine line_loop (hR.ext s.ext) (by rw [Vj]; exact h4) (fun l hl=>((mem_all ho).1 hl).1) hol.2 ha hb fun e he=>?_
 refine hB [(0,v),(1,Zd z),(2,Zd c),(6,.bool false),(7,wv),(9,Zd (cn o:Nat)),(10,ov),(12,av),(13,Zd (a:Nat)),(14,Zd (b:Nat)),(15,pt hp.length),(62,Zd o.length),(63,Zd (a:Nat)),(67,Zd o.length),(68,Zd (b:Nat))] _ _ ?_ he
 clear hB he e
 have hlL:=Vj o
 have hpop:pop (cn o) (evN (Wg o) a b (Wg o).length)=befN o a b:=by
  rw [← hlL,evN_pop,befN_eq ho ha hb hab]
 have hlt:=evN_lt (Wg o) a b (Wg o).length
 rw [hlL] at hpop hlt
 rw [hlL]
 generalize evN (Wg o) a b (cn o)=E at hpop hlt ⊢
 have h16:(2:Nat) ^ cn o≤2 ^ 4:=Nat.pow_le_pow_right (by decide) h4
 obtain ⟨pr1,pr2,pr3,pr4,pr5,pr6,pr7,pr8,_⟩:=price_all (cn o) (by omega) h2 E (by omega) hlt
 have hEx:Ext (fun _=>False) hp (hp++[Blk.cells [Zd (E:Nat)] 3 false]):=Ext.app _ _ _
 have cE:(hp++[Blk.cells [Zd (E:Nat)] 3 false])[hp.length]? = some (.cells [Zd (E:Nat)] 3 false):=Zr _ _
 have s1:=s.more hEx
 clear st0 hEx
 generalize hp++[Blk.cells [Zd (E:Nat)] 3 false]=H1 at s1 cE ⊢
 generalize hp.length=be at cE ⊢
 refine Zg fun N2 hN2=>?_
 simp (maxSteps:=2000000) only [↓Za,↓Zb,↓Zc,vup,List.map_cons,List.map_nil,cond_true,cond_false,aop,Zf,ev,sput,Ze,Nat.reduceBEq,Yn,List.nil_append,List.append_nil]
 refine (Or.clone_call (hv.same fun b hb=>s1.ext.2 b (hv.lt hb) id) (by omega)).mono ?_
 rintro l1 _ ⟨hl1,g1,rfl⟩
 refine (Or.chance_call hl1 (by omega) hx).mono ?_
 rintro _ H2 ⟨rfl,rfl⟩
 have hch:Or.chanceV o ((a:Nat):Int) ((b:Nat):Int) = .tuple #[.agg #[Zd (nuF (pop (cn o) E) (cn o)),Zd (deF (pop (cn o) E) (cn o))],.int .i64 0]:=by
  rw [Or.chanceV,if_pos ⟨ho,by simp [Or.elI]; omega,by simp [Or.elI]; omega,by omega⟩,Int.toNat_natCast,Int.toNat_natCast,hpop]; rfl
 rw [hch]
 simp (maxSteps:=2000000) only [Wh,Wi,tyf,Xg,Yg]
 rw [Be.storeF (Zr _ _) rfl,Be.set_new]
 have s2:=s1.more ((Ext.app (fun _=>False) H1 g1).trans (Ext.app _ _ [Blk.cells [Zd (nuF (pop (cn o) E) (cn o)),Zd (deF (pop (cn o) E) (cn o))] 45 false]))
 have cE2:=Yp (Yp cE g1) [Blk.cells [Zd (nuF (pop (cn o) E) (cn o)),Zd (deF (pop (cn o) E) (cn o))] 45 false]
 have cF:=Zr (H1++g1) (Blk.cells [Zd (nuF (pop (cn o) E) (cn o)),Zd (deF (pop (cn o) E) (cn o))] 45 false)
 generalize H1++g1++[Blk.cells [Zd (nuF (pop (cn o) E) (cn o)),Zd (deF (pop (cn o) E) (cn o))] 45 false]=H2 at s2 cE2 cF ⊢
 generalize (H1++g1).length=bf at cF ⊢
 clear s1 cE hl1 hch
 refine hN2 [(0,v),(1,Zd z),(2,Zd c),(6,.bool false),(7,wv),(9,Zd (cn o:Nat)),(10,ov),(12,av),(13,Zd (a:Nat)),(14,Zd (b:Nat)),(15,pt be),(18,pt bf),(19,.int .i64 0),(62,Zd o.length),(63,Zd (a:Nat)),(67,Zd o.length),(68,Zd (b:Nat))] _ _ ?_ (by simp (maxSteps:=2000000) only [vup,cond_true,cond_false,Nat.reduceBEq])
 clear hN2
 try clear N2
 have hd0 : ¬ (deF (pop (cn o) E) (cn o)=0):=by omega
 have hd1 : ¬ (deF (pop (cn o) E) (cn o)<1):=by omega
 have hq:quoV .i64 12 (deF (pop (cn o) E) (cn o))=(12:Int).tdiv (deF (pop (cn o) E) (cn o)):=Uh (by omega) (by omega)
 have hm:mulV .i64 ((12:Int).tdiv (deF (pop (cn o) E) (cn o))) (nuF (pop (cn o) E) (cn o))=cenF (pop (cn o) E) (cn o):=Uh (by show _≤cenF _ _; omega) (by show cenF _ _<_; omega)
 refine Zg fun N3 hN3=>?_
 simp (maxSteps:=2000000) only [↓Za,↓Zn,↓Zl,↓Zb,↓Zc,↓vdn,vup,cond_true,cond_false,aop,Zf,ev,sput,Ze,Yf,Yi,Nat.reduceBEq,tyf,n00,Be.fA1,Be.loadF1 cF,hd1,ne_eq,hd0,not_false_eq_true,pr2]
 refine hN3 [(0,v),(1,Zd z),(2,Zd c),(6,.bool false),(7,wv),(9,Zd (cn o:Nat)),(10,ov),(12,av),(13,Zd (a:Nat)),(14,Zd (b:Nat)),(15,pt be),(18,pt bf),(19,.int .i64 0),(62,Zd o.length),(63,Zd (a:Nat)),(67,Zd o.length),(68,Zd (b:Nat))] _ _ ?_ (by simp (maxSteps:=2000000) only [vup,cond_true,cond_false,Nat.reduceBEq])
 clear hN3
 try clear N3
 have hbok:BOK (cn o) ((E:Int),cenF (pop (cn o) E) (cn o)):=⟨E,hlt,rfl⟩
 have ldE : ∀ {z:Zh} {K:Value→Prop},z[be]? = some (.cells [Zd (E:Nat)] 3 false)→Xs prog z 3 (.pointer (some ⟨be,0,none⟩)) K=K (Zd (E:Nat)):=fun {z K} g=>loadC (o:=0) g Yy rfl
 generalize hcen:cenF (pop (cn o) E) (cn o)=cen at hm hbok
 generalize nuF (pop (cn o) E) (cn o)=nu at hm cF pr7
 generalize deF (pop (cn o) E) (cn o)=de at hd0 hq hm cF
 refine Zg fun N4 hN4=>?_
 simp only [q5_33]
 refine aw_drawE (fun z=>z[be]? = some (.cells [Zd (E:Nat)] 3 false)∧z[bf]? = some (Be.fC nu de)) [(0,5),(2,5),(5,5)] 8 20 [7] (by kernel_rfl) (by kernel_rfl) (by kernel_rfl) (by kernel_rfl) (by kernel_rfl) (by rfl) ⟨cE2,cF⟩ ?_
 simp (maxSteps:=2000000) only [↓Wa,↓vdn,vup,List.map_cons,List.map_nil,cond_true,cond_false,aop,Zf,ev,sput,Ze,Yf,Yi,Nat.reduceBEq,Nat.reduceAdd,tyf,Be.fA0,Be.fA1]
 refine ⟨Zd (E:Nat),fun _ g=>by rw [ldE g.1],Zd de,fun _ g=>by rw [Be.loadF1 g.2],?_⟩
 refine ⟨rfl,hd0,Zd nu,fun _ g=>by rw [Be.loadF0 g.2],rfl,?_⟩
 rw [hq,hm,bldB]
 simp (maxSteps:=2000000) only [tyf,Xg,Yg]
 refine ⟨⟨Yp cE2 _,Yp cF _⟩,?_⟩
 rw [Be.storeBt (Zr _ _) rfl,Be.set_new]
 refine ⟨⟨Yp cE2 _,Yp cF _⟩,?_⟩
 have s3:=s2.more (Ext.app _ _ [Be.bB (E:Nat) cen])
 have cE3:=Yp cE2 [Be.bB (E:Nat) cen]
 have cB:=Zr H2 (Be.bB (E:Nat) cen)
 generalize H2++[Be.bB (E:Nat) cen]=H3 at s3 cE3 cB ⊢
 generalize H2.length=bb at cB ⊢
 clear s2 cE2 cF
 refine hN4 [(0,v),(1,Zd z),(2,Zd c),(6,.bool false),(7,wv),(9,Zd (cn o:Nat)),(10,ov),(12,av),(13,Zd (a:Nat)),(14,Zd (b:Nat)),(15,pt be),(20,pt bb),(62,Zd o.length),(63,Zd (a:Nat)),(67,Zd o.length),(68,Zd (b:Nat))] _ _ ?_ (by simp (maxSteps:=2000000) only [vup,cond_true,cond_false,Nat.reduceBEq])
 clear hN4
 try clear N4
 have hs:=Be.hasB_call (h:=H3) (g:=26) (cap:=#[pt be]) (f:=fun p=>p.1==((E:Nat):Int)) s3.own.pair (by have:=s3.six; omega) (fun h' hx p hp=>same26_call ((hx.2 _ (Yb cE3) id).trans cE3))
 have hlen:=s3.own.pair.len
 have h6:=s3.six
 refine Zg fun N5 hN5=>?_
 simp (maxSteps:=2000000) only [↓Za,↓Zc,vup,List.map_cons,List.map_nil,cond_true,cond_false,aop,ev,sput,Ze,unK,Nat.reduceBEq,Yn,List.nil_append,List.append_nil,List.map_toArray]
 refine (hs).mono ?_
 rintro _ H3 ⟨rfl,rfl⟩
 cases hany:l.any fun p=>p.1==((E:Nat):Int) with
 | true =>
   have hne:l≠[]:=fun hc=>by rw [hc] at hany; cases hany
   simp (maxSteps:=2000000) only [↓Zb,↓vdn,vup,cond_true,cond_false,Zf,ev,sput,Ze,Nat.reduceBEq]
   refine hN5 [(0,v),(1,Zd z),(2,Zd c),(6,.bool false),(7,wv),(9,Zd (cn o:Nat)),(10,ov),(12,av),(13,Zd (a:Nat)),(14,Zd (b:Nat)),(15,pt be),(20,pt bb),(62,Zd o.length),(63,Zd (a:Nat)),(67,Zd o.length),(68,Zd (b:Nat)),(132,.bool false)] _ _ ?_ (by simp (maxSteps:=2000000) only [vup,cond_true,cond_false,Nat.reduceBEq])
   clear hN5
   try clear N5
   refine Xh rfl ?_
   refine Zm ?_
   simp (maxSteps:=2000000) only [↓Zn]
   exact hk _ _ _ _ s3 hne (by simp (maxSteps:=2000000) only [vup,cond_true,cond_false,Nat.reduceBEq])
 | false =>
   by_cases hl6:((l.length:Nat):Int)<6
   · simp (maxSteps:=2000000) only [↓Zb,↓Zc,↓vdn,vup,List.map_cons,List.map_nil,cond_true,cond_false,aop,Zf,ev,sput,Ze,Yf,Yi,Zi,Nat.reduceBEq,tyf,hlen,hl6]
     refine hN5 [(0,v),(1,Zd z),(2,Zd c),(6,.bool false),(7,wv),(9,Zd (cn o:Nat)),(10,ov),(12,av),(13,Zd (a:Nat)),(14,Zd (b:Nat)),(15,pt be),(20,pt bb),(62,Zd o.length),(63,Zd (a:Nat)),(67,Zd o.length),(68,Zd (b:Nat)),(132,.bool true)] _ _ ?_ (by simp (maxSteps:=2000000) only [vup,cond_true,cond_false,Nat.reduceBEq])
     clear hN5
     try clear N5
     refine Xu rfl ?_
     refine Zm ?_
     have lB : ∀ {K:Value→Prop},Xs prog H3 51 (.pointer (some ⟨bb,0,none⟩)) K=K (.agg #[Zd (E:Nat),Zd cen]):=fun {K}=>loadA cB (by rw [shp_51]; rfl)
     simp (maxSteps:=2000000) only [↓Za,↓Zb,↓Zc,vup,List.map_cons,List.map_nil,cond_true,cond_false,aop,ev,sput,Ze,Zi,Nat.reduceBEq,lB,litB]
     refine (s3.own.ext (Ext.app _ _ _)).append app_46_46 (by omega) (Zr _ _) fun v' h' hown hE' hb'=>?_
     have hx1:Ext (fun _=>False) H3 (H3++[Blk.ints [((E:Nat):Int),cen] 51 false]):=Ext.app _ _ _
     refine hk _ _ _ _ ⟨hown,?_,fun i hi=>?_,fun p hp=>?_,?_,by simp; omega⟩ (by simp) (by simp (maxSteps:=2000000) only [vup,cond_true,cond_false,Nat.reduceBEq])
     · have h1:=s3.ext.1
       have h2:=hx1.1
       have h3:=hE'.1
       refine ⟨by omega,fun i hi _=>?_⟩
       rw [hE'.2 i (by omega) fun hbb=>by have:=s3.blk i hbb; omega,hx1.2 i (by omega) id]
       exact s3.ext.2 i hi id
     · rcases hb' with h1 | ⟨b',h1,h2⟩
       · exact s3.blk i (h1▸hi)
       · rw [h1] at hi; cases hi; have:=s3.ext.1; have:=hx1.1; omega
     · rcases List.mem_append.1 hp with h1 | h1
       · exact s3.bok p h1
       · rw [List.mem_singleton.1 h1]; exact hbok
     · rw [List.map_append,List.nodup_append]
       refine ⟨s3.nd,by simp,fun x hx y hy hxy=>?_⟩
       obtain ⟨p,hp,rfl⟩:=List.mem_map.1 hx
       obtain rfl:y=((E:Nat):Int):=by simpa using hy
       have:=List.any_eq_false.1 hany p hp
       exact this (beq_iff_eq.2 hxy)
   · have hne:l≠[]:=fun hc=>by rw [hc] at hl6; exact hl6 (by decide)
     simp (maxSteps:=2000000) only [↓Zb,↓Zc,↓vdn,vup,List.map_cons,List.map_nil,cond_true,cond_false,aop,Zf,ev,sput,Ze,Yf,Yi,Zi,Nat.reduceBEq,tyf,hlen,hl6]
     refine hN5 [(0,v),(1,Zd z),(2,Zd c),(6,.bool false),(7,wv),(9,Zd (cn o:Nat)),(10,ov),(12,av),(13,Zd (a:Nat)),(14,Zd (b:Nat)),(15,pt be),(20,pt bb),(62,Zd o.length),(63,Zd (a:Nat)),(67,Zd o.length),(68,Zd (b:Nat)),(132,.bool false)] _ _ ?_ (by simp (maxSteps:=2000000) only [vup,cond_true,cond_false,Nat.reduceBEq])
     clear hN5
     try clear N5
     refine Xh rfl ?_
     refine Zm ?_
     simp (maxSteps:=2000000) only [↓Zn]
     exact hk _ _ _ _ s3 hne (by simp (maxSteps:=2000000) only [vup,cond_true,cond_false,Nat.reduceBEq])
end Go.Proofs.Tryd.Am.Tl
namespace Go.Proofs.Tryd.Am.Tl
open Go.Proofs.Tryd.Am
open Go.Am Ord Bq
set_option maxRecDepth 100000
set_option maxHeartbeats 4000000
theorem b_loop [BitTab prog 0] {h hp:Zh} {o:List Int} {v wv ov av:Value} {z c:Int} {a:Nat} {l:List (Int×Int)} {Q:Exit→Env→Zh→Prop} (ho:ord o=true) (hx : ∀ x∈o,-9223372036854775808≤x∧x<9223372036854775808)
  (h2:2≤cn o) (h4:cn o≤4) (hv:IntSl h v o) (hR:RdL 3 h wv ((Wg o).map Or.castN)) (s:AL h hp (cn o) av l) (ha:a<o.length) (hno:l≠[]∨∀ i,i<a→∀ j,j<o.length→fr o i j=false)
  (hk : ∀ e hq av' l',AL h hq (cn o) av' l'→(l'≠[]∨∀ i,i<a+1→∀ j,j<o.length→fr o i j=false)→ELe e [(0,v),(1,Zd z),(2,Zd c),(6,.bool false),(7,wv),(9,Zd (cn o:Nat)),(10,ov),(12,av'),(13,Zd (a:Nat)),(62,Zd o.length),(63,Zd (a:Nat))]→Q .normal e hq) :
  AWS prog 212 (.seq q5_19 (.block 4 (.loop l5_2))) Q [(0,v),(1,Zd z),(2,Zd c),(6,.bool false),(7,wv),(9,Zd (cn o:Nat)),(10,ov),(12,av),(13,Zd (a:Nat)),(62,Zd o.length),(63,Zd (a:Nat))] hp:=by
 have hol:=Wj ho
 refine Zg fun N1 hN1=>?_
 simp (maxSteps:=2000000) only [↓Za,↓Zb,↓Zc,vup,List.map_cons,List.map_nil,cond_true,cond_false,aop,Zf,ev,sput,Ze,Zi,Nat.reduceBEq,tyf,hv.len]
 refine hN1 [(0,v),(1,Zd z),(2,Zd c),(6,.bool false),(7,wv),(9,Zd (cn o:Nat)),(10,ov),(12,av),(13,Zd (a:Nat)),(62,Zd o.length),(63,Zd (a:Nat)),(67,Zd o.length),(68,.int .i64 0)] _ _ ?_ (by simp (maxSteps:=2000000) only [vup,cond_true,cond_false,Nat.reduceBEq])
 clear hN1
 try clear N1
 refine Zx ?_
 refine Zy fun Q1 hQ1=>?_
 refine Xa (γ:=Nat×Value×Zh×List (Int×Int)) (fun g=>g.1≤o.length∧AL h g.2.2.1 (cn o) g.2.1 g.2.2.2∧(g.2.2.2≠[]∨(∀ i,i<a→∀ j,j<o.length→fr o i j=false)∧∀ j,j<g.1→fr o a j=false))
  (fun g=>([(0,v),(1,Zd z),(2,Zd c),(6,.bool false),(7,wv),(9,Zd (cn o:Nat)),(10,ov),(12,g.2.1),(13,Zd (a:Nat)),(62,Zd o.length),(63,Zd (a:Nat)),(67,Zd o.length),(68,Zd (g.1:Nat))],g.2.2.1)) (fun g=>o.length-g.1) (0,av,hp,l) ⟨Nat.zero_le _,s,hno.imp id fun g=>⟨g,nofun⟩⟩ (by simp (maxSteps:=2000000) only [vup,cond_true,cond_false,Nat.reduceBEq,Int.natCast_zero]) rfl ?_
 clear s hno
 rintro ⟨b,av,hp,l⟩ ⟨hb,s,hno⟩
 simp only at hb s hno
 refine Zy fun Q2 hQ2=>?_
 simp only [l5_2]
 by_cases hin:(b:Int)<o.length
 · have hb' : b<o.length:=by omega
   refine Zg fun N2 hN2=>?_
   simp (maxSteps:=2000000) only [↓Za,↓Zb,↓Zc,vup,cond_true,cond_false,aop,Zf,ev,sput,Ze,Yf,Yi,Nat.reduceBEq,hin]
   refine hN2 [(0,v),(1,Zd z),(2,Zd c),(6,.bool false),(7,wv),(9,Zd (cn o:Nat)),(10,ov),(12,av),(13,Zd (a:Nat)),(62,Zd o.length),(63,Zd (a:Nat)),(67,Zd o.length),(68,Zd (b:Nat)),(69,.bool true)] _ _ ?_ (by simp (maxSteps:=2000000) only [vup,cond_true,cond_false,Nat.reduceBEq])
   clear hN2
   try clear N2
   refine Zg fun N3 hN3=>?_
   simp (maxSteps:=2000000) only [↓Zn,↓vdn,vup,cond_true,cond_false,Zf,ev,Nat.reduceBEq]
   refine hN3 [(0,v),(1,Zd z),(2,Zd c),(6,.bool false),(7,wv),(9,Zd (cn o:Nat)),(10,ov),(12,av),(13,Zd (a:Nat)),(62,Zd o.length),(63,Zd (a:Nat)),(67,Zd o.length),(68,Zd (b:Nat))] _ _ ?_ (by simp (maxSteps:=2000000) only [vup,cond_true,cond_false,Nat.reduceBEq])
   clear hN3
   try clear N3
   refine Zt fun B hB=>?_
   refine Zx ?_
   refine Zg fun N4 hN4=>?_
   simp (maxSteps:=2000000) only [↓Za,↓Zb,↓Zc,vup,cond_true,cond_false,aop,Zf,ev,sput,Ze,Nat.reduceBEq]
   refine hN4 [(0,v),(1,Zd z),(2,Zd c),(6,.bool false),(7,wv),(9,Zd (cn o:Nat)),(10,ov),(12,av),(13,Zd (a:Nat)),(14,Zd (b:Nat)),(62,Zd o.length),(63,Zd (a:Nat)),(67,Zd o.length),(68,Zd (b:Nat))] _ _ ?_ (by simp (maxSteps:=2000000) only [vup,cond_true,cond_false,Nat.reduceBEq])
   clear hN4
   try clear N4
   have hvp:IntSl hp v o:=hv.same fun b hb=>s.ext.2 b (hv.lt hb) id
   refine Zg fun N5 hN5=>?_
   simp (maxSteps:=2000000) only [↓Za,↓Zl,↓Zb,↓Zc,vup,List.map_cons,List.map_nil,cond_true,cond_false,aop,Zf,ev,sput,Ze,unK,Nat.reduceBEq,Yn,List.nil_append,List.append_nil]
   refine (Or.rfree_call hvp ho ha hb').mono ?_
   rintro _ hp ⟨rfl,rfl⟩
   cases hfr:fr o a b with
   | true =>
     simp (maxSteps:=2000000) only [↓Zn,↓vdn,vup,cond_true,cond_false,Zf,ev,Nat.reduceBEq]
     refine hN5 [(0,v),(1,Zd z),(2,Zd c),(6,.bool false),(7,wv),(9,Zd (cn o:Nat)),(10,ov),(12,av),(13,Zd (a:Nat)),(14,Zd (b:Nat)),(62,Zd o.length),(63,Zd (a:Nat)),(67,Zd o.length),(68,Zd (b:Nat))] _ _ ?_ (by simp (maxSteps:=2000000) only [vup,cond_true,cond_false,Nat.reduceBEq])
     clear hN5
     try clear N5
     refine pair_step ho hx h2 h4 hv hR s ha hb' hfr fun e hq av' l' s' hne he=>?_
     refine hB [(0,v),(1,Zd z),(2,Zd c),(6,.bool false),(7,wv),(9,Zd (cn o:Nat)),(10,ov),(12,av'),(13,Zd (a:Nat)),(14,Zd (b:Nat)),(62,Zd o.length),(63,Zd (a:Nat)),(67,Zd o.length),(68,Zd (b:Nat))] _ _ ?_ he
     refine Zm ?_
     simp (maxSteps:=2000000) only [↓Za,↓Zb,↓Zc,vup,cond_true,cond_false,aop,ev,sput,Ze,Yf,Yi,Nat.reduceBEq,add1 (show b<9223372036854775807 by omega)]
     exact hQ2 _ _ _ ⟨(b+1,av',hq,l'),⟨hb',s',.inl hne⟩,by simp only; omega,by simp (maxSteps:=2000000) only [vup,cond_true,cond_false,Nat.reduceBEq],rfl⟩
   | false =>
     simp (maxSteps:=2000000) only [↓Yo,↓vdn,vup,cond_true,cond_false,Zf,Zo,ev,Nat.reduceBEq]
     refine hB [(0,v),(1,Zd z),(2,Zd c),(6,.bool false),(7,wv),(9,Zd (cn o:Nat)),(10,ov),(12,av),(13,Zd (a:Nat)),(14,Zd (b:Nat)),(62,Zd o.length),(63,Zd (a:Nat)),(67,Zd o.length),(68,Zd (b:Nat))] _ _ ?_ (by simp (maxSteps:=2000000) only [vup,cond_true,cond_false,Nat.reduceBEq])
     clear hB
     try clear B
     refine Zm ?_
     simp (maxSteps:=2000000) only [↓Za,↓Zb,↓Zc,vup,cond_true,cond_false,aop,ev,sput,Ze,Yf,Yi,Nat.reduceBEq,add1 (show b<9223372036854775807 by omega)]
     exact hQ2 _ _ _ ⟨(b+1,av,hp,l),⟨hb',s,hno.imp id fun g=>⟨g.1,fun j hj=>by
      by_cases hjb:j=b
      · rw [hjb]; exact hfr
      · exact g.2 j (by simp only at hj; omega)⟩⟩,by simp only; omega,by simp (maxSteps:=2000000) only [vup,cond_true,cond_false,Nat.reduceBEq],rfl⟩
 obtain rfl:b=o.length:=by omega
 refine Zg fun N6 hN6=>?_
 simp (maxSteps:=2000000) only [↓Za,↓Zb,↓Zc,vup,cond_true,cond_false,aop,Zf,ev,sput,Ze,Yf,Yi,Nat.reduceBEq,hin]
 refine hN6 [(0,v),(1,Zd z),(2,Zd c),(6,.bool false),(7,wv),(9,Zd (cn o:Nat)),(10,ov),(12,av),(13,Zd (a:Nat)),(62,Zd o.length),(63,Zd (a:Nat)),(67,Zd o.length),(68,Zd o.length),(69,.bool false)] _ _ ?_ (by simp (maxSteps:=2000000) only [vup,cond_true,cond_false,Nat.reduceBEq])
 clear hN6
 try clear N6
 refine Zg fun N7 hN7=>?_
 simp (maxSteps:=2000000) only [↓Yo,↓vdn,vup,cond_true,cond_false,Zf,ev,Nat.reduceBEq]
 refine hQ2 _ _ _ (hQ1 _ _ _ ?_)
 simp (maxSteps:=2000000) only [Zo,if_true]
 refine hk _ _ _ _ s (hno.imp id fun g i hi j hj=>?_) (by simp (maxSteps:=2000000) only [vup,cond_true,cond_false,Nat.reduceBEq])
 rcases Nat.lt_or_ge i a with h1 | h1
 · exact g.1 i h1 j hj
 · obtain rfl:i=a:=by omega
   exact g.2 j hj
theorem a_loop [BitTab prog 0] {h:Zh} {o:List Int} {v wv ov:Value} {z c:Int} {Q:Exit→Env→Zh→Prop} (ho:ord o=true) (hx : ∀ x∈o,-9223372036854775808≤x∧x<9223372036854775808)
  (h2:2≤cn o) (h4:cn o≤4) (hv:IntSl h v o) (hR:RdL 3 h wv ((Wg o).map Or.castN))
  (hk : ∀ e hq av' l',AL h hq (cn o) av' l'→l'≠[]→ELe e [(0,v),(1,Zd z),(2,Zd c),(6,.bool false),(7,wv),(9,Zd (cn o:Nat)),(10,ov),(12,av')]→Q .normal e hq) :
  AWS prog 212 (.seq q5_16 (.block 2 (.loop l5_3))) Q [(0,v),(1,Zd z),(2,Zd c),(6,.bool false),(7,wv),(9,Zd (cn o:Nat)),(10,ov),(12,.slice none 0 0)] h:=by
 have hol:=Wj ho
 refine Zg fun N8 hN8=>?_
 simp (maxSteps:=2000000) only [↓Za,↓Zb,↓Zc,vup,List.map_cons,List.map_nil,cond_true,cond_false,aop,Zf,ev,sput,Ze,Zi,Nat.reduceBEq,tyf,hv.len]
 refine hN8 [(0,v),(1,Zd z),(2,Zd c),(6,.bool false),(7,wv),(9,Zd (cn o:Nat)),(10,ov),(12,.slice none 0 0),(62,Zd o.length),(63,.int .i64 0)] _ _ ?_ (by simp (maxSteps:=2000000) only [vup,cond_true,cond_false,Nat.reduceBEq])
 clear hN8
 try clear N8
 refine Zx ?_
 refine Zy fun Q1 hQ1=>?_
 refine Xa (γ:=Nat×Value×Zh×List (Int×Int)) (fun g=>g.1≤o.length∧AL h g.2.2.1 (cn o) g.2.1 g.2.2.2∧(g.2.2.2≠[]∨∀ i,i<g.1→∀ j,j<o.length→fr o i j=false))
  (fun g=>([(0,v),(1,Zd z),(2,Zd c),(6,.bool false),(7,wv),(9,Zd (cn o:Nat)),(10,ov),(12,g.2.1),(62,Zd o.length),(63,Zd (g.1:Nat))],g.2.2.1)) (fun g=>o.length-g.1) (0,.slice none 0 0,h,[]) ⟨Nat.zero_le _,AL.nil h _,.inr nofun⟩ (by simp (maxSteps:=2000000) only [vup,cond_true,cond_false,Nat.reduceBEq,Int.natCast_zero]) rfl ?_
 rintro ⟨a,av,hp,l⟩ ⟨ha,s,hno⟩
 simp only at ha s hno
 refine Zy fun Q2 hQ2=>?_
 simp only [l5_3]
 by_cases hin:(a:Int)<o.length
 · have ha' : a<o.length:=by omega
   refine Zg fun N9 hN9=>?_
   simp (maxSteps:=2000000) only [↓Za,↓Zb,↓Zc,vup,cond_true,cond_false,aop,Zf,ev,sput,Ze,Yf,Yi,Nat.reduceBEq,hin]
   refine hN9 [(0,v),(1,Zd z),(2,Zd c),(6,.bool false),(7,wv),(9,Zd (cn o:Nat)),(10,ov),(12,av),(62,Zd o.length),(63,Zd (a:Nat)),(64,.bool true)] _ _ ?_ (by simp (maxSteps:=2000000) only [vup,cond_true,cond_false,Nat.reduceBEq])
   clear hN9
   try clear N9
   refine Zg fun N10 hN10=>?_
   simp (maxSteps:=2000000) only [↓Zn,↓vdn,vup,cond_true,cond_false,Zf,ev,Nat.reduceBEq]
   refine hN10 [(0,v),(1,Zd z),(2,Zd c),(6,.bool false),(7,wv),(9,Zd (cn o:Nat)),(10,ov),(12,av),(62,Zd o.length),(63,Zd (a:Nat))] _ _ ?_ (by simp (maxSteps:=2000000) only [vup,cond_true,cond_false,Nat.reduceBEq])
   clear hN10
   try clear N10
   refine Zt fun B hB=>?_
   refine Zx ?_
   refine Zg fun N11 hN11=>?_
   simp (maxSteps:=2000000) only [↓Za,↓Zb,↓Zc,vup,cond_true,cond_false,aop,Zf,ev,sput,Ze,Nat.reduceBEq]
   refine hN11 [(0,v),(1,Zd z),(2,Zd c),(6,.bool false),(7,wv),(9,Zd (cn o:Nat)),(10,ov),(12,av),(13,Zd (a:Nat)),(62,Zd o.length),(63,Zd (a:Nat))] _ _ ?_ (by simp (maxSteps:=2000000) only [vup,cond_true,cond_false,Nat.reduceBEq])
   clear hN11
   try clear N11
   refine b_loop ho hx h2 h4 hv hR s ha' hno fun e hq av' l' s' hno' he=>?_
   refine hB [(0,v),(1,Zd z),(2,Zd c),(6,.bool false),(7,wv),(9,Zd (cn o:Nat)),(10,ov),(12,av'),(13,Zd (a:Nat)),(62,Zd o.length),(63,Zd (a:Nat))] _ _ ?_ he
   refine Zm ?_
   simp (maxSteps:=2000000) only [↓Za,↓Zb,↓Zc,vup,cond_true,cond_false,aop,ev,sput,Ze,Yf,Yi,Nat.reduceBEq,add1 (show a<9223372036854775807 by omega)]
   exact hQ2 _ _ _ ⟨(a+1,av',hq,l'),⟨ha',s',hno'⟩,by simp only; omega,by simp (maxSteps:=2000000) only [vup,cond_true,cond_false,Nat.reduceBEq],rfl⟩
 obtain rfl:a=o.length:=by omega
 refine Zg fun N12 hN12=>?_
 simp (maxSteps:=2000000) only [↓Za,↓Zb,↓Zc,vup,cond_true,cond_false,aop,Zf,ev,sput,Ze,Yf,Yi,Nat.reduceBEq,hin]
 refine hN12 [(0,v),(1,Zd z),(2,Zd c),(6,.bool false),(7,wv),(9,Zd (cn o:Nat)),(10,ov),(12,av),(62,Zd o.length),(63,Zd o.length),(64,.bool false)] _ _ ?_ (by simp (maxSteps:=2000000) only [vup,cond_true,cond_false,Nat.reduceBEq])
 clear hN12
 try clear N12
 refine Zg fun N13 hN13=>?_
 simp (maxSteps:=2000000) only [↓Yo,↓vdn,vup,cond_true,cond_false,Zf,ev,Nat.reduceBEq]
 refine hQ2 _ _ _ (hQ1 _ _ _ ?_)
 simp (maxSteps:=2000000) only [Zo,if_true]
 refine hk _ _ _ _ s ?_ (by simp (maxSteps:=2000000) only [vup,cond_true,cond_false,Nat.reduceBEq])
 rcases hno with h1 | h1
 · exact h1
 · obtain ⟨i,j,hi,hj,hij⟩:=free_ex (show 1<cn o by omega)
   rw [h1 i hi j hj] at hij; cases hij
end Go.Proofs.Tryd.Am.Tl
namespace Go.Proofs.Tryd.Am.Tl
open Go.Proofs.Tryd.Am
open Go.Am Ord Bq
set_option maxRecDepth 100000
set_option maxHeartbeats 4000000
def evK (N k:Nat):List (Int×Int):=List.replicate k (1,(N:Int))++List.replicate (N-k) (0,0)
theorem evK_len {N k:Nat} (h:k≤N):(evK N k).length=N:=by simp [evK]; omega
theorem evK_set {N k:Nat} (h:k<N):(evK N k).set k (1,(N:Int))=evK N (k+1):=by
 obtain ⟨d,hd⟩ : ∃ d,N-k=d+1:=⟨N-k-1,by omega⟩
 have hd2:N-(k+1)=d:=by omega
 rw [evK,evK,hd,hd2,List.replicate_succ,List.replicate_succ' (n:=k),List.set_append_right _ _ (by simp)]
 simp
theorem even_loop [Tabs prog] {G:Zh} {N:Nat} {v wv:Value} {z c:Int} {Q:Exit→Env→Zh→Prop} (hN:N≤4)
  (hk : ∀ e,ELe e [(0,v),(1,Zd z),(2,Zd c),(6,.bool false),(7,wv),(9,Zd (N:Nat)),(10,.slice (some ⟨G.length,0,none⟩) N N)]→Q .normal e (G++[.cells ((Ye (evenP N)).map Zd) 45 false])) :
  AWS prog 212 (.seq q5_10 (.block 0 (.loop l5_0))) Q [(0,v),(1,Zd z),(2,Zd c),(6,.bool false),(7,wv),(9,Zd (N:Nat)),(10,.slice (some ⟨G.length,0,none⟩) N N)] (G++[.cells ((Ye (List.replicate N (0,0))).map Zd) 45 false]):=by
 have hln : ∀ {K:Value→Prop},lenK (.slice (some ⟨G.length,0,none⟩) N N) K=K (Zd (N:Nat)):=fun {K}=>rfl
 have h0:List.replicate N ((0:Int),(0:Int))=evK N 0:=by simp [evK]
 have h1:evenP N=evK N N:=by simp [evK,evenP]
 rw [h0]
 rw [h1] at hk
 have bld : ∀ {K:Value→Prop},Wv prog 45 [(0,Zd 1),(1,Zd (N:Nat))] K=K (.agg #[Zd 1,Zd (N:Nat)]):=fun {K}=>Be.bldF
 refine Zg fun N1 hN1=>?_
 simp (maxSteps:=2000000) only [↓Za,↓Zb,↓Zc,vup,List.map_cons,List.map_nil,cond_true,cond_false,aop,Zf,ev,sput,Ze,Zi,Nat.reduceBEq,tyf,hln]
 refine hN1 [(0,v),(1,Zd z),(2,Zd c),(6,.bool false),(7,wv),(9,Zd (N:Nat)),(10,.slice (some ⟨G.length,0,none⟩) N N),(51,Zd (N:Nat)),(52,.int .i64 0)] _ _ ?_ (by simp (maxSteps:=2000000) only [vup,cond_true,cond_false,Nat.reduceBEq])
 clear hN1
 try clear N1
 refine Zx ?_
 refine Zy fun Q1 hQ1=>?_
 refine Xa (γ:=Nat) (fun k=>k≤N) (fun k=>([(0,v),(1,Zd z),(2,Zd c),(6,.bool false),(7,wv),(9,Zd (N:Nat)),(10,.slice (some ⟨G.length,0,none⟩) N N),(51,Zd (N:Nat)),(52,Zd (k:Nat))],G++[.cells ((Ye (evK N k)).map Zd) 45 false])) (fun k=>N-k) 0 (Nat.zero_le _) (by simp (maxSteps:=2000000) only [vup,cond_true,cond_false,Nat.reduceBEq,Int.natCast_zero]) rfl ?_
 rintro k hkN
 refine Zy fun Q2 hQ2=>?_
 simp only [l5_0]
 by_cases hin:(k:Int)<N
 · have hk' : k<N:=by omega
   have hb:(G++[Blk.cells ((Ye (evK N k)).map Zd) 45 false])[G.length]? = some (.cells ((Ye (evK N k)).map Zd) 45 false):=Zr _ _
   have hkl:k<(evK N k).length:=by rw [evK_len (by omega)]; exact hk'
   have hp:PairSl (G++[Blk.cells ((Ye (evK N k)).map Zd) 45 false]) (.slice (some ⟨G.length,0,none⟩) N N) (evK N k):=by
    have:=pairSl_cells hb
    rwa [evK_len (by omega)] at this
   have st : ∀ {K:Zh→Prop},Xq prog (G++[Blk.cells ((Ye (evK N k)).map Zd) 45 false]) 45 (.pointer (some ⟨G.length,k*2,none⟩)) (.agg #[Zd 1,Zd (N:Nat)]) K=K (G++[.cells ((Ye (evK N (k+1))).map Zd) 45 false]):=fun {K}=>by
    rw [storePC hb Je hkl,evK_set hk',set_last]
   refine Zg fun N2 hN2=>?_
   simp (maxSteps:=2000000) only [↓Za,↓Zb,↓Zc,vup,cond_true,cond_false,aop,Zf,ev,sput,Ze,Yf,Yi,Nat.reduceBEq,hin]
   refine hN2 [(0,v),(1,Zd z),(2,Zd c),(6,.bool false),(7,wv),(9,Zd (N:Nat)),(10,.slice (some ⟨G.length,0,none⟩) N N),(51,Zd (N:Nat)),(52,Zd (k:Nat)),(53,.bool true)] _ _ ?_ (by simp (maxSteps:=2000000) only [vup,cond_true,cond_false,Nat.reduceBEq])
   clear hN2
   try clear N2
   refine Zg fun N3 hN3=>?_
   simp (maxSteps:=2000000) only [↓Zn,↓vdn,vup,cond_true,cond_false,Zf,ev,Nat.reduceBEq]
   refine hN3 [(0,v),(1,Zd z),(2,Zd c),(6,.bool false),(7,wv),(9,Zd (N:Nat)),(10,.slice (some ⟨G.length,0,none⟩) N N),(51,Zd (N:Nat)),(52,Zd (k:Nat))] _ _ ?_ (by simp (maxSteps:=2000000) only [vup,cond_true,cond_false,Nat.reduceBEq])
   clear hN3
   try clear N3
   refine Zt fun B hB=>?_
   refine Zx ?_
   refine Zg fun N4 hN4=>?_
   simp (maxSteps:=2000000) only [↓Za,↓Zb,↓Zc,vup,cond_true,cond_false,aop,Zf,ev,sput,Ze,Nat.reduceBEq]
   refine hN4 [(0,v),(1,Zd z),(2,Zd c),(6,.bool false),(7,wv),(9,Zd (N:Nat)),(10,.slice (some ⟨G.length,0,none⟩) N N),(11,Zd (k:Nat)),(51,Zd (N:Nat)),(52,Zd (k:Nat))] _ _ ?_ (by simp (maxSteps:=2000000) only [vup,cond_true,cond_false,Nat.reduceBEq])
   clear hN4
   try clear N4
   refine Zm ?_
   simp (maxSteps:=2000000) only [↓Za,↓Zb,↓Zc,vup,List.map_cons,List.map_nil,cond_true,cond_false,aop,Zf,Zo,ev,sput,Ze,Nat.reduceBEq,bld,hp.idx el_43 Ub hkl,elemP_pair,st]
   refine hB [(0,v),(1,Zd z),(2,Zd c),(6,.bool false),(7,wv),(9,Zd (N:Nat)),(10,.slice (some ⟨G.length,0,none⟩) N N),(51,Zd (N:Nat)),(52,Zd (k:Nat))] _ _ ?_ (by simp (maxSteps:=2000000) only [vup,cond_true,cond_false,Nat.reduceBEq])
   clear hB
   try clear B
   refine Zm ?_
   simp (maxSteps:=2000000) only [↓Za,↓Zb,↓Zc,vup,cond_true,cond_false,aop,ev,sput,Ze,Yf,Yi,Nat.reduceBEq,add1 (show k<9223372036854775807 by omega)]
   exact hQ2 _ _ _ ⟨k+1,hk',by omega,by simp (maxSteps:=2000000) only [vup,cond_true,cond_false,Nat.reduceBEq],rfl⟩
 obtain rfl:k=N:=by omega
 refine Zg fun N5 hN5=>?_
 simp (maxSteps:=2000000) only [↓Za,↓Zb,↓Zc,vup,cond_true,cond_false,aop,Zf,ev,sput,Ze,Yf,Yi,Nat.reduceBEq,hin]
 refine hN5 [(0,v),(1,Zd z),(2,Zd c),(6,.bool false),(7,wv),(9,Zd (k:Nat)),(10,.slice (some ⟨G.length,0,none⟩) k k),(51,Zd (k:Nat)),(52,Zd k),(53,.bool false)] _ _ ?_ (by simp (maxSteps:=2000000) only [vup,cond_true,cond_false,Nat.reduceBEq])
 clear hN5
 try clear N5
 refine Zg fun N6 hN6=>?_
 simp (maxSteps:=2000000) only [↓Yo,↓vdn,vup,cond_true,cond_false,Zf,ev,Nat.reduceBEq]
 refine hQ2 _ _ _ (hQ1 _ _ _ ?_)
 simp (maxSteps:=2000000) only [Zo,if_true]
 exact hk _ (by simp (maxSteps:=2000000) only [vup,cond_true,cond_false,Nat.reduceBEq])
theorem flatP_price : ∀ (l:List (Int×Int)) (k:Nat) (x:Int),k<l.length→Ye (l.set k ((l.getD k (0,0)).1,x))=(Ye l).set (k*2+1) x
 | [],_,_,h=>by simp at h
 | p::l,0,x,_=>rfl
 | p::l,k+1,x,h=>by
   have ih:=flatP_price l k x (by simpa using h)
   have e:(k+1)*2+1=(k*2+1)+2:=by omega
   rw [List.set_cons_succ,List.getD_cons_succ,e]
   show p.1::p.2::Ye (l.set k ((l.getD k (0,0)).1,x))=_
   rw [ih]; rfl
theorem price_store [Tabs prog] {h:Zh} {av:Value} {l:List (Int×Int)} (ho:OwnP 51 h av l) {k:Nat} (hk:k<l.length) : ∃ (b o:Nat) (B:Int→Blk),Yc av=some b∧(∀ K:Value→Prop,Xb prog 46 av (.int .i64 k) K=K (.pointer (some ⟨b,o,none⟩)))∧∀ x:Int,(∀ K:Zh→Prop,Xq prog h 3 (.pointer (some ⟨b,o+1,none⟩)) (Zd x) K=K (h.set b (B x)))∧OwnP 51 (h.set b (B x)) av (l.set k ((l.getD k (0,0)).1,x)):=by
 have hidx:=ho.pair.idx (P:=prog) (t:=46) el_46 esz_51 (k:=.i64) hk
 rcases ho with ⟨rfl,rfl⟩ | ⟨b,ys,rfl,hb⟩
 · simp at hk
 · refine ⟨b,k*2,fun x=>.ints (Ye (l.set k ((l.getD k (0,0)).1,x))++Ye ys) 51 false,rfl,fun K=>?_,fun x=>⟨fun K=>?_,.inr ⟨b,ys,by simp,by rw [List.getElem?_set_self (Yb hb)]⟩⟩⟩
   · rw [hidx]; simp [Ue]
   · have hl:=Xz l
     show _=K (List.set h b (.ints (Ye (l.set k ((l.getD k (0,0)).1,x))++Ye ys) 51 false))
     rw [storeBI hb Yy (by rw [List.length_append]; omega),flatP_price l k x hk,List.set_append_left _ _ (by omega)]
theorem copy_call [Tabs prog] {h:Zh} {v:Value} {l:List (Int×Int)} (hv:PairSl h v l) (hl:l.length≤6) (hne:l≠[]):ACall prog 28 [v] h fun r h'=>Ext (fun _=>False) h h'∧PairSl h' r l:=by
 obtain ⟨r,h',hd,hE,hc,_⟩:=Be.cloneR_det hv (by omega)
 refine hd.mono ?_
 rintro _ _ ⟨rfl,rfl⟩
 refine ⟨hE,?_⟩
 rcases hc with hc | ⟨rfl,_⟩
 · exact hc.pair
 · exact absurd rfl hne
end Go.Proofs.Tryd.Am.Tl
namespace Go.Proofs.Tryd.Am.Tl
open Go.Proofs.Tryd.Am
open Go.Am Ord Bq
set_option maxRecDepth 100000
set_option maxHeartbeats 4000000
def modM (i:Int) (n:Nat):Nat:=(IntKind.u64.wrap i).toNat % n
theorem modM_eq (i:Int) {n:Nat} (h0:1≤n) (h6:n≤100):IntKind.i64.wrap ((IntKind.u64.wrap i).tmod (n:Int))=((modM i n:Nat):Int):=by
 have h1:0≤IntKind.u64.wrap i∧IntKind.u64.wrap i<18446744073709551616:=by rw [IntKind.wrap_u64]; omega
 have hlt:modM i n<n:=Nat.mod_lt _ (by omega)
 have e:(IntKind.u64.wrap i).tmod (n:Int)=((modM i n:Nat):Int):=by
  rw [Int.tmod_eq_emod_of_nonneg h1.1,modM,Int.natCast_emod,Int.toNat_of_nonneg h1.1]
 rw [e]; exact Uh (by omega) (by omega)
theorem u64_id {n:Nat} (h:n≤100):IntKind.u64.wrap (n:Int)=(n:Int):=by rw [IntKind.wrap_u64]; omega
theorem beatIs_shape {n:Int} {l:List (Int×Int)} {h:Zh} {x:Value} {e:Int} (hb:Be.BeatIs n l h x e) : ∃ p m c,x = .slice p m c:=by
 rw [Be.BeatIs] at hb
 split at hb
 · split at hb
   · obtain ⟨_,ss,_,_,_,hx⟩:=hb
     obtain ⟨p,m,c,h1,_⟩:=Be.intSl_shape hx
     exact ⟨p,m,c,h1⟩
   · exact ⟨_,_,_,hb.1⟩
 · exact ⟨_,_,_,hb.1⟩
theorem smB_of {ss:List Int} (hs:Be.SmS ss):Be.smB ss=true:=List.all_eq_true.2 fun s hm=>by
 obtain ⟨i,hi,rfl⟩:=List.mem_iff_getElem.1 hm
 have:=hs i
 rw [List.getD,List.getElem?_eq_getElem hi,Option.getD_some] at this
 simp only [Bool.and_eq_true,decide_eq_true_eq]
 omega
theorem bA1o {b o:Nat} {K:Value→Prop}:Yt prog 51 (.pointer (some ⟨b,o,none⟩)) 1 K=K (.pointer (some ⟨b,o+1,none⟩)):=by
 simp [Yt,fld_51_1,Wm]
theorem s5_callW [Tabs Tryd.prog] {args:List Value} {h:Zh} {Q:Value→Zh→Prop} (hsz:args.length≤212) (hk:AWS Tryd.prog 212 s5 (Zs Tryd.prog [.tmp 6] Q) (Zp 0 args) h):ACall Tryd.prog 5 args h Q :=
 Yz Tryd.func5 rfl (enters_of Tryd.func5 (by kernel_rfl) rfl) rfl rfl (by decide) s5_strip s5_ok hsz hk
theorem law_lines [BitTab prog 0] {h:Zh} {v:Value} {o:List Int} (hv:IntSl h v o) (hl:o.length<9223372036854775808) (hx : ∀ x∈o,-9223372036854775808≤x∧x<9223372036854775808) (z c:Int) :
  ACall prog 5 [v,Zd z,Zd c] h fun r _=>r = .bool true:=by
 have awk : ∀ {K:Value→Zh→Prop} {g:Zh},K (.bool true) g→ACall prog 21 [] g K:=fun {K g} hk=>Be.awake_call.mono fun v h' ⟨h1,h2⟩=>by rw [h1,h2]; exact hk
 have n00:((0:Int) != 0)=false:=rfl
 have e00:((0:Int)==0)=true:=rfl
 refine s5_callW (by simp) ?_
 simp only [s5]
 refine Zg fun N1 hN1=>?_
 simp (maxSteps:=2000000) only [↓Za,↓Zb,↓Zc,vup,cond_false,aop,Zf,Zp,ev,sput,Ze,Nat.reduceBEq,Nat.reduceAdd]
 refine hN1 [(0,v),(1,Zd z),(2,Zd c),(6,.bool false)] _ _ ?_ (by simp (maxSteps:=2000000) only [vup,cond_true,cond_false,Nat.reduceBEq])
 clear hN1
 try clear N1
 refine Zt fun A hA=>?_
 refine Zg fun N2 hN2=>?_
 simp (maxSteps:=2000000) only [↓Za,↓Zb,↓Zc,vup,List.map_cons,List.map_nil,cond_true,cond_false,aop,Zf,ev,sput,Ze,unK,Nat.reduceBEq,Yn,List.nil_append,List.append_nil]
 refine (Or.rorder_call hv hl hx).mono ?_
 rintro _ h ⟨rfl,rfl⟩
 cases ho:ord o with
 | false =>
   simp (maxSteps:=2000000) only [vup]
   refine hN2 [(0,v),(1,Zd z),(2,Zd c),(6,.bool false),(29,.bool true)] _ _ ?_ (by simp (maxSteps:=2000000) only [vup,cond_true,cond_false,Nat.reduceBEq])
   clear hN2
   try clear N2
   refine Xu rfl ?_
   refine Zg fun N3 hN3=>?_
   simp (maxSteps:=2000000) only [↓Za,↓Zb,↓Zc,vup,List.map_nil,cond_true,cond_false,aop,Zf,ev,sput,Ze,Nat.reduceBEq,Yn,List.append_nil]
   refine awk ?_
   refine hN3 [(0,v),(1,Zd z),(2,Zd c),(6,.bool true),(29,.bool true)] _ _ ?_ (by simp (maxSteps:=2000000) only [vup,cond_true,cond_false,Nat.reduceBEq])
   clear hN3
   try clear N3
   refine Zm ?_
   simp (maxSteps:=2000000) only [↓Zu,vup,cond_true,cond_false,Zf,Nat.reduceBEq,Zs,Xn,tup]
 | true =>
   simp (maxSteps:=2000000) only [vup]
   refine hN2 [(0,v),(1,Zd z),(2,Zd c),(6,.bool false),(29,.bool false)] _ _ ?_ (by simp (maxSteps:=2000000) only [vup,cond_true,cond_false,Nat.reduceBEq])
   clear hN2
   try clear N2
   refine Xh rfl ?_
   refine Zm ?_
   simp (maxSteps:=2000000) only [↓Zn,Zf]
   refine hA [(0,v),(1,Zd z),(2,Zd c),(6,.bool false)] _ _ ?_ (by simp (maxSteps:=2000000) only [vup,cond_true,cond_false,Nat.reduceBEq])
   clear hA
   try clear A
   have hol:=Wj ho
   refine Zg fun N4 hN4=>?_
   simp (maxSteps:=2000000) only [↓Za,↓Zb,↓Zc,vup,List.map_cons,List.map_nil,cond_true,cond_false,aop,Zf,ev,sput,Ze,Nat.reduceBEq,Yn,List.nil_append,List.append_nil]
   refine (Or.clone_call hv (by omega)).mono ?_
   rintro l1 _ ⟨hl1,g1,rfl⟩
   refine (Or.lines31_call hl1 hl hx).mono ?_
   rintro r1 h1 ⟨hr1,hE1⟩
   rw [Or.LinesR,if_pos ho] at hr1
   obtain ⟨wv,rfl,hR⟩:=hr1
   have hv1:IntSl h1 v o:=(hv.grow g1).same fun b hb=>hE1.2 b ((hv.grow g1).lt hb) id
   clear hl1
   simp (maxSteps:=2000000) only [Wh,Wi]
   refine hN4 [(0,v),(1,Zd z),(2,Zd c),(6,.bool false),(7,wv),(8,.int .i64 0)] _ _ ?_ (by simp (maxSteps:=2000000) only [vup,cond_true,cond_false,Nat.reduceBEq])
   clear hN4
   try clear N4
   refine Zg fun N5 hN5=>?_
   simp (maxSteps:=2000000) only [↓Za,↓Zn,↓Zl,↓Zb,↓Zc,↓vdn,vup,cond_true,cond_false,aop,Zf,ev,sput,Ze,Yf,Yi,Nat.reduceBEq,n00]
   refine hN5 [(0,v),(1,Zd z),(2,Zd c),(6,.bool false),(7,wv),(8,.int .i64 0)] _ _ ?_ (by simp (maxSteps:=2000000) only [vup,cond_true,cond_false,Nat.reduceBEq])
   clear hN5
   try clear N5
   have hRl:Or.linesI o=(Wg o).map Or.castN:=by
    rw [Or.linesI,Or.behind]; exact List.map_congr_left fun l _=>List.nil_append _
   rw [hRl] at hR
   have rl:=hR.len
   rw [List.length_map,Vj] at rl
   refine Zg fun N6 hN6=>?_
   simp (maxSteps:=2000000) only [↓Za,↓Zb,↓Zc,vup,List.map_cons,List.map_nil,cond_true,cond_false,aop,Zf,ev,sput,Ze,Zi,Nat.reduceBEq,tyf,rl]
   refine hN6 [(0,v),(1,Zd z),(2,Zd c),(6,.bool false),(7,wv),(9,Zd (cn o:Nat))] _ _ ?_ (by simp (maxSteps:=2000000) only [vup,cond_true,cond_false,Nat.reduceBEq])
   clear hN6
   try clear N6
   refine Zt fun A hA=>?_
   by_cases h2:((cn o:Nat):Int)<2
   · refine Zg fun N7 hN7=>?_
     simp (maxSteps:=2000000) only [↓Za,↓Zb,↓Zc,↓vdn,vup,cond_true,cond_false,aop,Zf,ev,sput,Ze,Yf,Yi,Nat.reduceBEq,h2]
     refine hN7 [(0,v),(1,Zd z),(2,Zd c),(6,.bool false),(7,wv),(9,Zd (cn o:Nat)),(46,.bool true)] _ _ ?_ (by simp (maxSteps:=2000000) only [vup,cond_true,cond_false,Nat.reduceBEq])
     clear hN7
     try clear N7
     refine Xu rfl ?_
     refine Zg fun N8 hN8=>?_
     simp (maxSteps:=2000000) only [↓Za,↓Zb,↓Zc,vup,List.map_nil,cond_true,cond_false,aop,Zf,ev,sput,Ze,Nat.reduceBEq,Yn,List.append_nil]
     refine awk ?_
     refine hN8 [(0,v),(1,Zd z),(2,Zd c),(6,.bool true),(7,wv),(9,Zd (cn o:Nat)),(46,.bool true)] _ _ ?_ (by simp (maxSteps:=2000000) only [vup,cond_true,cond_false,Nat.reduceBEq])
     clear hN8
     try clear N8
     refine Zm ?_
     simp (maxSteps:=2000000) only [↓Zu,vup,cond_true,cond_false,Zf,Nat.reduceBEq,Zs,Xn,tup]
   by_cases h4:((cn o:Nat):Int) > 4
   · refine Zg fun N9 hN9=>?_
     simp (maxSteps:=2000000) only [↓Za,↓Zb,↓Zc,↓vdn,vup,cond_true,cond_false,aop,Zf,ev,sput,Ze,Yf,Yi,Nat.reduceBEq,h2,h4]
     refine hN9 [(0,v),(1,Zd z),(2,Zd c),(6,.bool false),(7,wv),(9,Zd (cn o:Nat)),(46,.bool true)] _ _ ?_ (by simp (maxSteps:=2000000) only [vup,cond_true,cond_false,Nat.reduceBEq])
     clear hN9
     try clear N9
     refine Xu rfl ?_
     refine Zg fun N10 hN10=>?_
     simp (maxSteps:=2000000) only [↓Za,↓Zb,↓Zc,vup,List.map_nil,cond_true,cond_false,aop,Zf,ev,sput,Ze,Nat.reduceBEq,Yn,List.append_nil]
     refine awk ?_
     refine hN10 [(0,v),(1,Zd z),(2,Zd c),(6,.bool true),(7,wv),(9,Zd (cn o:Nat)),(46,.bool true)] _ _ ?_ (by simp (maxSteps:=2000000) only [vup,cond_true,cond_false,Nat.reduceBEq])
     clear hN10
     try clear N10
     refine Zm ?_
     simp (maxSteps:=2000000) only [↓Zu,vup,cond_true,cond_false,Zf,Nat.reduceBEq,Zs,Xn,tup]
   refine Zg fun N11 hN11=>?_
   simp (maxSteps:=2000000) only [↓Za,↓Zb,↓Zc,↓vdn,vup,cond_true,cond_false,aop,Zf,ev,sput,Ze,Yf,Yi,Nat.reduceBEq,h2,h4]
   refine hN11 [(0,v),(1,Zd z),(2,Zd c),(6,.bool false),(7,wv),(9,Zd (cn o:Nat)),(46,.bool false)] _ _ ?_ (by simp (maxSteps:=2000000) only [vup,cond_true,cond_false,Nat.reduceBEq])
   clear hN11
   try clear N11
   refine Xh rfl ?_
   refine Zm ?_
   simp (maxSteps:=2000000) only [↓Zn,Zf]
   refine hA [(0,v),(1,Zd z),(2,Zd c),(6,.bool false),(7,wv),(9,Zd (cn o:Nat))] _ _ ?_ (by simp (maxSteps:=2000000) only [vup,cond_true,cond_false,Nat.reduceBEq])
   clear hA
   try clear A
   have h2' : 2≤cn o:=by omega
   have h4' : cn o≤4:=by omega
   clear h2 h4
   have hlenE:(cn o:Int)=((cn o:Nat):Int):=rfl
   refine Zg fun N12 hN12=>?_
   simp (maxSteps:=2000000) only [↓Za,↓Zb,↓Zc,vup,cond_true,cond_false,aop,Zf,ev,sput,Ze,Nat.reduceBEq,makeP (P:=prog) (t:=43) (e:=45) (n:=cn o) el_43 zero_45 info_45 rfl (by omega)]
   refine hN12 [(0,v),(1,Zd z),(2,Zd c),(6,.bool false),(7,wv),(9,Zd (cn o:Nat)),(10,.slice (some ⟨h1.length,0,none⟩) (cn o) (cn o))] _ _ ?_ (by simp (maxSteps:=2000000) only [vup,cond_true,cond_false,Nat.reduceBEq])
   clear hN12
   try clear N12
   refine Zt fun B hB=>?_
   refine even_loop h4' fun e he=>?_
   refine hB [(0,v),(1,Zd z),(2,Zd c),(6,.bool false),(7,wv),(9,Zd (cn o:Nat)),(10,.slice (some ⟨h1.length,0,none⟩) (cn o) (cn o))] _ _ ?_ he
   clear hB he e
   have hE2:=Ext.app (fun _=>False) h1 [Blk.cells ((Ye (evenP (cn o))).map Zd) 45 false]
   have hev:PairSl (h1++[Blk.cells ((Ye (evenP (cn o))).map Zd) 45 false]) (.slice (some ⟨h1.length,0,none⟩) (cn o) (cn o)) (evenP (cn o)):=by
    have:=pairSl_cells (Zr h1 (Blk.cells ((Ye (evenP (cn o))).map Zd) 45 false))
    rwa [show (evenP (cn o)).length=cn o by simp [evenP]] at this
   have hv2:=hv1.same fun b hb=>hE2.2 b (hv1.lt hb) id
   have hR2:=hR.ext hE2
   clear hR rl
   generalize h1++[Blk.cells ((Ye (evenP (cn o))).map Zd) 45 false]=H at hev hv2 hR2 ⊢
   generalize Value.slice (some ⟨h1.length,0,none⟩) (cn o) (cn o)=ov at hev ⊢
   refine Zg fun N13 hN13=>?_
   simp (maxSteps:=2000000) only [↓Za,↓Zb,↓Zc,vup,cond_false,aop,Zf,ev,sput,Ze,Nat.reduceBEq]
   refine hN13 [(0,v),(1,Zd z),(2,Zd c),(6,.bool false),(7,wv),(9,Zd (cn o:Nat)),(10,ov),(12,.slice none 0 0)] _ _ ?_ (by simp (maxSteps:=2000000) only [vup,cond_true,cond_false,Nat.reduceBEq])
   clear hN13
   try clear N13
   refine Zt fun B hB=>?_
   refine a_loop ho hx h2' h4' hv2 hR2 fun e hq av l s hne he=>?_
   refine hB [(0,v),(1,Zd z),(2,Zd c),(6,.bool false),(7,wv),(9,Zd (cn o:Nat)),(10,ov),(12,av)] _ _ ?_ he
   clear hB he e
   have hl6:=s.six
   have hl1:1≤l.length:=List.length_pos_iff.2 hne
   have hlen:=s.own.pair.len
   have hl0:(((l.length:Nat):Int)==0)=false:=by
    rw [Bool.eq_false_iff]; intro hc; rw [beq_iff_eq] at hc; omega
   refine Zg fun N14 hN14=>?_
   simp (maxSteps:=2000000) only [↓Za,↓Zn,↓Zl,↓Zu,↓Zb,↓Zc,↓vdn,vup,List.map_cons,List.map_nil,cond_true,cond_false,aop,Zf,ev,sput,Ze,Yf,Yi,Zi,Nat.reduceBEq,Zs,Xn,tup,tyf,hlen,hl0]
   refine hN14 [(0,v),(1,Zd z),(2,Zd c),(6,.bool false),(7,wv),(9,Zd (cn o:Nat)),(10,ov),(12,av)] _ _ ?_ (by simp (maxSteps:=2000000) only [vup,cond_true,cond_false,Nat.reduceBEq])
   clear hN14
   try clear N14
   have hevq:=hev.ext s.ext
   have hval:=valid_of h2' h4' hl1 hl6 (fun p hp=>(s.bok p hp).ok h2' h4') s.nd
   have hag:=agree_of h2' h4' s.bok
   have hch:=(even_one (cn o) (by omega) h2').2
   have hInR:Be.InR (evenP (cn o)):=fun p hp=>by
    rw [(List.mem_replicate.1 hp).2]; simp only; omega
   refine Zg fun N15 hN15=>?_
   simp (maxSteps:=2000000) only [↓Za,↓Zb,↓Zc,vup,List.map_cons,List.map_nil,cond_true,cond_false,aop,Zf,ev,sput,Ze,Nat.reduceBEq,Yn,List.nil_append,List.append_nil]
   refine (copy_call s.own.pair hl6 hne).mono ?_
   rintro u1 g2 ⟨hE3,hu1⟩
   refine (Be.progAgrees_call hu1 (by omega) (hevq.ext hE3) (by simp [evenP]; omega) hInR).mono ?_
   rintro r2 h3 ⟨hE4,hr2⟩
   rw [if_pos ⟨hval,hch⟩,hag] at hr2
   subst hr2
   have s2:=s.more (hE3.trans hE4)
   simp (maxSteps:=2000000) only [Wh,Wi]
   refine hN15 [(0,v),(1,Zd z),(2,Zd c),(6,.bool false),(7,wv),(8,.int .i64 0),(9,Zd (cn o:Nat)),(12,av),(21,.bool true)] _ _ ?_ (by simp (maxSteps:=2000000) only [vup,cond_true,cond_false,Nat.reduceBEq])
   clear hN15
   try clear N15
   refine Zg fun N16 hN16=>?_
   simp (maxSteps:=2000000) only [↓Za,↓Zn,↓Zl,↓Zb,↓Zc,↓vdn,vup,cond_true,cond_false,aop,Zf,ev,sput,Ze,Yf,Yi,unK,Nat.reduceBEq,n00]
   refine hN16 [(0,v),(1,Zd z),(2,Zd c),(6,.bool false),(7,wv),(9,Zd (cn o:Nat)),(12,av)] _ _ ?_ (by simp (maxSteps:=2000000) only [vup,cond_true,cond_false,Nat.reduceBEq])
   clear hN16
   try clear N16
   have hk:=modM_eq z hl1 (by omega)
   have hklt:modM z l.length<l.length:=Nat.mod_lt _ (by omega)
   generalize modM z l.length=k at hk hklt
   have hnl0 : ¬ (((l.length:Nat):Int)=0):=by omega
   have hu:=u64_id (show l.length≤100 by omega)
   refine Zg fun N17 hN17=>?_
   simp (maxSteps:=2000000) only [↓Za,↓Zb,↓Zc,vup,List.map_cons,List.map_nil,cond_true,cond_false,aop,Zf,ev,sput,Ze,Yf,Yi,Zi,Nat.reduceBEq,tyf,convK,hlen,hu,ne_eq,hnl0,not_false_eq_true,hk]
   refine hN17 [(0,v),(1,Zd z),(2,Zd c),(6,.bool false),(7,wv),(9,Zd (cn o:Nat)),(12,av),(22,Zd (k:Nat))] _ _ ?_ (by simp (maxSteps:=2000000) only [vup,cond_true,cond_false,Nat.reduceBEq])
   clear hN17
   try clear N17
   have hc13:IntKind.i64.wrap ((IntKind.u64.wrap c).tmod 13)=((modM c 13:Nat):Int):=modM_eq c (n:=13) (by omega) (by omega)
   have hclt:modM c 13<13:=Nat.mod_lt _ (by omega)
   generalize modM c 13=cc at hc13 hclt
   have h130 : ¬ ((13:Int)=0):=by decide
   obtain ⟨bl,ol,B,hblk,hidx,hB⟩:=price_store s2.own hklt
   obtain ⟨hst,hown⟩:=hB (cc:Nat)
   have hfa : ∀ {K:Value→Prop},Yt prog 51 (.pointer (some ⟨bl,ol,none⟩)) 1 K=K (.pointer (some ⟨bl,ol+1,none⟩)):=fun {K}=>bA1o
   refine Zg fun N18 hN18=>?_
   simp (maxSteps:=2000000) only [↓Za,↓Zb,↓Zc,vup,cond_true,cond_false,aop,Zf,ev,sput,Ze,Yf,Yi,Nat.reduceBEq,tyf,convK,ne_eq,h130,not_false_eq_true,hc13,hidx,hfa,hst]
   refine hN18 [(0,v),(1,Zd z),(2,Zd c),(6,.bool false),(7,wv),(9,Zd (cn o:Nat)),(12,av)] _ _ ?_ (by simp (maxSteps:=2000000) only [vup,cond_true,cond_false,Nat.reduceBEq])
   clear hN18
   try clear N18
   have hp2:=hown.pair
   have hn2:((l.set k ((l.getD k (0,0)).1,((cc:Nat):Int))).map (·.1)).Nodup:=by rw [nodup_set hklt]; exact s.nd
   have hok2 : ∀ p∈l.set k ((l.getD k (0,0)).1,((cc:Nat):Int)),Be.okB (cn o) p=true:=fun p hp=>by
    rcases List.mem_or_eq_of_mem_set hp with h1 | rfl
    · exact (s.bok p h1).ok h2' h4'
    · have hm:l.getD k (0,0)∈l:=by rw [List.getD,List.getElem?_eq_getElem hklt]; exact List.getElem_mem hklt
      have:=(s.bok _ hm).ok h2' h4'
      simp only [Be.okB,Bool.and_eq_true,decide_eq_true_eq] at this ⊢
      exact ⟨this.1,this.2.1,by omega,by omega⟩
   have hl2:(l.set k ((l.getD k (0,0)).1,((cc:Nat):Int))).length=l.length:=List.length_set ..
   generalize l.set k ((l.getD k (0,0)).1,((cc:Nat):Int))=L at hp2 hn2 hok2 hl2
   generalize h3.set bl (B ((cc:Nat):Int))=G at hp2 ⊢
   have hval2:=valid_of h2' h4' (by omega) (by omega) hok2 hn2
   have hneL:L≠[]:=fun hc=>by rw [hc] at hl2; simp at hl2; omega
   clear hB hst hidx hown hfa hblk hevq s2 s hv2 hR2 hval hag hch hu1 hlen
   refine Zg fun N19 hN19=>?_
   simp (maxSteps:=2000000) only [↓Za,↓Zb,↓Zc,vup,List.map_cons,List.map_nil,cond_true,cond_false,aop,Zf,ev,sput,Ze,Nat.reduceBEq,Yn,List.nil_append,List.append_nil]
   refine (copy_call hp2 (by omega) hneL).mono ?_
   rintro u2 G1 ⟨hE5,hu2⟩
   refine (Be.sound_call (n:=((cn o:Nat):Int)) hu2 (by omega) fun _=>tame_all (show cn o≤5 by omega) (Be.cts_of hval2)).mono ?_
   rintro _ G2 ⟨hE6,x,e,rfl,his⟩
   have hp3:=(hp2.ext hE5).ext hE6
   simp (maxSteps:=2000000) only [Wh,Wi]
   refine hN19 [(0,v),(1,Zd z),(2,Zd c),(6,.bool false),(7,wv),(8,.int .i64 e),(9,Zd (cn o:Nat)),(12,av)] _ _ ?_ (by simp (maxSteps:=2000000) only [vup,cond_true,cond_false,Nat.reduceBEq])
   clear hN19
   try clear N19
   refine Zg fun N20 hN20=>?_
   simp (maxSteps:=2000000) only [↓Za,↓Zb,↓Zc,vup,List.map_cons,List.map_nil,cond_true,cond_false,aop,Zf,ev,sput,Ze,Nat.reduceBEq,Yn,List.nil_append,List.append_nil]
   refine (copy_call hp3 (by omega) hneL).mono ?_
   rintro u3 G3 ⟨hE7,hu3⟩
   refine (Be.beat_call (n:=((cn o:Nat):Int)) hu3 (by omega)).mono ?_
   rintro _ G4 ⟨hE8,y,f,rfl,hib⟩
   have hp4:=(hp3.ext hE7).ext hE8
   obtain ⟨py,my,cy,rfl⟩:=beatIs_shape hib
   simp (maxSteps:=2000000) only [Wh,Wi,tyf,Xg,Yg]
   rw [Be.storeK1 (Zr G4 (.cells [.slice none 0 0] 61 false)) rfl,Be.set_new]
   have hE9:=Ext.app (fun _=>False) G4 [Blk.cells [.slice py my cy] 61 false]
   have hp5:=hp4.ext hE9
   have b23:=Zr G4 (Blk.cells [.slice py my cy] 61 false)
   have hbc:=Be.beat_valid hval2 hib
   rw [Be.SoundIs,if_pos hval2,Int.toNat_natCast] at his
   have hgr : ∀ {ss:List Int},IntSl G4 (.slice py my cy) ss→IntSl (G4++[Blk.cells [.slice py my cy] 61 false]) (.slice py my cy) ss:=fun h=>h.grow _
   generalize G4++[Blk.cells [.slice py my cy] 61 false]=G5 at hp5 b23 hgr ⊢
   generalize G4.length=b5 at b23 ⊢
   clear hib
   refine hN20 [(0,v),(1,Zd z),(2,Zd c),(6,.bool false),(7,wv),(8,.int .i64 e),(9,Zd (cn o:Nat)),(12,av),(23,.pointer (some ⟨b5,0,none⟩)),(24,.int .i64 f)] _ _ ?_ (by simp (maxSteps:=2000000) only [vup,cond_true,cond_false,Nat.reduceBEq])
   clear hN20
   try clear N20
   have ft:(false==true)=false:=rfl
   have tf:(true==false)=false:=rfl
   have e50:((5:Int)==0)=false:=rfl
   have e40:((4:Int)==0)=false:=rfl
   have e44:((4:Int)==4)=true:=rfl
   have n40:((4:Int) != 0)=true:=rfl
   cases hcs:Wl (cn o) L with
   | nil =>
     rw [hcs] at his
     obtain ⟨_,rfl⟩:=his
     rcases hbc with ⟨_,rfl,ss,hsl,hsm,hbt,hx2⟩ | ⟨hne',_,_⟩
     case inr=>exact absurd hcs hne'
     refine Zg fun N21 hN21=>?_
     simp (maxSteps:=2000000) only [↓Za,↓Zn,↓Zl,↓Zb,↓Zc,↓vdn,vup,cond_true,cond_false,aop,Zf,ev,sput,Ze,Yf,Yi,Nat.reduceBEq,tyf,e50,e00,ft]
     refine hN21 [(0,v),(1,Zd z),(2,Zd c),(6,.bool false),(7,wv),(8,.int .i64 5),(9,Zd (cn o:Nat)),(12,av),(23,.pointer (some ⟨b5,0,none⟩)),(24,.int .i64 0)] _ _ ?_ (by simp (maxSteps:=2000000) only [vup,cond_true,cond_false,Nat.reduceBEq])
     clear hN21
     try clear N21
     refine Zg fun N22 hN22=>?_
     simp (maxSteps:=2000000) only [↓Za,↓Zn,↓Zl,↓Zb,↓Zc,↓vdn,vup,cond_true,cond_false,aop,Zf,ev,sput,Ze,Yf,Yi,Nat.reduceBEq,n00]
     refine hN22 [(0,v),(1,Zd z),(2,Zd c),(6,.bool false),(7,wv),(8,.int .i64 5),(9,Zd (cn o:Nat)),(12,av),(23,.pointer (some ⟨b5,0,none⟩)),(24,.int .i64 0)] _ _ ?_ (by simp (maxSteps:=2000000) only [vup,cond_true,cond_false,Nat.reduceBEq])
     clear hN22
     try clear N22
     have ld61 : ∀ {K:Value→Prop},Xs prog G5 61 (.pointer (some ⟨b5,0,none⟩)) K=K (.agg #[.slice py my cy]):=fun {K}=>Be.loadK1 b23
     refine Zg fun N23 hN23=>?_
     simp (maxSteps:=2000000) only [↓Za,↓Zb,↓Zc,vup,List.map_cons,List.map_nil,cond_true,cond_false,aop,Zf,ev,sput,Ze,Nat.reduceBEq,ld61,Yn,List.nil_append,List.append_nil]
     refine (Be.progBeats_call (n:=((cn o:Nat):Int)) hp5 (by omega) (hgr hx2) (by omega)).mono ?_
     rintro _ G6 ⟨hE10,hr⟩
     rw [if_pos hval2,Int.toNat_natCast,show Be.btB (cn o) L ss=true by rw [Be.btB,decide_eq_true hsl,smB_of hsm,hbt]; rfl] at hr
     subst hr
     simp (maxSteps:=2000000) only [Wh,Wi]
     refine hN23 [(0,v),(1,Zd z),(2,Zd c),(6,.bool false),(7,wv),(8,.int .i64 5),(9,Zd (cn o:Nat)),(12,av),(23,.pointer (some ⟨b5,0,none⟩)),(24,.int .i64 0),(25,.bool true),(26,.int .i64 0)] _ _ ?_ (by simp (maxSteps:=2000000) only [vup,cond_true,cond_false,Nat.reduceBEq])
     clear hN23
     try clear N23
     refine Zg fun N24 hN24=>?_
     simp (maxSteps:=2000000) only [↓Za,↓Zb,↓Zc,↓vdn,vup,List.map_nil,cond_true,cond_false,aop,Zf,ev,sput,Ze,Yf,Yi,Nat.reduceBEq,e00,Yn,List.append_nil]
     refine awk ?_
     refine hN24 [(0,v),(1,Zd z),(2,Zd c),(6,.bool true),(7,wv),(8,.int .i64 5),(9,Zd (cn o:Nat)),(12,av),(23,.pointer (some ⟨b5,0,none⟩)),(24,.int .i64 0),(25,.bool true),(26,.int .i64 0)] _ _ ?_ (by simp (maxSteps:=2000000) only [vup,cond_true,cond_false,Nat.reduceBEq])
     clear hN24
     try clear N24
     refine Zm ?_
     simp (maxSteps:=2000000) only [↓Zu,vup,cond_true,cond_false,Nat.reduceBEq,Zs,Xn,tup]
   | cons c' cs =>
     rw [hcs] at his
     obtain ⟨rfl,_⟩:=his
     rcases hbc with ⟨hn',_⟩ | ⟨_,hx',rfl⟩
     · rw [hcs] at hn'; cases hn'
     refine Zg fun N25 hN25=>?_
     simp (maxSteps:=2000000) only [↓Za,↓Zn,↓Zl,↓Zb,↓Zc,↓vdn,vup,cond_true,cond_false,aop,Zf,ev,sput,Ze,Yf,Yi,Nat.reduceBEq,tyf,e00,e40,tf]
     refine hN25 [(0,v),(1,Zd z),(2,Zd c),(6,.bool false),(7,wv),(8,.int .i64 0),(9,Zd (cn o:Nat)),(12,av),(23,.pointer (some ⟨b5,0,none⟩)),(24,.int .i64 4)] _ _ ?_ (by simp (maxSteps:=2000000) only [vup,cond_true,cond_false,Nat.reduceBEq])
     clear hN25
     try clear N25
     refine Zt fun E hE=>?_
     refine Zg fun N26 hN26=>?_
     simp (maxSteps:=2000000) only [↓Za,↓Zb,↓Zc,vup,cond_true,cond_false,aop,Zf,ev,sput,Ze,Yf,Yi,Nat.reduceBEq,n40]
     refine hN26 [(0,v),(1,Zd z),(2,Zd c),(6,.bool false),(7,wv),(8,.int .i64 0),(9,Zd (cn o:Nat)),(12,av),(23,.pointer (some ⟨b5,0,none⟩)),(24,.int .i64 4),(191,.bool true)] _ _ ?_ (by simp (maxSteps:=2000000) only [vup,cond_true,cond_false,Nat.reduceBEq])
     clear hN26
     try clear N26
     refine Xu rfl ?_
     refine Zg fun N27 hN27=>?_
     simp (maxSteps:=2000000) only [↓Za,↓Zb,↓Zc,↓vdn,vup,List.map_nil,cond_true,cond_false,aop,Zf,ev,sput,Ze,Yf,Yi,Nat.reduceBEq,e44,Yn,List.append_nil]
     refine awk ?_
     refine hN27 [(0,v),(1,Zd z),(2,Zd c),(6,.bool true),(7,wv),(8,.int .i64 0),(9,Zd (cn o:Nat)),(12,av),(23,.pointer (some ⟨b5,0,none⟩)),(24,.int .i64 4),(191,.bool true)] _ _ ?_ (by simp (maxSteps:=2000000) only [vup,cond_true,cond_false,Nat.reduceBEq])
     clear hN27
     try clear N27
     refine Zm ?_
     simp (maxSteps:=2000000) only [↓Zu,vup,cond_true,cond_false,Zf,Nat.reduceBEq,Zs,Xn,tup]
end Go.Proofs.Tryd.Am.Tl
