/-
  The abstract machine: slices of structs of four ints.
  The abstract machine: the end of a slice; arrays of six ints, and slices of them.
-/
import Derived.Test.YtnjacpfahhjpiaaDoorPk4
set_option linter.all false
namespace Go.Am
abbrev Qd:=Int×Int×Int×Int
def qL (p:Qd):List Int:=[p.1,p.2.1,p.2.2.1,p.2.2.2]
def qd0:Qd:=(0,0,0,0)
def qV (p:Qd):Value:=.agg #[Zx p.1,Zx p.2.1,Zx p.2.2.1,Zx p.2.2.2]
def Wd (ps:List Qd):List Int:=ps.flatMap qL
theorem flatQ_app (a b:List Qd):Wd (a++b)=Wd a++Wd b:=List.flatMap_append
theorem flatQ_len : ∀ ps:List Qd,(Wd ps).length=ps.length*4
 | []=>rfl
 | p::ps=>by
   have:=flatQ_len ps
   simp only [Wd,List.flatMap_cons,List.length_append,List.length_cons,qL,List.length_nil] at this ⊢; omega
theorem flatQ_get : ∀ (ps:List Qd) (i:Nat),i<ps.length→(Wd ps)[i*4]? = some (ps.getD i qd0).1∧(Wd ps)[i*4+1]? = some (ps.getD i qd0).2.1∧(Wd ps)[i*4+2]? = some (ps.getD i qd0).2.2.1∧(Wd ps)[i*4+3]? = some (ps.getD i qd0).2.2.2
 | [],_,h=>by simp at h
 | p::ps,0,_=>⟨rfl,rfl,rfl,rfl⟩
 | p::ps,i+1,h=>by
   have:=flatQ_get ps i (by simpa using h)
   have e1:(i+1)*4=i*4+4:=by omega
   have e2:Wd (p::ps)=p.1::p.2.1::p.2.2.1::p.2.2.2::Wd ps:=rfl
   rw [e1,e2]
   simpa [List.getD] using this
def QuadSl (h:Yb) (v:Value) (ps:List Qd):Prop :=
 (v = .slice none 0 0∧ps=[])∨∃ b o sp cap c e ro,v = .slice (some ⟨b,o,sp⟩) ps.length cap∧ps.length≤cap∧view h b=some (c,e,ro) ∧
  ∀ i,i<ps.length→c[o+i*4]? = some (Zx (ps.getD i qd0).1)∧c[o+i*4+1]? = some (Zx (ps.getD i qd0).2.1)∧c[o+i*4+2]? = some (Zx (ps.getD i qd0).2.2.1)∧c[o+i*4+3]? = some (Zx (ps.getD i qd0).2.2.2)
theorem take_four {c:List Value} {o:Nat} {x y z w:Value} (hx:c[o]? = some x) (hy:c[o+1]? = some y) (hz:c[o+2]? = some z) (hw:c[o+3]? = some w):(c.drop o).take 4=[x,y,z,w]∧o+4≤c.length:=by
 obtain ⟨h1,rfl⟩:=List.getElem?_eq_some_iff.1 hx
 obtain ⟨h2,rfl⟩:=List.getElem?_eq_some_iff.1 hy
 obtain ⟨h3,rfl⟩:=List.getElem?_eq_some_iff.1 hz
 obtain ⟨h4,rfl⟩:=List.getElem?_eq_some_iff.1 hw
 refine ⟨?_,by omega⟩
 rw [List.drop_eq_getElem_cons h1,List.drop_eq_getElem_cons h2,List.drop_eq_getElem_cons h3,List.drop_eq_getElem_cons h4]; rfl
section
variable {P:Program} {h:Yb} {v:Value} {ps:List Qd}
theorem QuadSl.len (hv:QuadSl h v ps) (K:Value→Prop):lenK v K=K (Zx ps.length):=by
 rcases hv with ⟨rfl,rfl⟩ | ⟨b,o,sp,cap,c,e,ro,rfl,_⟩ <;> rfl
theorem QuadSl.idx (hv:QuadSl h v ps) {t e:TypeId} (he:elemOf' P t=some e) (hs:esz P e=some 4) {k:IntKind} {i:Nat} (hi:i<ps.length) (K:Value→Prop):Yq P t v (.int k i) K=K (Vj v 4 i):=by
 rcases hv with ⟨rfl,rfl⟩ | ⟨b,o,sp,cap,c,e',ro,rfl,_⟩
 · simp at hi
 · simp only [Yq,he,hs,Vj,Int.toNat_natCast,eq_iff_iff]
   exact ⟨fun h=>h.2.2,fun h=>⟨by omega,by omega,h⟩⟩
theorem QuadSl.load (hv:QuadSl h v ps) {t:TypeId} (hs:shp P t=some (some 4)) {i:Nat} (hi:i<ps.length) (K:Value→Prop):Xw P h t (Vj v 4 i) K=K (qV (ps.getD i qd0)):=by
 rcases hv with ⟨rfl,rfl⟩ | ⟨b,o,sp,cap,c,e',ro,rfl,_,hvw,hc⟩
 · simp at hi
 · obtain ⟨h1,h2,h3,h4⟩:=hc i hi
   obtain ⟨h5,h6⟩:=take_four h1 h2 h3 h4
   have hc0:0<c.length:=by omega
   simp only [Vj,Xw,hs,Vf hvw (.inr hc0),h5,h6,true_and]; rfl
theorem QuadSl.same {h' : Yb} (hv:QuadSl h v ps) (hb : ∀ b,Ye v=some b→h'[b]? = h[b]?):QuadSl h' v ps:=by
 rcases hv with ⟨rfl,rfl⟩ | ⟨b,o,sp,cap,c,e,ro,rfl,hc,hw,hx⟩
 · exact .inl ⟨rfl,rfl⟩
 · exact .inr ⟨b,o,sp,cap,c,e,ro,rfl,hc,by rw [← hw]; simp only [view,hb b rfl],hx⟩
theorem QuadSl.lt (hv:QuadSl h v ps) {b:Nat} (hb:Ye v=some b):b<h.length:=by
 rcases hv with ⟨rfl,rfl⟩ | ⟨b',o,sp,cap,c,e,ro,rfl,hc,hw,hx⟩
 · cases hb
 · cases hb; exact Vp hw
theorem QuadSl.ext {h' : Yb} (hv:QuadSl h v ps) (he:Ext (fun _=>False) h h'):QuadSl h' v ps:=hv.same fun b hb=>he.2 b (hv.lt hb) id
theorem QuadSl.grow (hv:QuadSl h v ps) (g:Yb):QuadSl (h++g) v ps:=hv.ext (Ext.app _ _ _)
end
def OwnQ (e:TypeId) (h:Yb) (v:Value) (ps:List Qd):Prop :=
 (v = .slice none 0 0∧ps=[])∨∃ (b:Nat) (ys:List Qd),v = .slice (some ⟨b,0,some 0⟩) ps.length (ps.length+ys.length)∧h[b]? = some (.ints (Wd ps++Wd ys) e false)
theorem flatQ_set : ∀ (ps:List Qd) (i:Nat) (p:Qd),i<ps.length→Wd (ps.set i p)=Yj (Wd ps) (i*4) (qL p)
 | [],i,_,h=>by simp at h
 | p::ps,0,q,_=>by simp [Wd,Yj,qL]
 | p::ps,i+1,q,h=>by
   have ih:=flatQ_set ps i q (by simpa using h)
   rw [List.set_cons_succ]
   have e1 : ∀ l:List Qd,Wd (p::l)=p.1::p.2.1::p.2.2.1::p.2.2.2::Wd l:=fun l=>rfl
   rw [e1,e1,ih]
   simp only [Yj]
   rw [show (i+1)*4=(i*4)+1+1+1+1 by omega,List.take_succ_cons,List.take_succ_cons,List.take_succ_cons,List.take_succ_cons]
   rw [show i*4+1+1+1+1+(qL q).length=(i*4+(qL q).length)+1+1+1+1 by omega,List.drop_succ_cons,List.drop_succ_cons,List.drop_succ_cons,List.drop_succ_cons]
   rfl
section
variable {P:Program} {e:TypeId} {h:Yb} {v:Value} {ps:List Qd}
theorem OwnQ.quad (ho:OwnQ e h v ps):QuadSl h v ps:=by
 rcases ho with ⟨rfl,rfl⟩ | ⟨b,ys,rfl,hb⟩
 · exact .inl ⟨rfl,rfl⟩
 · refine .inr ⟨b,0,some 0,_,(Wd ps++Wd ys).map Zx,e,false,rfl,by omega,by simp [view,hb,Blk.view],fun i hi=>?_⟩
   obtain ⟨h1,h2,h3,h4⟩:=flatQ_get ps i hi
   have l1:=(List.getElem?_eq_some_iff.1 h1).1
   have l2:=(List.getElem?_eq_some_iff.1 h2).1
   have l3:=(List.getElem?_eq_some_iff.1 h3).1
   have l4:=(List.getElem?_eq_some_iff.1 h4).1
   rw [Nat.zero_add,List.getElem?_map,List.getElem?_map,List.getElem?_map,List.getElem?_map,List.getElem?_append_left l1,List.getElem?_append_left l2,List.getElem?_append_left l3,List.getElem?_append_left l4,h1,h2,h3,h4]
   exact ⟨rfl,rfl,rfl,rfl⟩
theorem OwnQ.same {h' : Yb} (ho:OwnQ e h v ps) (hb : ∀ b,Ye v=some b→h'[b]? = h[b]?):OwnQ e h' v ps:=by
 rcases ho with ho | ⟨b,ys,rfl,hb'⟩
 · exact .inl ho
 · exact .inr ⟨b,ys,rfl,by rw [hb b rfl]; exact hb'⟩
theorem OwnQ.lt (ho:OwnQ e h v ps) {b:Nat} (hb:Ye v=some b):b<h.length:=ho.quad.lt hb
theorem OwnQ.ext {h' : Yb} (ho:OwnQ e h v ps) (he:Ext (fun _=>False) h h'):OwnQ e h' v ps:=ho.same fun b hb=>he.2 b (ho.lt hb) id
theorem OwnQ.one (ho:OwnQ e h v ps):one v=true:=by
 rcases ho with ⟨rfl,_⟩ | ⟨b,ys,rfl,_⟩ <;> rfl
theorem OwnQ.notCells {e2:TypeId} {c:List Value} {ro:Bool} {j:Nat} (ho:OwnQ e h v ps) (hj:h[j]? = some (.cells c e2 ro)):Ye v≠some j:=by
 rcases ho with ⟨rfl,_⟩ | ⟨b,ys,rfl,hb⟩
 · intro h; cases h
 · intro h
   obtain rfl:b=j:=by simpa [Ye] using h
   rw [hb] at hj; cases hj
theorem OwnQ.append {p:Qd} {t t2:TypeId} {b2 c2:Nat} {c:Bool} (ho:OwnQ e h v ps) (hT:appT P t t2=some (e,4,32)) (hn:ps.length<1099511627776) (hb2:h[b2]? = some (.ints (qL p) e c)) {K:Value→Yb→Prop}
  (hk : ∀ v' h',OwnQ e h' v' (ps++[p])→Ext (fun i=>Ye v=some i) h h'→(Ye v' = Ye v∨∃ b,Ye v' = some b∧h.length≤b)→K v' h') :
  Xc P h t t2 v (.slice (some ⟨b2,0,none⟩) 1 c2) K:=by
 simp only [Xc,hT,elemsK,Xr,hb2]
 refine ⟨fun h=>by omega,fun _=>⟨by simp [qL],?_⟩⟩
 have hi:Ys (List.map Zx (List.take (1*4) (List.drop 0 (qL p))))=some (qL p):=rfl
 have hf:Wd (ps++[p])=Wd ps++qL p:=by rw [flatQ_app]; simp [Wd]
 have hq4:(qL p).length=4:=rfl
 rcases ho with ⟨rfl,rfl⟩ | ⟨b,ys,rfl,hb⟩
 · simp only [putK]
   refine ⟨fun h=>by omega,fun _=>⟨by omega,hk _ _ (.inr ⟨h.length,[],rfl,?_⟩) (Ext.app _ _ _) (.inr ⟨_,rfl,Nat.le_refl _⟩)⟩⟩
   rw [List.getElem?_append_right (Nat.le_refl _)]
   simp [mkb,Ys,Wd,qL]
 · simp only [putK,hb,hi]
   refine ⟨fun hroom=>⟨fun h=>by omega,fun _=>⟨rfl,?_,?_⟩⟩,fun hroom=>⟨by omega,trivial,rfl,by simp [view,hb,Blk.view],?_⟩⟩
   · have h1:=flatQ_len ps
     have h2:=flatQ_len ys
     simp only [List.length_append,hq4]; omega
   · cases ys with
     | nil=>simp only [List.length_nil] at hroom; omega
     | cons y ys =>
       refine hk _ _ (.inr ⟨b,ys,by simp; omega,?_⟩) (Ext.set _ rfl) (.inl rfl)
       rw [List.getElem?_set_self (List.getElem?_eq_some_iff.1 hb).1,hf]
       have h1:=flatQ_len ps
       have e1:Wd (y::ys)=y.1::y.2.1::y.2.2.1::y.2.2.2::Wd ys:=rfl
       have e2:Yj (Wd ps++Wd (y::ys)) (0+ps.length*4) (qL p)=Wd ps++qL p++Wd ys:=by
        rw [e1,Nat.zero_add,← h1]
        simp [Yj,qL]
       rw [e2]
   · obtain rfl:ys=[]:=by cases ys with | nil=>rfl | cons y ys=>simp at hroom
     simp only [Xr,hb]
     have h1:=flatQ_len ps
     have e0:Wd ([]:List Qd)=[]:=rfl
     refine ⟨by simp [h1],hk _ _ (.inr ⟨h.length,[],by simp,?_⟩) ?_ (.inr ⟨_,rfl,Nat.le_refl _⟩)⟩
     · rw [List.getElem?_append_right (by simp)]
       have:Ys (List.map Zx (List.take (ps.length*4) (List.drop 0 (Wd ps++Wd [])))++List.map Zx (List.take (1*4) (List.drop 0 (qL p))))=some (Wd ps++qL p):=by
        rw [← List.map_append,e0]; simp only [List.drop_zero,List.append_nil,← h1,List.take_length]; exact intsOf_map' _
       rw [e0,List.append_nil] at this
       simp only [mkb,e0,List.append_nil,this,List.length_set,Nat.sub_self,List.getElem?_cons_zero,hf]
     · exact (Ext.set (S:=fun i=>Ye (.slice (some ⟨b,0,some 0⟩) ps.length (ps.length+([]:List Qd).length))=some i) .dead rfl).trans (Ext.app _ _ _)
theorem OwnQ.store {p:Qd} {t:TypeId} {i:Nat} (ho:OwnQ e h v ps) (hs:shp P t=some (some 4)) (hi:i<ps.length) {K:Yb→Prop}
  (hk : ∀ h',OwnQ e h' v (ps.set i p)→Ext (fun j=>Ye v=some j) h h'→K h'):Xv P h t (Vj v 4 i) (qV p) K:=by
 rcases ho with ⟨rfl,rfl⟩ | ⟨b,ys,rfl,hb⟩
 · simp at hi
 · have hl:=flatQ_len ps
   have e1:Yj (Wd ps++Wd ys) (i*4) (qL p)=Wd (ps.set i p)++Wd ys:=by
    rw [splice_app (by simp [hl,qL]; omega),flatQ_set ps i p hi]
   have e2:Vj (.slice (some ⟨b,0,some 0⟩) ps.length (ps.length+ys.length)) 4 i = .pointer (some ⟨b,i*4,none⟩):=by simp [Vj]
   rw [e2]
   simp only [Xv,hs,hb]
   simp only [qV,List.toList_toArray,Ys,Option.map_some,List.length_append,hl]
   have e3:Yj (Wd ps++Wd ys) (i*4) [p.1,p.2.1,p.2.2.1,p.2.2.2]=Wd (ps.set i p)++Wd ys:=e1
   rw [e3]
   refine ⟨rfl,rfl,by omega,hk _ (.inr ⟨b,ys,by simp,?_⟩) (Ext.set _ rfl)⟩
   exact Xm (Yg hb) _
theorem litQ {t:TypeId} {p:Qd} (he:elemOf' P t=some e) (hz:Xx P e=some [.int .i64 0,.int .i64 0,.int .i64 0,.int .i64 0]) (hs:esz P e=some 4) {K:Value→Yb→Prop} :
  Xi P h t 1 [(0,qV p)] K=K (.slice (some ⟨h.length,0,none⟩) 1 1) (h++[.ints (qL p) e false]):=by
 simp only [Xi,he,hz,hs,qV,qL,reps,fillL,mkb,Ys,Va,cellsOf,List.length_cons,List.length_nil,Nat.mul_one,Nat.zero_mul,Nat.zero_add]
 refine propext ⟨fun h=>h.2.2.2,fun h=>⟨trivial,by decide,by decide,h⟩⟩
end
end Go.Am
namespace Go.Am
set_option maxRecDepth 100000
def Src (h:Yb) (w:Value) (zs:List Int):Prop:=IntSl h w zs∨(w=void∧zs=[])
theorem Src.len {h:Yb} {w:Value} {zs:List Int} (hw:Src h w zs) (K:Value→Prop):lenK w K=K (Zx zs.length):=by
 rcases hw with hw | ⟨rfl,rfl⟩
 · exact hw.len K
 · rfl
theorem Src.int {h:Yb} {w:Value} {zs:List Int} (hw:Src h w zs) (hz:zs≠[]):IntSl h w zs:=hw.resolve_right fun g=>hz g.2
/-! ### Six ints -/
abbrev F6:=Nat→Nat
def six (f:F6):List Int:=[(f 0:Int),(f 1:Int),(f 2:Int),(f 3:Int),(f 4:Int),(f 5:Int)]
def sixV (f:F6):Value:=.agg #[Zx (f 0:Nat),Zx (f 1:Nat),Zx (f 2:Nat),Zx (f 3:Nat),Zx (f 4:Nat),Zx (f 5:Nat)]
theorem lt6 {i:Nat} (h:i<6):i=0∨i=1∨i=2∨i=3∨i=4∨i=5:=by omega
theorem six_get (f:F6) {i:Nat} (h:i<6):(six f)[i]? = some (f i:Int):=by
 rcases lt6 h with rfl | rfl | rfl | rfl | rfl | rfl <;> rfl
section
variable {P:Program} {h:Yb} {b:Nat} {e t:TypeId} {f:F6}
theorem six_idx (ht:P.underlying t=some (.array 6 e)) (hs:esz P e=some 1) {k:IntKind} {i:Nat} (hi:i<6) {o:Nat} {K:Value→Prop}:Yq P t (.pointer (some ⟨b,o,none⟩)) (.int k i) K=K (.pointer (some ⟨b,o+i,none⟩)):=by
 simp only [Yq,ht,hs,Int.toNat_natCast,Nat.mul_one,eq_iff_iff]
 exact ⟨fun h=>h.2.2,fun h=>⟨by omega,by omega,h⟩⟩
theorem Low.six (f:F6):Low (sixV f):=.agg fun x hx=>by
 simp only [List.mem_cons,List.not_mem_nil,or_false] at hx
 rcases hx with rfl | rfl | rfl | rfl | rfl | rfl <;> exact .int _ _
end
/-! ### Slices of six ints -/
def Vq (rs:List F6):List Int:=rs.flatMap six
theorem flat6_len : ∀ rs:List F6,(Vq rs).length=rs.length*6
 | []=>rfl
 | t::rs=>by
   have:=flat6_len rs
   have e:Vq (t::rs)=six t++Vq rs:=rfl
   rw [e,List.length_append,this,List.length_cons]
   show 6+rs.length*6=_
   omega
theorem flat6_app (a b:List F6):Vq (a++b)=Vq a++Vq b:=List.flatMap_append
def z6:F6:=fun _=>0
theorem flat6_get : ∀ (rs:List F6) (k i:Nat),k<rs.length→i<6→(Vq rs)[k*6+i]? = some ((rs.getD k z6) i:Int)
 | [],_,_,h,_=>by simp at h
 | t::rs,0,i,_,hi=>by
   have e:Vq (t::rs)=six t++Vq rs:=rfl
   rw [e,Nat.zero_mul,Nat.zero_add,List.getElem?_append_left (by show i<6; exact hi),six_get t hi]; rfl
 | t::rs,k+1,i,h,hi=>by
   have:=flat6_get rs k i (by simpa using h) hi
   have e:Vq (t::rs)=six t++Vq rs:=rfl
   rw [e,List.getElem?_append_right (by show 6≤_; omega)]
   have e2:(k+1)*6+i-(six t).length=k*6+i:=by show (k+1)*6+i-6=_; omega
   rw [e2,this]; rfl
def Own6 (e:TypeId) (h:Yb) (v:Value) (rs:List F6):Prop :=
 (v = .slice none 0 0∧rs=[])∨∃ (b:Nat) (ys:List F6),v = .slice (some ⟨b,0,some 0⟩) rs.length (rs.length+ys.length)∧h[b]? = some (.ints (Vq rs++Vq ys) e false)
section
variable {P:Program} {e:TypeId} {h:Yb} {v:Value} {rs:List F6}
theorem Own6.len (hv:Own6 e h v rs) (K:Value→Prop):lenK v K=K (Zx rs.length):=by
 rcases hv with ⟨rfl,rfl⟩ | ⟨b,ys,rfl,_⟩ <;> rfl
theorem Own6.one (ho:Own6 e h v rs):one v=true:=by
 rcases ho with ⟨rfl,_⟩ | ⟨b,ys,rfl,_⟩ <;> rfl
theorem Own6.lt (ho:Own6 e h v rs) {b:Nat} (hb:Ye v=some b):b<h.length:=by
 rcases ho with ⟨rfl,_⟩ | ⟨b',ys,rfl,hb'⟩
 · cases hb
 · cases hb; exact (List.getElem?_eq_some_iff.1 hb').1
theorem Own6.same {h' : Yb} (ho:Own6 e h v rs) (hb : ∀ b,Ye v=some b→h'[b]? = h[b]?):Own6 e h' v rs:=by
 rcases ho with ho | ⟨b,ys,rfl,hb'⟩
 · exact .inl ho
 · exact .inr ⟨b,ys,rfl,by rw [hb b rfl]; exact hb'⟩
theorem Own6.ext {h' : Yb} (ho:Own6 e h v rs) (he:Ext (fun _=>False) h h'):Own6 e h' v rs:=ho.same fun b hb=>he.2 b (ho.lt hb) id
theorem Own6.at_ {t ta ti:TypeId} (ho:Own6 e h v rs) (he:elemOf' P t=some e) (hs:esz P e=some 6) {ea:TypeId} (hta:P.underlying ta=some (.array 6 ea)) (hsa:esz P ea=some 1) (hti:shp P ti=some none) {k i:Nat} (hk:k<rs.length) (hi:i<6) :
  ∃ b,(∀ {kk:IntKind} (K:Value→Prop),Yq P t v (.int kk k) K=K (.pointer (some ⟨b,k*6,none⟩)))∧(∀ {kk:IntKind} (K:Value→Prop),Yq P ta (.pointer (some ⟨b,k*6,none⟩)) (.int kk i) K=K (.pointer (some ⟨b,k*6+i,none⟩)))∧∀ (K:Value→Prop),Xw P h ti (.pointer (some ⟨b,k*6+i,none⟩)) K=K (Zx ((rs.getD k z6) i:Nat)):=by
 rcases ho with ⟨_,rfl⟩ | ⟨b,ys,rfl,hb⟩
 · simp at hk
 · refine ⟨b,fun {kk} K=>?_,fun {kk} K=>six_idx hta hsa hi,fun K=>?_⟩
   · simp only [Yq,he,hs,Int.toNat_natCast,Nat.zero_add,eq_iff_iff]
     exact ⟨fun h=>h.2.2,fun h=>⟨by omega,by omega,h⟩⟩
   · have hg:=flat6_get rs k i hk hi
     have hl:=(List.getElem?_eq_some_iff.1 hg).1
     simp only [Xw,hti,cellK,hb]
     rw [List.getD,List.getElem?_append_left hl,hg]
     exact propext ⟨fun h=>h.2,fun h=>⟨by rw [List.length_append]; omega,h⟩⟩
theorem Own6.append {f:F6} {t t2:TypeId} {b2 c2:Nat} {c:Bool} (ho:Own6 e h v rs) (hT:appT P t t2=some (e,6,48)) (hn:rs.length<1099511627776) (hb2:h[b2]? = some (.ints (six f) e c)) {K:Value→Yb→Prop}
  (hk : ∀ v' h',Own6 e h' v' (rs++[f])→Ext (fun i=>Ye v=some i) h h'→(Ye v' = Ye v∨∃ b,Ye v' = some b∧h.length≤b)→K v' h') :
  Xc P h t t2 v (.slice (some ⟨b2,0,none⟩) 1 c2) K:=by
 simp only [Xc,hT,elemsK,Xr,hb2]
 have hs6:(six f).length=6:=rfl
 refine ⟨fun h=>by omega,fun _=>⟨by simp [hs6],?_⟩⟩
 have hi:Ys (List.map Zx (List.take (1*6) (List.drop 0 (six f))))=some (six f):=rfl
 have hf:Vq (rs++[f])=Vq rs++six f:=by rw [flat6_app]; simp [Vq]
 rcases ho with ⟨rfl,rfl⟩ | ⟨b,ys,rfl,hb⟩
 · simp only [putK]
   refine ⟨fun h=>by omega,fun _=>⟨by omega,hk _ _ (.inr ⟨h.length,[],rfl,?_⟩) (Ext.app _ _ _) (.inr ⟨_,rfl,Nat.le_refl _⟩)⟩⟩
   rw [List.getElem?_append_right (Nat.le_refl _)]
   simp [mkb,Ys,Vq,six]
 · simp only [putK,hb,hi]
   have h1:=flat6_len rs
   have h2:=flat6_len ys
   refine ⟨fun hroom=>⟨fun h=>by omega,fun _=>⟨rfl,?_,?_⟩⟩,fun hroom=>⟨by omega,trivial,rfl,by simp [view,hb,Blk.view],?_⟩⟩
   · simp only [List.length_append,hs6]; omega
   · cases ys with
     | nil=>simp only [List.length_nil] at hroom; omega
     | cons p ys =>
       refine hk _ _ (.inr ⟨b,ys,by simp; omega,?_⟩) (Ext.set _ rfl) (.inl rfl)
       rw [List.getElem?_set_self (List.getElem?_eq_some_iff.1 hb).1,hf]
       have e1:Vq (p::ys)=six p++Vq ys:=rfl
       have e2:Yj (Vq rs++Vq (p::ys)) (0+rs.length*6) (six f)=Vq rs++six f++Vq ys:=by
        have hp6:(six p).length=6:=rfl
        rw [e1,Nat.zero_add,← h1,Yj,List.take_left,hs6,List.drop_append,List.drop_eq_nil_of_le (by omega),List.nil_append,Nat.add_sub_cancel_left,List.drop_append,List.drop_eq_nil_of_le (by omega),List.nil_append,hp6,Nat.sub_self,List.drop_zero]
       rw [e2]
   · obtain rfl:ys=[]:=by cases ys with | nil=>rfl | cons y ys=>simp at hroom
     simp only [Xr,hb]
     have e0:Vq ([]:List F6)=[]:=rfl
     refine ⟨by simp [h1],hk _ _ (.inr ⟨h.length,[],by simp,?_⟩) ?_ (.inr ⟨_,rfl,Nat.le_refl _⟩)⟩
     · rw [List.getElem?_append_right (by simp)]
       have:Ys (List.map Zx (List.take (rs.length*6) (List.drop 0 (Vq rs++Vq [])))++List.map Zx (List.take (1*6) (List.drop 0 (six f))))=some (Vq rs++six f):=by
        have e6:List.take (1*6) (six f)=six f:=rfl
        rw [← List.map_append,e0]; simp only [List.drop_zero,List.append_nil,← h1,List.take_length,e6]; exact intsOf_map' _
       rw [e0,List.append_nil] at this
       simp only [mkb,e0,List.append_nil,this,List.length_set,Nat.sub_self,List.getElem?_cons_zero,hf]
     · exact (Ext.set (S:=fun i=>Ye (.slice (some ⟨b,0,some 0⟩) rs.length (rs.length+([]:List F6).length))=some i) .dead rfl).trans (Ext.app _ _ _)
end
end Go.Am
