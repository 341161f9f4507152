/-
  The abstract machine, part Y f: a whole slice of pairs behind one that a run owns.
  The abstract machine: a range over a function that yields pairs of numbers by rows, within sizes that another function tells it, and keeps them in a block of its own.
  The abstract machine: what a call hands back in a block of its own gets the next name (a call that is left open becomes one that is named); in a region whose order Go leaves open several variables may be laid earlier than the text says.
  The abstract machine: what a call has written into a block of its caller's and hands back is settled: all else that it laid is forgotten.
-/
import Derived.Test.YtmjpngmoankpkaaDoorPk4
set_option linter.all false
namespace Go.Am
section
variable {P:Program} {e:TypeId} {h:Yc} {v w:Value} {ps zs:List (Int×Int)}
theorem PairSl.copyO {t t2:TypeId} {b0:Nat} (hv:PairSl h v ps) (hx:ps≠[]) (hT:appT P t t2=some (e,2,16)) (hn:ps.length<1099511627776) (hb0:h[b0]? = some (.ints [] e false)) {K:Value→Yc→Prop}
  (hk : ∀ r g,OwnP e (h++g) r ps→Yk r=some h.length→K r (h++g)):Xp P h t t2 (.slice (some ⟨b0,0,none⟩) 0 0) v K:=by
 simp only [Xp,hT]
 have hpos:0<ps.length:=List.length_pos_iff.2 hx
 have hgo:putK h e 2 16 (.slice (some ⟨b0,0,none⟩) 0 0) ps.length ((Yn ps).map Zx) K:=by
  simp only [putK]
  refine ⟨fun h=>by omega,fun _=>⟨by omega,?_⟩⟩
  simp only [Wa,hb0]
  refine ⟨by simp,hk _ _ (.inr ⟨h.length,[],by simp,?_⟩) rfl⟩
  rw [Yj]; simp [mkb,intsOf_map',Yn]
 have hv':=hv
 rcases hv with ⟨_,h1⟩ | ⟨b,o,sp,cap,c,e',ro,rfl,hc,hb,_⟩
 · exact absurd h1 hx
 · exact ⟨fun h=>absurd (List.length_eq_zero_iff.1 h) hx,fun _=>hv'.cells hx rfl hgo⟩
theorem OwnP.app {t t2:TypeId} (ho:OwnP e h v ps) (hw:PairSl h w zs) (hz:zs≠[]) (hT:appT P t t2=some (e,2,16)) (hn:ps.length+zs.length<1099511627776) {K:Value→Yc→Prop}
  (hk : ∀ v' h',OwnP e h' v' (ps++zs)→Ext (fun i=>Yk v=some i) h h'→K v' h'):Xp P h t t2 v w K:=by
 have hpos:0<zs.length:=List.length_pos_iff.2 hz
 have hone:((Yn zs).map Zx).all one=true:=by rw [List.all_eq_true]; intro x hx; obtain ⟨y,_,rfl⟩:=List.mem_map.1 hx; rfl
 have l1:=Wr ps
 have l2:=Wr zs
 have hgo:putK h e 2 16 v zs.length ((Yn zs).map Zx) K:=by
  rcases ho with ⟨rfl,rfl⟩ | ⟨b,ys,rfl,hb⟩
  · simp only [putK]
    refine ⟨fun h=>by omega,fun _=>⟨by simp at hn; omega,hk _ _ (.inr ⟨h.length,[],by simp,?_⟩) (Ext.app _ _ _)⟩⟩
    rw [Yj,mkb,intsOf_map']; simp [Yn]
  · have l3:=Wr ys
    simp only [putK,hb,intsOf_map']
    refine ⟨fun hroom=>⟨fun h=>by omega,fun _=>⟨hone,by simp only [List.length_append]; omega,?_⟩⟩,fun hroom=>⟨by omega,trivial,hone,by simp [view,hb,Blk.view],?_⟩⟩
    · refine hk _ _ (.inr ⟨b,ys.drop zs.length,by simp; omega,?_⟩) (Ext.set _ rfl)
      have e1:Yt (Yn ps++Yn ys) (0+ps.length*2) (Yn zs)=Yn ps++Yn zs++(Yn ys).drop (zs.length*2):=by
       rw [Yt,Nat.zero_add,show ps.length*2=(Yn ps).length by omega,List.take_left,List.drop_append,List.drop_eq_nil_of_le (by omega),List.nil_append,Nat.add_sub_cancel_left,show (Yn zs).length=zs.length*2 by omega]
      have e2 : ∀ (l:List (Int×Int)) (k:Nat),Yn (l.drop k)=(Yn l).drop (k*2):=by
       intro l
       induction l with
       | nil=>intro k; simp [Yn]
       | cons p l ih =>
         intro k
         cases k with
         | zero=>rfl
         | succ k =>
           have:Yn (p::l)=p.1::p.2::Yn l:=rfl
           rw [List.drop_succ_cons,ih,this,show (k+1)*2=k*2+1+1 by omega]; rfl
      rw [Xy (Yp hb),e1,flatP_app,e2]
    · simp only [Wa,hb]
      refine ⟨by simp only [List.length_append]; omega,hk _ _ (.inr ⟨h.length,[],by simp,?_⟩) ((Ext.set (S:=fun i=>Yk (.slice (some ⟨b,0,some 0⟩) ps.length (ps.length+ys.length))=some i) .dead rfl).trans (Ext.app _ _ _))⟩
      rw [List.getElem?_append_right (by simp)]
      have:Xf (List.map Zx (List.take (ps.length*2) (List.drop 0 (Yn ps++Yn ys)))++List.map Zx (Yn zs))=some (Yn ps++Yn zs):=by
       rw [← List.map_append,List.drop_zero,show ps.length*2=(Yn ps).length by omega,List.take_left]; exact intsOf_map' _
      simp only [mkb,List.length_set,Nat.sub_self,List.getElem?_cons_zero,this,flatP_app]
      simp [Yn]
 simp only [Xp,hT]
 have hw':=hw
 rcases hw with ⟨_,h1⟩ | ⟨b,o,sp,cap,c,e',ro,rfl,hc,hb,_⟩
 · exact absurd h1 hz
 · exact ⟨fun h=>absurd (List.length_eq_zero_iff.1 h) hz,fun _=>hw'.cells hz rfl hgo⟩
end
end Go.Am
namespace Go.Am
def Vg (R C:Nat):List (Nat×Nat):=(List.range R).flatMap fun i=>(List.range C).map fun j=>(i+1,j+1)
abbrev rVm (x:Nat×Nat):Value:=.agg #[Zx (x.1:Nat),Zx (x.2:Nat)]
def RectIter (P:Program) [Tabs P] (gf wf:FuncId):Prop :=
 (∀ (as:Array Value) (w:World),(callFunc gf as).run P w = .ok (.enter gf as) w) ∧
 ∀ (r:Option Nat) (l R C:Nat) (tv:Value) (J0:World→Prop) (J:Nat→List (Nat×Nat)→World→Prop) (Jx:World→Prop) (W:World),R<4294967296→C<4294967296 →
   (∀ W,J0 W→CallsIn Fence.wide 0 P wf #[tv] W fun en W'=>en = .returned (rVm (R,C))∧J0 W') →
   (∀ W W',J0 W→(∀ k,k<W.heap.size→W'.heap[k]? = W.heap[k]?)→W.heap.size<W'.heap.size→W'.os=W.os→W'.tape=W.tape→W'.output=W.output→J W.heap.size [] W') →
   (∀ B pre x W,J B pre W→pre++[x] <+: Vg R C→YieldAt (Vm r) 0 P l #[rVm x] W fun en W' =>
    (en = .returned (.bool true)∧J B (pre++[x]) W'∧W'.heap[B]? = W.heap[B]?)∨(en = .returned (.bool false)∧Jx W')) →
   J0 W →
   CallsIn (Vm r) 1 P gf #[tv,.func (.yield l) #[] #[]] W fun en W'=>(∃ v,en = .returned v)∧((∃ B,J B (Vg R C) W')∨Jx W')
theorem rVm_low (x:Nat×Nat):Low (rVm x):=.agg fun y hy=>by
 simp only [List.mem_cons,List.not_mem_nil,or_false] at hy
 rcases hy with rfl | rfl <;> exact .int _ _
theorem VRel.rVm {n:Nat} {ρ:Nat→Loc} {x:Nat×Nat} {v' : Value} (h:VRel n ρ (rVm x) v'):v' = Am.rVm x:=by
 obtain ⟨ys,rfl,hs,hk⟩:=h.agg'
 have h0:=(hk 0 (by simp)).int
 have h1:=(hk 1 (by simp)).int
 congr 1
 apply Array.ext (by simpa using hs.symm)
 intro i g1 g2
 simp at g2
 match i,g1,g2 with
 | 0,g1,_=>simpa [Array.getD_eq_getD_getElem?,g1] using h0
 | 1,g1,_=>simpa [Array.getD_eq_getD_getElem?,g1] using h1
theorem awp_range2 {P:Program} [Tabs P] {sz:Nat} {f:Operand} {d:Nat} {as b:Code} {gf wf:FuncId} {Q:Exit→Env→Yc→Prop} {e:Env} {h:Yc} {tv:Value} {R C:Nat}
  (hI:RectIter P gf wf) (hR:R<4294967296) (hC:C<4294967296) (hv:vokB sz f=true) (hf:ev e f = .func (.func gf) #[tv] #[]) (hW:APure P wf [tv] h (rVm (R,C)))
  (Inv:List (Nat×Nat)→Yc→Prop) (h0:Inv [] h)
  (round : ∀ pre (x:Nat×Nat) h1,pre++[x] <+: Vg R C→Inv pre h1→AWP P sz as (Zv (AWP P sz b (rangeQ e (Inv (pre++[x])) Q)) (fun _ _ _=>False)) (sput e d (rVm x)) h1)
  (done : ∀ h1,Inv (Vg R C) h1→Q .normal e h1):AWP P sz (.rangeFunc f #[d] as b) Q e h:=by
 intro r n m ρ a w hm sm x
 have hfr:=x.ev (vokB_eq hv)
 rw [hf] at hfr
 obtain ⟨ys,vs,hev,h1,h2,h3,h4⟩:=hfr.func'
 obtain rfl:vs = #[]:=Array.size_eq_zero_iff.1 h2.symm
 have hv0:=h3 0 (by simp)
 have hys:ys = #[ys.getD 0 undef]:=by
  apply Array.ext (by simpa using h1.symm)
  intro i g1 g2
  simp at g2; subst g2
  simp [Array.getD_eq_getD_getElem?,g1]
 simp only [Array.getD_eq_getD_getElem?] at hv0
 generalize hu:ys.getD 0 undef=u at hys
 simp only [Array.getD_eq_getD_getElem?] at hu
 rw [hu] at hv0
 have hv0:VRel h.length ρ tv u:=by simpa using hv0
 refine wpIn_n (n:=1) (wpIn_rangeFunc ?_)
 intro fn _
 obtain ⟨l,D,w1,hent,hrec,hl,hsz1,hold,ho1,ht1,hp1,hmk⟩:=enter_run sm r x.round fn a.tmps #[d] as b
 have tabl : ∀ p∈Tabs.tabs P,p.1<w.heap.size:=fun p hp=>(Array.getElem?_eq_some_iff.1 (sm.tab p hp).1).1
 obtain ⟨rec,hrdef⟩ : ∃ rec:LoopState→Option Code→Loop,rec=fun st pe=>{ state:=st,pending:=pe,fn:=fn,tmps:=a.tmps,params:=#[d],assign:=as,body:=b,defers:=D }:=⟨_,rfl⟩
 let Core:(LoopState→Option Code→Loop)→Option Code→Yc→(Nat→Loc)→World→Prop:=fun rec pe h1 ρ1 W =>
  Evo h ρ w h1 ρ1 W∧Sim P ρ1 h1 W∧W.heap[l]? = some (.loop (rec (if pe.isNone then .ready else .done) pe))∧∀ D'∈Xz r w,D'≠l∧W.heap[D']? = some (.deferred (some []))
 let J0:World→Prop:=fun W=>∃ ρ1,Core rec none h ρ1 W
 let J:Nat→List (Nat×Nat)→World→Prop:=fun B pre W=>∃ ρ1 h1,Inv pre h1∧Core rec none h1 ρ1 W∧¬ Live h1 ρ1 B∧B<W.heap.size∧B≠l
 let Jx:World→Prop:=fun W=>∃ ρ1 h1 c,(c = .ret∧Q .ret e h1∨∃ i,c = .exit i∧Q (.exit i) e h1)∧Core rec (some c) h1 ρ1 W
 have hs1:Sim P ρ h w1:=sm.onto (fun k ⟨i,x',hv',hb'⟩=>by
   have:=sm.lt hv'
   rw [← hb']; exact hold _ this) (fun p hp=>hold _ (tabl p hp))
 have hJ0:J0 w1:=⟨ρ,(Evo.refl h ρ w).onto hsz1 ho1 ht1 hp1 (fun k hk _=>hold k hk),hs1,by rw [hrec,hrdef]; rfl,hmk⟩
 have hcall:=hI.2 r l R C u J0 J Jx w1 hR hC
  (fun W ⟨ρ1,g1,g2,g4,g5⟩=>by
   refine (hW.2 0 ρ1 #[u] W g2 (LRel.cons (hv0.mono g1.len g1.agree) (LRel.nil _ _))).mono ?_
   rintro en W' ⟨v,v',ρ',h',rfl,⟨rfl,rfl⟩,q1,q2,q3⟩
   refine ⟨by rw [q1.rVm],ρ',g1.trans q2,q3,q2.other g2 g4 rfl,fun D' hD'=>⟨(g5 D' hD').1,q2.other g2 (g5 D' hD').2 rfl⟩⟩)
  (fun W W' ⟨ρ1,g1,g2,g4,g5⟩ k1 k2 k3 k4 k5=>by
   have hlt : ∀ {k:Nat} {o:Obj},W.heap[k]? = some o→k<W.heap.size:=fun hh=>(Array.getElem?_eq_some_iff.1 hh).1
   refine ⟨ρ1,h,h0,⟨g1.onto (by omega) k3 k4 k5 (fun k hk _=>k1 k (Nat.lt_of_lt_of_le hk g1.wsize)),g2.onto (fun k ⟨i,x',hv',hb'⟩=>k1 k (by rw [← hb']; exact g2.lt hv')) (fun p hp=>k1 _ (hlt (g2.tab p hp).1)),(k1 l (hlt g4)).trans g4,fun D' hD'=>⟨(g5 D' hD').1,(k1 D' (hlt (g5 D' hD').2)).trans (g5 D' hD').2⟩⟩,?_,k2,by have:=hlt g4; omega⟩
   rintro ⟨i,x',hv',hb'⟩
   have:=g2.lt hv'
   omega)
  (fun B pre y W ⟨ρ1,h1,g0,⟨g1,g2,g4,g5⟩,g6,g7,hBl⟩ hpre=>by
   simp only [Option.isNone_none,if_true] at g4
   have hy:=run_yield (P:=P) (args:=#[rVm y]) g4 (by rw [hrdef]; rfl)
   rw [hrdef] at hy
   refine ⟨fn,_,as,b,hy,roundIn_of_wpIn trivial ?_⟩
   have hll:l<W.heap.size:=(Array.getElem?_eq_some_iff.1 g4).1
   have hAr:ARel (some l) m sz ρ1 h1 (sput e d (rVm y)) { tmps:=((#[d]:Array Nat).zip #[rVm y]).foldl (fun t (p,v)=>t.setIfInBounds p v) a.tmps,defers:=[] } W:=by
    refine ⟨by simp [x.size],?_,⟨[],rfl,by simp,fun D hD=>by simp at hD⟩,fun l' hl'=>by cases hl'; exact ⟨_,g4⟩⟩
    have:=(x.env.mono g1.len g1.agree).put (d:=d) (rVm_low y h1.length ρ1)
    simpa using this
   have hmW:m≤W.heap.size:=Nat.le_trans hm g1.wsize
   have has:=round pre y h1 hpre g0 (some l) 0 m ρ1 _ W hmW g2 hAr
   refine wpIn_mono has ?_
   rintro ex a2 W2 ⟨ρ2,e2,h2,k1,k2,k3,k4⟩
   cases ex <;> simp only [Zv] at k1 <;> try exact k1.elim
   have hl2:W2.heap[l]? = some (.loop (rec .ready none)):=k2.other g2 g4 rfl
   have hlt2:l<W2.heap.size:=(Array.getElem?_eq_some_iff.1 hl2).1
   refine ⟨_,run_beginRound hl2 (by rw [hrdef]),?_⟩
   have k3' : Sim P ρ2 h2 (W2.putObj l (.loop { rec .ready none with state:=.busy })):=k3.turn hl2 rfl (fun p hp=>by have:=tabl p hp; omega)
   have hl3:(W2.putObj l (.loop { rec .ready none with state:=.busy })).heap[l]? = some (.loop { rec .ready none with state:=.busy }):=World.putObj_heap_same hlt2
   have k4' : ARel (some l) m sz ρ2 h2 e2 a2 (W2.putObj l (.loop { rec .ready none with state:=.busy })):=by
    obtain ⟨q1,q2,⟨Ds,q3,q4,q5⟩,q6⟩:=k4
    refine ⟨q1,q2,⟨Ds,q3,q4,fun D' hD'=>⟨(q5 D' hD').1,?_⟩⟩,fun l' hl'=>by cases hl'; exact ⟨_,hl3⟩⟩
    rw [World.putObj_heap_other (fun he=>by rw [← he,(q5 D' hD').2] at hl2; cases hl2)]
    exact (q5 D' hD').2
   have hbody:=k1 (some l) 0 m ρ2 a2 _ (by simp; exact Nat.le_trans hmW k2.wsize) k3' k4'
   refine wpIn_mono hbody ?_
   rintro ex a3 W3 ⟨ρ3,e3,h3,j1,j2,j3,j4⟩
   have hl4:W3.heap[l]? = some (.loop { rec .ready none with state:=.busy }):=j2.other k3' hl3 rfl
   have hlt4:l<W3.heap.size:=(Array.getElem?_eq_some_iff.1 hl4).1
   have evo2:Evo h ρ w h2 ρ2 (W2.putObj l (.loop { rec .ready none with state:=.busy })):=(g1.trans k2).turn hl
   have evo3:Evo h ρ w h3 ρ3 W3:=evo2.trans j2
   have hsz2:W.heap.size≤W2.heap.size:=k2.wsize
   have hsz3:W2.heap.size≤W3.heap.size:=by have:=j2.wsize; simpa using this
   have mk3 : ∀ {k:Nat} {o:Obj},W.heap[k]? = some o→ownObj o=false→k≠l→W3.heap[k]? = some o:=fun {k o} q2 q0 q1=>by
    have q3:=k2.other g2 q2 q0
    refine j2.other k3' (o:=o) ?_ q0
    rw [World.putObj_heap_other q1]; exact q3
   have hmk3 : ∀ D'∈Xz r w,D'≠l∧W3.heap[D']? = some (.deferred (some [])):=fun D' hD'=>⟨(g5 D' hD').1,mk3 (g5 D' hD').2 rfl (g5 D' hD').1⟩
   have core : ∀ pe,Core rec pe h3 ρ3 (W3.putObj l (.loop { ({ rec .ready none with state:=.busy }:Loop) with state:=if pe.isNone then .ready else .done,pending:=pe })):=fun pe=>by
    refine ⟨evo3.turn hl,j3.turn hl4 rfl (fun p hp=>by have:=tabl p hp; omega),?_,fun D' hD'=>⟨(hmk3 D' hD').1,?_⟩⟩
    · rw [World.putObj_heap_same hlt4,hrdef]
    · rw [World.putObj_heap_other (hmk3 D' hD').1]; exact (hmk3 D' hD').2
   cases ex <;> simp only [rangeQ] at j1 <;> try exact j1.elim
   · have nl2 : ¬ Live h2 ρ2 B:=fun hL=>(k2.live _ hL).elim (fun hh=>by omega) g6
     have nl3 : ¬ Live h3 ρ3 B:=fun hL=>(j2.live _ hL).elim (fun hh=>by simp at hh; omega) nl2
     have hB3:W3.heap[B]? = W.heap[B]?:=by
      rw [j2.keep _ (by simp; omega) (fun hM=>nl2 hM.live),World.putObj_heap_other hBl,k2.keep _ g7 (fun hM=>g6 hM.live)]
     exact ⟨_,_,run_endRound none hl4,.inl ⟨rfl,⟨ρ3,h3,j1,core none,nl3,by simp; omega,hBl⟩,by rw [World.putObj_heap_other hBl,hB3]⟩⟩
   · rename_i i
     exact ⟨_,_,run_endRound (some (.exit i)) hl4,.inr ⟨rfl,ρ3,h3,.exit i,.inr ⟨i,rfl,j1⟩,core (some (.exit i))⟩⟩
   · exact ⟨_,_,run_endRound (some .ret) hl4,.inr ⟨rfl,ρ3,h3,.ret,.inl ⟨rfl,j1⟩,core (some .ret)⟩⟩)
  hJ0
 refine ⟨l,_,w1,{ target:=.fn (.func gf) #[],args:=ys++#[.func (.yield l) #[] #[]] },w1,gf,ys++#[.func (.yield l) #[] #[]],w1,hent,?_,fun _ _=>trivial,?_,fun hd=>by simp [Vm,Fence.wide] at hd,?_⟩
 · simp only [resolve,hev]; simp [Deferred.ofValue]; rfl
 · simp [invoke,hI.1]
 · have e1:ys++#[Value.func (.yield l) #[] #[]] = #[u,.func (.yield l) #[] #[]]:=by rw [hys]; rfl
   rw [e1]
   have finish : ∀ (ρ1:Nat→Loc) (h1:Yc) (W:World) (pe:Option Code),Core rec pe h1 ρ1 W→∃ W',(Instr.endLoop l).run P W = .ok pe W'∧Evo h ρ w h1 ρ1 W'∧Sim P ρ1 h1 W' ∧
     ARel r m sz ρ1 h1 e { a with defers:=(Xz r w).map (fun D=>{ target:=.collected D,args:=#[] })++a.defers } W':=by
    rintro ρ1 h1 W pe ⟨g1,g2,g4,g5⟩
    have g4':=g4
    rw [hrdef] at g4'
    refine ⟨_,run_endLoop g4' (by cases pe <;> simp),g1.turn hl,g2.turn g4' rfl (fun p hp=>by have:=tabl p hp; omega),x.size,x.env.mono g1.len g1.agree,?_,?_⟩
    · obtain ⟨Ds,q1,q2,q3⟩:=x.marks
      refine ⟨Xz r w++Ds,by simp [q1],?_,fun D' hD'=>?_⟩
      · rw [List.nodup_append]
        refine ⟨by cases r <;> simp [Xz],q2,fun x1 hx1 y1 hy1 he=>?_⟩
        subst he
        have:=(Array.getElem?_eq_some_iff.1 (q3 x1 hy1).2).1
        cases r with
        | none=>simp only [Xz,List.mem_singleton] at hx1; omega
        | some _=>simp [Xz] at hx1
      · rcases List.mem_append.1 hD' with hD' | hD'
        · refine ⟨?_,by rw [World.putObj_heap_other (g5 D' hD').1]; exact (g5 D' hD').2⟩
          cases r with
          | none=>simp only [Xz,List.mem_singleton] at hD'; omega
          | some _=>simp [Xz] at hD'
        · have hlt:=(Array.getElem?_eq_some_iff.1 (q3 D' hD').2).1
          exact ⟨(q3 D' hD').1,by rw [World.putObj_heap_other (by omega)]; exact g1.other sm (q3 D' hD').2 rfl⟩
    · intro l' hl'
      obtain ⟨rc,hrc⟩:=x.round l' hl'
      have hlt:=(Array.getElem?_eq_some_iff.1 hrc).1
      exact ⟨rc,by rw [World.putObj_heap_other (by omega)]; exact g1.other sm hrc rfl⟩
   refine CallsIn.mono (R:=fun en W'=>(∃ v,en = .returned v)∧((∃ B,J B (Vg R C) W')∨Jx W')) (by
    obtain ⟨q1,q2⟩:=hcall
    exact ⟨q1,fun cs _=>q2 cs (fun d hd=>by simp [Vm,Fence.wide] at hd)⟩) ?_
   rintro en W' ⟨⟨v,rfl⟩,⟨B,hJ⟩ | hJx⟩
   · obtain ⟨ρ1,h1,g0,g,_⟩:=hJ
     obtain ⟨W2,q1,q2,q3,q4⟩:=finish ρ1 h1 W' none g
     exact ⟨none,W2,q1,ρ1,e,h1,done h1 g0,q2,q3,q4⟩
   · obtain ⟨ρ1,h1,c,hc,g⟩:=hJx
     obtain ⟨W2,q1,q2,q3,q4⟩:=finish ρ1 h1 W' (some c) g
     refine ⟨some c,W2,q1,?_⟩
     rcases hc with ⟨rfl,hq⟩ | ⟨i,rfl,hq⟩
     · exact wpIn_ret ⟨ρ1,e,h1,hq,q2,q3,q4⟩
     · exact wpIn_exit ⟨ρ1,e,h1,hq,q2,q3,q4⟩
theorem aws_range2 {P:Program} [Tabs P] {sz:Nat} {f:Operand} {d:Nat} {as b:SCode} {gf wf:FuncId} {Q:Exit→Env→Yc→Prop} {e:Env} {h:Yc} {tv:Value} {R C:Nat}
  (hI:RectIter P gf wf) (hR:R<4294967296) (hC:C<4294967296) (hf:ev e f = .func (.func gf) #[tv] #[]) (hW:APure P wf [tv] h (rVm (R,C)))
  (Inv:List (Nat×Nat)→Yc→Prop) (h0:Inv [] h)
  (round : ∀ pre (x:Nat×Nat) h1,pre++[x] <+: Vg R C→Inv pre h1→AWS P sz as (Zv (AWS P sz b (rangeQ e (Inv (pre++[x])) Q)) (fun _ _ _=>False)) (sput e d (rVm x)) h1)
  (done : ∀ h1,Inv (Vg R C) h1→Q .normal e h1):AWS P sz (.range f [d] as b) Q e h:=by
 intro c hc hok
 cases c with
 | region id ops dr=>cases dr <;> simp [Yi] at hc
 | rangeFunc f' ps' as' b' =>
   simp only [Yi,SCode.range.injEq] at hc
   obtain ⟨rfl,h2,rfl,rfl⟩:=hc
   simp only [Yu,Bool.and_eq_true] at hok
   obtain ⟨⟨⟨hv,_⟩,hok1⟩,hok2⟩:=hok
   have hps:ps' = #[d]:=by apply Array.ext'; simpa using h2
   subst hps
   refine awp_range2 hI hR hC hv hf hW Inv h0 (fun pre x h1 g1 g2=>(round pre x h1 g1 g2 as' rfl hok1).mono ?_) done
   intro ex e' h' hq
   cases ex <;> first | exact hq b' rfl hok2 | exact hq
 | _=>simp [Yi] at hc
end Go.Am
namespace Go.Am
theorem ACall.named {P:Program} [Tabs P] {f:FuncId} {args:List Value} {h:Yc} {e:TypeId} {ps:List (Int×Int)} (hne:ps≠[])
  (c:ACall P f args h fun v' h'=>OwnP e h' v' ps∧Ext (fun _=>False) h h'∧∀ b,Yk v' = some b→h.length≤b) :
  ADet P f args h (.slice (some ⟨h.length,0,some 0⟩) ps.length ps.length) (h++[.ints (Yn ps) e false]):=by
 refine ⟨c.1,fun n ρ args' w s hr=>(c.2 n ρ args' w s hr).mono ?_⟩
 rintro en w' ⟨v,v',ρ',h',he,⟨ho,hx,hb⟩,hvr,hE,hS⟩
 rcases ho with ⟨_,rfl⟩ | ⟨b,ys,rfl,hblk⟩
 · exact absurd rfl hne
 have hbl:=hb b rfl
 have hvb:view h' b=some ((Yn ps++Yn ys).map Zx,e,false):=by simp [view,hblk,Blk.view]
 have hsb:side h' b=false:=by unfold side; rw [hblk]; rfl
 have hag : ∀ i,i<h.length→Loc.upd ρ' h.length (ρ' b) i=ρ' i:=fun i hi=>Loc.upd_lt ρ' _ hi
 have hag2 : ∀ i,i<h.length→Loc.upd ρ' h.length (ρ' b) i=ρ i:=fun i hi=>by rw [hag i hi,hE.agree i hi]
 have hvn : ∀ i x,view (h++[Blk.ints (Yn ps) e false]) i=some x→(i<h.length∧view h i=some x)∨(i=h.length∧x=((Yn ps).map Zx,e,false)):=fun i x hv=>by
  rcases Wm hv with ⟨h1,h2⟩ | ⟨h1,h2⟩
  · exact .inl ⟨h1,h2⟩
  · simp only [Blk.view,Option.some.injEq] at h2
    exact .inr ⟨h1,h2.symm⟩
 -- a live one of the new heap is one of the old
 have up : ∀ i x,view (h++[Blk.ints (Yn ps) e false]) i=some x→∃ j y,view h' j=some y∧y.2=x.2∧Loc.upd ρ' h.length (ρ' b) i=ρ' j∧(i<h.length→j=i)∧(i=h.length→j=b):=by
  intro i x hv
  rcases hvn i x hv with ⟨h1,h2⟩ | ⟨rfl,rfl⟩
  · exact ⟨i,x,view_ext hx h2,rfl,hag i h1,fun _=>rfl,fun h=>by omega⟩
  · exact ⟨b,_,hvb,rfl,Loc.upd_same ..,fun h=>by omega,fun _=>rfl⟩
 refine ⟨_,v',Loc.upd ρ' h.length (ρ' b),_,he,⟨rfl,rfl⟩,?_,?_,?_⟩
 · cases hvr with
   | loose hlt hc hs =>
     have:=VRel.loose (n:=(h++[Blk.ints (Yn ps) e false]).length) (ρ:=Loc.upd ρ' h.length (ρ' b)) (b:=h.length) (o:=0) (len:=ps.length) (cap:=ps.length) (by simp) (Nat.le_trans (Nat.le_add_right _ _) hc) (by rw [Loc.upd_same]; exact hs)
     rw [Loc.upd_same] at this
     exact this
   | atom h=>simp [Am.atom] at h
 · refine ⟨by simp,hag2,hE.wsize,hE.os,hE.tape,hE.output,hE.keep,?_,?_⟩
   · rintro k ⟨i,c1,e1,hv,hk⟩
     obtain ⟨j,⟨c2,e2,r2⟩,hj,hy,hl,_⟩:=up i _ hv
     simp only [Prod.mk.injEq] at hy
     obtain ⟨rfl,rfl⟩:=hy
     exact hE.orig k ⟨j,c2,_,hj,by rw [← hk,hl]⟩
   · rintro k ⟨i,x,hv,hk⟩
     obtain ⟨j,y,hj,_,hl,_⟩:=up i _ hv
     exact hE.live k ⟨j,y,hj,by rw [← hk,hl]⟩
 · refine ⟨fun i c1 e1 ro hv hns=>?_,fun i b1 hi hb1=>?_,fun i j x y hi hj hij=>?_,fun p hp=>⟨(hS.tab p hp).1,?_⟩⟩
   · rcases hvn i _ hv with ⟨h1,h2⟩ | ⟨rfl,h2⟩
     · obtain ⟨c',fr,g1,g2,g3,g4,g5⟩:=hS.cells i c1 e1 ro (view_ext hx h2) (by rw [side_ext hx h1]; rw [side_append h1] at hns; exact hns)
       obtain ⟨c0,fr0,-,-,h30,h40,-⟩:=s.cells i c1 e1 ro h2 (by rw [side_append h1] at hns; exact hns)
       rw [hag i h1]
       exact ⟨c',fr,g1,g2,g3,fun k hk=>((h40 k hk).restrict (g4 k hk) hE.agree).mono (by simp) hag,g5⟩
     · simp only [Prod.mk.injEq] at h2
       obtain ⟨rfl,rfl,rfl⟩:=h2
       obtain ⟨c',fr,g1,g2,g3,g4,g5⟩:=hS.cells b _ _ _ hvb hsb
       rw [Loc.upd_same]
       simp only [List.length_map,List.length_append] at g3 g4
       refine ⟨c',fr,g1,g2,by rw [List.length_map]; omega,fun k hk=>?_,g5⟩
       rw [List.length_map] at hk
       have hk4:=g4 k (by omega)
       have e1:((Yn ps++Yn ys).map Zx).getD k undef=((Yn ps).map Zx).getD k undef:=by
        rw [List.map_append,List.getD,List.getD,List.getElem?_append_left (by rw [List.length_map]; exact hk)]
       rw [e1] at hk4
       refine hk4.of_atom ?_ _ _
       rw [List.getD,List.getElem?_map,List.getElem?_eq_getElem hk]; rfl
   · rcases List.getElem?_append_left_or hi with ⟨h1,h2⟩ | h2
     · obtain ⟨o',g1,g2⟩:=hS.sides i b1 ((hx.2 i h1 id).trans h2) hb1
       obtain ⟨o0,-,h3⟩:=s.sides i b1 h2 hb1
       rw [hag i h1]
       exact ⟨o',g1,(h3.restrict g2 hE.agree).mono (by simp) hag⟩
     · rw [h2] at hb1; cases hb1
   · obtain ⟨i',x',hi1,_,hl1,a1,a2⟩:=up i _ hi
     obtain ⟨j',y',hj1,_,hl2,c1,c2⟩:=up j _ hj
     rw [hl1,hl2] at hij
     have:=hS.inj i' j' _ _ hi1 hj1 hij
     have hi3:=Va hi
     have hj3:=Va hj
     rw [List.length_append,List.length_singleton] at hi3 hj3
     rcases Nat.lt_or_ge i h.length with q1 | q1 <;> rcases Nat.lt_or_ge j h.length with q2 | q2
     · have:=a1 q1; have:=c1 q2; omega
     · have:=a1 q1; have:=c2 (by omega); omega
     · have:=a2 (by omega); have:=c1 q2; omega
     · omega
   · rintro ⟨i,c1,e1,hv,hk⟩
     obtain ⟨j,⟨c2,e2,r2⟩,hj,hy,hl,_⟩:=up i _ hv
     simp only [Prod.mk.injEq] at hy
     obtain ⟨rfl,rfl⟩:=hy
     exact (hS.tab p hp).2 ⟨j,c2,_,hj,by rw [← hk,hl]⟩
end Go.Am
namespace Go.Am
theorem ACall.settled {P:Program} [Tabs P] {f:FuncId} {args:List Value} {h:Yc} {e:TypeId} {b:Nat} {ps:List (Int×Int)} (hbl:b<h.length)
  (c:ACall P f args h fun v' h'=>OwnP e h' v' ps∧Ext (fun i=>i=b) h h'∧Yk v' = some b) :
  ADet P f args h (.slice (some ⟨b,0,some 0⟩) ps.length ps.length) (h.set b (.ints (Yn ps) e false)):=by
 refine ⟨c.1,fun n ρ args' w s hr=>(c.2 n ρ args' w s hr).mono ?_⟩
 rintro en w' ⟨v,v',ρ',h',he,⟨ho,hx,hb⟩,hvr,hE,hS⟩
 rcases ho with ⟨rfl,rfl⟩ | ⟨b',ys,rfl,hblk⟩
 · cases hb
 obtain rfl:b' = b:=by simpa [Yk] using hb
 have hvb:view h' b' = some ((Yn ps++Yn ys).map Zx,e,false):=by simp [view,hblk,Blk.view]
 have hsb:side h' b' = false:=by unfold side; rw [hblk]; rfl
 have hlen:(h.set b' (Blk.ints (Yn ps) e false)).length=h.length:=List.length_set ..
 have hold : ∀ i,i<h.length→i≠b'→h'[i]? = h[i]?:=fun i hi hne=>hx.2 i hi hne
 have hvo : ∀ i,i<h.length→i≠b'→view h' i=view h i:=fun i hi hne=>by unfold view; rw [hold i hi hne]
 have hso : ∀ i,i<h.length→i≠b'→side h' i=side h i:=fun i hi hne=>by unfold side; rw [hold i hi hne]
 have hvn : ∀ i x,view (h.set b' (Blk.ints (Yn ps) e false)) i=some x→i<h.length∧((i≠b'∧view h i=some x)∨(i=b'∧x=((Yn ps).map Zx,e,false))):=fun i x hv=>by
  have hlt:=Va hv
  rw [hlen] at hlt
  rw [Vr hbl] at hv
  by_cases hib:b' = i
  · rw [if_pos hib] at hv
    simp only [Blk.view,Option.some.injEq] at hv
    exact ⟨hlt,.inr ⟨hib.symm,hv.symm⟩⟩
  · rw [if_neg hib] at hv
    exact ⟨hlt,.inl ⟨Ne.symm hib,hv⟩⟩
 have up : ∀ i x,view (h.set b' (Blk.ints (Yn ps) e false)) i=some x→∃ y,view h' i=some y∧y.2=x.2:=by
  intro i x hv
  obtain ⟨hlt,⟨h1,h2⟩ | ⟨rfl,rfl⟩⟩:=hvn i x hv
  · exact ⟨x,(hvo i hlt h1).trans h2,rfl⟩
  · exact ⟨_,hvb,rfl⟩
 have hsn : ∀ i,i≠b'→side (h.set b' (Blk.ints (Yn ps) e false)) i=side h i:=fun i hne=>by rw [side_set hbl,if_neg (Ne.symm hne)]
 refine ⟨_,v',ρ',_,he,⟨rfl,rfl⟩,?_,?_,?_⟩
 · cases hvr with
   | loose hlt hc hs =>
     exact VRel.loose (n:=(h.set b' (Blk.ints (Yn ps) e false)).length) (ρ:=ρ') (b:=b') (o:=0) (len:=ps.length) (cap:=ps.length) (by rw [hlen]; exact hbl) (Nat.le_trans (Nat.le_add_right _ _) hc) hs
   | atom h=>simp [Am.atom] at h
 · refine ⟨by rw [hlen]; exact Nat.le_refl _,hE.agree,hE.wsize,hE.os,hE.tape,hE.output,hE.keep,?_,?_⟩
   · rintro k ⟨i,c1,e1,hv,hk⟩
     obtain ⟨⟨c2,e2,r2⟩,hj,hy⟩:=up i _ hv
     simp only [Prod.mk.injEq] at hy
     obtain ⟨rfl,rfl⟩:=hy
     exact hE.orig k ⟨i,c2,_,hj,hk⟩
   · rintro k ⟨i,x,hv,hk⟩
     obtain ⟨y,hj,_⟩:=up i _ hv
     exact hE.live k ⟨i,y,hj,hk⟩
 · refine ⟨fun i c1 e1 ro hv hns=>?_,fun i b1 hi hb1=>?_,fun i j x y hi hj hij=>?_,fun p hp=>⟨(hS.tab p hp).1,?_⟩⟩
   · obtain ⟨hlt,⟨h1,h2⟩ | ⟨rfl,h2⟩⟩:=hvn i _ hv
     · rw [hsn i h1] at hns
       obtain ⟨c',fr,g1,g2,g3,g4,g5⟩:=hS.cells i c1 e1 ro ((hvo i hlt h1).trans h2) (by rw [hso i hlt h1]; exact hns)
       obtain ⟨c0,fr0,-,-,h30,h40,-⟩:=s.cells i c1 e1 ro h2 hns
       refine ⟨c',fr,g1,g2,g3,fun k hk=>?_,g5⟩
       rw [hlen]
       exact (h40 k hk).restrict (g4 k hk) hE.agree
     · simp only [Prod.mk.injEq] at h2
       obtain ⟨rfl,rfl,rfl⟩:=h2
       obtain ⟨c',fr,g1,g2,g3,g4,g5⟩:=hS.cells i _ _ _ hvb hsb
       simp only [List.length_map,List.length_append] at g3 g4
       refine ⟨c',fr,g1,g2,by rw [List.length_map]; omega,fun k hk=>?_,g5⟩
       rw [List.length_map] at hk
       have hk4:=g4 k (by omega)
       have e1:((Yn ps++Yn ys).map Zx).getD k undef=((Yn ps).map Zx).getD k undef:=by
        rw [List.map_append,List.getD,List.getD,List.getElem?_append_left (by rw [List.length_map]; exact hk)]
       rw [e1] at hk4
       refine hk4.of_atom ?_ _ _
       rw [List.getD,List.getElem?_map,List.getElem?_eq_getElem hk]; rfl
   · have hlt:=(List.getElem?_eq_some_iff.1 hi).1
     rw [hlen] at hlt
     by_cases hib:i=b'
     · subst hib
       rw [List.getElem?_set_self hbl] at hi
       cases hi; cases hb1
     · rw [List.getElem?_set_ne (Ne.symm hib)] at hi
       obtain ⟨o',g1,g2⟩:=hS.sides i b1 ((hold i hlt hib).trans hi) hb1
       obtain ⟨o0,-,h3⟩:=s.sides i b1 hi hb1
       rw [hlen]
       exact ⟨o',g1,h3.restrict g2 hE.agree⟩
   · obtain ⟨x',hi1,_⟩:=up i _ hi
     obtain ⟨y',hj1,_⟩:=up j _ hj
     exact hS.inj i j _ _ hi1 hj1 hij
   · rintro ⟨i,c1,e1,hv,hk⟩
     obtain ⟨⟨c2,e2,r2⟩,hj,hy⟩:=up i _ hv
     simp only [Prod.mk.injEq] at hy
     obtain ⟨rfl,rfl⟩:=hy
     exact (hS.tab p hp).2 ⟨i,c2,_,hj,hk⟩
end Go.Am
