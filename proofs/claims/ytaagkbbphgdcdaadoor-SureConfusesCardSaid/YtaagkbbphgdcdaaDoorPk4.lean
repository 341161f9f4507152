/-
  The abstract machine, part R: a region whose order Go leaves open, with operations that stand behind all ahead of them in the text and ahead of all behind them: what they come to is left open too.
  The abstract machine, part S: what a call has laid beside may be forgotten; made slices of ints; cells of a block.
  The abstract machine, part T: what stands in slots that nobody reads any more may be dropped where two parts meet.
  The abstract machine, part U: what '==' says of arrays and structs of ints; a copy that the run owns.
  The abstract machine, part V: slices of pairs of ints.
  The abstract machine, part W: slices of pairs of ints that a run owns.
  The abstract machine, part X: slices of values of one cell each (slices of slices), read and owned.
-/
import Derived.Test.YtaagkbbphgdcdaaDoorPk3
import Derived.Laws.StructEq
set_option linter.all false
namespace Go.Am
def piv:List (Nat×Nat)→Nat→Bool
 | [],_=>false
 | (a,b)::l,i=>bif a==i then b==4 else piv l i
def Yr (P:Program) [Tabs P] (R:Zh→Prop) (qs:List (Nat×Nat)) (N:Env→Zh→Prop):Nat→List SOp→Env→Zh→Prop
 | _,[],e,h=>N e h
 | i,⟨dst,op,g⟩::l,e,h =>
   let go:Prop:=bif piv qs i then aop P false op (ev e) h (fun v h'=>(bif Vi qs (i+1) then True else R h')∧Yr P R qs N (i+1) l (Zf e dst v) h') else
    (match cls qs i op with
     | 0=>aop P true op (ev e) h (fun v h'=>Yr P R qs N (i+1) l (Zf e dst v) h')
     | 1=>aop P true op (ev e) h (fun v h'=>h' = h∧Yr P R qs N (i+1) l (Zf e dst v) h)
     | 2=>∃ v,(∀ h0,R h0→aop P true op (ev e) h0 (fun v' h'=>v' = v∧h' = h0))∧(bif Vi qs i then R h else True)∧Yr P R qs N (i+1) l (Zf e dst v) h
     | _=>aop P true op (ev e) h (fun v h'=>(bif Vi qs (i+1) then True else R h')∧Yr P R qs N (i+1) l (Zf e dst v) h'))
   match g with
   | none=>go
   | some (d,want)=>∃ g:Option Bool,sget e d=gv g∧(g=some want→go)∧(g≠some want→Yr P R qs N (i+1) l (Zf e dst skp) h)
theorem step_go {P:Program} [Tabs P] {R:Zh→Prop} {qs:List (Nat×Nat)} {i:Nat} {o:SOp} {e:Env} {h:Zh} {T:Value→Zh→Prop} (hR:Vi qs i=false→R h)
  (hgo:(match cls qs i o.op with
    | 0=>aop P true o.op (ev e) h T
    | 1=>aop P true o.op (ev e) h (fun v h'=>h' = h∧T v h)
    | 2=>∃ v,(∀ h0,R h0→aop P true o.op (ev e) h0 (fun v' h'=>v' = v∧h' = h0))∧(bif Vi qs i then R h else True)∧T v h
    | _=>aop P true o.op (ev e) h (fun v h'=>(bif Vi qs (i+1) then True else R h')∧T v h'):Prop)) :
  ∃ v h1,T v h1∧(Vi qs (i+1)=false→R h1)∧(∀ K:Value→Zh→Prop,K v h1→aop P true o.op (ev e) h K)∧(cls qs i o.op≠3→h1=h) ∧
    (cls qs i o.op=0→∀ (h0:Zh) (K:Value→Zh→Prop),K v h0→aop P true o.op (ev e) h0 K)∧(cls qs i o.op=2→∀ (h0:Zh) (K:Value→Zh→Prop),R h0→K v h0→aop P true o.op (ev e) h0 K):=by
 have hR1:Vi qs (i+1)=false→R h:=fun hp=>hR (past_mono (by omega) hp)
 split at hgo
 · rename_i hc
   have hw:Ym o.op=true:=by
    rcases cls_cases qs i o.op with ⟨_,h⟩ | h | h | h
    · exact h
    all_goals (rw [hc] at h; cases h)
   obtain ⟨v,h',g1,g2,g3,_⟩:=aop_lin hgo
   obtain ⟨rfl,g4⟩:=g3 hw
   exact ⟨v,_,g1,hR1,g2,fun _=>rfl,fun _ h0 K=>g4 h0 K,fun _ h0 K _=>g4 h0 K⟩
 · rename_i hc
   obtain ⟨v,h',⟨rfl,g1⟩,g2,_⟩:=aop_lin hgo
   exact ⟨v,_,g1,hR1,g2,fun _=>rfl,fun h=>by rw [hc] at h; simp at h,fun h=>by rw [hc] at h; simp at h⟩
 · rename_i hc
   obtain ⟨v,g1,g0,g2⟩:=hgo
   have hRh:R h:=by
    cases hp:Vi qs i with
    | false=>exact hR hp
    | true=>rw [hp] at g0; exact g0
   exact ⟨v,h,g2,hR1,fun K hK=>Vh (g1 h hRh) (fun v' h' ⟨a,b⟩=>by rw [a,b]; exact hK),fun _=>rfl,fun h=>by rw [hc] at h; simp at h,fun _ h0 K hr hK=>Vh (g1 h0 hr) (fun v' h' ⟨a,b⟩=>by rw [a,b]; exact hK)⟩
 · rename_i h0 h1 h2
   obtain ⟨v,h',⟨hr,g1⟩,g2,_⟩:=aop_lin hgo
   have hc:cls qs i o.op=3:=by
    rcases cls_cases qs i o.op with ⟨h,_⟩ | h | h | h
    · exact (h0 h).elim
    · exact (h1 h).elim
    · exact (h2 h).elim
    · exact h
   exact ⟨v,h',g1,fun hp=>by rw [hp] at hr; exact hr,g2,fun h=>absurd hc h,fun h=>by rw [hc] at h; simp at h,fun h=>by rw [hc] at h; simp at h⟩
theorem dopsR_trace {P:Program} [Tabs P] {R:Zh→Prop} {qs:List (Nat×Nat)} {N:Env→Zh→Prop} : ∀ (l:List SOp) (i:Nat) (e:Env) (h:Zh),(Vi qs i=false→R h)→Yr P R qs N i l e h →
  ∃ l1 l2 tr e' h',l=l1++l2∧Trace P R qs i l1 e h tr e' h'∧((l2=[]∧N e' h')∨(l2≠[]∧piv qs (i+l1.length)=true∧Yr P R qs N (i+l1.length) l2 e' h'))
 | [],i,e,h,_,hk=>⟨[],[],[],e,h,rfl,.nil i e h,.inl ⟨rfl,hk⟩⟩
 | ⟨dst,op,g⟩::l,i,e,h,hR,hk=>by
   by_cases hp:piv qs i=true
   · exact ⟨[],_,[],e,h,rfl,.nil i e h,.inr ⟨by simp,hp,hk⟩⟩
   simp only [Bool.not_eq_true] at hp
   have more : ∀ (v:Value) (h1:Zh),StepD P R (cls qs i op) ⟨dst,op,g⟩ e h v h1→(Vi qs (i+1)=false→R h1)→Yr P R qs N (i+1) l (Zf e dst v) h1 →
     ∃ l1 l2 tr e' h',(⟨dst,op,g⟩::l:List SOp)=l1++l2∧Trace P R qs i l1 e h tr e' h'∧((l2=[]∧N e' h')∨(l2≠[]∧piv qs (i+l1.length)=true∧Yr P R qs N (i+l1.length) l2 e' h')):=by
    intro v h1 hs hR1 hd
    obtain ⟨l1,l2,tr,e',h',rfl,t,hr⟩:=dopsR_trace l (i+1) _ _ hR1 hd
    refine ⟨⟨dst,op,g⟩::l1,l2,(v,h1)::tr,e',h',rfl,.cons hs hR1 t,?_⟩
    rw [List.length_cons,show i+(l1.length+1)=i+1+l1.length by omega]
    exact hr
   cases g with
   | none =>
     simp only [Yr,hp,cond_false] at hk
     obtain ⟨v,h1,k1,kr,k2⟩:=step_go (o:=⟨dst,op,none⟩) hR hk
     exact more v h1 (by simpa [StepD] using k2) kr k1
   | some p =>
     obtain ⟨d,want⟩:=p
     simp only [Yr,hp,cond_false] at hk
     obtain ⟨b,hb,k1,k2⟩:=hk
     by_cases hbw:b=some want
     · obtain ⟨v,h1,j1,jr,j2⟩:=step_go (o:=⟨dst,op,some (d,want)⟩) hR (k1 hbw)
       exact more v h1 ⟨b,hb,fun _=>j2,fun h=>absurd hbw h⟩ jr j1
     · exact more skp h ⟨b,hb,fun h=>absurd h hbw,fun _=>⟨rfl,rfl⟩⟩ (fun hp=>hR (past_mono (by omega) hp)) (k2 hbw)
def barOK (l:List SOp) (af:List (List Nat)) (qs:List (Nat×Nat)):Bool :=
 let bs:=Wt [] af
 (l.zipIdx.all fun p=>!piv qs p.2 || (cls qs p.2 p.1.op==3&&l.zipIdx.all fun k=>(!decide (k.2<p.2) || ((bs.getD p.2 0).testBit k.2 || (cls qs k.2 k.1.op==0 || cls qs k.2 k.1.op==2)))&&(!decide (p.2<k.2) || (bs.getD k.2 0).testBit p.2))) &&
 (qs.all fun q=>!(q.2==6) || (decide (q.1<l.length)&&l.zipIdx.all fun k=>(!(k.2==q.1) || cls qs k.2 k.1.op==3)&&(!(cls qs k.2 k.1.op==2) || (bs.getD q.1 0).testBit k.2)))
theorem endOK_spec {l:List SOp} {af:List (List Nat)} {qs:List (Nat×Nat)} (h:barOK l af qs=true) {z:Nat} (hz:(z,6)∈qs) :
  (∃ o,l[z]? = some o∧cls qs z o.op=3)∧∀ i o,l[i]? = some o→cls qs i o.op=2→((Wt [] af).getD z 0).testBit i=true:=by
 simp only [barOK,Bool.and_eq_true] at h
 have h1:=List.all_eq_true.1 h.2 (z,6) hz
 simp only [beq_self_eq_true,Bool.not_true,Bool.false_or,Bool.and_eq_true,decide_eq_true_eq] at h1
 refine ⟨⟨l[z]'h1.1,List.getElem?_eq_getElem h1.1,?_⟩,fun i o hi hc=>?_⟩
 · have h2:=List.all_eq_true.1 h1.2 (l[z]'h1.1,z) (by rw [List.mem_zipIdx_iff_getElem?]; exact List.getElem?_eq_getElem h1.1)
   have h3:=(Bool.and_eq_true _ _▸h2).1
   simp only [beq_self_eq_true,Bool.not_true,Bool.false_or,beq_iff_eq] at h3
   exact h3
 · have h2:=List.all_eq_true.1 h1.2 (o,i) (by rw [List.mem_zipIdx_iff_getElem?]; exact hi)
   have h3:=(Bool.and_eq_true _ _▸h2).2
   simpa [hc] using h3
theorem barOK_spec {l:List SOp} {af:List (List Nat)} {qs:List (Nat×Nat)} (h:barOK l af qs=true) {q:Nat} {o:SOp} (hq:l[q]? = some o) (hp:piv qs q=true) :
  cls qs q o.op=3∧(∀ k ok,k<q→l[k]? = some ok→((Wt [] af).getD q 0).testBit k=true∨cls qs k ok.op=0∨cls qs k ok.op=2)∧(∀ k,q<k→k<l.length→((Wt [] af).getD k 0).testBit q=true):=by
 simp only [barOK] at h
 replace h:=(Bool.and_eq_true _ _▸h).1
 have h1:=List.all_eq_true.1 h (o,q) (by rw [List.mem_zipIdx_iff_getElem?]; exact hq)
 simp only [hp,Bool.not_true,Bool.false_or,Bool.and_eq_true,beq_iff_eq] at h1
 refine ⟨h1.1,fun k ok hk hko=>?_,fun k hk hkl=>?_⟩
 · have:=List.all_eq_true.1 h1.2 (ok,k) (by rw [List.mem_zipIdx_iff_getElem?]; exact hko)
   have:=(Bool.and_eq_true _ _▸this).1
   simpa only [hk,decide_true,Bool.not_true,Bool.false_or,Bool.or_eq_true,beq_iff_eq] using this
 · have:=List.all_eq_true.1 h1.2 (l[k],k) (by rw [List.mem_zipIdx_iff_getElem?]; exact List.getElem?_eq_getElem hkl)
   have:=(Bool.and_eq_true _ _▸this).2
   simpa only [hk,decide_true,Bool.not_true,Bool.false_or] using this
theorem envAt_shift {L:List SOp} {tr:List (Value×Zh)} {e:Env} (q:Nat) : ∀ j,Yu L tr e (q+j)=Yu (L.drop q) (tr.drop q) (Yu L tr e q) j
 | 0=>rfl
 | j+1=>by
   rw [← Nat.add_assoc]
   simp only [Yu,List.getElem?_drop,envAt_shift q j]
theorem heapAt_shift {tr:List (Value×Zh)} {h:Zh} (q:Nat) : ∀ j,Zr tr h (q+j)=Zr (tr.drop q) (Zr tr h q) j
 | 0=>rfl
 | j+1=>by
   rw [← Nat.add_assoc]
   simp only [Zr,List.getElem?_drop,heapAt_shift q j]
theorem envAt_pre {L L' : List SOp} {tr tr' : List (Value×Zh)} {e:Env} : ∀ j,(∀ k,k<j→L[k]? = L'[k]?∧tr[k]? = tr'[k]?)→Yu L tr e j=Yu L' tr' e j
 | 0,_=>rfl
 | j+1,hj=>by simp only [Yu,(hj j (by omega)).1,(hj j (by omega)).2,envAt_pre j (fun k hk=>hj k (by omega))]
theorem heapAt_pre {tr tr' : List (Value×Zh)} {h:Zh} : ∀ j,(∀ k,k<j→tr[k]? = tr'[k]?)→Zr tr h j=Zr tr' h j
 | 0,_=>rfl
 | j+1,hj=>by simp only [Zr,hj j (by omega),heapAt_pre j (fun k hk=>hj k (by omega))]
theorem ready_nil_all {ops:Array Oper} {listed:Array Bool} (hf:fwd (Yd ops)=true) (hs:listed.size=ops.size) (hr:Region.ready .any ops listed=[]) : ∀ j,j<ops.size→listed.getD j false=true:=by
 intro j hj
 induction j using Nat.strongRecOn with
 | _ j ih =>
   by_cases hjS:listed.getD j false=true
   · exact hjS
   · have hjl:j<listed.size:=by rw [hs]; exact hj
     have:j∈Region.ready .any ops listed:=mem_ready.2 ⟨by simpa [Array.getD_eq_getD_getElem?,hjl] using hjS,ops[j],by simp [hj],fun x hx hb=>by
      have he:x.on∈(Yd ops).getD j []:=(edges_get (by simp [hj])).2 ⟨x,hx,hb,rfl⟩
      have hlt:x.on<j:=by
       have hjl2:j<(Yd ops).length:=by simp [Yd]; exact hj
       have h1:=List.all_eq_true.1 hf ((Yd ops)[j],j) (by rw [List.mem_zipIdx_iff_getElem?]; simp [List.getElem?_eq_getElem hjl2])
       have he' : x.on∈(Yd ops)[j]:=by simpa [List.getD,List.getElem?_eq_getElem hjl2] using he
       simpa using List.all_eq_true.1 h1 x.on he'
      exact ih x.on hlt (by omega)⟩
     rw [hr] at this; cases this
section
variable {P:Program} [Tabs P] {R:Zh→Prop} {qs:List (Nat×Nat)} {ops:Array Oper} {e0:Env} {h0:Zh} {ρ0:Nat→Loc} {w0:World} {r:Option Nat} {m sz:Nat} {N:Env→Zh→Prop}
theorem aop_same {P:Program} [Tabs P] {h:Zh} {op:Op} (hc:isCall op=false) (hn:isNext op=false) (d:Bool) {E:Operand→Value} {K:Value→Zh→Prop}:aop P d op E h K=aop P true op E h K:=by
 cases d
 · cases op <;> first | rfl | (cases hn; done) | skip
   · rename_i fn _ _; cases fn <;> rfl
   · rename_i r; cases r <;> rfl
   · rename_i c
     obtain ⟨callee,args,ats⟩:=c
     cases callee <;> first | rfl | (simp [isCall] at hc)
 · rfl
theorem aopF_mono {P:Program} [Tabs P] {op:Op} {E:Operand→Value} {h:Zh} {K K' : Value→Zh→Prop} (hk:aop P false op E h K) (hq : ∀ v h',K v h'→K' v h'):aop P false op E h K':=by
 by_cases hc:isCall op=false
 · by_cases hn:isNext op=false
   · rw [aop_same hc hn false] at hk ⊢
     exact Vh hk hq
   · cases op <;> first | exact absurd rfl hn | skip
     rename_i x isS
     cases isS with
     | true=>exact hk.elim
     | false =>
       simp only [aop,cond_false] at hk ⊢
       unfold nextK at hk ⊢
       split at hk
       · split at hk
         · rename_i hit
           split at hk
           · rename_i hes
             exact ⟨hk.1,hk.2.1,fun j p h1 h2=>hq _ _ (hk.2.2.1 j p h1 h2),fun h1=>hq _ _ (hk.2.2.2 h1)⟩
           · exact hk.elim
         · exact hk.elim
       · exact hk.elim
 obtain ⟨f,args,ats,rfl⟩:=isCall_eq (by simpa using hc)
 simp only [aop,Yz] at hk ⊢
 split at hk
 · exact hk.mono hq
 · exact hk
structure Known (P:Program) [Tabs P] (R:Zh→Prop) (qs:List (Nat×Nat)) (ops:Array Oper) (N:Env→Zh→Prop) (e0:Env) (h0:Zh) (listed:Array Bool) (tr:List (Value×Zh)):Prop where
 un : ∀ k,tr.length≤k→listed.getD k false=false
 sp : ∀ k o,k<tr.length→listed.getD k false=false→(Zs ops)[k]? = some o→∃ v,tr[k]? = some (v,Zr tr h0 (k+1))∧StepD P R (cls qs k o.op) o (Yu (Zs ops) tr e0 k) (Zr tr h0 k) v (Zr tr h0 (k+1))
 rr : ∀ k,Vi qs k=false→R (Zr tr h0 k)
 same : ∀ k,k<tr.length→¬ (∃ o,(Zs ops)[k]? = some o∧cls qs k o.op=3)→Zr tr h0 (k+1)=Zr tr h0 k
 fin:(tr.length=ops.size∧N (Yu (Zs ops) tr e0 tr.length) (Zr tr h0 tr.length)) ∨
  (tr.length<ops.size∧piv qs tr.length=true∧Yr P R qs N tr.length ((Zs ops).drop tr.length) (Yu (Zs ops) tr e0 tr.length) (Zr tr h0 tr.length))
theorem known_more {listed:Array Bool} {tr:List (Value×Zh)} {q:Nat} {v:Value} {h1:Zh} {o:SOp} (hq:tr.length=q) (ho:(Zs ops)[q]? = some o) (hc:cls qs q o.op=3) (hl : ∀ k,q<k→listed.getD k false=false) (hl2:listed.getD q false=true)
  (sp : ∀ k o,k<tr.length→listed.getD k false=false→(Zs ops)[k]? = some o→∃ v,tr[k]? = some (v,Zr tr h0 (k+1))∧StepD P R (cls qs k o.op) o (Yu (Zs ops) tr e0 k) (Zr tr h0 k) v (Zr tr h0 (k+1)))
  (same : ∀ k,k<tr.length→¬ (∃ o,(Zs ops)[k]? = some o∧cls qs k o.op=3)→Zr tr h0 (k+1)=Zr tr h0 k)
  (rr : ∀ k,Vi qs k=false→R (Zr tr h0 k)) (hR1:Vi qs (q+1)=false→R h1) (hd:Yr P R qs N (q+1) ((Zs ops).drop (q+1)) (Zf (Yu (Zs ops) tr e0 q) o.dst v) h1) :
  ∃ tr2,Known P R qs ops N e0 h0 listed (tr++(v,h1)::tr2):=by
 obtain ⟨l1,l2,tr2,e',h',hsplit,t,hr⟩:=dopsR_trace _ _ _ _ hR1 hd
 obtain ⟨t1,t2,t3,t4⟩:=t.spec
 refine ⟨tr2,?_⟩
 have hlen:(Zs ops).length=ops.size:=by simp [Zs]
 have hql:q<(Zs ops).length:=(List.getElem?_eq_some_iff.1 ho).1
 have hl12:l1.length+l2.length+(q+1)=(Zs ops).length:=by
  have:=congrArg List.length hsplit
  simp at this; omega
 have hat:(tr++(v,h1)::tr2)[q]? = some (v,h1):=by rw [← hq,List.getElem?_append_right (Nat.le_refl _)]; simp
 have hdrop:(tr++(v,h1)::tr2).drop (q+1)=tr2:=by
  rw [← hq,List.drop_append,List.drop_eq_nil_of_le (by omega)]; simp
 have hpre : ∀ k,k<q→(tr++(v,h1)::tr2)[k]? = tr[k]?:=fun k hk=>List.getElem?_append_left (by omega)
 have eq0:Yu (Zs ops) (tr++(v,h1)::tr2) e0 q=Yu (Zs ops) tr e0 q:=envAt_pre q fun k hk=>⟨rfl,hpre k hk⟩
 have hq0 : ∀ k,k≤q→Zr (tr++(v,h1)::tr2) h0 k=Zr tr h0 k:=fun k hk=>heapAt_pre k fun j hj=>hpre j (by omega)
 have eq1:Yu (Zs ops) (tr++(v,h1)::tr2) e0 (q+1)=Zf (Yu (Zs ops) tr e0 q) o.dst v:=by simp only [Yu,ho,hat,eq0]
 have hq1:Zr (tr++(v,h1)::tr2) h0 (q+1)=h1:=by simp only [Zr,hat]
 have eqj : ∀ j,j≤l1.length→Yu (Zs ops) (tr++(v,h1)::tr2) e0 (q+1+j)=Yu l1 tr2 (Zf (Yu (Zs ops) tr e0 q) o.dst v) j:=by
  intro j hj
  rw [envAt_shift,eq1,hdrop,hsplit]
  exact envAt_pre j fun k hk=>⟨List.getElem?_append_left (by omega),rfl⟩
 have hqj : ∀ j,Zr (tr++(v,h1)::tr2) h0 (q+1+j)=Zr tr2 h1 j:=by
  intro j; rw [heapAt_shift,hq1,hdrop]
 have htl:(tr++(v,h1)::tr2).length=q+1+l1.length:=by simp [t1]; omega
 have hget : ∀ j,j<l1.length→(Zs ops)[q+1+j]? = l1[j]?:=by
  intro j hj
  rw [← List.getElem?_drop,hsplit,List.getElem?_append_left hj]
 have step : ∀ j o',j<l1.length→(Zs ops)[q+1+j]? = some o'→∃ v',(tr++(v,h1)::tr2)[q+1+j]? = some (v',Zr (tr++(v,h1)::tr2) h0 (q+1+j+1)) ∧
   StepD P R (cls qs (q+1+j) o'.op) o' (Yu (Zs ops) (tr++(v,h1)::tr2) e0 (q+1+j)) (Zr (tr++(v,h1)::tr2) h0 (q+1+j)) v' (Zr (tr++(v,h1)::tr2) h0 (q+1+j+1)):=by
  intro j o' hj ho'
  obtain ⟨v',g1,g2⟩:=t4 j o' (by rw [← hget j hj]; exact ho')
  refine ⟨v',?_,?_⟩
  · rw [← List.getElem?_drop,hdrop,g1,Nat.add_assoc (q+1),hqj]
  · rw [eqj j (by omega),hqj,Nat.add_assoc (q+1),hqj]; exact g2
 refine ⟨fun k hk=>hl k (by omega),fun k o' hk hu ho'=>?_,fun k hpk=>?_,fun k hk hX=>?_,?_⟩
 · rcases Nat.lt_trichotomy k q with hkq | rfl | hkq
   · obtain ⟨v',g1,g2⟩:=sp k o' (by omega) hu ho'
     refine ⟨v',?_,?_⟩
     · rw [hpre k hkq,hq0 _ (by omega)]; exact g1
     · rw [envAt_pre (tr':=tr) (L':=Zs ops) k fun j hj=>⟨rfl,hpre j (by omega)⟩,hq0 _ (by omega),hq0 _ (by omega)]; exact g2
   · rw [hl2] at hu; cases hu
   obtain ⟨j,rfl⟩ : ∃ j,k=q+1+j:=⟨k-(q+1),by omega⟩
   exact step j o' (by omega) ho'
 · rcases Nat.lt_or_ge q k with hkq | hkq
   · obtain ⟨j,rfl⟩ : ∃ j,k=q+1+j:=⟨k-(q+1),by omega⟩
     rw [hqj]; exact t.rr hR1 j hpk
   · rw [hq0 k hkq]; exact rr k hpk
 · rcases Nat.lt_trichotomy k q with hkq | rfl | hkq
   · rw [hq0 _ (by omega),hq0 _ (by omega)]; exact same k (by omega) hX
   · exact absurd ⟨o,ho,hc⟩ hX
   · obtain ⟨j,rfl⟩ : ∃ j,k=q+1+j:=⟨k-(q+1),by omega⟩
     have hjl:q+1+j<(Zs ops).length:=by omega
     obtain ⟨v',g1,g2⟩:=step j _ (by omega) (List.getElem?_eq_getElem hjl)
     exact step_same g2 fun hc=>hX ⟨_,List.getElem?_eq_getElem hjl,hc⟩
 · rw [htl,eqj _ (Nat.le_refl _),hqj,t2,t3]
   rcases hr with ⟨rfl,hN⟩ | ⟨hne,hp,hd2⟩
   · exact .inl ⟨by simp at hl12; omega,hN⟩
   · refine .inr ⟨?_,hp,?_⟩
     · have:=List.length_pos_iff.2 hne; omega
     · have:(Zs ops).drop (q+1+l1.length)=l2:=by rw [← List.drop_drop,hsplit]; simp
       rw [this]; exact hd2
theorem mid_runX {n:Nat} {Qx:Exit→Act→World→Prop} (hok : ∀ o∈ops.toList,opsOK sz ops o=true) (hd:Vm (Zs ops) (Yd ops) qs=true) (hb:barOK (Zs ops) (Yd ops) qs=true) (hf:fwd (Yd ops)=true) (hm:m≤w0.heap.size)
  (hQ : ∀ ρ e e' h a w,Evo h0 ρ0 w0 h ρ w→Sim P ρ h w→ARel r m sz ρ h e a w→N e' h→(∀ t,sget e t=sget e' t)→Qx .normal a w) :
  ∀ (fuel:Nat) (listed:Array Bool) (a:Act) (w:World) (tr:List (Value×Zh)),(listed.toList.filter (!·)).length≤fuel→Mid P qs ops tr e0 h0 ρ0 w0 r m sz listed a w→Known P R qs ops N e0 h0 listed tr→wpAnyIn (fence r) n P .any ops Qx fuel listed a w:=by
 have hlen:(Zs ops).length=ops.size:=by simp [Zs]
 have allOf : ∀ (listed:Array Bool) (a:Act) (w:World) (tr:List (Value×Zh)),Mid P qs ops tr e0 h0 ρ0 w0 r m sz listed a w→Known P R qs ops N e0 h0 listed tr→Region.ready .any ops listed=[]→Qx .normal a w:=by
  intro listed a w tr M Kn hr
  have hall:=ready_nil_all hf M.size hr
  rcases Kn.fin with ⟨hl,hN⟩ | ⟨hl,_⟩
  · obtain ⟨ρ,e,h,hE,hS,hA,hslot,kh,hheap,hheapS⟩:=M.st
    have hSall : ∀ j o,(Zs ops)[j]? = some o→j<ops.size:=fun j o hj=>by rw [← hlen]; exact (List.getElem?_eq_some_iff.1 hj).1
    have hh:h=Zr tr h0 tr.length:=by
     rw [hheap]
     refine heapAt_eq (X:=fun k=>∃ o,(Zs ops)[k]? = some o∧cls qs k o.op=3) Kn.same fun j ⟨oj,hj,hx⟩=>?_
     have:=(hheapS j oj hj hx).1 (hall j (hSall j oj hj))
     have:=hSall j oj hj
     constructor <;> intro <;> omega
    refine hQ ρ e _ h a w hE hS hA (hh▸hN) fun t=>?_
    obtain ⟨k2,q1,q2⟩:=hslot t
    rw [q1]
    exact Vn fun j oj hj hdt=>by
     have:=(q2 j oj hj hdt).1 (hall j (hSall j oj hj))
     have:=hSall j oj hj
     constructor <;> intro <;> omega
  · have:=hall _ hl
    rw [Kn.un _ (Nat.le_refl _)] at this; cases this
 intro fuel
 induction fuel with
 | zero =>
   intro listed a w tr hl M Kn
   have hall : ∀ j,listed.getD j true=true:=by
    intro j
    have he:listed.toList.filter (!·)=[]:=List.length_eq_zero_iff.1 (Nat.le_zero.1 hl)
    rcases Nat.lt_or_ge j listed.size with h | h
    · have:=List.filter_eq_nil_iff.1 he listed[j] (by simp)
      simpa [Array.getD_eq_getD_getElem?,h] using this
    · simp [Array.getD_eq_getD_getElem?,Array.getElem?_eq_none h]
   have hr:Region.ready .any ops listed=[]:=by
    rw [List.eq_nil_iff_forall_not_mem]
    intro j hj
    have:=(mem_ready.1 hj).1
    rw [hall j] at this; cases this
   exact ⟨hr,allOf listed a w tr M Kn hr⟩
 | succ fuel ih =>
   intro listed a w tr hl M Kn
   refine ⟨allOf listed a w tr M Kn,fun i hi=>?_⟩
   obtain ⟨hi0,o',ho',hpre⟩:=mem_ready.1 hi
   have hil:i<listed.size:=by
    rcases Nat.lt_or_ge i listed.size with h | h
    · exact h
    · simp [Array.getD_eq_getD_getElem?,Array.getElem?_eq_none h] at hi0
   have hun:(listed.setIfInBounds i true).toList.filter (!·) |>.length |> (·≤fuel):=by
    have hv:listed[i]=false:=by simpa [Array.getD_eq_getD_getElem?,hil] using hi0
    have e1:listed.toList=listed.toList.take i++false::listed.toList.drop (i+1):=by
     have:=List.take_append_drop i listed.toList
     rw [List.drop_eq_getElem_cons (by simpa using hil)] at this
     simpa [hv] using this.symm
    have e2:(listed.setIfInBounds i true).toList=listed.toList.take i++true::listed.toList.drop (i+1):=by
     rw [Array.toList_setIfInBounds]
     exact (List.set_eq_take_append_cons_drop ..).trans (by rw [if_pos (by simpa using hil)])
    show ((listed.setIfInBounds i true).toList.filter (!·)).length≤fuel
    rw [e2]
    rw [e1] at hl
    simp only [List.filter_append,List.filter_cons,Bool.not_false,Bool.not_true,if_true,List.length_append,List.length_cons] at hl ⊢
    simp at hl ⊢
    omega
   have hiS:listed.getD i false=false:=by
    simp [Array.getD_eq_getD_getElem?,hil] at hi0 ⊢; exact hi0
   by_cases hit:i<tr.length
   · refine mid_step hok hd (fun o ho=>Kn.sp i o hit hiS ho) Kn.same hm (fun k o ho hc2 hu hk=>Kn.rr k (by
      cases hp:Vi qs k with
      | false=>rfl
      | true =>
        obtain ⟨z,hz1,hz2⟩:=past_mem.1 hp
        obtain ⟨⟨oz,ho1,ho2⟩,ho3⟩:=endOK_spec hb hz1
        have hz3:=(hk z oz ho1 ho2).2 hz2
        have:=ahead (S:=fun j=>listed.getD j false=true) M.closed z i (M.closed z hz3) (ho3 i o ho hc2)
        rw [hu] at this; cases this)) M hi _ fun a' w' M'=>ih _ a' w' tr hun M' ⟨fun k hk=>?_,fun k o hk hu ho=>?_,Kn.rr,Kn.same,Kn.fin⟩
     · have : ¬ (listed.setIfInBounds i true).getD k false=true:=by rw [Yc hil,Kn.un k hk]; rintro (rfl | h); omega; cases h
       simpa using this
     · refine Kn.sp k o hk ?_ ho
       have : ¬ (listed.setIfInBounds i true).getD k false=true:=by rw [hu]; simp
       rw [Yc hil] at this
       simpa using fun h=>this (.inr h)
   have hso:=strip_get' ho'
   obtain ⟨o,hoeq⟩ : ∃ o:SOp,o=⟨o'.dst,o'.op,o'.guard.map fun p=>((gslot ops p.1).getD 0,p.2)⟩:=⟨_,rfl⟩
   rw [← hoeq] at hso
   have hisz:i<(Zs ops).length:=(List.getElem?_eq_some_iff.1 hso).1
   have hedge : ∀ e∈(Yd ops).getD i [],listed.getD e false=true:=fun e he=>by
    obtain ⟨x,h1,h2,rfl⟩:=(edges_get ho').1 he; exact hpre x h1 h2
   rcases Kn.fin with ⟨hl2,_⟩ | ⟨hq,hp,hdx⟩
   · omega
   obtain ⟨oq,hoq⟩ : ∃ oq,(Zs ops)[tr.length]? = some oq:=⟨_,List.getElem?_eq_getElem (by omega)⟩
   obtain ⟨hc,hbef,hbeh⟩:=barOK_spec hb hoq hp
   have hiq:i=tr.length:=by
    rcases Nat.lt_or_ge tr.length i with h | h
    · have:=ahead (S:=fun j=>listed.getD j false=true) M.closed i tr.length hedge (hbeh i h hisz)
      rw [Kn.un _ (Nat.le_refl _)] at this; cases this
    · omega
   subst hiq
   obtain rfl:oq=o:=Option.some.inj (hoq.symm.trans hso)
   have hlt : ∀ j,listed.getD j false=true→j<tr.length:=fun j h=>by
    rcases Nat.lt_or_ge j tr.length with h2 | h2
    · exact h2
    · rw [Kn.un j h2] at h; cases h
   have hbit : ∀ j,((Wt [] (Yd ops)).getD tr.length 0).testBit j=true→listed.getD j false=true:=fun j h =>
    ahead (S:=fun j=>listed.getD j false=true) M.closed tr.length j hedge h
   have hlq : ∀ j oj,(Zs ops)[j]? = some oj→cls qs j oj.op=3→(listed.getD j false=true↔j<tr.length):=fun j oj hj hx=>by
    refine ⟨hlt j,fun h=>?_⟩
    rcases hbef j oj h hj with h1 | h1 | h1
    · exact hbit j h1
    all_goals (rw [hx] at h1; cases h1)
   obtain ⟨ρ,e,h,hE,hS,hA,hslot,kh,hheap,hheapS⟩:=M.st
   have hh:h=Zr tr h0 tr.length:=by
    rw [hheap]
    refine heapAt_eq (X:=fun k=>∃ o,(Zs ops)[k]? = some o∧cls qs k o.op=3) Kn.same fun j ⟨oj,hj,hx⟩=>?_
    rw [← hheapS j oj hj hx]; exact hlq j oj hj hx
   have hev : ∀ t,t∈reads oq→sget e t=sget (Yu (Zs ops) tr e0 tr.length) t:=fun t ht=>by
    obtain ⟨k2,q1,q2⟩:=hslot t
    rw [q1]
    refine Vn fun j oj hj hdt=>?_
    rw [← q2 j oj hj hdt]
    refine ⟨hlt j,fun h=>hbit j (Ve hd hj hoq h ?_)⟩
    simp [Wh,hdt,ht]
   have hodst:oq.dst=o'.dst:=by rw [hoeq]
   have hoop:oq.op=o'.op:=by rw [hoeq]
   have hmem:o'∈ops.toList:=by rw [Array.mem_toList_iff]; exact Array.mem_of_getElem? ho'
   have hok':=hok o' hmem
   simp only [opsOK,Bool.and_eq_true] at hok'
   have hmw:m≤w.heap.size:=Nat.le_trans hm hE.wsize
   have next : ∀ (v:Value) (h1:Zh),(Vi qs (tr.length+1)=false→R h1)→Yr P R qs N (tr.length+1) ((Zs ops).drop (tr.length+1)) (Zf (Yu (Zs ops) tr e0 tr.length) oq.dst v) h1→∀ ρ' a' w',Evo h ρ w h1 ρ' w'→Sim P ρ' h1 w'→ARel r m sz ρ' h1 (Zf e oq.dst v) a' w' →
     wpAnyIn (fence r) n P .any ops Qx fuel (listed.setIfInBounds tr.length true) a' w':=by
    intro v h1 hR1 hd1 ρ' a' w' g1 g2 g3
    have hl3 : ∀ j oj,(Zs ops)[j]? = some oj→cls qs j oj.op=3→((listed.setIfInBounds tr.length true).getD j false=true↔j<tr.length+1):=fun j oj hj hx=>by
     rw [Yc hil,hlq j oj hj hx]; omega
    have hlf : ∀ k,tr.length<k→(listed.setIfInBounds tr.length true).getD k false=false:=fun k hk=>by
     have : ¬ (listed.setIfInBounds tr.length true).getD k false=true:=by
      rw [Yc hil]
      rintro (h | h)
      · omega
      · have:=hlt k h; omega
     simpa using this
    have hself:(listed.setIfInBounds tr.length true).getD tr.length false=true:=(Yc hil).2 (.inl rfl)
    obtain ⟨tr2,Kn2⟩:=known_more (N:=N) (e0:=e0) (h0:=h0) (v:=v) (h1:=h1) rfl hso hc hlf hself (fun k o hk hu ho=>Kn.sp k o hk (by
     have : ¬ (listed.setIfInBounds tr.length true).getD k false=true:=by rw [hu]; simp
     rw [Yc hil] at this
     simpa using fun h=>this (.inr h)) ho) Kn.same Kn.rr hR1 hd1
    have eqpre : ∀ k,k≤tr.length→Yu (Zs ops) (tr++(v,h1)::tr2) e0 k=Yu (Zs ops) tr e0 k:=fun k hk=>envAt_pre _ fun j hj=>⟨rfl,List.getElem?_append_left (by omega)⟩
    refine ih _ a' w' _ hun ⟨by simp [M.size],fun j hj e' he'=>?_,ρ',_,h1,hE.trans g1,g2,g3,fun t=>?_,tr.length+1,?_,hl3⟩ Kn2
    · rw [Yc hil] at hj ⊢
      rcases hj with rfl | hj
      · exact .inr (hedge e' he')
      · exact .inr (M.closed j hj e' he')
    · by_cases hdt:oq.dst=some t
      · refine ⟨tr.length+1,?_,fun j oj hj hjt=>?_⟩
        · have hat:(tr++(v,h1)::tr2)[tr.length]? = some (v,h1):=by rw [List.getElem?_append_right (Nat.le_refl _)]; simp
          simp only [Yu,hso,hat,eqpre _ (Nat.le_refl _)]
          rw [Wc,Wc,if_pos hdt,if_pos hdt]
        · rw [Yc hil]
          constructor
          · rintro (h | h)
            · omega
            · have:=hlt j h; omega
          · intro h
            by_cases hjq:j=tr.length
            · exact .inl hjq
            · exact .inr (hbit j (Ve hd hj hoq (by omega) (by simp [Wh,hdt,hjt])))
      · obtain ⟨k2,q1,q2⟩:=hslot t
        have hk2 : ∀ j oj,(Zs ops)[j]? = some oj→oj.dst=some t→(j<k2↔j<min k2 tr.length):=fun j oj hj hjt=>by
         constructor
         · intro h
           have:=hlt j ((q2 j oj hj hjt).2 h)
           omega
         · intro h; omega
        refine ⟨min k2 tr.length,?_,fun j oj hj hjt=>?_⟩
        · rw [eqpre _ (Nat.min_le_right _ _),Wc,if_neg hdt,q1]
          exact Vn hk2
        · rw [Yc hil,← hk2 j oj hj hjt,← q2 j oj hj hjt]
          refine ⟨fun h=>h.resolve_left fun h1=>?_,.inr⟩
          subst h1
          rw [hoq] at hj; cases hj
          exact hdt hjt
    · have hat:(tr++(v,h1)::tr2)[tr.length]? = some (v,h1):=by rw [List.getElem?_append_right (Nat.le_refl _)]; simp
      simp only [Zr,hat]
   have opE : ∀ x∈oq.op.operands.toList,ev e x=ev (Yu (Zs ops) tr e0 tr.length) x:=by
    intro x hx
    cases x with
    | tmp t=>exact hev t (List.mem_append.2 (.inl (List.mem_filterMap.2 ⟨_,hx,rfl⟩)))
    | _=>rfl
   have run:aop P false oq.op (ev (Yu (Zs ops) tr e0 tr.length)) (Zr tr h0 tr.length) (fun v h'=>(bif Vi qs (tr.length+1) then True else R h')∧Yr P R qs N (tr.length+1) ((Zs ops).drop (tr.length+1)) (Zf (Yu (Zs ops) tr e0 tr.length) oq.dst v) h') →
     o'.wpIn (fence r) n P a w (fun a' w'=>wpAnyIn (fence r) n P .any ops Qx fuel (listed.setIfInBounds tr.length true) a' w') Qx:=by
    intro hk
    rw [← aop_congr (E:=ev e) (E':=ev (Yu (Zs ops) tr e0 tr.length)) opE,← hh] at hk
    have hk2:aop P false o'.op (ev e) h (fun v' h'=>(fun e1 h2=>∃ v,e1=Zf e oq.dst v∧(bif Vi qs (tr.length+1) then True else R h2)∧Yr P R qs N (tr.length+1) ((Zs ops).drop (tr.length+1)) (Zf (Yu (Zs ops) tr e0 tr.length) oq.dst v) h2) (Zf e o'.dst v') h'):=by
     rw [← hoop]
     refine aopF_mono hk fun v' h' g=>⟨v',by rw [hodst],g⟩
    refine Oper.wpIn_mono ?_ (op_ok (P:=P) (sz:=sz) (K:=fun e1 h2=>∃ v,e1=Zf e oq.dst v∧(bif Vi qs (tr.length+1) then True else R h2)∧Yr P R qs N (tr.length+1) ((Zs ops).drop (tr.length+1)) (Zf (Yu (Zs ops) tr e0 tr.length) oq.dst v) h2) hok'.1 hk2 r n m ρ a w hmw hS hA Qx)
    rintro a' w' ⟨ρ',e',h',⟨v,rfl,gr,g1⟩,g2,g3,g4⟩
    exact next v h' (fun hp=>by rw [hp] at gr; exact gr) g1 ρ' a' w' g2 g3 g4
   unfold wpOpIn
   rw [ho']
   simp only
   rw [List.drop_eq_getElem_cons (by omega:tr.length<(Zs ops).length)] at hdx
   have hge:(Zs ops)[tr.length]=oq:=by
    rw [List.getElem?_eq_getElem hisz] at hso; exact Option.some.inj hso
   rw [hge] at hdx
   cases hg:o'.guard with
   | none =>
     have hog:oq.guard=none:=by rw [hoeq,hg]; rfl
     obtain ⟨qd,qo,qg⟩:=oq
     simp only at hog
     subst hog
     simp only [Yr,hp,cond_true] at hdx
     rw [if_pos (by simp [Region.wanted,hg])]
     exact run hdx
   | some p =>
     obtain ⟨j,want⟩:=p
     simp only [hg] at hok'
     cases hsl:gslot ops j with
     | none=>simp [hsl] at hok'
     | some d =>
       have hog:oq.guard=some (d,want):=by rw [hoeq,hg]; simp [hsl]
       obtain ⟨qd,qo,qg⟩:=oq
       simp only at hog
       subst hog
       simp only [Yr,hp,cond_true] at hdx
       obtain ⟨b,hb,k1,k2⟩:=hdx
       rw [← hev d (by simp [reads])] at hb
       have hdl:d<sz:=by simpa [hsl] using hok'.2
       have hr:=hA.env d (by rw [hA.size]; exact hdl)
       rw [hb] at hr
       have hv:=hr.gv
       have hy:yielded ops a.tmps j=b:=by
        have hlt:d<a.tmps.size:=by rw [hA.size]; exact hdl
        unfold yielded
        unfold gslot at hsl
        rw [hsl]
        have e1:a.tmps.getD d undef=a.tmps[d]:=by simp [Array.getD_eq_getD_getElem?,hlt]
        rw [e1] at hv
        simp only [Option.bind_some,Array.getElem?_eq_getElem hlt]
        rw [← hv]; cases a.tmps[d] <;> rfl
       by_cases hbw:b=some want
       · rw [if_pos (by simp [Region.wanted,hg,hy,hbw])]
         exact run (k1 hbw)
       · rw [if_neg (by simp [Region.wanted,hg,hy,hbw])]
         refine ⟨fun _ _=>trivial,next skp h (fun hp=>hh▸Kn.rr _ (past_mono (by omega) hp)) (hh▸k2 hbw) ρ _ w (.refl _ _ _) hS ?_⟩
         rw [← hodst]; exact hA.put .skip
end
theorem awp_drawR {P:Program} [Tabs P] {sz id:Nat} {ops:Array Oper} {Q:Exit→Env→Zh→Prop} {e:Env} {h:Zh} (R:Zh→Prop) (qs:List (Nat×Nat)) (hm:P.follows .mixedOrders=true) (hok:ops.toList.all (opsOK sz ops)=true)
  (hd:Vm (Zs ops) (Yd ops) qs=true) (hb:barOK (Zs ops) (Yd ops) qs=true) (hf:fwd (Yd ops)=true) (hR0:R h) (hk:Yr P R qs (Q .normal) 0 (Zs ops) e h):AWP P sz (.region id ops true) Q e h:=by
 intro r n m ρ a w hmm s x
 obtain ⟨s1,e1⟩:=drew_sim s
 obtain ⟨l1,l2,tr,e',h',hsplit,ht,hr⟩:=dopsR_trace _ _ _ _ (fun _=>hR0) hk
 obtain ⟨t1,t2,t3,t4⟩:=ht.spec
 simp only [Nat.zero_add] at t4 hr
 have hlen:(Zs ops).length=ops.size:=by simp [Zs]
 have hl12:l1.length+l2.length=ops.size:=by rw [← hlen,hsplit]; simp
 have eqj : ∀ j,j≤l1.length→Yu (Zs ops) tr e j=Yu l1 tr e j:=fun j hj=>envAt_pre j fun k hk=>⟨by rw [hsplit,List.getElem?_append_left (by omega)],rfl⟩
 have step : ∀ k o,k<tr.length→(Zs ops)[k]? = some o→∃ v,tr[k]? = some (v,Zr tr h (k+1))∧StepD P R (cls qs k o.op) o (Yu (Zs ops) tr e k) (Zr tr h k) v (Zr tr h (k+1)):=by
  intro k o hk ho
  rw [hsplit,List.getElem?_append_left (by omega)] at ho
  rw [eqj k (by omega)]; exact t4 k o ho
 refine wpIn_region_any hm (mid_runX (N:=Q .normal) (ρ0:=ρ) (w0:=w) (e0:=e) (h0:=h) (fun o ho=>List.all_eq_true.1 hok o ho) hd hb hf hmm ?_ ops.size (Array.replicate ops.size false) a { w with drawn:=w.drawn+1 } tr ?_ ?_ ⟨fun k hk=>?_,fun k o hk _ ho=>step k o hk ho,fun k hp=>ht.rr (fun _=>hR0) k (by rw [Nat.zero_add]; exact hp),fun k hk hX=>?_,?_⟩)
 · intro ρ1 ee e2 hh a1 w1 g1 g2 g3 hN heq
   exact ⟨ρ1,e2,hh,hN,g1,g2,g3.size,fun t ht=>by rw [← heq t]; exact g3.env t ht,g3.marks,g3.round⟩
 · have:=List.length_filter_le (!·) (Array.replicate ops.size false).toList
   simpa using this
 · refine ⟨by simp,fun j hj=>?_,ρ,e,h,e1,s1,⟨x.size,x.env,x.marks,x.round⟩,fun t=>⟨0,rfl,fun i o _ _=>?_⟩,0,rfl,fun i o _ _=>?_⟩
   · simp [Array.getD_eq_getD_getElem?,Array.getElem?_replicate] at hj
     split at hj <;> simp at hj
   · simp only [Array.getD_eq_getD_getElem?,Array.getElem?_replicate]
     split <;> simp
   · simp only [Array.getD_eq_getD_getElem?,Array.getElem?_replicate]
     split <;> simp
 · simp only [Array.getD_eq_getD_getElem?,Array.getElem?_replicate]
   split <;> simp
 · have hkl:k<(Zs ops).length:=by omega
   obtain ⟨v,g1,g2⟩:=step k _ hk (List.getElem?_eq_getElem hkl)
   exact step_same g2 fun hc=>hX ⟨_,List.getElem?_eq_getElem hkl,hc⟩
 · rw [t1,eqj _ (Nat.le_refl _),t2,t3]
   rcases hr with ⟨rfl,hN⟩ | ⟨hne,hp,hd2⟩
   · exact .inl ⟨by simpa using hl12,hN⟩
   · refine .inr ⟨?_,hp,?_⟩
     · have:=List.length_pos_iff.2 hne; omega
     · rw [hsplit]; simpa using hd2
theorem aw_drawR {P:Program} [Tabs P] {sz:Nat} {l:List SOp} {af:List (List Nat)} {Q:Exit→Env→Zh→Prop} {e:Env} {h:Zh} (R:Zh→Prop) (qs:List (Nat×Nat)) (hm:P.follows .mixedOrders=true)
  (hd:Vm l af qs=true) (hb:barOK l af qs=true) (hf:fwd af=true) (hR0:R h) (hk:Yr P R qs (Q .normal) 0 l e h):aw P sz (.draw l af) Q e h:=by
 intro c hc hok
 cases c with
 | region id ops d =>
   cases d with
   | false=>simp [Zy] at hc
   | true =>
     simp only [Zy,SCode.draw.injEq] at hc
     obtain ⟨h1,h2⟩:=hc
     have h2' : Yd ops=af:=h2
     subst h1
     rw [← h2'] at hd hb hf
     exact awp_drawR R qs hm hok hd hb hf hR0 hk
 | _=>simp [Zy] at hc
def Xg (P:Program) [Tabs P] (qs:List (Nat×Nat)) (N:Env→Zh→Prop):Nat→List SOp→Env→Zh→Prop
 | _,[],e,h=>N e h
 | i,⟨dst,op,g⟩::l,e,h =>
   let go:Prop:=bif piv qs i then aop P false op (ev e) h (fun v h'=>Xg P qs N (i+1) l (Zf e dst v) h') else
    (match cls qs i op with
     | 1=>aop P true op (ev e) h (fun v h'=>h' = h∧Xg P qs N (i+1) l (Zf e dst v) h)
     | 2=>∃ v,(∀ h0,aop P true op (ev e) h0 (fun v' h'=>v' = v∧h' = h0))∧Xg P qs N (i+1) l (Zf e dst v) h
     | _=>aop P true op (ev e) h (fun v h'=>Xg P qs N (i+1) l (Zf e dst v) h'))
   match g with
   | none=>go
   | some (d,want)=>∃ g:Option Bool,sget e d=gv g∧(g=some want→go)∧(g≠some want→Xg P qs N (i+1) l (Zf e dst skp) h)
theorem dopsX_R {P:Program} [Tabs P] {qs:List (Nat×Nat)} {N:Env→Zh→Prop} : ∀ (l:List SOp) (i:Nat) (e:Env) (h:Zh),Xg P qs N i l e h→Yr P (fun _=>True) qs N i l e h
 | [],_,_,_,hk=>hk
 | ⟨dst,op,g⟩::l,i,e,h,hk=>by
   have go:(bif piv qs i then aop P false op (ev e) h (fun v h'=>Xg P qs N (i+1) l (Zf e dst v) h') else
    (match cls qs i op with
     | 1=>aop P true op (ev e) h (fun v h'=>h' = h∧Xg P qs N (i+1) l (Zf e dst v) h)
     | 2=>∃ v,(∀ h0,aop P true op (ev e) h0 (fun v' h'=>v' = v∧h' = h0))∧Xg P qs N (i+1) l (Zf e dst v) h
     | _=>aop P true op (ev e) h (fun v h'=>Xg P qs N (i+1) l (Zf e dst v) h')):Prop) →
    (bif piv qs i then aop P false op (ev e) h (fun v h'=>(bif Vi qs (i+1) then True else True)∧Yr P (fun _=>True) qs N (i+1) l (Zf e dst v) h') else
    (match cls qs i op with
     | 0=>aop P true op (ev e) h (fun v h'=>Yr P (fun _=>True) qs N (i+1) l (Zf e dst v) h')
     | 1=>aop P true op (ev e) h (fun v h'=>h' = h∧Yr P (fun _=>True) qs N (i+1) l (Zf e dst v) h)
     | 2=>∃ v,(∀ h0,True→aop P true op (ev e) h0 (fun v' h'=>v' = v∧h' = h0))∧(bif Vi qs i then True else True)∧Yr P (fun _=>True) qs N (i+1) l (Zf e dst v) h
     | _=>aop P true op (ev e) h (fun v h'=>(bif Vi qs (i+1) then True else True)∧Yr P (fun _=>True) qs N (i+1) l (Zf e dst v) h')):Prop):=by
    have tt : ∀ b:Bool,(bif b then True else True):=fun b=>by cases b <;> trivial
    cases piv qs i
    · simp only [cond_false]
      rcases cls_cases qs i op with ⟨h,_⟩ | h | h | h <;> rw [h]
      · exact fun hk=>Vh hk fun v h' hd=>dopsX_R l _ _ _ hd
      · exact fun hk=>Vh hk fun v h' hd=>⟨hd.1,dopsX_R l _ _ _ hd.2⟩
      · rintro ⟨v,h1,h2⟩; exact ⟨v,fun h0 _=>h1 h0,tt _,dopsX_R l _ _ _ h2⟩
      · exact fun hk=>Vh hk fun v h' hd=>⟨tt _,dopsX_R l _ _ _ hd⟩
    · simp only [cond_true]
      exact fun hk=>aopF_mono hk fun v h' hd=>⟨tt _,dopsX_R l _ _ _ hd⟩
   cases g with
   | none=>exact go hk
   | some p =>
     obtain ⟨d,want⟩:=p
     obtain ⟨g,h1,h2,h3⟩:=hk
     exact ⟨g,h1,fun hg=>go (h2 hg),fun hg=>dopsX_R l _ _ _ (h3 hg)⟩
theorem Xp {P:Program} [Tabs P] {sz:Nat} {l:List SOp} {af:List (List Nat)} {Q:Exit→Env→Zh→Prop} {e:Env} {h:Zh} (qs:List (Nat×Nat)) (hm:P.follows .mixedOrders=true)
  (hd:Vm l af qs=true) (hb:barOK l af qs=true) (hf:fwd af=true) (hk:Xg P qs (Q .normal) 0 l e h):aw P sz (.draw l af) Q e h :=
 aw_drawR (fun _=>True) qs hm hd hb hf trivial (dopsX_R _ _ _ _ hk)
theorem frm_nil {i:Nat}:frm [] i=false:=by cases i <;> simp [frm]
theorem frm_cons {qs:List (Nat×Nat)} {a b i:Nat}:frm ((a,b)::qs) i=bif a==i then b==5 else frm qs i:=by cases h:(a==i) <;> simp [frm,h]
theorem piv_nil' {i:Nat}:piv [] i=false:=by cases i <;> simp [piv]
theorem piv_cons' {qs:List (Nat×Nat)} {a b i:Nat}:piv ((a,b)::qs) i=bif a==i then b==4 else piv qs i:=by cases h:(a==i) <;> simp [piv,h]
section drawn
variable {P:Program} [Tabs P] {R:Zh→Prop} {qs:List (Nat×Nat)} {N:Env→Zh→Prop} {i:Nat} {e:Env} {h:Zh} {dst:Option Nat} {op:Op} {l:List SOp}
theorem Yw:Xg P qs N i [] e h=N e h:=rfl
theorem dopsX_0 (hw:Ym op=true):Xg P qs N i (⟨dst,op,none⟩::l) e h=aop P true op (ev e) h (fun v h'=>Xg P qs N (i+1) l (Zf e dst v) h'):=by
 have hc:isCall op=false:=by
  cases op <;> first | rfl | skip
  rename_i c
  obtain ⟨callee,args,ats⟩:=c
  cases callee <;> first | rfl | (simp [Ym] at hw)
 have hn:isNext op=false:=by cases op <;> first | rfl | (simp [Ym] at hw)
 simp only [Xg,cls,hw,if_true,aop_same hc hn false]
 cases piv qs i <;> rfl
theorem dopsX_len {as:Array Operand} {ts:Array TypeId}:Xg P qs N i (⟨dst,.call { callee:=.builtin .len,args:=as,argTypes:=ts },none⟩::l) e h=aop P true (.call { callee:=.builtin .len,args:=as,argTypes:=ts }) (ev e) h (fun v h'=>Xg P qs N (i+1) l (Zf e dst v) h'):=dopsX_0 rfl
theorem dopsX_min {as:Array Operand} {ts:Array TypeId}:Xg P qs N i (⟨dst,.call { callee:=.builtin .min,args:=as,argTypes:=ts },none⟩::l) e h=aop P true (.call { callee:=.builtin .min,args:=as,argTypes:=ts }) (ev e) h (fun v h'=>Xg P qs N (i+1) l (Zf e dst v) h'):=dopsX_0 rfl
theorem dopsX_max {as:Array Operand} {ts:Array TypeId}:Xg P qs N i (⟨dst,.call { callee:=.builtin .max,args:=as,argTypes:=ts },none⟩::l) e h=aop P true (.call { callee:=.builtin .max,args:=as,argTypes:=ts }) (ev e) h (fun v h'=>Xg P qs N (i+1) l (Zf e dst v) h'):=dopsX_0 rfl
theorem dopsX_load {t:TypeId} {x:Operand} (hf:frm qs i=false):Xg P qs N i (⟨dst,.load t x,none⟩::l) e h=Xq P h t (ev e x) (fun v=>Xg P qs N (i+1) l (Zf e dst v) h):=by
 have:cls qs i (.load t x)=bif frm qs i then 2 else 1:=rfl
 simp only [Xg,this,aop,hf,cond_false,true_and]
 cases piv qs i <;> rfl
theorem dopsX_eff (hn:isCall op=false) (hx:isNext op=false) (hc:cls qs i op=3):Xg P qs N i (⟨dst,op,none⟩::l) e h=aop P true op (ev e) h (fun v h'=>Xg P qs N (i+1) l (Zf e dst v) h'):=by
 simp only [Xg,hc,aop_same hn hx false]
 cases piv qs i <;> rfl
theorem dopsX_lit {t:TypeId} {n:Nat} {ps:Array (Nat×Operand)}:Xg P qs N i (⟨dst,.buildSlice t n ps,none⟩::l) e h=aop P true (.buildSlice t n ps) (ev e) h (fun v h'=>Xg P qs N (i+1) l (Zf e dst v) h'):=dopsX_eff rfl rfl rfl
theorem dopsX_app {as:Array Operand} {ts:Array TypeId}:Xg P qs N i (⟨dst,.call { callee:=.builtin .append,args:=as,argTypes:=ts },none⟩::l) e h=aop P true (.call { callee:=.builtin .append,args:=as,argTypes:=ts }) (ev e) h (fun v h'=>Xg P qs N (i+1) l (Zf e dst v) h'):=dopsX_eff rfl rfl rfl
theorem dopsX_store {t:TypeId} {x y:Operand}:Xg P qs N i (⟨dst,.store t x y,none⟩::l) e h=aop P true (.store t x y) (ev e) h (fun v h'=>Xg P qs N (i+1) l (Zf e dst v) h'):=dopsX_eff rfl rfl rfl
theorem dopsX_alloc {t:TypeId}:Xg P qs N i (⟨dst,.alloc t,none⟩::l) e h=aop P true (.alloc t) (ev e) h (fun v h'=>Xg P qs N (i+1) l (Zf e dst v) h'):=dopsX_eff rfl rfl rfl
theorem dopsX_box {t:TypeId} {x:Operand}:Xg P qs N i (⟨dst,.box t x,none⟩::l) e h=aop P true (.box t x) (ev e) h (fun v h'=>Xg P qs N (i+1) l (Zf e dst v) h'):=dopsX_eff rfl rfl rfl
theorem dopsX_make {t:TypeId} {x y:Operand}:Xg P qs N i (⟨dst,.makeSlice t x y,none⟩::l) e h=aop P true (.makeSlice t x y) (ev e) h (fun v h'=>Xg P qs N (i+1) l (Zf e dst v) h'):=dopsX_eff rfl rfl rfl
def quiet:List (Nat×Nat)→Nat→Nat
 | [],_=>3
 | (a,b)::l,i=>bif a==i then (bif b==1 then 1 else bif b==2 then 2 else 3) else quiet l i
theorem cls_call {f:Operand} {as:Array Operand} {ts:Array TypeId} : ∀ qs:List (Nat×Nat),cls qs i (.call { callee:=.value f,args:=as,argTypes:=ts })=quiet qs i
 | []=>rfl
 | (a,b)::qs=>by
   have ih:=cls_call (f:=f) (as:=as) (ts:=ts) qs
   have hw:Ym (.call { callee:=.value f,args:=as,argTypes:=ts })=false:=rfl
   simp only [cls,hw,Bool.false_eq_true,if_false,quiet,List.find?] at ih ⊢
   cases h:(a==i)
   · simp only [cond_false]; exact ih
   · simp only [cond_true]
     cases h1:(b==1)
     · cases h2:(b==2) <;> simp
     · simp
theorem dopsX_call {f:Operand} {as:Array Operand} {ts:Array TypeId}:Xg P qs N i (⟨dst,.call { callee:=.value f,args:=as,argTypes:=ts },none⟩::l) e h =
  bif piv qs i then Yz P false (ev e f) (as.toList.map (ev e)) h (fun v h'=>Xg P qs N (i+1) l (Zf e dst v) h') else
   bif quiet qs i==1 then Yz P true (ev e f) (as.toList.map (ev e)) h (fun v h'=>h' = h∧Xg P qs N (i+1) l (Zf e dst v) h) else
   bif quiet qs i==2 then ∃ v,(∀ h0,Yz P true (ev e f) (as.toList.map (ev e)) h0 (fun v' h'=>v' = v∧h' = h0))∧Xg P qs N (i+1) l (Zf e dst v) h else
   Yz P true (ev e f) (as.toList.map (ev e)) h (fun v h'=>Xg P qs N (i+1) l (Zf e dst v) h'):=by
 simp only [Xg,aop,cls_call]
 congr 1
 have hq : ∀ qs:List (Nat×Nat),quiet qs i=1∨quiet qs i=2∨quiet qs i=3:=by
  intro qs
  induction qs with
  | nil=>exact .inr (.inr rfl)
  | cons p qs ih =>
    obtain ⟨a,b⟩:=p
    simp only [quiet]
    cases a==i
    · exact ih
    · cases b==1
      · cases b==2
        · exact .inr (.inr rfl)
        · exact .inr (.inl rfl)
      · exact .inl rfl
 rcases hq qs with h | h | h <;> rw [h] <;> rfl
theorem dopsX_take {d:Nat} {want:Bool} (hg:sget e d = .bool want):Xg P qs N i (⟨dst,op,some (d,want)⟩::l) e h=Xg P qs N i (⟨dst,op,none⟩::l) e h:=by
 apply propext
 simp only [Xg,hg]
 constructor
 · rintro ⟨g,h1,h2,_⟩
   cases g with
   | none=>cases h1
   | some b=>cases h1; exact h2 rfl
 · exact fun hk=>⟨some want,rfl,fun _=>hk,fun h=>absurd rfl h⟩
theorem dopsX_pass {d:Nat} {want:Bool} (hg:sget e d = .bool (!want)):Xg P qs N i (⟨dst,op,some (d,want)⟩::l) e h=Xg P qs N (i+1) l (Zf e dst skp) h:=by
 apply propext
 simp only [Xg,hg]
 constructor
 · rintro ⟨g,h1,_,h3⟩
   cases g with
   | none=>cases h1
   | some b=>cases h1; exact h3 (by cases want <;> simp)
 · exact fun hk=>⟨some (!want),rfl,fun h=>by cases want <;> simp at h,fun _=>hk⟩
theorem dopsX_skip {d:Nat} {want:Bool} (hg:sget e d=skp):Xg P qs N i (⟨dst,op,some (d,want)⟩::l) e h=Xg P qs N (i+1) l (Zf e dst skp) h:=by
 apply propext
 simp only [Xg,hg]
 constructor
 · rintro ⟨g,h1,_,h3⟩
   cases g with
   | none=>exact h3 (by simp)
   | some b=>cases h1
 · exact fun hk=>⟨none,rfl,fun h=>(by cases h),fun _=>hk⟩
theorem dopsR_nil:Yr P R qs N i [] e h=N e h:=rfl
theorem dopsR_0 (hp:piv qs i=false) (hw:Ym op=true):Yr P R qs N i (⟨dst,op,none⟩::l) e h=aop P true op (ev e) h (fun v h'=>Yr P R qs N (i+1) l (Zf e dst v) h'):=by
 simp only [Yr,cls,hw,if_true,hp,cond_false]
theorem dopsR_load {t:TypeId} {x:Operand} (hp:piv qs i=false) (hf:frm qs i=false):Yr P R qs N i (⟨dst,.load t x,none⟩::l) e h=Xq P h t (ev e x) (fun v=>Yr P R qs N (i+1) l (Zf e dst v) h):=by
 have:cls qs i (.load t x)=bif frm qs i then 2 else 1:=rfl
 simp only [Yr,this,aop,hp,hf,cond_false,true_and]
theorem dopsR_load5 {t:TypeId} {x:Operand} (hp:piv qs i=false) (hz:Vi qs i=false) (hf:frm qs i=true):Yr P R qs N i (⟨dst,.load t x,none⟩::l) e h = ∃ v,(∀ h0,R h0→Xq P h0 t (ev e x) (fun v'=>v' = v))∧Yr P R qs N (i+1) l (Zf e dst v) h:=by
 have:cls qs i (.load t x)=bif frm qs i then 2 else 1:=rfl
 simp only [Yr,this,aop,hp,hf,hz,cond_false,cond_true,and_true,true_and]
theorem dopsR_eff (hn:isCall op=false) (hx:isNext op=false) (hc:cls qs i op=3):Yr P R qs N i (⟨dst,op,none⟩::l) e h=aop P true op (ev e) h (fun v h'=>(bif Vi qs (i+1) then True else R h')∧Yr P R qs N (i+1) l (Zf e dst v) h'):=by
 simp only [Yr,hc,aop_same hn hx false]
 cases piv qs i <;> rfl
theorem dopsR_store {t:TypeId} {x y:Operand}:Yr P R qs N i (⟨dst,.store t x y,none⟩::l) e h=aop P true (.store t x y) (ev e) h (fun v h'=>(bif Vi qs (i+1) then True else R h')∧Yr P R qs N (i+1) l (Zf e dst v) h'):=dopsR_eff rfl rfl rfl
theorem dopsR_alloc {t:TypeId}:Yr P R qs N i (⟨dst,.alloc t,none⟩::l) e h=aop P true (.alloc t) (ev e) h (fun v h'=>(bif Vi qs (i+1) then True else R h')∧Yr P R qs N (i+1) l (Zf e dst v) h'):=dopsR_eff rfl rfl rfl
theorem dopsR_box {t:TypeId} {x:Operand}:Yr P R qs N i (⟨dst,.box t x,none⟩::l) e h=aop P true (.box t x) (ev e) h (fun v h'=>(bif Vi qs (i+1) then True else R h')∧Yr P R qs N (i+1) l (Zf e dst v) h'):=dopsR_eff rfl rfl rfl
theorem dopsR_make {t:TypeId} {x y:Operand}:Yr P R qs N i (⟨dst,.makeSlice t x y,none⟩::l) e h=aop P true (.makeSlice t x y) (ev e) h (fun v h'=>(bif Vi qs (i+1) then True else R h')∧Yr P R qs N (i+1) l (Zf e dst v) h'):=dopsR_eff rfl rfl rfl
theorem dopsR_lit {t:TypeId} {n:Nat} {ps:Array (Nat×Operand)}:Yr P R qs N i (⟨dst,.buildSlice t n ps,none⟩::l) e h=aop P true (.buildSlice t n ps) (ev e) h (fun v h'=>(bif Vi qs (i+1) then True else R h')∧Yr P R qs N (i+1) l (Zf e dst v) h'):=dopsR_eff rfl rfl rfl
theorem dopsR_app {xs:Array Operand} {ts:Array TypeId}:Yr P R qs N i (⟨dst,.call { callee:=.builtin .append,args:=xs,argTypes:=ts },none⟩::l) e h=aop P true (.call { callee:=.builtin .append,args:=xs,argTypes:=ts }) (ev e) h (fun v h'=>(bif Vi qs (i+1) then True else R h')∧Yr P R qs N (i+1) l (Zf e dst v) h'):=dopsR_eff rfl rfl rfl
theorem dopsR_copy {xs:Array Operand} {ts:Array TypeId}:Yr P R qs N i (⟨dst,.call { callee:=.builtin .copy,args:=xs,argTypes:=ts },none⟩::l) e h=aop P true (.call { callee:=.builtin .copy,args:=xs,argTypes:=ts }) (ev e) h (fun v h'=>(bif Vi qs (i+1) then True else R h')∧Yr P R qs N (i+1) l (Zf e dst v) h'):=dopsR_eff rfl rfl rfl
theorem dopsX_copy {xs:Array Operand} {ts:Array TypeId}:Xg P qs N i (⟨dst,.call { callee:=.builtin .copy,args:=xs,argTypes:=ts },none⟩::l) e h=aop P true (.call { callee:=.builtin .copy,args:=xs,argTypes:=ts }) (ev e) h (fun v h'=>Xg P qs N (i+1) l (Zf e dst v) h'):=dopsX_eff rfl rfl rfl
theorem dopsR_len {xs:Array Operand} {ts:Array TypeId} (hp:piv qs i=false):Yr P R qs N i (⟨dst,.call { callee:=.builtin .len,args:=xs,argTypes:=ts },none⟩::l) e h=aop P true (.call { callee:=.builtin .len,args:=xs,argTypes:=ts }) (ev e) h (fun v h'=>Yr P R qs N (i+1) l (Zf e dst v) h'):=dopsR_0 hp rfl
theorem past_nil' {k:Nat}:Vi [] k=false:=rfl
theorem past_cons' {a b k:Nat}:Vi ((a,b)::qs) k=bif b==6 then (decide (a<k) || Vi qs k) else Vi qs k:=by cases h:(b==6) <;> simp [Vi,h]
theorem quiet_nil' {i:Nat}:quiet [] i=3:=by cases i <;> simp [quiet]
theorem quiet_cons' {a b:Nat}:quiet ((a,b)::qs) i=bif a==i then (bif b==1 then 1 else bif b==2 then 2 else 3) else quiet qs i:=by cases h:(a==i) <;> simp [quiet,h]
theorem dopsR_call4 {f:Operand} {xs:Array Operand} {ts:Array TypeId} (hp:piv qs i=true):Yr P R qs N i (⟨dst,.call { callee:=.value f,args:=xs,argTypes:=ts },none⟩::l) e h =
  Yz P false (ev e f) (xs.toList.map (ev e)) h (fun v h'=>(bif Vi qs (i+1) then True else R h')∧Yr P R qs N (i+1) l (Zf e dst v) h'):=by
 simp only [Yr,aop,hp,cond_true]
theorem dopsR_call1 {f:Operand} {xs:Array Operand} {ts:Array TypeId} (hp:piv qs i=false) (hq:quiet qs i=1):Yr P R qs N i (⟨dst,.call { callee:=.value f,args:=xs,argTypes:=ts },none⟩::l) e h =
  Yz P true (ev e f) (xs.toList.map (ev e)) h (fun v h'=>h' = h∧Yr P R qs N (i+1) l (Zf e dst v) h):=by
 simp only [Yr,aop,cls_call,hq,hp,cond_false]
theorem dopsR_call2 {f:Operand} {xs:Array Operand} {ts:Array TypeId} (hp:piv qs i=false) (hz:Vi qs i=false) (hq:quiet qs i=2):Yr P R qs N i (⟨dst,.call { callee:=.value f,args:=xs,argTypes:=ts },none⟩::l) e h =
  ∃ v,(∀ h0,R h0→Yz P true (ev e f) (xs.toList.map (ev e)) h0 (fun v' h'=>v' = v∧h' = h0))∧Yr P R qs N (i+1) l (Zf e dst v) h:=by
 simp only [Yr,aop,cls_call,hq,hp,hz,cond_false,true_and]
theorem dopsR_call3 {f:Operand} {xs:Array Operand} {ts:Array TypeId} (hp:piv qs i=false) (hq:quiet qs i=3):Yr P R qs N i (⟨dst,.call { callee:=.value f,args:=xs,argTypes:=ts },none⟩::l) e h =
  Yz P true (ev e f) (xs.toList.map (ev e)) h (fun v h'=>(bif Vi qs (i+1) then True else R h')∧Yr P R qs N (i+1) l (Zf e dst v) h'):=by
 simp only [Yr,aop,cls_call,hq,hp,cond_false]
theorem dopsR_take {d:Nat} {want:Bool} (hg:sget e d = .bool want):Yr P R qs N i (⟨dst,op,some (d,want)⟩::l) e h=Yr P R qs N i (⟨dst,op,none⟩::l) e h:=by
 apply propext
 simp only [Yr,hg]
 constructor
 · rintro ⟨g,h1,h2,_⟩
   cases g with
   | none=>cases h1
   | some b=>cases h1; exact h2 rfl
 · exact fun hk=>⟨some want,rfl,fun _=>hk,fun h=>absurd rfl h⟩
theorem dopsR_pass {d:Nat} {want:Bool} (hg:sget e d = .bool (!want)):Yr P R qs N i (⟨dst,op,some (d,want)⟩::l) e h=Yr P R qs N (i+1) l (Zf e dst skp) h:=by
 apply propext
 simp only [Yr,hg]
 constructor
 · rintro ⟨g,h1,_,h3⟩
   cases g with
   | none=>cases h1
   | some b=>cases h1; exact h3 (by cases want <;> simp)
 · exact fun hk=>⟨some (!want),rfl,fun h=>by cases want <;> simp at h,fun _=>hk⟩
theorem dopsR_skip {d:Nat} {want:Bool} (hg:sget e d=skp):Yr P R qs N i (⟨dst,op,some (d,want)⟩::l) e h=Yr P R qs N (i+1) l (Zf e dst skp) h:=by
 apply propext
 simp only [Yr,hg]
 constructor
 · rintro ⟨g,h1,_,h3⟩
   cases g with
   | none=>exact h3 (by simp)
   | some b=>cases h1
 · exact fun hk=>⟨none,rfl,fun h=>(by cases h),fun _=>hk⟩
end drawn
theorem less_bit_lt {left x:Nat} (hb:left.testBit x=true):less left (2 ^ x)<left:=by
 have h1:left &&& less left (2 ^ x)=less left (2 ^ x):=by
  apply Nat.eq_of_testBit_eq
  intro i
  rw [Nat.testBit_and,Yj]
  cases left.testBit i <;> simp
 have h2:less left (2 ^ x)≤left:=by rw [← h1]; exact Nat.and_le_left
 have h3:less left (2 ^ x)≠left:=fun h=>by
  have:=Yj left (2 ^ x) x
  rw [h,hb,Nat.testBit_two_pow_self] at this
  cases this
 omega
theorem IntSl.same {h h' : Zh} {v:Value} {xs:List Int} (hv:IntSl h v xs) (hb : ∀ b,Ye v=some b→h'[b]? = h[b]?):IntSl h' v xs:=by
 rcases hv with ⟨rfl,rfl⟩ | ⟨b,o,sp,cap,c,e,ro,rfl,hc,hw,hx⟩
 · exact .inl ⟨rfl,rfl⟩
 · exact .inr ⟨b,o,sp,cap,c,e,ro,rfl,hc,by rw [← hw]; simp only [view,hb b rfl],hx⟩
section
variable {P:Program} {h:Zh} {b:Nat} {v v' : Value} {e t:TypeId} {xs:List Int}
theorem IntSl.one (hv:IntSl h v xs):one v=true:=by
 rcases hv with ⟨rfl,rfl⟩ | ⟨b,o,sp,cap,c,e,ro,rfl,hc,hw,hx⟩ <;> rfl
theorem IntSl.lt (hv:IntSl h v xs) {b:Nat} (hb:Ye v=some b):b<h.length:=by
 rcases hv with ⟨rfl,rfl⟩ | ⟨b',o,sp,cap,c,e,ro,rfl,hc,hw,hx⟩
 · cases hb
 · cases hb
   rcases Nat.lt_or_ge b h.length with hl | hl
   · exact hl
   · simp [view,List.getElem?_eq_none hl] at hw
theorem OwnSl.one (hv:OwnSl e h v xs):one v=true:=hv.int.one
theorem Wy {f:Fn} {a c:Array Value} (hb:h[b]? = some (.cells [v] e false)) (hs:shp P t=some none) (K:Zh→Prop):Xh P h t (.pointer (some ⟨b,0,none⟩)) (.func f a c) K=K (h.set b (.cells [.func f a c] e false)):=store1 hb hs rfl K
end
/-! For simp's side conditions (a step that holds by unfolding alone is not taken for a proof there). -/
theorem sget_nil' (n:Nat):sget [] n=undef:=by rw [← show undef=sget [] n from rfl]
theorem sget_cons' (i:Nat) (v:Value) (e:Env) (n:Nat):sget ((i,v)::e) n=bif i==n then v else sget e n:=by cases h:(i==n) <;> simp [sget,h]
theorem extr_20 {a b:Value} {K:Value→Prop}:Wk (.tuple #[a,b]) 0 K=K a:=rfl
theorem extr_21 {a b:Value} {K:Value→Prop}:Wk (.tuple #[a,b]) 1 K=K b:=rfl
theorem extr_30 {a b c:Value} {K:Value→Prop}:Wk (.tuple #[a,b,c]) 0 K=K a:=rfl
theorem extr_31 {a b c:Value} {K:Value→Prop}:Wk (.tuple #[a,b,c]) 1 K=K b:=rfl
theorem extr_32 {a b c:Value} {K:Value→Prop}:Wk (.tuple #[a,b,c]) 2 K=K c:=rfl
def Full (h:Zh) (v:Value) (xs:List Int):Prop:=(v = .slice none 0 0∧xs=[])∨xs≠[]∧∃ b o,v = .slice (some ⟨b,o,none⟩) xs.length xs.length∧IntSl h v xs
section
variable {P:Program} {h:Zh} {v:Value} {e t:TypeId} {xs:List Int}
theorem Full.int (hv:Full h v xs):IntSl h v xs:=by
 rcases hv with ⟨rfl,rfl⟩ | ⟨_,b,o,_,h⟩
 · exact .inl ⟨rfl,rfl⟩
 · exact h
theorem Full.grow (hv:Full h v xs) (g:Zh):Full (h++g) v xs:=by
 rcases hv with h | ⟨h0,b,o,h1,h2⟩
 · exact .inl h
 · exact .inr ⟨h0,b,o,h1,h2.grow g⟩
theorem Full.push {x:Int} {t2:TypeId} {b2 c2:Nat} {c:Bool} (hv:Full h v xs) (hT:appT P t t2=some (e,1,8)) (hn:xs.length<1099511627776) (hb2:h[b2]? = some (.ints [x] e c)) {K:Value→Zh→Prop}
  (hk : ∀ r,OwnSl e (h++[.ints (xs++[x]) e false]) r (xs++[x])→K r (h++[.ints (xs++[x]) e false])):Ys P h t t2 v (.slice (some ⟨b2,0,none⟩) 1 c2) K:=by
 have hnew : ∀ n,n=(xs++[x]).length→OwnSl e (h++[.ints (xs++[x]) e false]) (.slice (some ⟨h.length,0,some 0⟩) n n) (xs++[x]):=fun n hn=>.inr ⟨h.length,[],by rw [hn]; simp,by simp⟩
 simp only [Ys,hT,elemsK,Xo,hb2]
 refine ⟨fun h=>by omega,fun _=>⟨by simp,?_⟩⟩
 rcases hv with ⟨rfl,rfl⟩ | ⟨hx,b,o,rfl,hv⟩
 · simp only [putK]
   exact ⟨fun h=>by omega,fun _=>⟨by omega,hk _ (hnew 1 rfl)⟩⟩
 · simp only [putK]
   refine ⟨fun hr=>by omega,fun _=>⟨by omega,?_⟩⟩
   refine hv.cells hx b o none xs.length xs.length rfl ?_
   have:Xa (xs.map Zd++List.map Zd (List.take (1*1) (List.drop 0 [x])))=some (xs++[x]):=by rw [← List.map_append]; exact intsOf_map' _
   simp only [mkb,this]
   exact hk _ (hnew _ (by simp))
end
theorem sops_take' {P:Program} [Tabs P] {N:Env→Zh→Prop} {e:Env} {h:Zh} {dst:Option Nat} {op:Op} {l:List SOp} {d:Nat} {want:Bool} (hg:sget e d = .bool want) :
  sops P N (⟨dst,op,some (d,want)⟩::l) e h=sops P N (⟨dst,op,none⟩::l) e h:=by rw [sops_take P N e h dst op l hg]; rfl
/-! Lemmas of the calculus in two bundles: vdn (tried on the way down), vup. What holds by rfl stays outside: in a bundle it would no longer be used as such. -/
set_option maxRecDepth 10000 in
def vdn:=(And.intro (And.intro (And.intro (And.intro (And.intro (And.intro @aw_cond_true @aw_cond_false) @sops_pick_t) (And.intro (And.intro @sops_pick_f @dops_load) @dops_0)) (And.intro (And.intro (And.intro @dopsX_load @dopsX_call) @dopsX_len) (And.intro @dopsX_min @dopsX_max))) (And.intro (And.intro (And.intro (And.intro @dopsX_0 @dopsX_lit) @dopsX_app) (And.intro (And.intro @dopsX_store @dopsX_alloc) @dopsX_box)) (And.intro (And.intro (And.intro @dopsX_make @dopsX_take) @dopsX_pass) (And.intro @dopsX_copy @dopsR_load)))) (And.intro (And.intro (And.intro (And.intro (And.intro @dopsR_load5 @dopsR_call1) @dopsR_call2) (And.intro (And.intro @dopsR_call3 @dopsR_call4) @dopsR_len)) (And.intro (And.intro (And.intro @dopsR_0 @dopsR_lit) @dopsR_app) (And.intro @dopsR_copy @dopsR_store))) (And.intro (And.intro (And.intro (And.intro @dopsR_alloc @dopsR_box) @dopsR_make) (And.intro @dopsR_take @dopsR_pass)) (And.intro (And.intro (And.intro @dopsR_skip @sops_take') @sops_pass) (And.intro @sops_skip @dopsX_skip)))))
def vup:=(And.intro (And.intro (And.intro (And.intro (And.intro @isPick_no @worldless_yes) (And.intro @frm_nil (And.intro @past_nil' @past_cons'))) (And.intro @frm_cons @piv_nil')) (And.intro (And.intro (And.intro @piv_cons' @quiet_nil') @quiet_cons') (And.intro @sget_nil' @sget_cons'))) (And.intro (And.intro (And.intro (And.intro @true_and @and_true) @Bool.not_true) (And.intro @Bool.not_false @Int.natCast_nonneg)) (And.intro (And.intro @decide_true @decide_false) (And.intro @ele_nil @ele_cons))))
end Go.Am
namespace Go.Am
def Low (v:Value):Prop:=∀ (n:Nat) (ρ:Nat→Loc),VRel n ρ v v
theorem Low.atom {v:Value} (h:Am.atom v=true):Low v:=fun _ _=>.atom h
theorem Low.agg {xs:Array Value} (h : ∀ x∈xs.toList,Low x):Low (.agg xs):=fun n ρ=>.agg rfl fun i hi=>by
 have:xs.getD i undef=xs[i]:=by simp [Array.getD,hi]
 rw [this]; exact h _ (by simp) n ρ
theorem Low.tuple {xs:Array Value} (h : ∀ x∈xs.toList,Low x):Low (.tuple xs):=fun n ρ=>.tuple rfl fun i hi=>by
 have:xs.getD i undef=xs[i]:=by simp [Array.getD,hi]
 rw [this]; exact h _ (by simp) n ρ
theorem Low.int (k:IntKind) (n:Int):Low (.int k n):=.atom rfl
theorem Low.bool (b:Bool):Low (.bool b):=.atom rfl
theorem Low.pair {a b:Value} (ha:Low a) (hb:Low b):Low (.tuple #[a,b]):=.tuple fun x hx=>by
 simp only [List.mem_cons,List.not_mem_nil,or_false] at hx; rcases hx with rfl | rfl <;> assumption
theorem view_ext {h h' : Zh} (he:Ext (fun _=>False) h h') {i:Nat} {x:List Value×TypeId×Bool} (hv:view h i=some x):view h' i=some x:=by
 unfold view at hv ⊢
 have hi:i<h.length:=Wn (by unfold view; exact hv)
 rw [he.2 i hi id]; exact hv
theorem side_ext {h h' : Zh} (he:Ext (fun _=>False) h h') {i:Nat} (hi:i<h.length):side h' i=side h i:=by
 unfold side; rw [he.2 i hi id]
theorem ACall.forget {P:Program} [Tabs P] {f:FuncId} {args:List Value} {h:Zh} {v:Value} (hv:Low v) (c:ACall P f args h fun v' h'=>v' = v∧Ext (fun _=>False) h h'):Wo P f args h v:=by
 refine ⟨c.1,fun n ρ args' w s hr=>(c.2 n ρ args' w s hr).mono ?_⟩
 rintro en w' ⟨_,v',ρ',h',he,⟨rfl,hx⟩,hvr,hE,hS⟩
 refine ⟨_,v',ρ',h,he,⟨rfl,rfl⟩,(hv h.length ρ).restrict hvr hE.agree,?_,?_⟩
 · refine ⟨Nat.le_refl _,hE.agree,hE.wsize,hE.os,hE.tape,hE.output,hE.keep,?_,?_⟩
   · rintro k ⟨i,c,e,hw,hk⟩
     exact .inr ⟨i,c,e,hw,by rw [← hk,hE.agree i (Wn hw)]⟩
   · rintro k ⟨i,x,hw,hk⟩
     exact .inr ⟨i,x,hw,by rw [← hk,hE.agree i (Wn hw)]⟩
 · refine ⟨fun i c e ro hw hns=>?_,fun i b hi hb=>?_,fun i j x y hi hj hb=>hS.inj i j x y (view_ext hx hi) (view_ext hx hj) hb,fun p hp=>⟨(hS.tab p hp).1,?_⟩⟩
   · obtain ⟨c',fr,h1,h2,h3,h4,h5⟩:=hS.cells i c e ro (view_ext hx hw) (by rw [side_ext hx (Wn hw)]; exact hns)
     obtain ⟨c0,fr0,-,-,h30,h40,-⟩:=s.cells i c e ro hw hns
     exact ⟨c',fr,h1,h2,h3,fun k hk=>(h40 k hk).restrict (h4 k hk) hE.agree,h5⟩
   · obtain ⟨o',h1,h2⟩:=hS.sides i b ((hx.2 i (List.getElem?_eq_some_iff.1 hi).1 id).trans hi) hb
     obtain ⟨o0,-,h3⟩:=s.sides i b hi hb
     exact ⟨o',h1,h3.restrict h2 hE.agree⟩
   · rintro ⟨i,c,e,hw,hk⟩
     exact (hS.tab p hp).2 ⟨i,c,e,view_ext hx hw,hk⟩
section
variable {P:Program} {h:Zh} {b o:Nat} {v:Value} {e t:TypeId} {c:List Value} {ro:Bool}
theorem makeI {l:Int} {K:Value→Zh→Prop} (he:elemOf' P t=some e) (hz:Xs P e=some [.int .i64 0]) (hi:(P.info? e).map (fun i=>(i.size,i.bytes))=some (1,8)) (h0:0≤l) (h1:l≤35184372088832) :
  makeK P h t (.int .i64 l) (.int .i64 l) K=K (.slice (some ⟨h.length,0,none⟩) l.toNat l.toNat) (h++[.ints (List.replicate l.toNat 0) e false]):=by
 obtain ⟨i,hi1,hi2⟩:=Option.map_eq_some_iff.1 hi
 simp only [Prod.mk.injEq] at hi2
 simp only [makeK,he,hz,hi1,hi2.1,hi2.2,zblk]
 apply propext
 constructor
 · intro hk; exact hk.2.2.2.2.2.2
 · intro hk
   refine ⟨rfl,by decide,h0,Int.le_refl _,?_,by omega,hk⟩
   omega
theorem loadC {K:Value→Prop} (hb:h[b]? = some (.cells c e ro)) (hs:shp P t=some none) (hv:c[o]? = some v):Xq P h t (.pointer (some ⟨b,o,none⟩)) K=K v:=by
 simp only [Xq,hs,cellK,hb,hv]
theorem loadA {K:Value→Prop} (hb:h[b]? = some (.cells c e ro)) (hs:shp P t=some (some c.length)):Xq P h t (.pointer (some ⟨b,0,none⟩)) K=K (.agg c.toArray):=by
 simp only [Xq,hs,Xo,hb,List.drop_zero,Nat.zero_add,Nat.le_refl,true_and,List.take_length]
theorem storeC {K:Zh→Prop} (hb:h[b]? = some (.cells c e false)) (hs:shp P t=some none) (hv:one v=true) (ho:o<c.length):Xh P h t (.pointer (some ⟨b,o,none⟩)) v K=K (h.set b (.cells (c.set o v) e false)):=by
 simp only [Xh,hs,hb,hv,ho,true_and]
theorem storeA {K:Zh→Prop} {vs:List Value} (hb:h[b]? = some (.cells c e false)) (hs:shp P t=some (some vs.length)) (hv:vs.all one=true) (hl:c.length=vs.length) :
  Xh P h t (.pointer (some ⟨b,0,none⟩)) (.agg vs.toArray) K=K (h.set b (.cells vs e false)):=by
 have hsp:Yh c 0 vs=vs:=by
  unfold Yh
  rw [List.take_zero,List.nil_append,Nat.zero_add,← hl,List.drop_length,List.append_nil]
 simp only [Xh,hs,hb]
 simp [hv,hl,hsp]
end
theorem aw_cut {P:Program} [Tabs P] {sz:Nat} {a b:SCode} {Q:Exit→Env→Zh→Prop} {e:Env} {h:Zh} (k : ∀ N:Env→Zh→Prop,(∀ e h,aw P sz b Q e h→N e h)→aw P sz a (Zg N Q) e h):aw P sz (.seq a b) Q e h:=by
 rw [Zp]; exact k _ fun _ _ h=>h
section
variable {P:Program} {t ft e:TypeId} {b o off sz n k f:Nat} {K:Value→Prop}
theorem fldA (hf:fldOf P t f=some (ft,off)) (hs:esz P ft=some (sz+1)):Xk P t (.pointer (some ⟨b,0,none⟩)) f K=K (.pointer (some ⟨b,off,none⟩)):=by
 simp only [Xk,hf,hs,Nat.zero_add]
 simp
end
end Go.Am
namespace Go.Am
theorem stripC_seq {c:Code} {a b:SCode} (h:Zy c = .seq a b) : ∃ a' b',c = .seq a' b'∧Zy a' = a∧Zy b' = b:=by
 cases c with
 | region id ops d=>cases d <;> simp [Zy] at h
 | seq a' b'=>exact ⟨a',b',rfl,by simpa [Zy] using h⟩
 | _=>simp [Zy] at h
theorem Ze {P:Program} [Tabs P] {sz:Nat} {a b:SCode} {Q:Exit→Env→Zh→Prop} {e:Env} {h:Zh}
  (k : ∀ N:Env→Zh→Prop,(∀ e1 e h,AWS P sz b Q e1 h→ELe e e1→N e h)→aw P sz a (Zg N Q) e h):AWS P sz (.seq a b) Q e h:=by
 intro c hc hok
 obtain ⟨a',b',rfl,rfl,rfl⟩:=stripC_seq hc
 simp only [Yn,Bool.and_eq_true] at hok
 refine awp_seq ((aw_awp a' hok.1 (k (fun e h=>AWS P sz (Zy b') Q e h) fun e1 e h hk hl=>aws_le hk hl)).mono ?_)
 intro x e' h' hq
 cases x <;> first | exact hq b' rfl hok.2 | exact hq
theorem Yl {P:Program} [Tabs P] {sz:Nat} {b:SCode} {Q:Exit→Env→Zh→Prop} {e:Env} {h:Zh} {γ:Type} (inv:γ→Prop) (st:γ→Env×Zh) (μ:γ→Nat) (g0:γ) (h0:inv g0) (he:ELe e (st g0).1) (hh:h=(st g0).2)
  (round : ∀ g,inv g→AWS P sz b (Zg (fun e' h'=>∃ g',inv g'∧μ g' < μ g∧ELe e' (st g').1∧h' = (st g').2) Q) (st g).1 (st g).2):AWS P sz (.loop b) Q e h:=by
 intro c hc hok
 obtain ⟨c',rfl,hb⟩:=stripC_loop hc
 exact awp_loop inv st μ g0 h0 he hh fun g hg=>round g hg c' hb hok
theorem Xd {P:Program} [Tabs P] {f:FuncId} {fn:Func} {sc:SCode} {rs:List ResultVar} {sz:Nat} (hf:P.funcs[f]? = some fn) (hb:fn.body.isSome=true)
  (hent : ∀ (as:Array Value) (w:World),(callFunc f as).run P w = .ok (.enter f as) w) (hn:fn.ntmps=sz) (hrs:fn.results.toList=rs) (hrs2:resSlots sz rs=true)
  (hs:Zy (Zw fn)=sc) (hok:Yn sz (Zw fn)=true) {args:List Value} {h:Zh} {Q:Value→Zh→Prop} (hsz:args.length≤sz) (hk:AWS P sz sc (Zu P rs Q) (Zt 0 args) h):ACall P f args h Q:=by
 subst hn
 refine acall_of_body (c:=Zw fn) hf (by obtain ⟨c,hc⟩:=Option.isSome_iff_exists.1 hb; simp [Zw,hc]) hent hsz (by rw [hrs]; exact hrs2) ((hk _ hs hok).mono ?_)
 intro x e' h' hq
 rw [hrs]
 cases x <;> first | exact ⟨.inl rfl,hq⟩ | exact ⟨.inr rfl,hq⟩ | exact hq.elim
end Go.Am
namespace Go.Am
section
variable {P:Program} (w:World)
theorem part_int {e:TypeId} (he:P.underlying e=some (.int .i64)) {xs:List Int} {i:Nat} (hi:i<xs.length):(part e (xs.map Zd).toArray i).run P w = .ok (Zd (xs.getD i 0)) w:=by
 simp [part,isAgg,run_underlying he,List.getD,List.getElem?_eq_getElem hi]
theorem run_eqFields (d:Nat) (xs ys:List Int) (hxy:xs.length=ys.length) : ∀ (fs:List Field) (i:Nat),(∀ (j:Nat) (f:Field),fs[j]? = some f→f.name≠"_"∧P.underlying f.type=some (.int .i64)∧f.offset=i+j)→i+fs.length=xs.length →
  (Op.eqFields (d+1) (xs.map Zd).toArray (ys.map Zd).toArray fs).run P w = .ok (xs.drop i==ys.drop i) w
 | [],i,_,hl=>by
   rw [Op.eqFields,List.drop_eq_nil_of_le (by simp at hl; omega),List.drop_eq_nil_of_le (by simp at hl; omega)]; rfl
 | f::fs,i,hf,hl=>by
   obtain ⟨h1,h2,h3⟩:=hf 0 f rfl
   rw [Nat.add_zero] at h3
   simp only [List.length_cons] at hl
   have hi:i<xs.length:=by omega
   have px:=part_int (P:=P) w h2 hi
   have py:=part_int (P:=P) w h2 (xs:=ys) (i:=i) (by omega)
   have pe:(Op.equalIn (d+1) f.type (Zd (xs.getD i 0)) (Zd (ys.getD i 0))).run P w = .ok (xs.getD i 0==ys.getD i 0) w:=run_equalIn_int w d f.type .i64 .i64 _ _ h2
   have ih:=run_eqFields d xs ys hxy fs (i+1) (fun j g hg=>by
    obtain ⟨g1,g2,g3⟩:=hf (j+1) g (by simpa using hg)
    exact ⟨g1,g2,by omega⟩) (by omega)
   rw [Op.eqFields,if_pos h1,h3]
   simp only [Sem.run_bind,px,py,pe,Result.andThen_ok,Sem.run_ite]
   have e1:xs.drop i=xs.getD i 0::xs.drop (i+1):=by rw [List.drop_eq_getElem_cons hi]; simp [List.getD,hi]
   have e2:ys.drop i=ys.getD i 0::ys.drop (i+1):=by rw [List.drop_eq_getElem_cons (by omega)]; simp [List.getD,show i<ys.length by omega]
   rw [e1,e2,List.cons_beq_cons]
   cases hb:(xs.getD i 0==ys.getD i 0)
   · simp
   · simp only [Bool.not_true,Bool.false_eq_true,if_false,Bool.true_and]
     exact ih
end
theorem eqT_struct {P:Program} [Tabs P] {t:TypeId} {n:Nat} (ht:P.underlying t=some (.struct (P.fieldsOf t))) (hp:P.stoodInHeld t=false) (hm:P.eqGuardType P.depth t=false)
  (hf : ∀ (j:Nat) (f:Field),(P.fieldsOf t).toList[j]? = some f→f.name≠"_"∧P.underlying f.type=some (.int .i64)∧f.offset=j) (hn:(P.fieldsOf t).toList.length=n):EqT P t n:=by
 intro xs ys w x y hx hy
 have h1:(Op.equalIn 10000 t (.agg (xs.map Zd).toArray) (.agg (ys.map Zd).toArray)).run P w = .ok (xs==ys) w:=by
  rw [show (10000:Nat)=9999+1 from rfl,run_equalIn_agg w 9999 t _ _ ht hp]
  have:=run_eqFields (P:=P) w 9998 xs ys (hx.trans hy.symm) (P.fieldsOf t).toList 0 (fun j f h=>by rw [Nat.zero_add]; exact hf j f h) (by rw [hn,hx,Nat.zero_add])
  simpa using this
 refine ⟨?_,?_⟩
 · rw [Sem.run_bind,run_eqGuard_agg w .eql t x y _ _ hm,Result.andThen_ok,run_eql_struct,h1]; rfl
 · rw [Sem.run_bind,run_eqGuard_agg w .neq t x y _ _ hm,Result.andThen_ok,run_neq_struct,h1]; rfl
theorem IntSl.copyOwn {P:Program} {h:Zh} {v:Value} {xs:List Int} {e t t2:TypeId} {b0:Nat} (hv:IntSl h v xs) (hx:xs≠[]) (hT:appT P t t2=some (e,1,8)) (hn:xs.length<1099511627776) (hb0:h[b0]? = some (.ints [] e false)) {K:Value→Zh→Prop}
  (hk:K (.slice (some ⟨h.length,0,some 0⟩) xs.length xs.length) (h++[.ints xs e false])):Ys P h t t2 (.slice (some ⟨b0,0,none⟩) 0 0) v K:=by
 have hpos:0<xs.length:=List.length_pos_iff.2 hx
 have hgo:putK h e 1 8 (.slice (some ⟨b0,0,none⟩) 0 0) xs.length (xs.map Zd) K:=by
  simp only [putK]
  refine ⟨fun h=>by omega,fun _=>⟨by omega,?_⟩⟩
  simp only [Xo,hb0]
  refine ⟨by simp,?_⟩
  have e1:mkb (List.map Zd (List.take (0*1) (List.drop 0 []))++xs.map Zd) e = .ints xs e false:=by
   have:Xa (xs.map Zd)=some xs:=intsOf_map' _
   simp [mkb,this]
  simp only [e1]
  simpa using hk
 simp only [Ys,hT]
 have hv':=hv
 rcases hv with ⟨_,h1⟩ | ⟨b,o,sp,cap,c,e',ro,rfl,hc,hb,_⟩
 · exact absurd h1 hx
 · exact ⟨fun h=>absurd (List.length_eq_zero_iff.1 h) hx,fun _=>hv'.cells hx b o sp _ cap rfl hgo⟩
end Go.Am
namespace Go.Am
def PairSl (h:Zh) (v:Value) (ps:List (Int×Int)):Prop :=
 (v = .slice none 0 0∧ps=[])∨∃ b o sp cap c e ro,v = .slice (some ⟨b,o,sp⟩) ps.length cap∧ps.length≤cap∧view h b=some (c,e,ro) ∧
  ∀ i,i<ps.length→c[o+i*2]? = some (Zd (ps.getD i (0,0)).1)∧c[o+i*2+1]? = some (Zd (ps.getD i (0,0)).2)
section
variable {P:Program} {h:Zh} {v:Value} {ps:List (Int×Int)}
theorem PairSl.len (hv:PairSl h v ps) (K:Value→Prop):lenK v K=K (Zd ps.length):=by
 rcases hv with ⟨rfl,rfl⟩ | ⟨b,o,sp,cap,c,e,ro,rfl,_⟩ <;> rfl
theorem PairSl.idx (hv:PairSl h v ps) {t e:TypeId} (he:elemOf' P t=some e) (hs:esz P e=some 2) {k:IntKind} {i:Nat} (hi:i<ps.length) (K:Value→Prop):Yy P t v (.int k i) K=K (Wb v 2 i):=by
 rcases hv with ⟨rfl,rfl⟩ | ⟨b,o,sp,cap,c,e',ro,rfl,_⟩
 · simp at hi
 · simp only [Yy,he,hs,Wb,Int.toNat_natCast,eq_iff_iff]
   exact ⟨fun h=>h.2.2,fun h=>⟨by omega,by omega,h⟩⟩
theorem Vf {b o n:Nat} {c:List Value} {e:TypeId} {ro:Bool} {K:List Value→Prop} (hv:view h b=some (c,e,ro)) (h1:side h b=false∨0<c.length):Xo h b o n K=(o+n≤c.length∧K ((c.drop o).take n)):=by
 unfold view at hv
 unfold Xo
 cases hb:h[b]? with
 | none=>simp [hb] at hv
 | some B =>
   rw [hb] at hv
   cases B with
   | cells c' e' ro'=>simp [Blk.view] at hv; obtain ⟨rfl,rfl,rfl⟩:=hv; rfl
   | ints ys e' ro'=>simp [Blk.view] at hv; obtain ⟨rfl,rfl,rfl⟩:=hv; simp [List.map_drop,List.map_take]
   | dead=>simp [Blk.view] at hv
   | map es=>simp [Blk.view] at hv; obtain ⟨rfl,_⟩:=hv; rw [Wz hb] at h1; simp [Blk.side] at h1
   | iter m a s l=>simp [Blk.view] at hv; obtain ⟨rfl,_⟩:=hv; rw [Wz hb] at h1; simp [Blk.side] at h1
theorem take_two {c:List Value} {o:Nat} {x y:Value} (hx:c[o]? = some x) (hy:c[o+1]? = some y):(c.drop o).take 2=[x,y]∧o+2≤c.length:=by
 obtain ⟨h1,rfl⟩:=List.getElem?_eq_some_iff.1 hx
 obtain ⟨h2,rfl⟩:=List.getElem?_eq_some_iff.1 hy
 refine ⟨?_,by omega⟩
 rw [List.drop_eq_getElem_cons h1,List.drop_eq_getElem_cons h2]; rfl
theorem PairSl.load (hv:PairSl h v ps) {t:TypeId} (hs:shp P t=some (some 2)) {i:Nat} (hi:i<ps.length) (K:Value→Prop):Xq P h t (Wb v 2 i) K=K (.agg #[Zd (ps.getD i (0,0)).1,Zd (ps.getD i (0,0)).2]):=by
 rcases hv with ⟨rfl,rfl⟩ | ⟨b,o,sp,cap,c,e',ro,rfl,_,hvw,hc⟩
 · simp at hi
 · obtain ⟨h1,h2⟩:=hc i hi
   obtain ⟨h3,h4⟩:=take_two h1 h2
   have hc0:0<c.length:=by omega
   simp only [Wb,Xq,hs,Vf hvw (.inr hc0),h3,h4,true_and]
theorem PairSl.same {h' : Zh} (hv:PairSl h v ps) (hb : ∀ b,Ye v=some b→h'[b]? = h[b]?):PairSl h' v ps:=by
 rcases hv with ⟨rfl,rfl⟩ | ⟨b,o,sp,cap,c,e,ro,rfl,hc,hw,hx⟩
 · exact .inl ⟨rfl,rfl⟩
 · exact .inr ⟨b,o,sp,cap,c,e,ro,rfl,hc,by rw [← hw]; simp only [view,hb b rfl],hx⟩
theorem PairSl.lt (hv:PairSl h v ps) {b:Nat} (hb:Ye v=some b):b<h.length:=by
 rcases hv with ⟨rfl,rfl⟩ | ⟨b',o,sp,cap,c,e,ro,rfl,hc,hw,hx⟩
 · cases hb
 · cases hb; exact Wn hw
theorem PairSl.ext {h' : Zh} (hv:PairSl h v ps) (he:Ext (fun _=>False) h h'):PairSl h' v ps:=hv.same fun b hb=>he.2 b (hv.lt hb) id
theorem PairSl.grow (hv:PairSl h v ps) (g:Zh):PairSl (h++g) v ps:=hv.ext (Ext.app _ _ _)
theorem PairSl.pre {t e:TypeId} {m:Nat} (hv:PairSl h v ps) (he:elemOf' P t=some e) (hs:esz P e=some 2) (hm:m≤ps.length) {K:Value→Prop} (hk : ∀ v',PairSl h v' (ps.take m)→K v'):Xb P t v none (some (Zd m)) none K:=by
 have hl:(ps.take m).length=m:=by simp; omega
 rcases hv with ⟨rfl,rfl⟩ | ⟨b,o,sp,cap,c,e',ro,rfl,hc,hb,hx⟩
 · simp only [List.length_nil,Nat.le_zero_eq] at hm
   subst hm
   simp only [Xb,he,hs,bnd,Option.bind_some,Option.isSome_some]
   exact ⟨trivial,rfl,rfl,rfl,hk _ (.inl ⟨rfl,rfl⟩)⟩
 · simp only [Xb,he,hs,bnd]
   have hx' : ∀ i,i<(ps.take m).length→c[o+i*2]? = some (Zd ((ps.take m).getD i (0,0)).1)∧c[o+i*2+1]? = some (Zd ((ps.take m).getD i (0,0)).2):=fun i hi=>by
    rw [hl] at hi
    obtain ⟨h1,h2⟩:=hx i (by omega)
    rw [h1,h2]; simp [List.getD,hi]
   refine ⟨by omega,by omega,by omega,fun _=>hk _ (.inr ⟨b,o,none,cap,c,e',ro,?_,by rw [hl]; omega,hb,hx'⟩),fun _=>.inl ⟨rfl,hk _ (.inr ⟨b,o,some 0,cap,c,e',ro,?_,by rw [hl]; omega,hb,hx'⟩)⟩⟩
   · rw [hl]; simp
   · rw [hl]; simp
def Yv (ps:List (Int×Int)):List Int:=ps.flatMap fun p=>[p.1,p.2]
theorem Xx : ∀ ps:List (Int×Int),(Yv ps).length=ps.length*2
 | []=>rfl
 | p::ps=>by
   have:=Xx ps
   simp only [Yv,List.flatMap_cons,List.length_append,List.length_cons,List.length_nil] at this ⊢; omega
theorem flatP_get : ∀ (ps:List (Int×Int)) (i:Nat),i<ps.length→(Yv ps)[i*2]? = some (ps.getD i (0,0)).1∧(Yv ps)[i*2+1]? = some (ps.getD i (0,0)).2
 | [],_,h=>by simp at h
 | p::ps,0,_=>⟨rfl,rfl⟩
 | p::ps,i+1,h=>by
   have:=flatP_get ps i (by simpa using h)
   have e1:(i+1)*2=i*2+2:=by omega
   have e2:Yv (p::ps)=p.1::p.2::Yv ps:=rfl
   rw [e1,e2]
   simpa [List.getD] using this
theorem PairSl.cells (hv:PairSl h v ps) (hn:ps≠[]) {b o:Nat} {sp:Option Nat} {l cap:Nat} (he:v = .slice (some ⟨b,o,sp⟩) l cap) {K:List Value→Prop} (hk:K ((Yv ps).map Zd)):Xo h b o (ps.length*2) K:=by
 rcases hv with ⟨rfl,rfl⟩ | ⟨b',o',sp',cap',c,e',ro,rfl,hc,hb,hx⟩
 · cases he
 · cases he
   have hpos:0<ps.length:=List.length_pos_iff.2 hn
   have hlen:o+ps.length*2≤c.length:=by
    have:=(List.getElem?_eq_some_iff.1 (hx (ps.length-1) (by omega)).2).1
    omega
   rw [Vf hb (.inr (by omega))]
   refine ⟨hlen,?_⟩
   have e1:(c.drop o).take (ps.length*2)=(Yv ps).map Zd:=by
    refine List.ext_getElem? fun k=>?_
    by_cases hk:k<ps.length*2
    · rw [List.getElem?_take,if_pos hk,List.getElem?_drop,List.getElem?_map]
      have h1:=hx (k / 2) (by omega)
      have h2:=flatP_get ps (k / 2) (by omega)
      rcases Nat.mod_two_eq_zero_or_one k with hm | hm
      · have e:k=k / 2*2:=by omega
        rw [e,h2.1,h1.1]; rfl
      · have e:k=k / 2*2+1:=by omega
        rw [e,h2.2,← Nat.add_assoc,h1.2]; rfl
    · rw [List.getElem?_eq_none (by simp; omega),List.getElem?_eq_none (by simp [Xx]; omega)]
   rw [e1]; exact hk
theorem PairSl.copy {t t2 e:TypeId} {b0:Nat} (hv:PairSl h v ps) (hT:appT P t t2=some (e,2,16)) (hn:ps.length<1099511627776) (hb0:h[b0]? = some (.ints [] e false)) {K:Value→Zh→Prop}
  (hk : ∀ r g,PairSl (h++g) r ps→K r (h++g)):Ys P h t t2 (.slice (some ⟨b0,0,none⟩) 0 0) v K:=by
 simp only [Ys,hT]
 rcases Classical.em (ps=[]) with hx | hx
 · subst hx
   have hz:K (.slice (some ⟨b0,0,none⟩) 0 0) h:=by
    have:=hk (.slice (some ⟨b0,0,none⟩) 0 0) [] (.inr ⟨b0,0,none,0,[],e,false,rfl,Nat.le_refl _,by simp [view,hb0,Blk.view],fun i hi=>by simp at hi⟩)
    simpa using this
   have hput:putK h e 2 16 (.slice (some ⟨b0,0,none⟩) 0 0) 0 [] K:=by
    simp only [putK]; exact ⟨fun _=>⟨fun _=>hz,fun h=>absurd rfl h⟩,fun h=>by omega⟩
   rcases hv with ⟨rfl,_⟩ | ⟨b,o,sp,cap,c,e',ro,rfl,hc,hb,_⟩
   · exact ⟨rfl,hput⟩
   · exact ⟨fun _=>hput,fun h=>absurd rfl h⟩
 · have hpos:0<ps.length:=List.length_pos_iff.2 hx
   have hgo:putK h e 2 16 (.slice (some ⟨b0,0,none⟩) 0 0) ps.length ((Yv ps).map Zd) K:=by
    simp only [putK]
    refine ⟨fun h=>by omega,fun _=>⟨by omega,?_⟩⟩
    simp only [Xo,hb0]
    refine ⟨by simp,hk _ _ (.inr ⟨h.length,0,some 0,_,(Yv ps).map Zd,e,false,by simp; rfl,by omega,?_,fun i hi=>?_⟩)⟩
    · simp [view,mkb,intsOf_map',Blk.view]
    · have:=flatP_get ps i hi
      simp [this]
   have hv':=hv
   rcases hv with ⟨_,h1⟩ | ⟨b,o,sp,cap,c,e',ro,rfl,hc,hb,_⟩
   · exact absurd h1 hx
   · exact ⟨fun h=>absurd (List.length_eq_zero_iff.1 h) hx,fun _=>hv'.cells hx rfl hgo⟩
end
section read
variable {H:Type} {enc:TypeId×Value→H} {P:Program} {w:World} {base:Nat} {r:Reach}
end read
section trods
open Go.ChangeShapes
variable {H:Type} {enc:TypeId×Value→H} {P:Program} {w:World} {base:Nat} {spare:Nat→Bool} {held:Bool}
end trods
end Go.Am
namespace Go.Am
theorem flatP_app (a b:List (Int×Int)):Yv (a++b)=Yv a++Yv b:=List.flatMap_append
def OwnP (e:TypeId) (h:Zh) (v:Value) (ps:List (Int×Int)):Prop :=
 (v = .slice none 0 0∧ps=[])∨∃ (b:Nat) (ys:List (Int×Int)),v = .slice (some ⟨b,0,some 0⟩) ps.length (ps.length+ys.length)∧h[b]? = some (.ints (Yv ps++Yv ys) e false)
section
variable {P:Program} {e:TypeId} {h:Zh} {v:Value} {ps:List (Int×Int)}
theorem OwnP.pair (ho:OwnP e h v ps):PairSl h v ps:=by
 rcases ho with ⟨rfl,rfl⟩ | ⟨b,ys,rfl,hb⟩
 · exact .inl ⟨rfl,rfl⟩
 · refine .inr ⟨b,0,some 0,_,(Yv ps++Yv ys).map Zd,e,false,rfl,by omega,by simp [view,hb,Blk.view],fun i hi=>?_⟩
   obtain ⟨h1,h2⟩:=flatP_get ps i hi
   have l1:=(List.getElem?_eq_some_iff.1 h1).1
   have l2:=(List.getElem?_eq_some_iff.1 h2).1
   rw [Nat.zero_add,List.getElem?_map,List.getElem?_map,List.getElem?_append_left l1,List.getElem?_append_left l2,h1,h2]
   exact ⟨rfl,rfl⟩
theorem OwnP.same {h' : Zh} (ho:OwnP e h v ps) (hb : ∀ b,Ye v=some b→h'[b]? = h[b]?):OwnP e h' v ps:=by
 rcases ho with ho | ⟨b,ys,rfl,hb'⟩
 · exact .inl ho
 · exact .inr ⟨b,ys,rfl,by rw [hb b rfl]; exact hb'⟩
theorem OwnP.lt (ho:OwnP e h v ps) {b:Nat} (hb:Ye v=some b):b<h.length:=ho.pair.lt hb
theorem OwnP.ext {h' : Zh} (ho:OwnP e h v ps) (he:Ext (fun _=>False) h h'):OwnP e h' v ps:=ho.same fun b hb=>he.2 b (ho.lt hb) id
theorem OwnP.append {x y:Int} {t t2:TypeId} {b2 c2:Nat} {c:Bool} (ho:OwnP e h v ps) (hT:appT P t t2=some (e,2,16)) (hn:ps.length<1099511627776) (hb2:h[b2]? = some (.ints [x,y] e c)) {K:Value→Zh→Prop}
  (hk : ∀ v' h',OwnP e h' v' (ps++[(x,y)])→Ext (fun i=>Ye v=some i) h h'→(Ye v' = Ye v∨∃ b,Ye v' = some b∧h.length≤b)→K v' h') :
  Ys P h t t2 v (.slice (some ⟨b2,0,none⟩) 1 c2) K:=by
 simp only [Ys,hT,elemsK,Xo,hb2]
 refine ⟨fun h=>by omega,fun _=>⟨by simp,?_⟩⟩
 have hi:Xa (List.map Zd (List.take (1*2) (List.drop 0 [x,y])))=some [x,y]:=rfl
 have hf:Yv (ps++[(x,y)])=Yv ps++[x,y]:=by rw [flatP_app]; rfl
 rcases ho with ⟨rfl,rfl⟩ | ⟨b,ys,rfl,hb⟩
 · simp only [putK]
   refine ⟨fun h=>by omega,fun _=>⟨by omega,hk _ _ (.inr ⟨h.length,[],rfl,?_⟩) (Ext.app _ _ _) (.inr ⟨_,rfl,Nat.le_refl _⟩)⟩⟩
   rw [List.getElem?_append_right (Nat.le_refl _)]
   simp [mkb,Xa,Yv]
 · simp only [putK,hb,hi]
   refine ⟨fun hroom=>⟨fun h=>by omega,fun _=>⟨rfl,?_,?_⟩⟩,fun hroom=>⟨by omega,trivial,rfl,by simp [view,hb,Blk.view],?_⟩⟩
   · have h1:=Xx ps
     have h2:=Xx ys
     simp only [List.length_append,List.length_cons,List.length_nil]; omega
   · cases ys with
     | nil=>simp only [List.length_nil] at hroom; omega
     | cons p ys =>
       refine hk _ _ (.inr ⟨b,ys,by simp; omega,?_⟩) (Ext.set _ rfl) (.inl rfl)
       rw [List.getElem?_set_self (List.getElem?_eq_some_iff.1 hb).1,hf]
       have h1:=Xx ps
       have e1:Yv (p::ys)=p.1::p.2::Yv ys:=rfl
       have e2:Yh (Yv ps++Yv (p::ys)) (0+ps.length*2) [x,y]=Yv ps++[x,y]++Yv ys:=by
        rw [e1,Nat.zero_add,← h1]
        simp [Yh]
       rw [e2]
   · obtain rfl:ys=[]:=by cases ys with | nil=>rfl | cons y ys=>simp at hroom
     simp only [Xo,hb]
     have h1:=Xx ps
     have e0:Yv ([]:List (Int×Int))=[]:=rfl
     refine ⟨by simp [h1],hk _ _ (.inr ⟨h.length,[],by simp,?_⟩) ?_ (.inr ⟨_,rfl,Nat.le_refl _⟩)⟩
     · rw [List.getElem?_append_right (by simp)]
       have:Xa (List.map Zd (List.take (ps.length*2) (List.drop 0 (Yv ps++Yv [])))++List.map Zd (List.take (1*2) (List.drop 0 [x,y])))=some (Yv ps++[x,y]):=by
        rw [← List.map_append,e0]; simp only [List.drop_zero,List.append_nil,← h1,List.take_length]; exact intsOf_map' _
       rw [e0,List.append_nil] at this
       simp only [mkb,e0,List.append_nil,this,List.length_set,Nat.sub_self,List.getElem?_cons_zero,hf]
     · exact (Ext.set (S:=fun i=>Ye (.slice (some ⟨b,0,some 0⟩) ps.length (ps.length+([]:List (Int×Int)).length))=some i) .dead rfl).trans (Ext.app _ _ _)
end
end Go.Am
namespace Go.Am
def notI:Value→Bool
 | .int .i64 _=>false
 | _=>true
theorem intsOf_no {w:Value} {l:List Value} (hw:notI w=true):Xa (w::l)=none:=by
 cases w with
 | int k n=>cases k <;> first | rfl | (simp [notI] at hw)
 | _=>rfl
theorem mkb_no {ws:List Value} {e:TypeId} (hne:ws≠[]) (hw : ∀ w∈ws,notI w=true):mkb ws e = .cells ws e false:=by
 cases ws with
 | nil=>exact absurd rfl hne
 | cons w l=>rw [mkb,intsOf_no (hw w (by simp))]
def Each {α β:Type} (R:α→β→Prop):List α→List β→Prop
 | [],[]=>True
 | a::as,b::bs=>R a b∧Each R as bs
 | _,_=>False
section
variable {α β:Type} {R S:α→β→Prop}
theorem Each.len : ∀ {as:List α} {bs:List β},Each R as bs→as.length=bs.length
 | [],[],_=>rfl
 | _::_,_::_,h=>by rw [List.length_cons,List.length_cons,Each.len h.2]
 | [],_::_,h=>h.elim
 | _::_,[],h=>h.elim
theorem Each.app : ∀ {as as' : List α} {bs bs' : List β},Each R as bs→Each R as' bs'→Each R (as++as') (bs++bs')
 | [],_,[],_,_,h'=>h'
 | _::_,_,_::_,_,h,h'=>⟨h.1,Each.app h.2 h'⟩
 | [],_,_::_,_,h,_=>h.elim
 | _::_,_,[],_,h,_=>h.elim
theorem Each.imp : ∀ {as:List α} {bs:List β},Each R as bs→(∀ a b,R a b→S a b)→Each S as bs
 | [],[],_,_=>trivial
 | _::_,_::_,h,hi=>⟨hi _ _ h.1,Each.imp h.2 hi⟩
 | [],_::_,h,_=>h.elim
 | _::_,[],h,_=>h.elim
theorem Each.get (da:α) (db:β) : ∀ {as:List α} {bs:List β},Each R as bs→∀ {k},k<bs.length→R (as.getD k da) (bs.getD k db)
 | [],[],_,k,hk=>by simp at hk
 | _::_,_::_,h,0,_=>h.1
 | _::_,_::_,h,k+1,hk=>by simpa using Each.get da db h.2 (k:=k) (by simpa using hk)
 | [],_::_,h,_,_=>h.elim
 | _::_,[],h,_,_=>h.elim
theorem Each.mem : ∀ {as:List α} {bs:List β},Each R as bs→∀ a∈as,∃ b,R a b
 | [],[],_,_,h=>by cases h
 | _::_,_::_,h,a,ha=>by
   rcases List.mem_cons.1 ha with rfl | ha
   · exact ⟨_,h.1⟩
   · exact Each.mem h.2 a ha
 | [],_::_,h,_,_=>h.elim
 | _::_,[],h,_,_=>h.elim
end
def ValSl (h:Zh) (v:Value) (ws:List Value):Prop :=
 (v = .slice none 0 0∧ws=[])∨∃ b o sp cap c e ro,v = .slice (some ⟨b,o,sp⟩) ws.length cap∧ws.length≤cap∧view h b=some (c,e,ro)∧(c.drop o).take ws.length=ws
section
variable {P:Program} {h:Zh} {v:Value} {ws:List Value}
theorem ValSl.len (hv:ValSl h v ws) (K:Value→Prop):lenK v K=K (Zd ws.length):=by
 rcases hv with ⟨rfl,rfl⟩ | ⟨b,o,sp,cap,c,e,ro,rfl,_⟩ <;> rfl
theorem ValSl.idx (hv:ValSl h v ws) {t e:TypeId} (he:elemOf' P t=some e) (hs:esz P e=some 1) {k:IntKind} {i:Nat} (hi:i<ws.length) (K:Value→Prop) :
  Yy P t v (.int k i) K=K (Wb v 1 i):=by
 rcases hv with ⟨rfl,rfl⟩ | ⟨b,o,sp,cap,c,e',ro,rfl,_⟩
 · simp at hi
 · simp only [Yy,he,hs,Wb,Int.toNat_natCast,eq_iff_iff]
   exact ⟨fun h=>h.2.2,fun h=>⟨by omega,by omega,h⟩⟩
theorem ValSl.load (hv:ValSl h v ws) {t:TypeId} (hs:shp P t=some none) {i:Nat} (hi:i<ws.length) (K:Value→Prop):Xq P h t (Wb v 1 i) K=K (ws.getD i undef):=by
 rcases hv with ⟨rfl,rfl⟩ | ⟨b,o,sp,cap,c,e',ro,rfl,_,hvw,hc⟩
 · simp at hi
 · simp only [Wb,Xq,hs,Nat.mul_one]
   refine view_cell hvw ?_
   have h1:((c.drop o).take ws.length)[i]? = ws[i]?:=by rw [hc]
   rw [List.getElem?_take_of_lt hi,List.getElem?_drop] at h1
   rw [h1,List.getD,List.getElem?_eq_getElem hi]; rfl
theorem ValSl.same {h' : Zh} (hv:ValSl h v ws) (hb : ∀ b,Ye v=some b→h'[b]? = h[b]?):ValSl h' v ws:=by
 rcases hv with ⟨rfl,rfl⟩ | ⟨b,o,sp,cap,c,e,ro,rfl,hc,hw,hx⟩
 · exact .inl ⟨rfl,rfl⟩
 · exact .inr ⟨b,o,sp,cap,c,e,ro,rfl,hc,by rw [← hw]; simp only [view,hb b rfl],hx⟩
theorem ValSl.lt (hv:ValSl h v ws) {b:Nat} (hb:Ye v=some b):b<h.length:=by
 rcases hv with ⟨rfl,rfl⟩ | ⟨b',o,sp,cap,c,e,ro,rfl,hc,hw,hx⟩
 · cases hb
 · cases hb; exact Wn hw
theorem ValSl.ext {h' : Zh} (hv:ValSl h v ws) (he:Ext (fun _=>False) h h'):ValSl h' v ws:=hv.same fun b hb=>he.2 b (hv.lt hb) id
theorem ValSl.elems (hv:ValSl h v ws) {K:Nat→List Value→Prop} (hk:K ws.length ws):elemsK h 1 v K:=by
 rcases hv with ⟨rfl,rfl⟩ | ⟨b,o,sp,cap,c,e,ro,rfl,hc,hw,hx⟩
 · exact ⟨rfl,hk⟩
 · refine ⟨fun h0=>?_,fun h0=>?_⟩
   · obtain rfl:ws=[]:=List.length_eq_zero_iff.1 h0
     exact hk
   · have hc0:0<c.length:=by
      have:=congrArg List.length hx
      rw [List.length_take,List.length_drop] at this
      omega
     rw [Vf hw (.inr hc0),Nat.mul_one,hx]
     refine ⟨?_,hk⟩
     have:=congrArg List.length hx
     rw [List.length_take,List.length_drop] at this
     omega
end
def OwnV (e:TypeId) (h:Zh) (v:Value) (ws:List Value):Prop :=
 (v = .slice none 0 0∧ws=[])∨∃ (b:Nat) (ys:List Value),v = .slice (some ⟨b,0,some 0⟩) ws.length (ws.length+ys.length)∧ws≠[]∧h[b]? = some (.cells (ws++ys) e false)
section
variable {P:Program} {e:TypeId} {h:Zh} {v:Value} {ws:List Value}
theorem OwnV.val (ho:OwnV e h v ws):ValSl h v ws:=by
 rcases ho with ⟨rfl,rfl⟩ | ⟨b,ys,rfl,hne,hb⟩
 · exact .inl ⟨rfl,rfl⟩
 · exact .inr ⟨b,0,some 0,_,ws++ys,e,false,rfl,by omega,by simp [view,hb,Blk.view],by simp⟩
theorem OwnV.same {h' : Zh} (ho:OwnV e h v ws) (hb : ∀ b,Ye v=some b→h'[b]? = h[b]?):OwnV e h' v ws:=by
 rcases ho with ho | ⟨b,ys,rfl,hne,hb'⟩
 · exact .inl ho
 · exact .inr ⟨b,ys,rfl,hne,by rw [hb b rfl]; exact hb'⟩
theorem OwnV.lt (ho:OwnV e h v ws) {b:Nat} (hb:Ye v=some b):b<h.length:=ho.val.lt hb
theorem OwnV.ext {h' : Zh} (ho:OwnV e h v ws) (he:Ext (fun _=>False) h h'):OwnV e h' v ws:=ho.same fun b hb=>he.2 b (ho.lt hb) id
theorem OwnV.blk (ho:OwnV e h v ws) {b:Nat} (hb:Ye v=some b) : ∃ c,h[b]? = some (.cells c e false):=by
 rcases ho with ⟨rfl,rfl⟩ | ⟨b',ys,rfl,hne,hb'⟩
 · cases hb
 · cases hb; exact ⟨_,hb'⟩
theorem OwnV.app {t t2:TypeId} {bytes:Nat} {x:Value} {us:List Value} (ho:OwnV e h v ws) (hT:appT P t t2=some (e,1,bytes)) (hx:ValSl h x us) (hw : ∀ w∈ws++us,notI w=true∧one w=true) (hn:(ws.length+us.length)*bytes≤140737488355328)
  {K:Value→Zh→Prop} (hk : ∀ v' h',OwnV e h' v' (ws++us)→Ext (fun i=>Ye v=some i) h h'→(Ye v' = Ye v∨∃ b,Ye v' = some b∧h.length≤b)→K v' h') :
  Ys P h t t2 v x K:=by
 simp only [Ys,hT]
 refine hx.elems ?_
 have hu1:us.all one=true:=List.all_eq_true.2 fun w h=>(hw w (by simp [h])).2
 rcases ho with ⟨rfl,rfl⟩ | ⟨b,ys,rfl,hne,hb⟩
 · simp only [putK]
   refine ⟨fun h0=>?_,fun h0=>⟨by simpa using hn,hk _ _ (.inr ⟨h.length,[],by simp,?_,?_⟩) (Ext.app _ _ _) (.inr ⟨_,rfl,Nat.le_refl _⟩)⟩⟩
   · obtain rfl:us=[]:=List.length_eq_zero_iff.1 h0
     exact hk _ _ (.inl ⟨rfl,rfl⟩) (Ext.refl _ _) (.inl rfl)
   · intro h1; apply h0; rw [List.nil_append] at h1; rw [h1]; rfl
   · rw [List.getElem?_append_right (Nat.le_refl _),Nat.sub_self,List.getElem?_cons_zero,List.nil_append,List.append_nil,mkb_no (fun h1=>h0 (by rw [h1]; rfl)) (fun w h=>(hw w (by simp [h])).1)]
 · simp only [putK,hb]
   refine ⟨fun hroom=>⟨fun h0=>?_,fun h0=>⟨hu1,?_,?_⟩⟩,fun hroom=>⟨hn,trivial,hu1,by simp [view,hb,Blk.view],?_⟩⟩
   · obtain rfl:us=[]:=List.length_eq_zero_iff.1 h0
     exact hk _ _ (.inr ⟨b,ys,by simp,by simpa using hne,by simpa using hb⟩) (Ext.refl _ _) (.inl rfl)
   · simp only [List.length_append]; omega
   · refine hk _ _ (.inr ⟨b,ys.drop us.length,?_,by simp [hne],?_⟩) (Ext.set _ rfl) (.inl rfl)
     · simp only [List.length_append,List.length_drop]
       have:ws.length+us.length+(ys.length-us.length)=ws.length+ys.length:=by omega
       rw [this]
     · rw [List.getElem?_set_self (List.getElem?_eq_some_iff.1 hb).1]
       simp [Yh,List.drop_append]
   · rw [Vf (c:=ws++ys) (e:=e) (ro:=false) (by simp [view,hb,Blk.view]) (.inl (by rw [Wz hb]; rfl))]
     have e1:List.take (ws.length*1) (List.drop 0 (ws++ys))=ws:=by simp
     refine ⟨by simp,?_⟩
     rw [e1,mkb_no (by simp [hne]) (fun w h=>(hw w h).1)]
     refine hk _ _ (.inr ⟨h.length,[],by simp,by simp [hne],?_⟩) ?_ (.inr ⟨_,rfl,Nat.le_refl _⟩)
     · rw [List.getElem?_append_right (by simp)]
       simp
     · exact (Ext.set (S:=fun i=>Ye (.slice (some ⟨b,0,some 0⟩) ws.length (ws.length+ys.length))=some i) .dead rfl).trans (Ext.app _ _ _)
end
def OwnL (e e2:TypeId) (h:Zh) (v:Value) (Ls:List (List Int)):Prop:=∃ ws,OwnV e h v ws∧Each (OwnSl e2 h) ws Ls
section
variable {P:Program} {e e2:TypeId} {h:Zh} {v:Value} {Ls:List (List Int)}
theorem OwnSl.notI {h:Zh} {v:Value} {xs:List Int} (ho:OwnSl e h v xs):Am.notI v=true∧Am.one v=true:=by
 rcases ho with ⟨rfl,rfl⟩ | ⟨b,ys,rfl,_⟩ <;> exact ⟨rfl,rfl⟩
theorem OwnSl.ints {h:Zh} {v:Value} {xs:List Int} (ho:OwnSl e h v xs) {b:Nat} (hb:Ye v=some b) : ∃ ys,h[b]? = some (.ints ys e false):=by
 rcases ho with ⟨rfl,rfl⟩ | ⟨b',ys,rfl,hb'⟩
 · cases hb
 · cases hb; exact ⟨_,hb'⟩
theorem OwnSl.same {h h' : Zh} {v:Value} {xs:List Int} (ho:OwnSl e h v xs) (hb : ∀ b,Ye v=some b→h'[b]? = h[b]?):OwnSl e h' v xs:=by
 rcases ho with ho | ⟨b,ys,rfl,hb'⟩
 · exact .inl ho
 · exact .inr ⟨b,ys,rfl,by rw [hb b rfl]; exact hb'⟩
theorem OwnL.nil:OwnL e e2 h (.slice none 0 0) []:=⟨[],.inl ⟨rfl,rfl⟩,trivial⟩
theorem OwnL.ext {h' : Zh} (ho:OwnL e e2 h v Ls) (he:Ext (fun _=>False) h h'):OwnL e e2 h' v Ls:=by
 obtain ⟨ws,h1,h2⟩:=ho
 exact ⟨ws,h1.ext he,h2.imp fun w l hw=>hw.same fun b hb=>he.2 b (hw.lt hb) id⟩
theorem OwnL.lt (ho:OwnL e e2 h v Ls) {b:Nat} (hb:Ye v=some b):b<h.length:=by
 obtain ⟨ws,h1,_⟩:=ho; exact h1.lt hb
theorem OwnL.len (ho:OwnL e e2 h v Ls) (K:Value→Prop):lenK v K=K (Zd Ls.length):=by
 obtain ⟨ws,h1,h2⟩:=ho
 rw [h1.val.len,h2.len]
theorem OwnL.app {t t2:TypeId} {bytes:Nat} {x:Value} {Ms:List (List Int)} {us:List Value} (ho:OwnL e e2 h v Ls) (hT:appT P t t2=some (e,1,bytes)) (hx:ValSl h x us) (hu:Each (OwnSl e2 h) us Ms) (hn:(Ls.length+Ms.length)*bytes≤140737488355328)
  {K:Value→Zh→Prop} (hk : ∀ v' h',OwnL e e2 h' v' (Ls++Ms)→Ext (fun i=>Ye v=some i) h h'→(Ye v' = Ye v∨∃ b,Ye v' = some b∧h.length≤b)→K v' h') :
  Ys P h t t2 v x K:=by
 obtain ⟨ws,h1,h2⟩:=ho
 have hall:=h2.app hu
 refine h1.app hT hx (fun w hw=>by obtain ⟨l,hl⟩:=hall.mem w hw; exact hl.notI) (by rw [h2.len,hu.len]; exact hn) fun v' h' ho' hE hb=>hk v' h' ⟨_,ho',hall.imp fun w l hw=>hw.same fun b hb2=>?_⟩ hE hb
 refine hE.2 b (hw.lt hb2) fun hb3=>?_
 obtain ⟨c,hc⟩:=h1.blk hb3
 obtain ⟨ys,hy⟩:=hw.ints hb2
 rw [hc] at hy; cases hy
theorem OwnL.idx (ho:OwnL e e2 h v Ls) {t e' : TypeId} (he:elemOf' P t=some e') (hs:esz P e' = some 1) {k:IntKind} {i:Nat} (hi:i<Ls.length) (K:Value→Prop):Yy P t v (.int k i) K=K (Wb v 1 i):=by
 obtain ⟨ws,h1,h2⟩:=ho
 exact h1.val.idx he hs (by rw [h2.len]; exact hi) K
theorem OwnL.load (ho:OwnL e e2 h v Ls) {t:TypeId} (hs:shp P t=some none) {i:Nat} (hi:i<Ls.length) : ∃ w,OwnSl e2 h w (Ls.getD i [])∧∀ K:Value→Prop,Xq P h t (Wb v 1 i) K=K w:=by
 obtain ⟨ws,h1,h2⟩:=ho
 exact ⟨ws.getD i undef,h2.get undef [] hi,fun K=>h1.val.load hs (by rw [h2.len]; exact hi) K⟩
theorem OwnL.single {w:Value} {l:List Int} (hw:OwnSl e2 h w l):Each (OwnSl e2 (h++[.cells [w] e false])) [w] [l] :=
 ⟨hw.same fun b hb=>by rw [List.getElem?_append_left (hw.lt hb)],trivial⟩
end
theorem OwnSl.cap {P:Program} {e:TypeId} {h:Zh} {v:Value} {xs:List Int} {t:TypeId} (ho:OwnSl e h v xs) (he:elemOf' P t=some e) (hs:esz P e=some 1) {K:Value→Prop}
  (hk : ∀ v',(v' = .slice none 0 0∧xs=[])∨(∃ (b:Nat) (ys:List Int),v' = .slice (some ⟨b,0,none⟩) xs.length xs.length∧h[b]? = some (.ints (xs++ys) e false))→K v') :
  Xb P t v none (some (Zd xs.length)) (some (Zd xs.length)) K:=by
 rcases ho with ⟨rfl,rfl⟩ | ⟨b,ys,rfl,hb⟩
 · simp only [Xb,he,hs,bnd,Option.bind_some,Option.isSome_some]
   exact ⟨trivial,rfl,rfl,rfl,hk _ (.inl ⟨rfl,rfl⟩)⟩
 · simp only [Xb,he,hs,bnd]
   refine ⟨Int.le_refl _,by omega,by omega,by omega,rfl,?_⟩
   have h1:(if (xs.length:Int)=((0:Nat):Int) then 0 else 0+(((0:Nat):Int)).toNat*1)=0:=by split <;> rfl
   have h2:((xs.length:Int)-((0:Nat):Int)).toNat=xs.length:=by omega
   have h3:(xs.length:Int).toNat-((0:Nat):Int).toNat=xs.length:=by simp
   rw [h1,h2,h3]
   exact hk _ (.inr ⟨b,ys,rfl,hb⟩)
def RdL (e2:TypeId) (h:Zh) (v:Value) (Ls:List (List Int)):Prop:=∃ ws,ValSl h v ws∧Each (OwnSl e2 h) ws Ls
section
variable {P:Program} {e e2:TypeId} {h:Zh} {v:Value} {Ls:List (List Int)}
theorem RdL.ext {h' : Zh} (ho:RdL e2 h v Ls) (he:Ext (fun _=>False) h h'):RdL e2 h' v Ls:=by
 obtain ⟨ws,h1,h2⟩:=ho
 exact ⟨ws,h1.ext he,h2.imp fun w l hw=>hw.same fun b hb=>he.2 b (hw.lt hb) id⟩
theorem RdL.len (ho:RdL e2 h v Ls) (K:Value→Prop):lenK v K=K (Zd Ls.length):=by
 obtain ⟨ws,h1,h2⟩:=ho
 rw [h1.len,h2.len]
theorem RdL.idx (ho:RdL e2 h v Ls) {t e' : TypeId} (he:elemOf' P t=some e') (hs:esz P e' = some 1) {k:IntKind} {i:Nat} (hi:i<Ls.length) (K:Value→Prop):Yy P t v (.int k i) K=K (Wb v 1 i):=by
 obtain ⟨ws,h1,h2⟩:=ho
 exact h1.idx he hs (by rw [h2.len]; exact hi) K
theorem RdL.load (ho:RdL e2 h v Ls) {t:TypeId} (hs:shp P t=some none) {i:Nat} (hi:i<Ls.length) : ∃ w,OwnSl e2 h w (Ls.getD i [])∧∀ K:Value→Prop,Xq P h t (Wb v 1 i) K=K w:=by
 obtain ⟨ws,h1,h2⟩:=ho
 exact ⟨ws.getD i undef,h2.get undef [] hi,fun K=>h1.load hs (by rw [h2.len]; exact hi) K⟩
theorem RdL.lit {w:Value} {l:List Int} (hw:OwnSl e2 h w l):RdL e2 (h++[.cells [w] e false]) (.slice (some ⟨h.length,0,none⟩) 1 1) [l] :=
 ⟨[w],.inr ⟨h.length,0,none,1,[w],e,false,rfl,Nat.le_refl _,by simp [view,Blk.view],rfl⟩,OwnL.single hw⟩
theorem buildSl1 {w:Value} {t e:TypeId} (he:elemOf' P t=some e) (hz:Xs P e=some [.slice none 0 0]) (hs:esz P e=some 1) {xs:List Int} (hw:OwnSl e2 h w xs) {K:Value→Zh→Prop} :
  Yo P h t 1 [(0,w)] K=K (.slice (some ⟨h.length,0,none⟩) 1 1) (h++[.cells [w] e false]):=by
 have e1:fillL (fun i=>some (i*1,1)) (reps [.slice none 0 0] 1) [(0,w)]=some [w]:=by
  rcases hw with ⟨rfl,rfl⟩ | ⟨b,ys,rfl,_⟩ <;> simp [fillL,Wl,cellsOf,reps,Yh]
 have e2:mkb [w] e = .cells [w] e false:=mkb_no (by simp) fun w' hw'=>by
  rw [List.mem_singleton.1 hw']; exact hw.notI.1
 simp only [Yo,he,hz,hs,e1,e2]
 exact propext ⟨fun h=>h.2.2.2,fun h=>⟨rfl,by decide,by decide,h⟩⟩
end
end Go.Am
