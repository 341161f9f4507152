/-
  The abstract machine, part I: code without what no step looks at (places in the text, edges where no order is drawn); the code taken apart.
  The abstract machine, part J: regions whose order Go leaves open.
  The abstract machine, part K: a region whose order Go leaves open, told in the text's order: who may stand in whose place.
  The abstract machine, part L: a region whose order Go leaves open comes to what its run in the text's order comes to.
  The abstract machine, part M: a range over a function that hands out the elements of a set of bits.
  The abstract machine, part N: from a call on the abstract heap to a statement: the abstract heap at the start is the whole of the model's, read-only.
  The abstract machine, part O: ints as numbers: what the operators come to on naturals; sets as numbers.
  The abstract machine, part P: slices of ints as lists: how they are read.
  The abstract machine, part Q: slices of ints that a run owns: appended to, cut short.
-/
import Derived.Test.YtaagkbbphgdcdaaDoorPk2
import Derived.ProofKit
import Derived.Carry
import Derived.LaidMore
import Derived.OpenShut
import Derived.SevenTiedAt
import Derived.Laws.Bits64b
import Derived.Lib.TrailingZeros
set_option linter.all false
namespace Go.Am
structure SOp where
 dst:Option Nat
 op:Op
 guard:Option (Nat×Bool)
inductive SCode where
 | skip
 | region (l:List SOp)
 | draw (l:List SOp) (af:List (List Nat))
 | seq (a b:SCode)
 | cond (c:Operand) (a b:SCode)
 | block (id:Nat) (b:SCode)
 | loop (b:SCode)
 | scope (b:SCode)
 | range (f:Operand) (ps:List Nat) (as b:SCode)
 | exit (id:Nat)
 | ret
 | other
def Zs (ops:Array Oper):List SOp:=ops.toList.map fun o=>⟨o.dst,o.op,o.guard.map fun p=>((gslot ops p.1).getD 0,p.2)⟩
def Zy:Code→SCode
 | .skip | .label _=>.skip
 | .region _ ops false=>.region (Zs ops)
 | .region _ ops true=>.draw (Zs ops) (ops.toList.map fun o=>(o.after.toList.filter (Region.binds .any)).map (·.on))
 | .seq a b=>.seq (Zy a) (Zy b)
 | .cond c a b=>.cond c (Zy a) (Zy b)
 | .block id b=>.block id (Zy b)
 | .loop b=>.loop (Zy b)
 | .scope b=>.scope (Zy b)
 | .rangeFunc f ps a b=>.range f ps.toList (Zy a) (Zy b)
 | .exit id=>.exit id
 | .ret=>.ret
 | .goto _ | .refuse _=>.other
def sops (P:Program) [Tabs P] (N:Env→Zh→Prop):List SOp→Env→Zh→Prop
 | [],e,h=>N e h
 | ⟨dst,op,none⟩::l,e,h=>aop P false op (ev e) h (fun v h'=>sops P N l (Zf e dst v) h')
 | ⟨dst,op,some (d,want)⟩::l,e,h=>∃ g:Option Bool,sget e d=gv g∧(g=some want→aop P false op (ev e) h (fun v h'=>sops P N l (Zf e dst v) h'))∧(g≠some want→sops P N l (Zf e dst skp) h)
theorem sops_aops {P:Program} [Tabs P] {sz:Nat} {ops:Array Oper} {N:Env→Zh→Prop} : ∀ (l:List Oper) {e:Env} {h:Zh},(∀ o∈l,opsOK sz ops o=true) →
  sops P N (l.map fun o=>⟨o.dst,o.op,o.guard.map fun p=>((gslot ops p.1).getD 0,p.2)⟩) e h=aops P ops N l e h
 | [],_,_,_=>rfl
 | o::l,e,h,hok=>by
   have ih : ∀ e h,sops P N (l.map fun o=>⟨o.dst,o.op,o.guard.map fun p=>((gslot ops p.1).getD 0,p.2)⟩) e h=aops P ops N l e h:=fun e h=>sops_aops l (fun o ho=>hok o (by simp [ho]))
   have ho:=hok o (by simp)
   simp only [opsOK,Bool.and_eq_true] at ho
   cases hg:o.guard with
   | none=>simp only [List.map_cons,hg,Option.map_none,sops,aops,ih]
   | some p =>
     obtain ⟨j,want⟩:=p
     simp only [hg] at ho
     cases hs:gslot ops j with
     | none=>simp [hs] at ho
     | some d=>simp only [List.map_cons,hg,Option.map_some,sops,aops,ih,hs,Option.getD_some,Option.some.injEq,exists_and_left,exists_eq_left']
def AWS (P:Program) [Tabs P] (sz:Nat) (sc:SCode) (Q:Exit→Env→Zh→Prop) (e:Env) (h:Zh):Prop:=∀ c:Code,Zy c=sc→Yn sz c=true→AWP P sz c Q e h
def aw (P:Program) [Tabs P] (sz:Nat):SCode→(Exit→Env→Zh→Prop)→Env→Zh→Prop
 | .skip,Q,e,h=>Q .normal e h
 | .region l,Q,e,h=>sops P (Q .normal) l e h
 | .seq a b,Q,e,h=>aw P sz a (Zg (aw P sz b Q) Q) e h
 | .block id b,Q,e,h=>aw P sz b (Zl id Q) e h
 | .exit id,Q,e,h=>Q (.exit id) e h
 | .ret,Q,e,h=>Q .ret e h
 | .cond c a b,Q,e,h=>∃ g,ev e c = .bool g∧(g=true→aw P sz a Q e h)∧(g=false→aw P sz b Q e h)
 | sc,Q,e,h=>AWS P sz sc Q e h
theorem aw_awp {P:Program} [Tabs P] {sz:Nat} : ∀ (c:Code) {Q:Exit→Env→Zh→Prop} {e:Env} {h:Zh},Yn sz c=true→aw P sz (Zy c) Q e h→AWP P sz c Q e h
 | .skip,Q,e,h,_,hk=>awp_skip hk
 | .label _,Q,e,h,_,hk=>awp_label hk
 | .region _ ops false,Q,e,h,hc,hk=>awp_region hc (by
    have:=sops_aops (P:=P) (N:=Q .normal) (e:=e) (h:=h) ops.toList (fun o ho=>List.all_eq_true.1 hc o ho)
    rw [← this]; exact hk)
 | .region _ ops true,Q,e,h,hc,hk=>hk _ rfl hc
 | .seq a b,Q,e,h,hc,hk=>by
   simp only [Yn,Bool.and_eq_true] at hc
   refine awp_seq ((aw_awp a hc.1 hk).mono ?_)
   intro x e' h' hq
   cases x <;> first | exact aw_awp b hc.2 hq | exact hq
 | .block id b,Q,e,h,hc,hk=>awp_block (aw_awp b hc hk)
 | .exit id,Q,e,h,_,hk=>awp_exit hk
 | .ret,Q,e,h,_,hk=>awp_ret hk
 | .cond c a b,Q,e,h,hc,⟨g,h1,h2,h3⟩=>by
   simp only [Yn,Bool.and_eq_true] at hc
   exact awp_cond hc.1.1 h1 (fun hg=>aw_awp a hc.1.2 (h2 hg)) (fun hg=>aw_awp b hc.2 (h3 hg))
 | .loop _,Q,e,h,hc,hk=>hk _ rfl hc
 | .rangeFunc ..,Q,e,h,hc,hk=>hk _ rfl hc
 | .scope _,Q,e,h,hc,hk=>hk _ rfl hc
 | .goto _,Q,e,h,hc,hk=>hk _ rfl hc
 | .refuse _,Q,e,h,hc,hk=>hk _ rfl hc
theorem Zj {P:Program} [Tabs P] {sz:Nat} {sc:SCode} {Q:Exit→Env→Zh→Prop} {e:Env} {h:Zh} (hk:aw P sz sc Q e h):AWS P sz sc Q e h:=fun c hc hok=>aw_awp c hok (by rw [hc]; exact hk)
theorem aws_le {P:Program} [Tabs P] {sz:Nat} {sc:SCode} {Q:Exit→Env→Zh→Prop} {e e1:Env} {h:Zh} (hk:AWS P sz sc Q e1 h) (hl:ELe e e1):AWS P sz sc Q e h:=fun c hc hok=>(hk c hc hok).le hl
theorem stripC_loop {c:Code} {b:SCode} (h:Zy c = .loop b) : ∃ c',c = .loop c'∧Zy c' = b:=by
 cases c with
 | region id ops d=>cases d <;> simp [Zy] at h
 | loop c=>exact ⟨c,rfl,by simpa [Zy] using h⟩
 | _=>simp [Zy] at h
theorem aw_loop {P:Program} [Tabs P] {sz:Nat} {b:SCode} {Q:Exit→Env→Zh→Prop} {e:Env} {h:Zh} {γ:Type} (inv:γ→Prop) (st:γ→Env×Zh) (μ:γ→Nat) (g0:γ) (h0:inv g0) (he:ELe e (st g0).1) (hh:h=(st g0).2)
  (round : ∀ g,inv g→aw P sz b (Zg (fun e' h'=>∃ g',inv g'∧μ g' < μ g∧ELe e' (st g').1∧h' = (st g').2) Q) (st g).1 (st g).2):AWS P sz (.loop b) Q e h:=by
 intro c hc hok
 obtain ⟨c',rfl,hb⟩:=stripC_loop hc
 exact awp_loop inv st μ g0 h0 he hh fun g hg=>aw_awp c' hok (by rw [hb]; exact round g hg)
/-! ### Functions -/
def Zw (fn:Func):Code:=fn.body.getD .skip
def Zu (P:Program) (rs:List ResultVar) (Q:Value→Zh→Prop):Exit→Env→Zh→Prop
 | .normal,e,h=>Xu P h e rs (fun vs=>Q (tup vs) h)
 | .ret,e,h=>Xu P h e rs (fun vs=>Q (tup vs) h)
 | _,_,_=>False
theorem Ww {P:Program} [Tabs P] {f:FuncId} {fn:Func} {sc:SCode} {rs:List ResultVar} {sz:Nat} (hf:P.funcs[f]? = some fn) (hb:fn.body.isSome=true)
  (hent : ∀ (as:Array Value) (w:World),(callFunc f as).run P w = .ok (.enter f as) w) (hn:fn.ntmps=sz) (hrs:fn.results.toList=rs) (hrs2:resSlots sz rs=true)
  (hs:Zy (Zw fn)=sc) (hok:Yn sz (Zw fn)=true) {args:List Value} {h:Zh} {Q:Value→Zh→Prop} (hsz:args.length≤sz) (hk:aw P sz sc (Zu P rs Q) (Zt 0 args) h):ACall P f args h Q:=by
 subst hn
 refine acall_of_body (c:=Zw fn) hf (by obtain ⟨c,hc⟩:=Option.isSome_iff_exists.1 hb; simp [Zw,hc]) hent hsz (by rw [hrs]; exact hrs2) ((aw_awp _ hok (by rw [hs]; exact hk)).mono ?_)
 intro x e' h' hq
 rw [hrs]
 cases x <;> first | exact ⟨.inl rfl,hq⟩ | exact ⟨.inr rfl,hq⟩ | exact hq.elim
/-! ### The code taken apart by simp -/
section takeapart
variable (P:Program) [Tabs P] (sz:Nat) (Q:Exit→Env→Zh→Prop) (e:Env) (h:Zh)
theorem Zn:aw P sz .skip Q e h=Q .normal e h:=rfl
theorem Za (l:List SOp):aw P sz (.region l) Q e h=sops P (Q .normal) l e h:=rfl
theorem Zp (a b:SCode):aw P sz (.seq a b) Q e h=aw P sz a (Zg (aw P sz b Q) Q) e h:=rfl
theorem Yt (id:Nat) (b:SCode):aw P sz (.block id b) Q e h=aw P sz b (Zl id Q) e h:=rfl
theorem Yi (id:Nat):aw P sz (.exit id) Q e h=Q (.exit id) e h:=rfl
theorem Ya:aw P sz .ret Q e h=Q .ret e h:=rfl
theorem Xr (b:SCode):aw P sz (.loop b) Q e h=AWS P sz (.loop b) Q e h:=rfl
theorem aw_cond_true {c:Operand} {a b:SCode} (hc:ev e c = .bool true):aw P sz (.cond c a b) Q e h=aw P sz a Q e h:=by simp [aw,hc]
theorem aw_cond_false {c:Operand} {a b:SCode} (hc:ev e c = .bool false):aw P sz (.cond c a b) Q e h=aw P sz b Q e h:=by simp [aw,hc]
end takeapart
section takeapart
variable (P:Program) [Tabs P] (N:Env→Zh→Prop) (e:Env) (h:Zh) (dst:Option Nat) (op:Op) (l:List SOp)
theorem Zb:sops P N [] e h=N e h:=rfl
theorem sops_cons:sops P N (⟨dst,op,none⟩::l) e h=aop P false op (ev e) h (fun v h'=>sops P N l (Zf e dst v) h'):=rfl
theorem sops_take {d:Nat} {want:Bool} (hg:sget e d = .bool want):sops P N (⟨dst,op,some (d,want)⟩::l) e h=aop P false op (ev e) h (fun v h'=>sops P N l (Zf e dst v) h'):=by
 apply propext
 simp only [sops,hg]
 constructor
 · rintro ⟨g,h1,h2,_⟩
   cases g with
   | none=>cases h1
   | some b=>cases h1; exact h2 rfl
 · exact fun hk=>⟨some want,rfl,fun _=>hk,fun h=>absurd rfl h⟩
theorem sops_pass {d:Nat} {want:Bool} (hg:sget e d = .bool (!want)):sops P N (⟨dst,op,some (d,want)⟩::l) e h=sops P N l (Zf e dst skp) h:=by
 apply propext
 simp only [sops,hg]
 constructor
 · rintro ⟨g,h1,_,h3⟩
   cases g with
   | none=>cases h1
   | some b=>cases h1; exact h3 (by cases want <;> simp)
 · exact fun hk=>⟨some (!want),rfl,fun h=>by cases want <;> simp at h,fun _=>hk⟩
theorem sops_skip {d:Nat} {want:Bool} (hg:sget e d=skp):sops P N (⟨dst,op,some (d,want)⟩::l) e h=sops P N l (Zf e dst skp) h:=by
 apply propext
 simp only [sops,hg]
 constructor
 · rintro ⟨g,h1,_,h3⟩
   cases g with
   | none=>exact h3 (by simp)
   | some b=>cases h1
 · exact fun hk=>⟨none,rfl,fun h=>(by cases h),fun _=>hk⟩
end takeapart
end Go.Am
namespace Go.Am
/-! ### Each operation comes to one value and one heap -/
section lin
variable {P:Program} [Tabs P] {K:Value→Prop}
theorem binI_lin {op:BinOp} {k k' : IntKind} {a b:Int} (hk:Zx op k k' a b K) : ∃ v,K v∧∀ K' : Value→Prop,K' v→Zx op k k' a b K':=by
 cases op <;> simp only [Zx] at hk ⊢
 case quo=>exact ⟨_,hk.2.2,fun K' h=>⟨hk.1,hk.2.1,h⟩⟩
 case rem=>exact ⟨_,hk.2.2,fun K' h=>⟨hk.1,hk.2.1,h⟩⟩
 all_goals exact ⟨_,hk.2,fun K' h=>⟨hk.1,h⟩⟩
theorem binK_lin {op:BinOp} {t:TypeId} {x y:Value} (hk:Zv P op t x y K) : ∃ v,K v∧∀ K' : Value→Prop,K' v→Zv P op t x y K':=by
 unfold Zv at hk
 split at hk
 · obtain ⟨v,h1,h2⟩:=binI_lin hk; exact ⟨v,h1,fun K' h=>by simpa [Zv] using h2 K' h⟩
 · obtain ⟨ht,hk⟩:=hk
   split at hk
   · exact ⟨_,hk,fun K' h=>by simp only [Zv]; exact ⟨ht,h⟩⟩
   · exact ⟨_,hk,fun K' h=>by simp only [Zv]; exact ⟨ht,h⟩⟩
   · exact hk.elim
 · split at hk
   · rename_i is js h1 h2
     obtain ⟨ht,hl,hk⟩:=hk
     split at hk
     · exact ⟨_,hk,fun K' h=>by simp only [Zv,h1,h2]; exact ⟨ht,hl,h⟩⟩
     · exact ⟨_,hk,fun K' h=>by simp only [Zv,h1,h2]; exact ⟨ht,hl,h⟩⟩
     · exact hk.elim
   · exact hk.elim
 · obtain ⟨ht,hk⟩:=hk
   split at hk
   · exact ⟨_,hk,fun K' h=>by simp only [Zv]; exact ⟨ht,h⟩⟩
   · exact ⟨_,hk,fun K' h=>by simp only [Zv]; exact ⟨ht,h⟩⟩
   · exact hk.elim
 · obtain ⟨ht,hk⟩:=hk
   split at hk
   · exact ⟨_,hk,fun K' h=>by simp only [Zv]; exact ⟨ht,h⟩⟩
   · exact ⟨_,hk,fun K' h=>by simp only [Zv]; exact ⟨ht,h⟩⟩
   · exact hk.elim
 · exact hk.elim
theorem unK_lin {op:UnOp} {x:Value} (hk:unK op x K) : ∃ v,K v∧∀ K' : Value→Prop,K' v→unK op x K':=by
 unfold unK at hk
 split at hk
 · exact ⟨_,hk,fun K' h=>h⟩
 · exact ⟨_,hk,fun K' h=>h⟩
 · exact ⟨_,hk,fun K' h=>h⟩
 · exact hk.elim
theorem convK_lin {s d:TypeId} {x:Value} (hk:convK P s d x K) : ∃ v,K v∧∀ K' : Value→Prop,K' v→convK P s d x K':=by
 unfold convK at hk
 split at hk
 · split at hk
   · rename_i h1 h2; exact ⟨_,hk,fun K' h=>by simp only [convK,h1,h2]; exact h⟩
   · exact hk.elim
 · exact hk.elim
theorem pickK_lin {c a b:Value} (hk:pickK c a b K) : ∃ v,K v∧∀ K' : Value→Prop,K' v→pickK c a b K':=by
 unfold pickK at hk
 split at hk
 · exact ⟨_,hk,fun K' h=>h⟩
 · exact hk.elim
theorem idxAddrK_lin {t:TypeId} {x i:Value} (hk:Yy P t x i K) : ∃ v,K v∧∀ K' : Value→Prop,K' v→Yy P t x i K':=by
 unfold Yy at hk
 split at hk
 · split at hk
   · split at hk
     · rename_i h1
       split at hk
       · rename_i h2; exact ⟨_,hk.2.2,fun K' h=>by simp only [Yy,h1,h2]; exact ⟨hk.1,hk.2.1,h⟩⟩
       · exact hk.elim
     · exact hk.elim
   · split at hk
     · rename_i h1
       split at hk
       · rename_i h2; exact ⟨_,hk.2.2,fun K' h=>by simp only [Yy,h1,h2]; exact ⟨hk.1,hk.2.1,h⟩⟩
       · exact hk.elim
     · exact hk.elim
   · exact hk.elim
 · exact hk.elim
theorem fieldAddrK_lin {t:TypeId} {x:Value} {f:Nat} (hk:Xk P t x f K) : ∃ v,K v∧∀ K' : Value→Prop,K' v→Xk P t x f K':=by
 unfold Xk at hk
 split at hk
 · split at hk
   · rename_i h1
     split at hk
     · rename_i h2; exact ⟨_,hk.2,fun K' h=>by simp only [Xk,h1,h2]; exact ⟨hk.1,h⟩⟩
     · exact hk.elim
   · exact hk.elim
 · exact hk.elim
theorem partK_lin {t:TypeId} {cs:List Value} {off:Nat} (hk:partK P t cs off K) : ∃ v,K v∧∀ K' : Value→Prop,K' v→partK P t cs off K':=by
 unfold partK at hk
 split at hk
 · rename_i h1
   split at hk
   · rename_i h2; exact ⟨_,hk,fun K' h=>by simp only [partK,h1,h2]; exact h⟩
   · exact hk.elim
 · rename_i h1; exact ⟨_,hk.2,fun K' h=>by simp only [partK,h1]; exact ⟨hk.1,h⟩⟩
 · exact hk.elim
theorem fieldK_lin {t:TypeId} {x:Value} {f:Nat} (hk:fieldK P t x f K) : ∃ v,K v∧∀ K' : Value→Prop,K' v→fieldK P t x f K':=by
 unfold fieldK at hk
 split at hk
 · split at hk
   · rename_i h1
     obtain ⟨v,h2,h3⟩:=partK_lin hk; exact ⟨v,h2,fun K' h=>by simp only [fieldK,h1]; exact h3 K' h⟩
   · exact hk.elim
 · exact hk.elim
theorem indexK_lin {t:TypeId} {x i:Value} (hk:indexK P t x i K) : ∃ v,K v∧∀ K' : Value→Prop,K' v→indexK P t x i K':=by
 unfold indexK at hk
 split at hk
 · split at hk
   · rename_i h1
     split at hk
     · rename_i h2
       obtain ⟨v,h3,h4⟩:=partK_lin hk.2.2; exact ⟨v,h3,fun K' h=>by simp only [indexK,h1,h2]; exact ⟨hk.1,hk.2.1,h4 K' h⟩⟩
     · exact hk.elim
   · exact hk.elim
 · split at hk
   · rename_i h1
     obtain ⟨h0,hk⟩:=hk
     split at hk
     · rename_i b hb
       exact ⟨_,hk,fun K' h=>by simp only [indexK,h1,hb]; exact ⟨h0,h⟩⟩
     · exact hk.elim
   · exact hk.elim
 · exact hk.elim
theorem extractK_lin {x:Value} {i:Nat} (hk:Wk x i K) : ∃ v,K v∧∀ K' : Value→Prop,K' v→Wk x i K':=by
 unfold Wk at hk
 split at hk
 · split at hk
   · rename_i h1; exact ⟨_,hk,fun K' h=>by simp only [Wk,h1]; exact h⟩
   · exact hk.elim
 · exact hk.elim
theorem sliceK_lin {t:TypeId} {x:Value} {lo hi mx:Option Value} (hk:Xb P t x lo hi mx K) : ∃ v,K v∧∀ K' : Value→Prop,K' v→Xb P t x lo hi mx K':=by
 unfold Xb at hk
 split at hk
 · obtain ⟨h1,h2,h3,h4,h5⟩:=hk
   exact ⟨_,h5,fun K' h=>by simp only [Xb]; exact ⟨h1,h2,h3,h4,h⟩⟩
 · rename_i b o sp len cap
   split at hk
   · rename_i h1
     split at hk
     · rename_i h2 h3 h4
       obtain ⟨g1,g2,g3,g4,g5⟩:=hk
       cases sp with
       | none=>exact ⟨_,g4 rfl,fun K' h=>by simp only [Xb,h1,h2,h3,h4]; exact ⟨g1,g2,g3,fun _=>h,fun h=>absurd rfl h⟩⟩
       | some n =>
         rcases g5 (by simp) with ⟨k1,k2⟩ | ⟨k1,⟨k2,k3,k4⟩ | ⟨k2,k3⟩⟩
         · exact ⟨_,k2,fun K' h=>by simp only [Xb,h1,h2,h3,h4]; exact ⟨g1,g2,g3,(fun h=>by cases h),fun _=>.inl ⟨k1,h⟩⟩⟩
         · exact ⟨_,k4,fun K' h=>by simp only [Xb,h1,h2,h3,h4]; exact ⟨g1,g2,g3,(fun h=>by cases h),fun _=>.inr ⟨k1,.inl ⟨k2,k3,h⟩⟩⟩⟩
         · exact ⟨_,k3,fun K' h=>by simp only [Xb,h1,h2,h3,h4]; exact ⟨g1,g2,g3,(fun h=>by cases h),fun _=>.inr ⟨k1,.inr ⟨k2,h⟩⟩⟩⟩
     · rename_i h2 h3 h4
       obtain ⟨g1,g2,g3,g4,g5,g6⟩:=hk
       exact ⟨_,g6,fun K' h=>by simp only [Xb,h1,h2,h3,h4]; exact ⟨g1,g2,g3,g4,g5,h⟩⟩
     · exact hk.elim
   · exact hk.elim
 · split at hk
   · rename_i h1
     split at hk
     · rename_i h2 h3 h4
       obtain ⟨g1,g2,g3,g4⟩:=hk
       exact ⟨_,g4,fun K' h=>by simp only [Xb,h1,h2,h3,h4]; exact ⟨g1,g2,g3,h⟩⟩
     · exact hk.elim
   · exact hk.elim
 · exact hk.elim
theorem arrSliceK_lin {t:TypeId} {x:Value} (hk:arrSliceK P t x K) : ∃ v,K v∧∀ K' : Value→Prop,K' v→arrSliceK P t x K':=by
 unfold arrSliceK at hk
 split at hk
 · rename_i h1; exact ⟨_,hk.2,fun K' h=>by simp only [arrSliceK,h1]; exact ⟨hk.1,h⟩⟩
 · exact hk.elim
theorem nilK_lin {x:Value} (hk:nilK x K) : ∃ v,K v∧∀ K' : Value→Prop,K' v→nilK x K':=by
 unfold nilK at hk
 split at hk
 · exact ⟨_,hk,fun K' h=>h⟩
 · exact ⟨_,hk,fun K' h=>h⟩
 · exact hk.elim
theorem buildK_lin {t:TypeId} {parts:List (Nat×Value)} (hk:Va P t parts K) : ∃ v,K v∧∀ K' : Value→Prop,K' v→Va P t parts K':=by
 unfold Va at hk
 split at hk
 · rename_i h1
   split at hk
   · rename_i h2; exact ⟨_,hk.2,fun K' h=>by simp only [Va,h1,h2]; exact ⟨hk.1,h⟩⟩
   · exact hk.elim
 · exact hk.elim
theorem lenK_lin {x:Value} (hk:lenK x K) : ∃ v,K v∧∀ K' : Value→Prop,K' v→lenK x K':=by
 unfold lenK at hk
 split at hk
 · exact ⟨_,hk,fun K' h=>h⟩
 · exact ⟨_,hk,fun K' h=>h⟩
 · exact hk.elim
theorem mmK_lin {m:Bool} {xs:List Value} (hk:mmK m xs K) : ∃ v,K v∧∀ K' : Value→Prop,K' v→mmK m xs K':=by
 unfold mmK at hk
 split at hk
 · exact ⟨_,hk,fun K' h=>h⟩
 · exact hk.elim
theorem cellK_lin {h:Zh} {b o:Nat} (hk:cellK h b o K) : ∃ v,K v∧∀ K' : Value→Prop,K' v→cellK h b o K':=by
 unfold cellK at hk
 split at hk
 · rename_i h1
   split at hk
   · rename_i h2; exact ⟨_,hk,fun K' h=>by simp only [cellK,h1,h2]; exact h⟩
   · exact hk.elim
 · rename_i h1; exact ⟨_,hk.2,fun K' h=>by simp only [cellK,h1]; exact ⟨hk.1,h⟩⟩
 · exact hk.elim
theorem cellsK_lin {h:Zh} {b o n:Nat} {K:List Value→Prop} (hk:Xo h b o n K) : ∃ v,K v∧∀ K' : List Value→Prop,K' v→Xo h b o n K':=by
 unfold Xo at hk
 split at hk
 · rename_i h1; exact ⟨_,hk.2,fun K' h=>by simp only [Xo,h1]; exact ⟨hk.1,h⟩⟩
 · rename_i h1; exact ⟨_,hk.2,fun K' h=>by simp only [Xo,h1]; exact ⟨hk.1,h⟩⟩
 · exact hk.elim
theorem loadK_lin {h:Zh} {t:TypeId} {p:Value} (hk:Xq P h t p K) : ∃ v,K v∧∀ K' : Value→Prop,K' v→Xq P h t p K':=by
 unfold Xq at hk
 split at hk
 · split at hk
   · rename_i h1
     obtain ⟨v,h2,h3⟩:=cellK_lin hk; exact ⟨v,h2,fun K' h=>by simp only [Xq,h1]; exact h3 K' h⟩
   · rename_i h1
     obtain ⟨v,h2,h3⟩:=cellsK_lin hk; exact ⟨_,h2,fun K' h=>by simp only [Xq,h1]; exact h3 _ h⟩
   · exact hk.elim
 · exact hk.elim
end lin
section lin2
variable {P:Program} [Tabs P] {h:Zh} {K:Value→Zh→Prop}
theorem allocK_lin {t:TypeId} (hk:Xv P h t K) : ∃ v h',K v h'∧∀ K' : Value→Zh→Prop,K' v h'→Xv P h t K':=by
 unfold Xv at hk
 split at hk
 · rename_i h1; exact ⟨_,_,hk,fun K' h=>by simp only [Xv,h1]; exact h⟩
 · exact hk.elim
theorem boxK_lin {t:TypeId} {v:Value} (hk:boxK P h t v K) : ∃ r h',K r h'∧∀ K' : Value→Zh→Prop,K' r h'→boxK P h t v K' :=
 ⟨_,_,hk.2.2,fun _ h=>⟨hk.1,hk.2.1,h⟩⟩
theorem makeK_lin {t:TypeId} {l c:Value} (hk:makeK P h t l c K) : ∃ v h',K v h'∧∀ K' : Value→Zh→Prop,K' v h'→makeK P h t l c K':=by
 unfold makeK at hk
 split at hk
 · split at hk
   · rename_i h1
     split at hk
     · rename_i h2 h3
       obtain ⟨g1,g2,g3,g4,g5,g6,g7⟩:=hk
       exact ⟨_,_,g7,fun K' h=>by simp only [makeK,h1,h2,h3]; exact ⟨g1,g2,g3,g4,g5,g6,h⟩⟩
     · exact hk.elim
   · exact hk.elim
 · exact hk.elim
theorem buildSliceK_lin {t:TypeId} {len:Nat} {parts:List (Nat×Value)} (hk:Yo P h t len parts K) : ∃ v h',K v h'∧∀ K' : Value→Zh→Prop,K' v h'→Yo P h t len parts K':=by
 unfold Yo at hk
 split at hk
 · rename_i h1
   split at hk
   · rename_i h2 h3
     obtain ⟨g1,g2,g3,hk⟩:=hk
     split at hk
     · rename_i h4; exact ⟨_,_,hk,fun K' h=>by simp only [Yo,h1,h2,h3,h4]; exact ⟨g1,g2,g3,h⟩⟩
     · exact hk.elim
   · exact hk.elim
 · exact hk.elim
theorem storeK_lin {t:TypeId} {p v:Value} {K:Zh→Prop} (hk:Xh P h t p v K) : ∃ h',K h'∧∀ K' : Zh→Prop,K' h'→Xh P h t p v K':=by
 unfold Xh at hk
 split at hk
 · split at hk
   · rename_i h1
     split at hk
     · rename_i h2; exact ⟨_,hk.2.2,fun K' h=>by simp only [Xh,h1,h2]; exact ⟨hk.1,hk.2.1,h⟩⟩
     · rename_i h2
       split at hk
       · exact ⟨_,hk.2,fun K' h=>by simp only [Xh,h1,h2]; exact ⟨hk.1,h⟩⟩
       · exact hk.elim
     · exact hk.elim
   · rename_i h1
     split at hk
     · obtain ⟨g1,g2,hk⟩:=hk
       split at hk
       · rename_i h2; exact ⟨_,hk.2,fun K' h=>by simp only [Xh,h1,h2]; exact ⟨g1,g2,hk.1,h⟩⟩
       · rename_i h2
         split at hk
         · rename_i h3; exact ⟨_,hk.2,fun K' h=>by simp only [Xh,h1,h2,h3]; exact ⟨g1,g2,hk.1,h⟩⟩
         · exact hk.elim
       · exact hk.elim
     · exact hk.elim
   · exact hk.elim
 · exact hk.elim
theorem storesK_lin {b o:Nat} {ns:List Value} {K:Zh→Prop} (hk:storesK h b o ns K) : ∃ h',K h'∧∀ K' : Zh→Prop,K' h'→storesK h b o ns K':=by
 obtain ⟨g1,hk⟩:=hk
 split at hk
 · rename_i h2; exact ⟨_,hk.2,fun K' h=>by simp only [storesK,h2]; exact ⟨g1,hk.1,h⟩⟩
 · rename_i h2
   split at hk
   · rename_i h3; exact ⟨_,hk.2,fun K' h=>by simp only [storesK,h2,h3]; exact ⟨g1,hk.1,h⟩⟩
   · exact hk.elim
 · exact hk.elim
theorem copyK_lin {t:TypeId} {d x:Value} (hk:copyK P h t d x K) : ∃ v h',K v h'∧∀ K' : Value→Zh→Prop,K' v h'→copyK P h t d x K':=by
 unfold copyK at hk
 split at hk
 · split at hk
   · rename_i h1
     split at hk
     · rename_i h2
       obtain ⟨l,g1,g2⟩:=cellsK_lin hk
       obtain ⟨h',g3,g4⟩:=storesK_lin g1
       exact ⟨_,h',g3,fun K' h=>by simp only [copyK,h1,h2]; exact g2 _ (g4 _ h)⟩
     · exact hk.elim
   · exact hk.elim
 · exact hk.elim
theorem clearK_lin {t:TypeId} {x:Value} (hk:clearK P h t x K) : ∃ v h',K v h'∧∀ K' : Value→Zh→Prop,K' v h'→clearK P h t x K':=by
 obtain ⟨he,hk⟩:=hk
 split at hk
 · exact ⟨_,_,hk,fun K' h=>⟨he,h⟩⟩
 · exact ⟨_,_,hk,fun K' h=>⟨he,h⟩⟩
 · rename_i b o sp n cp
   by_cases hn:n=0
   · exact ⟨_,_,hk.1 hn,fun K' h=>⟨he,fun _=>h,fun h0=>absurd hn h0⟩⟩
   · have hk:=hk.2 hn
     split at hk
     · rename_i z hz
       obtain ⟨h',g1,g2⟩:=storesK_lin hk
       exact ⟨_,h',g1,fun K' h=>⟨he,fun h0=>absurd h0 hn,fun _=>by rw [hz]; exact g2 _ h⟩⟩
     · rename_i z z2 hz
       obtain ⟨h',g1,g2⟩:=storesK_lin hk.2
       exact ⟨_,h',g1,fun K' h=>⟨he,fun h0=>absurd h0 hn,fun _=>by rw [hz]; exact ⟨hk.1,g2 _ h⟩⟩⟩
     · exact hk.elim
 · exact hk.elim
theorem putK_lin {e:TypeId} {sz bytes:Nat} {s:Value} {n:Nat} {ns:List Value} (hk:putK h e sz bytes s n ns K) : ∃ v h',K v h'∧∀ K' : Value→Zh→Prop,K' v h'→putK h e sz bytes s n ns K':=by
 unfold putK at hk
 split at hk
 · by_cases hn:n=0
   · exact ⟨_,_,hk.1 hn,fun K' h=>by simp only [putK]; exact ⟨fun _=>h,fun h=>absurd hn h⟩⟩
   · exact ⟨_,_,(hk.2 hn).2,fun K' h=>by simp only [putK]; exact ⟨fun h=>absurd h hn,fun _=>⟨(hk.2 hn).1,h⟩⟩⟩
 · rename_i b o sp len cap
   by_cases hr:len+n≤cap
   · by_cases hn:n=0
     · exact ⟨_,_,(hk.1 hr).1 hn,fun K' h=>by simp only [putK]; exact ⟨fun _=>⟨fun _=>h,fun hh=>absurd hn hh⟩,fun hh=>by omega⟩⟩
     obtain ⟨g1,hk⟩:=(hk.1 hr).2 hn
     split at hk
     · rename_i h2; exact ⟨_,_,hk.2,fun K' h=>by simp only [putK,h2]; exact ⟨fun _=>⟨fun hh=>absurd hh hn,fun _=>⟨g1,hk.1,h⟩⟩,fun hh=>by omega⟩⟩
     · rename_i h2
       split at hk
       · rename_i h3; exact ⟨_,_,hk.2,fun K' h=>by simp only [putK,h2,h3]; exact ⟨fun _=>⟨fun hh=>absurd hh hn,fun _=>⟨g1,hk.1,h⟩⟩,fun hh=>by omega⟩⟩
       · exact hk.elim
     · exact hk.elim
   · obtain ⟨g1,hk⟩:=hk.2 (by omega)
     cases sp with
     | none =>
       obtain ⟨l,g2,g3⟩:=cellsK_lin hk
       exact ⟨_,_,g2,fun K' h=>by simp only [putK]; exact ⟨fun hh=>absurd hh hr,fun _=>⟨g1,g3 _ h⟩⟩⟩
     | some m =>
       obtain ⟨k1,k2,k3,hk⟩:=hk
       obtain ⟨l,g2,g3⟩:=cellsK_lin hk
       exact ⟨_,_,g2,fun K' h=>by simp only [putK]; exact ⟨fun hh=>absurd hh hr,fun _=>⟨g1,k1,k2,k3,g3 _ h⟩⟩⟩
 · exact hk.elim
theorem appendK_lin {t t2:TypeId} {s x:Value} (hk:Ys P h t t2 s x K) : ∃ v h',K v h'∧∀ K' : Value→Zh→Prop,K' v h'→Ys P h t t2 s x K':=by
 unfold Ys at hk
 split at hk
 · rename_i h1
   unfold elemsK at hk
   split at hk
   · obtain ⟨v,h',g1,g2⟩:=putK_lin hk.2
     exact ⟨v,h',g1,fun K' h=>by simp only [Ys,h1,elemsK]; exact ⟨hk.1,g2 _ h⟩⟩
   · rename_i n _
     by_cases hn0:n=0
     · obtain ⟨v,h',g1,g2⟩:=putK_lin (hk.1 hn0)
       exact ⟨v,h',g1,fun K' h=>by simp only [Ys,h1,elemsK]; exact ⟨fun _=>g2 _ h,fun hh=>absurd hn0 hh⟩⟩
     obtain ⟨l,k1,k2⟩:=cellsK_lin (hk.2 hn0)
     obtain ⟨v,h',g1,g2⟩:=putK_lin k1
     exact ⟨v,h',g1,fun K' h=>by simp only [Ys,h1,elemsK]; exact ⟨fun hh=>absurd hh hn0,fun _=>k2 _ (g2 _ h)⟩⟩
   · obtain ⟨v,h',g1,g2⟩:=putK_lin hk
     exact ⟨v,h',g1,fun K' h=>by simp only [Ys,h1,elemsK]; exact g2 _ h⟩
   · exact hk.elim
 · exact hk.elim
def Ym:Op→Bool
 | .move _ | .assign _ | .pick .. | .build .. | .nilCheck _ | .binOp .. | .unOp .. | .convert .. | .makeFunc .. | .slice .. | .fieldAddr .. | .field .. | .indexAddr .. | .index .. | .extract ..=>true
 | .call { callee:=.builtin .len,.. } | .call { callee:=.builtin .max,.. } | .call { callee:=.builtin .min,.. }=>true
 | _=>false
theorem builtinK_lin {b:Builtin} {ts:List TypeId} {xs:List Value} (hk:Zi P b ts xs h K) : ∃ v h',K v h'∧(∀ K' : Value→Zh→Prop,K' v h'→Zi P b ts xs h K') ∧
  ((b = .len∨b = .max∨b = .min)→h' = h∧∀ (h0:Zh) (K' : Value→Zh→Prop),K' v h0→Zi P b ts xs h0 K'):=by
 unfold Zi at hk
 split at hk
 · obtain ⟨v,g1,g2⟩:=lenK_lin hk.2
   exact ⟨v,h,g1,fun K' h=>by simp only [Zi]; exact ⟨hk.1,g2 _ h⟩,fun _=>⟨rfl,fun h0 K' h=>by simp only [Zi]; exact ⟨hk.1,g2 _ h⟩⟩⟩
 · obtain ⟨v,h',g1,g2⟩:=appendK_lin hk
   exact ⟨v,h',g1,fun K' h=>by simp only [Zi]; exact g2 _ h,fun hb=>by simp at hb⟩
 · obtain ⟨v,h',g1,g2⟩:=copyK_lin hk
   exact ⟨v,h',g1,fun K' h=>by simp only [Zi]; exact g2 _ h,fun hb=>by simp at hb⟩
 · obtain ⟨v,g1,g2⟩:=mmK_lin hk
   exact ⟨v,h,g1,fun K' h=>by simp only [Zi]; exact g2 _ h,fun _=>⟨rfl,fun h0 K' h=>by simp only [Zi]; exact g2 _ h⟩⟩
 · obtain ⟨v,g1,g2⟩:=mmK_lin hk
   exact ⟨v,h,g1,fun K' h=>by simp only [Zi]; exact g2 _ h,fun _=>⟨rfl,fun h0 K' h=>by simp only [Zi]; exact g2 _ h⟩⟩
 · obtain ⟨v,h',g1,g2⟩:=clearK_lin hk
   exact ⟨v,h',g1,fun K' h=>by simp only [Zi]; exact g2 _ h,fun hb=>by simp at hb⟩
 · exact hk.elim
theorem lookupK_lin {t:TypeId} {x i:Value} {ok:Bool} {K:Value→Prop} (hk:lookupK P h t x i ok K) : ∃ v,K v∧∀ K' : Value→Prop,K' v→lookupK P h t x i ok K':=by
 unfold lookupK at hk
 split at hk
 · rename_i kt et b kk n hu
   obtain ⟨h1,hk⟩:=hk
   split at hk
   · rename_i es z hes hz
     exact ⟨_,hk.2,fun K' h=>by simp only [lookupK,hu,hes,hz]; exact ⟨h1,hk.1,h⟩⟩
   · exact hk.elim
 · rename_i kt et b ks hu
   obtain ⟨is,g1,g2,g3,hk⟩:=hk
   split at hk
   · rename_i es z hes hz
     exact ⟨_,hk.2,fun K' h=>by simp only [lookupK,hu]; exact ⟨is,g1,g2,g3,by simp only [hes,hz]; exact ⟨hk.1,h⟩⟩⟩
   · exact hk.elim
 · exact hk.elim
theorem mapUpdK_lin {t:TypeId} {x i v:Value} {K:Zh→Prop} (hk:mapUpdK P h t x i v K) : ∃ h',K h'∧∀ K' : Zh→Prop,K' h'→mapUpdK P h t x i v K':=by
 unfold mapUpdK at hk
 split at hk
 · rename_i kt et b kk n hu
   obtain ⟨h1,hk⟩:=hk
   split at hk
   · rename_i es hes
     exact ⟨_,hk.2,fun K' h=>by simp only [mapUpdK,hu,hes]; exact ⟨h1,hk.1,h⟩⟩
   · exact hk.elim
 · rename_i kt et b ks hu
   obtain ⟨is,g1,g2,g3,hk⟩:=hk
   split at hk
   · rename_i es hes
     exact ⟨_,hk.2,fun K' h=>by simp only [mapUpdK,hu]; exact ⟨is,g1,g2,g3,by simp only [hes]; exact ⟨hk.1,h⟩⟩⟩
   · exact hk.elim
 · exact hk.elim
theorem rangeK_lin {t:TypeId} {x:Value} {K:Value→Zh→Prop} (hk:rangeK P h t x K) : ∃ v h',K v h'∧∀ K' : Value→Zh→Prop,K' v h'→rangeK P h t x K':=by
 unfold rangeK at hk
 split at hk
 · rename_i kt et b hu
   split at hk
   · rename_i es hes
     exact ⟨_,_,hk,fun K' h=>by simp only [rangeK,hu,hes]; exact h⟩
   · exact hk.elim
 · exact hk.elim
theorem entryK_lin {x:Value} {K:Value→Prop} (hk:entryK h x K) : ∃ v,K v∧∀ K' : Value→Prop,K' v→entryK h x K':=by
 unfold entryK at hk
 split at hk
 · rename_i it
   split at hk
   · rename_i m since seen stepped hit
     split at hk
     · rename_i es j hes hj
       split at hk
       · rename_i p hp
         exact ⟨_,hk.2,fun K' h=>by simp only [entryK,hit,hes,hj,hp]; exact ⟨hk.1,h⟩⟩
       · exact hk.elim
     · exact hk.elim
   · exact hk.elim
 · exact hk.elim
theorem aop_lin {op:Op} {E:Operand→Value} (hk:aop P true op E h K) : ∃ v h',K v h'∧(∀ K' : Value→Zh→Prop,K' v h'→aop P true op E h K') ∧
  (Ym op=true→h' = h∧∀ (h0:Zh) (K' : Value→Zh→Prop),K' v h0→aop P true op E h0 K')∧((∃ t x,op = .load t x)→h' = h):=by
 have pure : ∀ (F:(Value→Prop)→Prop) (_ : ∀ (h0:Zh) (K' : Value→Zh→Prop),aop P true op E h0 K' = F (fun v=>K' v h0)),(∃ v,K v h∧∀ K' : Value→Prop,K' v→F K') →
   ∃ v h',K v h'∧(∀ K' : Value→Zh→Prop,K' v h'→aop P true op E h K')∧(Ym op=true→h' = h∧∀ (h0:Zh) (K' : Value→Zh→Prop),K' v h0→aop P true op E h0 K')∧((∃ t x,op = .load t x)→h' = h) :=
  fun F hF ⟨v,g1,g2⟩=>⟨v,h,g1,fun K' hh=>by rw [hF]; exact g2 _ hh,fun _=>⟨rfl,fun h0 K' hh=>by rw [hF]; exact g2 _ hh⟩,fun _=>rfl⟩
 have eff:Ym op=false→(∀ t x,op≠.load t x)→(∃ v h',K v h'∧∀ K' : Value→Zh→Prop,K' v h'→aop P true op E h K') →
   ∃ v h',K v h'∧(∀ K' : Value→Zh→Prop,K' v h'→aop P true op E h K')∧(Ym op=true→h' = h∧∀ (h0:Zh) (K' : Value→Zh→Prop),K' v h0→aop P true op E h0 K')∧((∃ t x,op = .load t x)→h' = h) :=
  fun hw hl ⟨v,h',g1,g2⟩=>⟨v,h',g1,g2,(fun h=>by rw [hw] at h; cases h),fun ⟨t,x,he⟩=>absurd he (hl t x)⟩
 cases op
 case move x=>exact pure (fun K=>K (E x)) (fun _ _=>rfl) ⟨_,hk,fun K' h=>h⟩
 case assign x=>exact pure (fun K=>K (E x)) (fun _ _=>rfl) ⟨_,hk,fun K' h=>h⟩
 case pick c a b=>exact pure (pickK (E c) (E a) (E b)) (fun _ _=>rfl) (pickK_lin hk)
 case alloc t=>exact eff rfl (fun _ _ h=>by cases h) (allocK_lin hk)
 case box t x=>exact eff rfl (fun _ _ h=>by cases h) (boxK_lin hk)
 case build t parts=>exact pure (fun K=>Va P t (parts.toList.map fun p:Nat×Operand=>(p.1,E p.2)) K) (fun _ _=>rfl) (buildK_lin (P:=P) (t:=t) (parts:=parts.toList.map fun p:Nat×Operand=>(p.1,E p.2)) hk)
 case buildSlice t len parts=>exact eff rfl (fun _ _ h=>by cases h) (buildSliceK_lin hk)
 case load t x =>
  obtain ⟨v,g1,g2⟩:=loadK_lin hk
  exact ⟨v,h,g1,fun K' h=>g2 _ h,(fun h=>by cases h),fun _=>rfl⟩
 case store t x y =>
  obtain ⟨h',g1,g2⟩:=storeK_lin hk
  exact eff rfl (fun _ _ h=>by cases h) ⟨undef,h',g1,fun K' h=>g2 _ h⟩
 case nilCheck x=>exact pure (nilK (E x)) (fun _ _=>rfl) (nilK_lin hk)
 case binOp op t x y t2=>exact pure (Zv P op t (E x) (E y)) (fun _ _=>rfl) (binK_lin hk)
 case unOp op t x=>exact pure (unK op (E x)) (fun _ _=>rfl) (unK_lin hk)
 case convert s d x=>exact pure (convK P s d (E x)) (fun _ _=>rfl) (convK_lin hk)
 case makeFunc fn first captured =>
  cases fn <;> try exact hk.elim
  rename_i f
  exact pure (fun K=>K (.func (.func f) (first.map E) (captured.map E))) (fun _ _=>rfl) ⟨_,hk,fun K' h=>h⟩
 case makeSlice t l c=>exact eff rfl (fun _ _ h=>by cases h) (makeK_lin hk)
 case slice t x lo hi mx =>
  by_cases hc:lo=none∧hi=none∧mx=none∧∃ n e,P.underlying t=some (.array n e)
  · obtain ⟨rfl,rfl,rfl,n,e,hu⟩:=hc
    simp only [aop,hu] at hk
    exact pure (arrSliceK P t (E x)) (fun h0 K'=>by simp only [aop,hu]) (arrSliceK_lin hk)
  · have hs : ∀ (h0:Zh) (K' : Value→Zh→Prop),aop P true (.slice t x lo hi mx) E h0 K' = Xb P t (E x) (lo.map E) (hi.map E) (mx.map E) (fun v=>K' v h0):=by
     intro h0 K'
     simp only [aop]
     split
     · rename_i n e hu; exact absurd ⟨rfl,rfl,rfl,n,e,hu⟩ hc
     · rfl
    rw [hs] at hk
    exact pure _ hs (sliceK_lin hk)
 case fieldAddr t x f=>exact pure (Xk P t (E x) f) (fun _ _=>rfl) (fieldAddrK_lin hk)
 case field t x f=>exact pure (fieldK P t (E x) f) (fun _ _=>rfl) (fieldK_lin hk)
 case indexAddr t x i=>exact pure (Yy P t (E x) (E i)) (fun _ _=>rfl) (idxAddrK_lin hk)
 case index t x i=>exact pure (indexK P t (E x) (E i)) (fun _ _=>rfl) (indexK_lin hk)
 case extract x i=>exact pure (Wk (E x) i) (fun _ _=>rfl) (extractK_lin hk)
 case call c =>
  obtain ⟨callee,args,ats⟩:=c
  cases callee with
  | builtin b =>
    obtain ⟨v,h',g1,g2,g3⟩:=builtinK_lin (show Zi P b ats.toList (args.toList.map E) h K from hk)
    refine ⟨v,h',g1,fun K' h=>g2 _ h,fun hw=>?_,fun ⟨t,x,he⟩=>by cases he⟩
    have hb:b = .len∨b = .max∨b = .min:=by
     cases b <;> first | exact .inl rfl | exact .inr (.inl rfl) | exact .inr (.inr rfl) | cases hw
    obtain ⟨k1,k2⟩:=g3 hb
    exact ⟨k1,fun h0 K' h=>k2 _ _ h⟩
  | value f =>
    refine eff rfl (fun _ _ h=>by cases h) ?_
    simp only [aop,Yz] at hk ⊢
    split at hk
    · obtain ⟨v,h',g1,g2⟩:=hk
      exact ⟨v,h',g2,fun K' h=>⟨v,h',g1,h⟩⟩
    · exact hk.elim
  | invoke r m=>exact hk.elim
 case makeMap t r =>
  cases r with
  | some r=>exact hk.elim
  | none=>exact eff rfl (fun _ _ h=>by cases h) ⟨_,_,hk,fun K' h=>h⟩
 case lookup t x i ok =>
  obtain ⟨v,g1,g2⟩:=lookupK_lin (show lookupK P h t (E x) (E i) ok (fun v=>K v h) from hk)
  exact eff rfl (fun _ _ h=>by cases h) ⟨v,h,g1,fun K' hh=>g2 (fun v=>K' v h) hh⟩
 case mapUpdate t m k v =>
  obtain ⟨h',g1,g2⟩:=mapUpdK_lin (show mapUpdK P h t (E m) (E k) (E v) (fun h'=>K undef h') from hk)
  exact eff rfl (fun _ _ h=>by cases h) ⟨undef,h',g1,fun K' h=>g2 _ h⟩
 case range t x=>exact eff rfl (fun _ _ h=>by cases h) (rangeK_lin (show rangeK P h t (E x) K from hk))
 case next x isS=>cases isS <;> exact hk.elim
 case entry x =>
  obtain ⟨v,g1,g2⟩:=entryK_lin (show entryK h (E x) (fun v=>K v h) from hk)
  exact eff rfl (fun _ _ h=>by cases h) ⟨v,h,g1,fun K' hh=>g2 (fun v=>K' v h) hh⟩
 all_goals exact hk.elim
end lin2
end Go.Am
namespace Go.Am
def frm:List (Nat×Nat)→Nat→Bool
 | [],_=>false
 | (a,b)::l,i=>bif a==i then b==5 else frm l i
def Vi:List (Nat×Nat)→Nat→Bool
 | [],_=>false
 | (a,b)::l,k=>bif b==6 then (decide (a<k) || Vi l k) else Vi l k
theorem past_mem : ∀ {qs:List (Nat×Nat)} {k:Nat},Vi qs k=true↔∃ a,(a,6)∈qs∧a<k
 | [],k=>by simp [Vi]
 | (a,b)::l,k=>by
   have ih:=past_mem (qs:=l) (k:=k)
   by_cases hb:b=6
   · subst hb
     simp only [Vi,beq_self_eq_true,cond_true,Bool.or_eq_true,decide_eq_true_eq,ih]
     constructor
     · rintro (h | ⟨a',h1,h2⟩)
       · exact ⟨a,by simp,h⟩
       · exact ⟨a',by simp [h1],h2⟩
     · rintro ⟨a',h1,h2⟩
       rcases List.mem_cons.1 h1 with h | h
       · cases h; exact .inl h2
       · exact .inr ⟨a',h,h2⟩
   · have:(b==6)=false:=by simpa using hb
     simp only [Vi,this,cond_false,ih]
     constructor
     · rintro ⟨a',h1,h2⟩; exact ⟨a',by simp [h1],h2⟩
     · rintro ⟨a',h1,h2⟩
       rcases List.mem_cons.1 h1 with h | h
       · cases h; exact absurd rfl hb
       · exact ⟨a',h,h2⟩
theorem past_mono {qs:List (Nat×Nat)} {j k:Nat} (hjk:j≤k) (h:Vi qs k=false):Vi qs j=false:=by
 cases hj:Vi qs j with
 | false=>rfl
 | true =>
   obtain ⟨a,h1,h2⟩:=past_mem.1 hj
   rw [past_mem.2 ⟨a,h1,by omega⟩] at h; cases h
def cls (qs:List (Nat×Nat)) (i:Nat) (op:Op):Nat :=
 if Ym op then 0 else
 match op with
 | .load ..=>bif frm qs i then 2 else 1
 | .lookup ..=>bif frm qs i then 2 else 1
 | .call { callee:=.value _,.. }=>(match qs.find? (·.1==i) with | some (_,c)=>if c==1 then 1 else if c==2 then 2 else 3 | none=>3)
 | _=>3
theorem cls_cases (qs:List (Nat×Nat)) (i:Nat) (op:Op):(cls qs i op=0∧Ym op=true)∨cls qs i op=1∨cls qs i op=2∨cls qs i op=3:=by
 unfold cls
 split
 · exact .inl ⟨rfl,by assumption⟩
 · right
   split
   · cases frm qs i
     · exact .inl rfl
     · exact .inr (.inl rfl)
   · cases frm qs i
     · exact .inl rfl
     · exact .inr (.inl rfl)
   · split
     · split
       · exact .inl rfl
       · split
         · exact .inr (.inl rfl)
         · exact .inr (.inr rfl)
     · exact .inr (.inr rfl)
   · exact .inr (.inr rfl)
def dops (P:Program) [Tabs P] (qs:List (Nat×Nat)) (N:Env→Zh→Prop):Nat→List SOp→Env→Zh→Prop
 | _,[],e,h=>N e h
 | i,⟨dst,op,g⟩::l,e,h =>
   let go:Prop :=
    (match cls qs i op with
     | 1=>aop P true op (ev e) h (fun v h'=>h' = h∧dops P qs N (i+1) l (Zf e dst v) h)
     | 2=>∃ v,(∀ h0,aop P true op (ev e) h0 (fun v' h'=>v' = v∧h' = h0))∧dops P qs N (i+1) l (Zf e dst v) h
     | _=>aop P true op (ev e) h (fun v h'=>dops P qs N (i+1) l (Zf e dst v) h'))
   match g with
   | none=>go
   | some (d,want)=>∃ g:Option Bool,sget e d=gv g∧(g=some want→go)∧(g≠some want→dops P qs N (i+1) l (Zf e dst skp) h)
/-! ### Who stands ahead of whom -/
def Wt:List Nat→List (List Nat)→List Nat
 | acc,[]=>acc
 | acc,es::l=>Wt (acc++[es.foldl (fun s e=>s ||| 2 ^ e ||| acc.getD e 0) 0]) l
theorem foldl_or {acc:List Nat} {i:Nat} : ∀ (es:List Nat) (s:Nat),(es.foldl (fun s e=>s ||| 2 ^ e ||| acc.getD e 0) s).testBit i=true→s.testBit i=true∨∃ e∈es,e=i∨(acc.getD e 0).testBit i=true
 | [],s,h=>.inl h
 | e::es,s,h=>by
   rcases foldl_or es _ h with h1 | ⟨e',h1,h2⟩
   · simp only [Nat.testBit_or,Bool.or_eq_true] at h1
     rcases h1 with (h1 | h1) | h1
     · exact .inl h1
     · rw [Nat.testBit_two_pow] at h1; exact .inr ⟨e,by simp,.inl (by simpa using h1)⟩
     · exact .inr ⟨e,by simp,.inr h1⟩
   · exact .inr ⟨e',by simp [h1],h2⟩
def GoodB (af:List (List Nat)) (acc:List Nat):Prop:=acc.length≤af.length∧∀ j i,j<acc.length→(acc.getD j 0).testBit i=true→∃ e∈af.getD j [],e=i∨(e<j∧(acc.getD e 0).testBit i=true)
theorem bitsAux_good : ∀ (l:List (List Nat)) (pre:List (List Nat)) (acc:List Nat),acc.length=pre.length→GoodB (pre++l) acc→GoodB (pre++l) (Wt acc l)
 | [],pre,acc,_,h=>h
 | es::l,pre,acc,hl,h=>by
   unfold Wt
   have e1:pre++es::l=(pre++[es])++l:=by simp
   rw [e1]
   refine bitsAux_good l (pre++[es]) _ (by simp [hl]) ?_
   rw [← e1]
   refine ⟨by simp; omega,fun j i hj hb=>?_⟩
   simp only [List.length_append,List.length_singleton] at hj
   by_cases hj2:j<acc.length
   · have e2:(acc++[es.foldl (fun s e=>s ||| 2 ^ e ||| acc.getD e 0) 0]).getD j 0=acc.getD j 0:=by simp [List.getD,List.getElem?_append_left hj2]
     rw [e2] at hb
     obtain ⟨e,he,h1⟩:=h.2 j i hj2 hb
     refine ⟨e,he,h1.imp id fun ⟨g1,g2⟩=>⟨g1,?_⟩⟩
     have e3:(acc++[es.foldl (fun s e=>s ||| 2 ^ e ||| acc.getD e 0) 0]).getD e 0=acc.getD e 0:=by simp [List.getD,List.getElem?_append_left (show e<acc.length by omega)]
     rw [e3]; exact g2
   · obtain rfl:j=acc.length:=by omega
     have e2:(acc++[es.foldl (fun s e=>s ||| 2 ^ e ||| acc.getD e 0) 0]).getD acc.length 0=es.foldl (fun s e=>s ||| 2 ^ e ||| acc.getD e 0) 0:=by simp [List.getD]
     rw [e2] at hb
     have e4:(pre++es::l).getD acc.length []=es:=by rw [hl]; simp [List.getD]
     rw [e4]
     rcases foldl_or es 0 hb with h1 | ⟨e,he,h1⟩
     · simp at h1
     · refine ⟨e,he,h1.imp id fun g=>?_⟩
       have hel:e<acc.length:=by
        rcases Nat.lt_or_ge e acc.length with h | h
        · exact h
        · simp [List.getD,List.getElem?_eq_none h] at g
       refine ⟨hel,?_⟩
       have e3:(acc++[es.foldl (fun s e=>s ||| 2 ^ e ||| acc.getD e 0) 0]).getD e 0=acc.getD e 0:=by simp [List.getD,List.getElem?_append_left hel]
       rw [e3]; exact g
theorem ahead {af:List (List Nat)} {S:Nat→Prop} (hcl : ∀ j,S j→∀ e∈af.getD j [],S e) : ∀ (j i:Nat),(∀ e∈af.getD j [],S e)→((Wt [] af).getD j 0).testBit i=true→S i:=by
 have good:=bitsAux_good af [] [] rfl ⟨by simp,fun j i hj=>by simp at hj⟩
 simp only [List.nil_append] at good
 intro j
 induction j using Nat.strongRecOn with
 | _ j ih =>
   intro i hj hb
   have hjl:j<(Wt [] af).length:=by
    rcases Nat.lt_or_ge j (Wt [] af).length with h | h
    · exact h
    · simp [List.getD,List.getElem?_eq_none h] at hb
   obtain ⟨e,he,h1⟩:=good.2 j i hjl hb
   rcases h1 with rfl | ⟨h1,h2⟩
   · exact hj _ he
   · exact ih e h1 i (hcl e (hj e he)) h2
def reads (o:SOp):List Nat:=o.op.operands.toList.filterMap (fun | .tmp t=>some t | _=>none)++(match o.guard with | some (d,_)=>[d] | none=>[])
def writes (o:SOp) (t:Nat):Bool:=o.dst==some t
def Wh (c1 c2:Nat) (o1 o2:SOp):Bool :=
 (match o1.dst with | some d=>(o2.dst==some d) || (reads o2).contains d | none=>false) || (match o2.dst with | some d=>(reads o1).contains d | none=>false) ||
 (c1==3&&(c2==3 || c2==1)) || (c2==3&&c1==1)
def Vm (l:List SOp) (af:List (List Nat)) (qs:List (Nat×Nat)):Bool :=
 let bs:=Wt [] af
 l.zipIdx.all fun p2=>l.zipIdx.all fun p1=>!(decide (p1.2<p2.2)&&Wh (cls qs p1.2 p1.1.op) (cls qs p2.2 p2.1.op) p1.1 p2.1) || (bs.getD p2.2 0).testBit p1.2
/-! ### The run in the text's order -/
/-- One operation of the run. -/
def StepD (P:Program) [Tabs P] (R:Zh→Prop) (c:Nat) (o:SOp) (e:Env) (h:Zh) (v:Value) (h' : Zh):Prop :=
 let go:Prop:=(∀ K:Value→Zh→Prop,K v h'→aop P true o.op (ev e) h K)∧(c≠3→h' = h)∧(c=0→∀ (h0:Zh) (K:Value→Zh→Prop),K v h0→aop P true o.op (ev e) h0 K)∧(c=2→∀ (h0:Zh) (K:Value→Zh→Prop),R h0→K v h0→aop P true o.op (ev e) h0 K)
 match o.guard with
 | none=>go
 | some (d,want)=>∃ g:Option Bool,sget e d=gv g∧(g=some want→go)∧(g≠some want→v=skp∧h' = h)
inductive Trace (P:Program) [Tabs P] (R:Zh→Prop) (qs:List (Nat×Nat)):Nat→List SOp→Env→Zh→List (Value×Zh)→Env→Zh→Prop
 | nil (i:Nat) (e:Env) (h:Zh):Trace P R qs i [] e h [] e h
 | cons {i:Nat} {o:SOp} {l:List SOp} {e e' : Env} {h h1 h' : Zh} {v:Value} {tr:List (Value×Zh)} (hs:StepD P R (cls qs i o.op) o e h v h1) (hr:Vi qs (i+1)=false→R h1) (ht:Trace P R qs (i+1) l (Zf e o.dst v) h1 tr e' h'):Trace P R qs i (o::l) e h ((v,h1)::tr) e' h'
theorem Vh {P:Program} [Tabs P] {h:Zh} {op:Op} {E:Operand→Value} {K K' : Value→Zh→Prop} (hk:aop P true op E h K) (hq : ∀ v h',K v h'→K' v h'):aop P true op E h K':=by
 obtain ⟨v,h',g1,g2,_⟩:=aop_lin hk
 exact g2 K' (hq _ _ g1)
theorem dops_trace {P:Program} [Tabs P] {qs:List (Nat×Nat)} {N:Env→Zh→Prop} : ∀ (l:List SOp) (i:Nat) (e:Env) (h:Zh),dops P qs N i l e h→∃ tr e' h',Trace P (fun _=>True) qs i l e h tr e' h'∧N e' h'
 | [],i,e,h,hk=>⟨[],e,h,.nil i e h,hk⟩
 | o::l,i,e,h,hk=>by
   have goCase : ∀ (hgo:(match cls qs i o.op with
     | 1=>aop P true o.op (ev e) h (fun v h'=>h' = h∧dops P qs N (i+1) l (Zf e o.dst v) h)
     | 2=>∃ v,(∀ h0,aop P true o.op (ev e) h0 (fun v' h'=>v' = v∧h' = h0))∧dops P qs N (i+1) l (Zf e o.dst v) h
     | _=>aop P true o.op (ev e) h (fun v h'=>dops P qs N (i+1) l (Zf e o.dst v) h'):Prop)),
      ∃ v h1,dops P qs N (i+1) l (Zf e o.dst v) h1∧(∀ K:Value→Zh→Prop,K v h1→aop P true o.op (ev e) h K)∧(cls qs i o.op≠3→h1=h) ∧
        (cls qs i o.op=0→∀ (h0:Zh) (K:Value→Zh→Prop),K v h0→aop P true o.op (ev e) h0 K)∧(cls qs i o.op=2→∀ (h0:Zh) (K:Value→Zh→Prop),True→K v h0→aop P true o.op (ev e) h0 K):=by
    intro hgo
    split at hgo
    · rename_i hc
      obtain ⟨v,h',⟨rfl,g1⟩,g2,_⟩:=aop_lin hgo
      exact ⟨v,_,g1,g2,fun _=>rfl,fun h=>by rw [hc] at h; simp at h,fun h=>by rw [hc] at h; simp at h⟩
    · rename_i hc
      obtain ⟨v,g1,g2⟩:=hgo
      exact ⟨v,h,g2,fun K hK=>Vh (g1 h) (fun v' h' ⟨a,b⟩=>by rw [a,b]; exact hK),fun _=>rfl,fun h=>by rw [hc] at h; simp at h,fun _ h0 K _ hK=>Vh (g1 h0) (fun v' h' ⟨a,b⟩=>by rw [a,b]; exact hK)⟩
    · rename_i h1 h2
      obtain ⟨v,h',g1,g2,g3,_⟩:=aop_lin hgo
      by_cases hw:Ym o.op=true
      · obtain ⟨rfl,g4⟩:=g3 hw
        exact ⟨v,_,g1,g2,fun _=>rfl,fun _ h0 K=>g4 h0 K,fun _ h0 K _=>g4 h0 K⟩
      · have hc:cls qs i o.op=3:=by
         rcases cls_cases qs i o.op with ⟨_,h⟩ | h | h | h
         · exact absurd h hw
         · exact (h1 h).elim
         · exact (h2 h).elim
         · exact h
        exact ⟨v,h',g1,g2,fun h=>absurd hc h,fun h=>by rw [hc] at h; simp at h,fun h=>by rw [hc] at h; simp at h⟩
   obtain ⟨dst,op,g⟩:=o
   cases g with
   | none =>
     obtain ⟨v,h1,k1,k2⟩:=goCase hk
     obtain ⟨tr,e',h',t1,t2⟩:=dops_trace l (i+1) _ _ k1
     exact ⟨(v,h1)::tr,e',h',.cons (by simpa [StepD] using k2) (fun _=>trivial) t1,t2⟩
   | some p =>
     obtain ⟨d,want⟩:=p
     obtain ⟨b,hb,k1,k2⟩:=hk
     by_cases hbw:b=some want
     · obtain ⟨v,h1,j1,j2⟩:=goCase (k1 hbw)
       obtain ⟨tr,e',h',t1,t2⟩:=dops_trace l (i+1) _ _ j1
       exact ⟨(v,h1)::tr,e',h',.cons ⟨b,hb,fun _=>j2,fun h=>absurd hbw h⟩ (fun _=>trivial) t1,t2⟩
     · obtain ⟨tr,e',h',t1,t2⟩:=dops_trace l (i+1) _ _ (k2 hbw)
       exact ⟨(skp,h)::tr,e',h',.cons ⟨b,hb,fun h=>absurd h hbw,fun _=>⟨rfl,rfl⟩⟩ (fun _=>trivial) t1,t2⟩
/-! ### The trace read by its places -/
/-- The environment and the heap ahead of the k-th operation. -/
def Yu (l:List SOp) (tr:List (Value×Zh)) (e:Env):Nat→Env
 | 0=>e
 | k+1=>match l[k]?,tr[k]? with
   | some o,some (v,_)=>Zf (Yu l tr e k) o.dst v
   | _,_=>Yu l tr e k
def Zr (tr:List (Value×Zh)) (h:Zh):Nat→Zh
 | 0=>h
 | k+1=>match tr[k]? with
   | some (_,h')=>h'
   | none=>Zr tr h k
theorem envAt_cons (o:SOp) (l:List SOp) (x:Value×Zh) (tr:List (Value×Zh)) (e:Env) : ∀ k,Yu (o::l) (x::tr) e (k+1)=Yu l tr (Zf e o.dst x.1) k
 | 0=>rfl
 | k+1=>by
   show (match l[k]?,tr[k]? with | some o',some (v,_)=>Zf (Yu (o::l) (x::tr) e (k+1)) o'.dst v | _,_=>Yu (o::l) (x::tr) e (k+1))=_
   rw [envAt_cons o l x tr e k]; rfl
theorem Vg (x:Value×Zh) (tr:List (Value×Zh)) (h:Zh) : ∀ k,Zr (x::tr) h (k+1)=Zr tr x.2 k
 | 0=>rfl
 | k+1=>by
   show (match tr[k]? with | some (_,h')=>h' | none=>Zr (x::tr) h (k+1))=_
   rw [Vg x tr h k]; rfl
theorem Trace.spec {P:Program} [Tabs P] {R:Zh→Prop} {qs:List (Nat×Nat)} {i:Nat} {l:List SOp} {e e' : Env} {h h' : Zh} {tr:List (Value×Zh)} (t:Trace P R qs i l e h tr e' h') :
  tr.length=l.length∧Yu l tr e l.length=e'∧Zr tr h l.length=h' ∧
  ∀ k o,l[k]? = some o→∃ v,tr[k]? = some (v,Zr tr h (k+1))∧StepD P R (cls qs (i+k) o.op) o (Yu l tr e k) (Zr tr h k) v (Zr tr h (k+1)):=by
 induction t with
 | nil i e h=>exact ⟨rfl,rfl,rfl,fun k o hk=>by simp at hk⟩
 | @cons i o l e e' h h1 h' v tr hs _ ht ih =>
   obtain ⟨i1,i2,i3,i4⟩:=ih
   refine ⟨by simp [i1],by rw [List.length_cons,envAt_cons]; exact i2,by rw [List.length_cons,Vg]; exact i3,fun k o' hk=>?_⟩
   cases k with
   | zero =>
     cases hk
     exact ⟨v,rfl,hs⟩
   | succ k =>
     obtain ⟨v',g1,g2⟩:=i4 k o' (by simpa using hk)
     refine ⟨v',by rw [Vg]; simpa using g1,?_⟩
     rw [envAt_cons,Vg,Vg]
     rw [show i+(k+1)=i+1+k by omega]
     exact g2
theorem Trace.rr {P:Program} [Tabs P] {R:Zh→Prop} {qs:List (Nat×Nat)} {i:Nat} {l:List SOp} {e e' : Env} {h h' : Zh} {tr:List (Value×Zh)} (t:Trace P R qs i l e h tr e' h') (h0:Vi qs i=false→R h) : ∀ k,Vi qs (i+k)=false→R (Zr tr h k):=by
 induction t with
 | nil i e h =>
   intro k hp
   have:Zr [] h k=h:=by
    induction k with
    | zero=>rfl
    | succ k ih=>exact ih (past_mono (by omega) hp)
   rw [this]
   exact h0 (past_mono (by omega) hp)
 | @cons i o l e e' h h1 h' v tr hs hr ht ih =>
   intro k hp
   cases k with
   | zero=>exact h0 hp
   | succ k=>rw [Vg]; exact ih hr k (by rw [show i+1+k=i+(k+1) by omega]; exact hp)
theorem Wc (e:Env) (dst:Option Nat) (v:Value) (t:Nat):sget (Zf e dst v) t=if dst=some t then v else sget e t:=by
 cases dst with
 | none=>simp [Zf]
 | some d=>simp [Zf,sget_sput]
theorem envAt_same {l:List SOp} {tr:List (Value×Zh)} {e:Env} {t:Nat} : ∀ (a d:Nat),(∀ k o,a≤k→k<a+d→l[k]? = some o→o.dst≠some t)→sget (Yu l tr e (a+d)) t=sget (Yu l tr e a) t
 | a,0,_=>rfl
 | a,d+1,hw=>by
   have ih:=envAt_same (tr:=tr) (e:=e) a d (fun k o h1 h2 h3=>hw k o h1 (by omega) h3)
   rw [← Nat.add_assoc]
   show sget (match l[a+d]?,tr[a+d]? with | some o,some (v,_)=>Zf (Yu l tr e (a+d)) o.dst v | _,_=>Yu l tr e (a+d)) t=_
   split
   · rename_i o v h' h1 h2
     rw [Wc,if_neg (hw (a+d) o (by omega) (by omega) h1),ih]
   · exact ih
theorem Vn {l:List SOp} {tr:List (Value×Zh)} {e:Env} {t a b:Nat} (hw : ∀ k o,l[k]? = some o→o.dst=some t→(k<a↔k<b)):sget (Yu l tr e a) t=sget (Yu l tr e b) t:=by
 rcases Nat.le_total a b with h | h
 · obtain ⟨d,rfl⟩:=Nat.exists_eq_add_of_le h
   exact (envAt_same a d (fun k o h1 h2 h3 h4=>by have:=hw k o h3 h4; omega)).symm
 · obtain ⟨d,rfl⟩:=Nat.exists_eq_add_of_le h
   exact envAt_same b d (fun k o h1 h2 h3 h4=>by have:=hw k o h3 h4; omega)
theorem heapAt_eq {tr:List (Value×Zh)} {h:Zh} {X:Nat→Prop} (hx : ∀ k,k<tr.length→¬ X k→Zr tr h (k+1)=Zr tr h k) {a b:Nat} (hw : ∀ k,X k→(k<a↔k<b)):Zr tr h a=Zr tr h b:=by
 have key : ∀ (d a:Nat),(∀ k,X k→a≤k→¬ k<a+d)→Zr tr h (a+d)=Zr tr h a:=by
  intro d
  induction d with
  | zero=>intro a _; rfl
  | succ d ih =>
    intro a hn
    rw [← Nat.add_assoc]
    have ih':=ih a (fun k h1 h2 h3=>hn k h1 h2 (by omega))
    by_cases hl:a+d<tr.length
    · rw [hx (a+d) hl (fun hX=>hn (a+d) hX (by omega) (by omega)),ih']
    · show (match tr[a+d]? with | some (_,h')=>h' | none=>Zr tr h (a+d))=_
      rw [List.getElem?_eq_none (by omega)]; exact ih'
 rcases Nat.le_total a b with hab | hab
 · obtain ⟨d,rfl⟩:=Nat.exists_eq_add_of_le hab
   exact (key d a (fun k h1 h2 h3=>by have:=hw k h1; omega)).symm
 · obtain ⟨d,rfl⟩:=Nat.exists_eq_add_of_le hab
   exact key d b (fun k h1 h2 h3=>by have:=hw k h1; omega)
theorem aop_congr {P:Program} [Tabs P] {d:Bool} {op:Op} {E E' : Operand→Value} {h:Zh} {K:Value→Zh→Prop} (hE : ∀ x∈op.operands.toList,E x=E' x):aop P d op E h K=aop P d op E' h K:=by
 have hl : ∀ l:List Operand,(∀ x∈l,E x=E' x)→l.map E=l.map E':=fun l hl=>List.map_congr_left hl
 have hp : ∀ l:List (Nat×Operand),(∀ p∈l,E p.2=E' p.2)→(l.map fun p=>(p.1,E p.2))=(l.map fun p=>(p.1,E' p.2)):=fun l hl=>List.map_congr_left (fun p hp=>by rw [hl p hp])
 have ho : ∀ o:Option Operand,(∀ x,o=some x→E x=E' x)→o.map E=o.map E':=fun o ho=>by cases o with | none=>rfl | some x=>simp [ho x rfl]
 cases op
 case build t parts=>simp only [aop]; rw [hp parts.toList (fun p hm=>hE p.2 (by simp [Op.operands]; exact ⟨p.1,by simpa using hm⟩))]
 case buildSlice t len parts=>simp only [aop]; rw [hp parts.toList (fun p hm=>hE p.2 (by simp [Op.operands]; exact ⟨p.1,by simpa using hm⟩))]
 case makeFunc fn first captured =>
  cases fn <;> simp only [aop]
  have h1:first.map E=first.map E':=Array.map_congr_left (fun x hx=>hE x (by simp [Op.operands]; exact .inl hx))
  have h2:captured.map E=captured.map E':=Array.map_congr_left (fun x hx=>hE x (by simp [Op.operands]; exact .inr hx))
  rw [h1,h2]
 case slice t x lo hi mx =>
  simp only [aop]
  rw [hE x (by simp [Op.operands]),ho lo (fun y hy=>hE y (by subst hy; simp [Op.operands])),ho hi (fun y hy=>hE y (by subst hy; simp [Op.operands])),ho mx (fun y hy=>hE y (by subst hy; simp [Op.operands]))]
 case call c =>
  obtain ⟨callee,args,ats⟩:=c
  cases callee with
  | builtin b=>simp only [aop]; rw [hl args.toList (fun x hx=>hE x (by simpa [Op.operands,Call.operands] using hx))]
  | value f=>simp only [aop]; rw [hE f (by simp [Op.operands,Call.operands]),hl args.toList (fun x hx=>hE x (by simp [Op.operands,Call.operands]; exact .inr (by simpa using hx)))]
  | invoke r m=>simp only [aop]
 case makeMap t r=>cases r <;> rfl
 case lookup t x i ok=>simp only [aop]; rw [hE x (by simp [Op.operands]),hE i (by simp [Op.operands])]
 case mapUpdate t m k v=>simp only [aop]; rw [hE m (by simp [Op.operands]),hE k (by simp [Op.operands]),hE v (by simp [Op.operands])]
 case range t x=>simp only [aop]; rw [hE x (by simp [Op.operands])]
 case next x isS=>cases isS <;> simp only [aop] ; rw [hE x (by simp [Op.operands])]
 case entry x=>simp only [aop]; rw [hE x (by simp [Op.operands])]
 all_goals first
  | (simp only [aop]; done)
  | (simp only [aop]; congr 1 <;> (apply hE; simp [Op.operands]))
  | (simp only [aop]; rw [hE _ (by simp [Op.operands]; exact .inl rfl),hE _ (by simp [Op.operands]; exact .inr rfl)])
  | skip
end Go.Am
namespace Go.Am
theorem aop_weak {P:Program} [Tabs P] {op:Op} {E:Operand→Value} {h:Zh} {K:Value→Zh→Prop} (hk:aop P true op E h K):aop P false op E h K:=by
 by_cases hc:isCall op=false
 · cases op <;> first | exact hk | skip
   · rename_i fn _ _; cases fn <;> exact hk
   · rename_i r; cases r <;> exact hk
   · rename_i x isS; cases isS <;> exact hk.elim
   · rename_i c
     obtain ⟨callee,args,ats⟩:=c
     cases callee <;> first | exact hk | (simp [isCall] at hc)
 obtain ⟨f,args,ats,rfl⟩:=isCall_eq (by simpa using hc)
 simp only [aop,Yz] at hk ⊢
 split at hk
 · obtain ⟨v,h',g1,g2⟩:=hk
   exact g1.mono fun v1 h1 ⟨e1,e2⟩=>by rw [e1,e2]; exact g2
 · exact hk
def Yd (ops:Array Oper):List (List Nat):=ops.toList.map fun o=>(o.after.toList.filter (Region.binds .any)).map (·.on)
def fwd (af:List (List Nat)):Bool:=af.zipIdx.all fun p=>p.1.all fun e=>decide (e<p.2)
theorem strip_get' {ops:Array Oper} {i:Nat} {o' : Oper} (h:ops[i]? = some o'):(Zs ops)[i]? = some ⟨o'.dst,o'.op,o'.guard.map fun p=>((gslot ops p.1).getD 0,p.2)⟩:=by
 simp [Zs,h]
theorem edges_get {ops:Array Oper} {i e:Nat} {o:Oper} (h:ops[i]? = some o):e∈(Yd ops).getD i []↔∃ x∈o.after,Region.binds .any x=true∧x.on=e:=by
 have:(Yd ops).getD i []=(o.after.toList.filter (Region.binds .any)).map (·.on):=by simp [Yd,List.getD,h]
 rw [this]
 simp only [List.mem_map,List.mem_filter,Array.mem_toList_iff]
 constructor
 · rintro ⟨x,⟨h1,h2⟩,rfl⟩; exact ⟨x,h1,h2,rfl⟩
 · rintro ⟨x,h1,h2,rfl⟩; exact ⟨x,⟨h1,h2⟩,rfl⟩
theorem Ve {l:List SOp} {af:List (List Nat)} {qs:List (Nat×Nat)} (h:Vm l af qs=true) {i j:Nat} {oi oj:SOp} (hi:l[i]? = some oi) (hj:l[j]? = some oj) (hij:i<j) (hc:Wh (cls qs i oi.op) (cls qs j oj.op) oi oj=true) :
  ((Wt [] af).getD j 0).testBit i=true:=by
 simp only [Vm] at h
 have h1:=List.all_eq_true.1 h (oj,j) (by rw [List.mem_zipIdx_iff_getElem?]; exact hj)
 have h2:=List.all_eq_true.1 h1 (oi,i) (by rw [List.mem_zipIdx_iff_getElem?]; exact hi)
 simpa [hij,hc] using h2
structure Mid (P:Program) [Tabs P] (qs:List (Nat×Nat)) (ops:Array Oper) (tr:List (Value×Zh)) (e0:Env) (h0:Zh) (ρ0:Nat→Loc) (w0:World) (r:Option Nat) (m sz:Nat) (listed:Array Bool) (a:Act) (w:World):Prop where
 size:listed.size=ops.size
 closed : ∀ j,listed.getD j false=true→∀ e∈(Yd ops).getD j [],listed.getD e false=true
 st : ∃ ρ e h,Evo h0 ρ0 w0 h ρ w∧Sim P ρ h w∧ARel r m sz ρ h e a w ∧
  (∀ t,∃ k,sget e t=sget (Yu (Zs ops) tr e0 k) t∧∀ i o,(Zs ops)[i]? = some o→o.dst=some t→(listed.getD i false=true↔i<k)) ∧
  (∃ k,h=Zr tr h0 k∧∀ i o,(Zs ops)[i]? = some o→cls qs i o.op=3→(listed.getD i false=true↔i<k))
section
variable {P:Program} [Tabs P] {R:Zh→Prop} {qs:List (Nat×Nat)} {ops:Array Oper} {tr:List (Value×Zh)} {e0:Env} {h0:Zh} {ρ0:Nat→Loc} {w0:World} {r:Option Nat} {m sz:Nat}
theorem Yc {listed:Array Bool} {i j:Nat} (hi:i<listed.size):((listed.setIfInBounds i true).getD j false=true)↔(j=i∨listed.getD j false=true):=by
 by_cases h:j=i
 · subst h; simp [Array.getD_eq_getD_getElem?,hi]
 · simp [Array.getD_eq_getD_getElem?,Array.getElem?_setIfInBounds_ne (Ne.symm h),h]
theorem step_same {c:Nat} {o:SOp} {e:Env} {h h' : Zh} {v:Value} (g:StepD P R c o e h v h') (hne:c≠3):h' = h:=by
 unfold StepD at g
 split at g
 · exact g.2.1 hne
 · rename_i d want _
   obtain ⟨b,_,g3,g4⟩:=g
   by_cases hb:b=some want
   · exact (g3 hb).2.1 hne
   · exact (g4 hb).2
theorem trace_same (hsp : ∀ k o,(Zs ops)[k]? = some o→∃ v,tr[k]? = some (v,Zr tr h0 (k+1))∧StepD P R (cls qs k o.op) o (Yu (Zs ops) tr e0 k) (Zr tr h0 k) v (Zr tr h0 (k+1)))
  (htl:tr.length=(Zs ops).length) : ∀ k,k<tr.length→¬ (∃ o,(Zs ops)[k]? = some o∧cls qs k o.op=3)→Zr tr h0 (k+1)=Zr tr h0 k:=by
 intro k hk hX
 have hkl:k<(Zs ops).length:=by omega
 obtain ⟨v,g1,g2⟩:=hsp k _ (List.getElem?_eq_getElem hkl)
 exact step_same g2 fun hc=>hX ⟨_,List.getElem?_eq_getElem hkl,hc⟩
theorem mid_step {n:Nat} {Qx:Exit→Act→World→Prop} {listed:Array Bool} {a:Act} {w:World} {i:Nat} (hok : ∀ o∈ops.toList,opsOK sz ops o=true) (hd:Vm (Zs ops) (Yd ops) qs=true)
  (hsp : ∀ o,(Zs ops)[i]? = some o→∃ v,tr[i]? = some (v,Zr tr h0 (i+1))∧StepD P R (cls qs i o.op) o (Yu (Zs ops) tr e0 i) (Zr tr h0 i) v (Zr tr h0 (i+1)))
  (hXs : ∀ k,k<tr.length→¬ (∃ o,(Zs ops)[k]? = some o∧cls qs k o.op=3)→Zr tr h0 (k+1)=Zr tr h0 k) (hm:m≤w0.heap.size)
  (hR : ∀ k o,(Zs ops)[i]? = some o→cls qs i o.op=2→listed.getD i false=false→(∀ j oj,(Zs ops)[j]? = some oj→cls qs j oj.op=3→(listed.getD j false=true↔j<k))→R (Zr tr h0 k))
  (M:Mid P qs ops tr e0 h0 ρ0 w0 r m sz listed a w) (hi:i∈Region.ready .any ops listed) (K:Act→World→Prop) (hK : ∀ a' w',Mid P qs ops tr e0 h0 ρ0 w0 r m sz (listed.setIfInBounds i true) a' w'→K a' w') :
  wpOpIn (fence r) n P ops Qx i K a w:=by
 obtain ⟨hi0,o',ho',hpre⟩:=mem_ready.1 hi
 have hil:i<listed.size:=by
  rcases Nat.lt_or_ge i listed.size with h | h
  · exact h
  · simp [Array.getD_eq_getD_getElem?,Array.getElem?_eq_none h] at hi0
 have hiS : ¬ listed.getD i false=true:=by
  simp [Array.getD_eq_getD_getElem?,hil] at hi0 ⊢; exact hi0
 have hedge : ∀ e∈(Yd ops).getD i [],listed.getD e false=true:=fun e he=>by
  obtain ⟨x,h1,h2,rfl⟩:=(edges_get ho').1 he; exact hpre x h1 h2
 obtain ⟨ρ,e,h,hE,hS,hA,hslot,kh,hheap,hheapS⟩:=M.st
 have hso:=strip_get' ho'
 obtain ⟨o,hoeq⟩ : ∃ o:SOp,o=⟨o'.dst,o'.op,o'.guard.map fun p=>((gslot ops p.1).getD 0,p.2)⟩:=⟨_,rfl⟩
 rw [← hoeq] at hso
 have hodst:o.dst=o'.dst:=by rw [hoeq]
 have hoop:o.op=o'.op:=by rw [hoeq]
 have hmem:o'∈ops.toList:=by rw [Array.mem_toList_iff]; exact Array.mem_of_getElem? ho'
 have hok':=hok o' hmem
 -- who clashes with i is listed just if it stands ahead in the text
 have hcl : ∀ j oj,(Zs ops)[j]? = some oj→j≠i→(Wh (cls qs j oj.op) (cls qs i o.op) oj o=true∨Wh (cls qs i o.op) (cls qs j oj.op) o oj=true)→(Wh (cls qs j oj.op) (cls qs i o.op) oj o=true∧Wh (cls qs i o.op) (cls qs j oj.op) o oj=true) →
   (listed.getD j false=true↔j<i):=by
  intro j oj hj hne _ hc
  rcases Nat.lt_or_gt_of_ne hne with hlt | hgt
  · have hb:=Ve hd hj hso hlt hc.1
    exact ⟨fun _=>hlt,fun _=>ahead (S:=fun j=>listed.getD j false=true) M.closed i j hedge hb⟩
  · have hb:=Ve hd hso hj hgt hc.2
    exact ⟨fun hjS=>absurd (ahead (S:=fun j=>listed.getD j false=true) M.closed j i (M.closed j hjS) hb) hiS,fun h=>by omega⟩
 have wread : ∀ t j oj,t∈reads o→(Zs ops)[j]? = some oj→oj.dst=some t→(listed.getD j false=true↔j<i):=by
  intro t j oj ht hj hdt
  by_cases hne:j=i
  · subst hne; exact ⟨fun h=>absurd h hiS,fun h=>by omega⟩
  · have c1:Wh (cls qs j oj.op) (cls qs i o.op) oj o=true:=by simp [Wh,hdt,ht]
    have c2:Wh (cls qs i o.op) (cls qs j oj.op) o oj=true:=by simp [Wh,hdt,ht]
    exact hcl j oj hj hne (.inl c1) ⟨c1,c2⟩
 have wwrite : ∀ t j oj,o.dst=some t→(Zs ops)[j]? = some oj→oj.dst=some t→j≠i→(listed.getD j false=true↔j<i):=by
  intro t j oj ht hj hdt hne
  have c1:Wh (cls qs j oj.op) (cls qs i o.op) oj o=true:=by simp [Wh,hdt,ht]
  have c2:Wh (cls qs i o.op) (cls qs j oj.op) o oj=true:=by simp [Wh,hdt,ht]
  exact hcl j oj hj hne (.inl c1) ⟨c1,c2⟩
 have wheap : ∀ j oj,(cls qs i o.op=3∨cls qs i o.op=1)→(Zs ops)[j]? = some oj→cls qs j oj.op=3→(listed.getD j false=true↔j<i):=by
  intro j oj hc hj hx
  by_cases hne:j=i
  · subst hne; exact ⟨fun h=>absurd h hiS,fun h=>by omega⟩
  · have c1:Wh (cls qs j oj.op) (cls qs i o.op) oj o=true:=by rcases hc with hc | hc <;> simp [Wh,hx,hc]
    have c2:Wh (cls qs i o.op) (cls qs j oj.op) o oj=true:=by rcases hc with hc | hc <;> simp [Wh,hx,hc]
    exact hcl j oj hj hne (.inl c1) ⟨c1,c2⟩
 have hread : ∀ t,t∈reads o→sget e t=sget (Yu (Zs ops) tr e0 i) t:=by
  intro t ht
  obtain ⟨k,h1,h2⟩:=hslot t
  rw [h1]
  exact Vn fun j oj hj hdt=>by rw [← h2 j oj hj hdt]; exact wread t j oj ht hj hdt
 have hheapi:(cls qs i o.op=3∨cls qs i o.op=1)→h=Zr tr h0 i:=by
  intro hc
  rw [hheap]
  exact heapAt_eq (X:=fun k=>∃ o,(Zs ops)[k]? = some o∧cls qs k o.op=3) hXs fun j ⟨oj,hj,hx⟩=>by rw [← hheapS j oj hj hx]; exact wheap j oj hc hj hx
 obtain ⟨v,htr,hstep⟩:=hsp o hso
 -- the next state
 have next : ∀ (h1:Zh),(cls qs i o.op=3→h1=Zr tr h0 (i+1))→(cls qs i o.op≠3→h1=h)→∀ ρ' a' w',Evo h ρ w h1 ρ' w'→Sim P ρ' h1 w'→ARel r m sz ρ' h1 (Zf e o.dst v) a' w'→K a' w':=by
  intro h1 hc3 hcn ρ' a' w' g1 g2 g3
  refine hK a' w' ⟨by simp [M.size],fun j hj e' he'=>?_,ρ',_,h1,hE.trans g1,g2,g3,fun t=>?_,?_⟩
  · rw [Yc hil] at hj ⊢
    rcases hj with rfl | hj
    · exact .inr (hedge e' he')
    · exact .inr (M.closed j hj e' he')
  · by_cases hdt:o.dst=some t
    · refine ⟨i+1,?_,fun j oj hj hdj=>?_⟩
      · rw [Wc,if_pos hdt]
        show v=sget (match (Zs ops)[i]?,tr[i]? with | some o,some (v,_)=>Zf (Yu (Zs ops) tr e0 i) o.dst v | _,_=>Yu (Zs ops) tr e0 i) t
        rw [hso,htr]
        simp only
        rw [Wc,if_pos hdt]
      · rw [Yc hil]
        by_cases hne:j=i
        · subst hne; exact ⟨fun _=>by omega,fun _=>.inl rfl⟩
        · rw [wwrite t j oj hdt hj hdj hne]; omega
    · obtain ⟨k,k1,k2⟩:=hslot t
      refine ⟨k,by rw [Wc,if_neg hdt]; exact k1,fun j oj hj hdj=>?_⟩
      rw [Yc hil,← k2 j oj hj hdj]
      have hne:j≠i:=fun he=>by subst he; rw [hso] at hj; cases hj; exact hdt hdj
      simp [hne]
  · by_cases hc:cls qs i o.op=3
    · refine ⟨i+1,hc3 hc,fun j oj hj hx=>?_⟩
      rw [Yc hil]
      by_cases hne:j=i
      · subst hne; exact ⟨fun _=>by omega,fun _=>.inl rfl⟩
      · rw [wheap j oj (.inl hc) hj hx]; omega
    · refine ⟨kh,(hcn hc).trans hheap,fun j oj hj hx=>?_⟩
      rw [Yc hil,← hheapS j oj hj hx]
      have hne:j≠i:=fun he=>by subst he; rw [hso] at hj; cases hj; exact hc hx
      simp [hne]
 have hmw:m≤w.heap.size:=Nat.le_trans hm hE.wsize
 simp only [opsOK,Bool.and_eq_true] at hok'
 have opE : ∀ x∈o.op.operands.toList,ev e x=ev (Yu (Zs ops) tr e0 i) x:=by
  intro x hx
  cases x with
  | tmp t=>exact hread t (by simp only [reads,List.mem_append,List.mem_filterMap]; exact .inl ⟨.tmp t,hx,rfl⟩)
  | _=>rfl
 have run:((∀ K:Value→Zh→Prop,K v (Zr tr h0 (i+1))→aop P true o.op (ev (Yu (Zs ops) tr e0 i)) (Zr tr h0 i) K)∧(cls qs i o.op≠3→Zr tr h0 (i+1)=Zr tr h0 i) ∧
   (cls qs i o.op=0→∀ (h1:Zh) (K:Value→Zh→Prop),K v h1→aop P true o.op (ev (Yu (Zs ops) tr e0 i)) h1 K)∧(cls qs i o.op=2→∀ (h1:Zh) (K:Value→Zh→Prop),R h1→K v h1→aop P true o.op (ev (Yu (Zs ops) tr e0 i)) h1 K))→o'.wpIn (fence r) n P a w K Qx:=by
  rintro ⟨s1,s2,s3,s4⟩
  have fin : ∀ (h1:Zh),(cls qs i o.op=3→h1=Zr tr h0 (i+1))→(cls qs i o.op≠3→h1=h)→aop P true o.op (ev (Yu (Zs ops) tr e0 i)) h (fun v' h'=>v' = v∧h' = h1)→o'.wpIn (fence r) n P a w K Qx:=by
   intro h1 c3 cn hk
   have hk2:aop P false o'.op (ev e) h (fun v' h'=>(fun e1 h2=>e1=Zf e o.dst v∧h2=h1) (Zf e o'.dst v') h'):=by
    rw [← aop_congr (E:=ev e) (E':=ev (Yu (Zs ops) tr e0 i)) opE] at hk
    rw [← hoop]
    have:=aop_weak (Vh hk (K':=fun v' h'=>(fun e1 h2=>e1=Zf e o.dst v∧h2=h1) (Zf e o'.dst v') h') (fun v' h' ⟨g1,g2⟩=>by rw [g1,g2,hodst]; exact ⟨rfl,rfl⟩))
    exact this
   refine Oper.wpIn_mono ?_ (op_ok (P:=P) (sz:=sz) (K:=fun e1 h2=>e1=Zf e o.dst v∧h2=h1) hok'.1 hk2 r n m ρ a w hmw hS hA Qx)
   rintro a' w' ⟨ρ',e',h',⟨rfl,rfl⟩,g2,g3,g4⟩
   exact next _ c3 cn ρ' a' w' g2 g3 g4
  rcases cls_cases qs i o.op with ⟨hc,_⟩ | hc | hc | hc
  · exact fin h (fun h=>by rw [hc] at h; cases h) (fun _=>rfl) (s3 hc h _ ⟨rfl,rfl⟩)
  · have:=hheapi (.inr hc)
    refine fin h (fun h=>by rw [hc] at h; cases h) (fun _=>rfl) ?_
    rw [this]
    exact s1 _ ⟨rfl,s2 (by rw [hc]; simp)⟩
  · exact fin h (fun h=>by rw [hc] at h; cases h) (fun _=>rfl) (s4 hc h _ (hheap▸hR kh o hso hc (by simpa using hiS) hheapS) ⟨rfl,rfl⟩)
  · have:=hheapi (.inl hc)
    refine fin (Zr tr h0 (i+1)) (fun _=>rfl) (fun h=>absurd hc h) ?_
    rw [this]
    exact s1 _ ⟨rfl,rfl⟩
 unfold wpOpIn
 rw [ho']
 simp only
 unfold StepD at hstep
 cases hg:o'.guard with
 | none =>
   have hog:o.guard=none:=by rw [hoeq,hg]; rfl
   simp only [hog] at hstep
   rw [if_pos (by simp [Region.wanted,hg])]
   exact run hstep
 | some p =>
   obtain ⟨j,want⟩:=p
   simp only [hg] at hok'
   cases hsl:gslot ops j with
   | none=>simp [hsl] at hok'
   | some d =>
     have hog:o.guard=some (d,want):=by rw [hoeq,hg]; simp [hsl]
     simp only [hog] at hstep
     obtain ⟨b,hb,k1,k2⟩:=hstep
     have hdr:d∈reads o:=by simp [reads,hog]
     rw [← hread d hdr] at hb
     have hdl:d<sz:=by simpa [hsl] using hok'.2
     have hr:=hA.env d (by rw [hA.size]; exact hdl)
     rw [hb] at hr
     have hv:=hr.gv
     have hy:yielded ops a.tmps j=b:=by
      have hlt:d<a.tmps.size:=by rw [hA.size]; exact hdl
      unfold yielded
      unfold gslot at hsl
      rw [hsl]
      have e1:a.tmps.getD d undef=a.tmps[d]:=by simp [Array.getD_eq_getD_getElem?,hlt]
      rw [e1] at hv
      simp only [Option.bind_some,Array.getElem?_eq_getElem hlt]
      rw [← hv]; cases a.tmps[d] <;> rfl
     by_cases hbw:b=some want
     · rw [if_pos (by simp [Region.wanted,hg,hy,hbw])]
       exact run (k1 hbw)
     · rw [if_neg (by simp [Region.wanted,hg,hy,hbw])]
       obtain ⟨g1,g2⟩:=k2 hbw
       subst g1
       refine ⟨fun _ _=>trivial,next h (fun hc=>?_) (fun _=>rfl) ρ _ w (.refl _ _ _) hS ?_⟩
       · rw [g2]; exact hheapi (.inl hc)
       · rw [← hodst]; exact hA.put .skip
theorem mid_run {n:Nat} {Qx:Exit→Act→World→Prop} (hok : ∀ o∈ops.toList,opsOK sz ops o=true) (hd:Vm (Zs ops) (Yd ops) qs=true) (hf:fwd (Yd ops)=true)
  (hsp : ∀ k o,(Zs ops)[k]? = some o→∃ v,tr[k]? = some (v,Zr tr h0 (k+1))∧StepD P R (cls qs k o.op) o (Yu (Zs ops) tr e0 k) (Zr tr h0 k) v (Zr tr h0 (k+1)))
  (htl:tr.length=(Zs ops).length) (hm:m≤w0.heap.size) (hR : ∀ k,R (Zr tr h0 k))
  (hQ : ∀ listed a w,Mid P qs ops tr e0 h0 ρ0 w0 r m sz listed a w→(∀ j,j<ops.size→listed.getD j false=true)→Qx .normal a w) :
  ∀ (fuel:Nat) (listed:Array Bool) (a:Act) (w:World),(listed.toList.filter (!·)).length≤fuel→Mid P qs ops tr e0 h0 ρ0 w0 r m sz listed a w→wpAnyIn (fence r) n P .any ops Qx fuel listed a w:=by
 intro fuel
 have allOf : ∀ (listed:Array Bool) (a:Act) (w:World),Mid P qs ops tr e0 h0 ρ0 w0 r m sz listed a w→Region.ready .any ops listed=[]→Qx .normal a w:=by
  intro listed a w M hr
  refine hQ listed a w M fun j hj=>?_
  induction j using Nat.strongRecOn with
  | _ j ih =>
    by_cases hjS:listed.getD j false=true
    · exact hjS
    · have hjl:j<listed.size:=by rw [M.size]; exact hj
      have:j∈Region.ready .any ops listed:=mem_ready.2 ⟨by simpa [Array.getD_eq_getD_getElem?,hjl] using hjS,ops[j],by simp [hj],fun x hx hb=>by
       have he:x.on∈(Yd ops).getD j []:=(edges_get (by simp [hj])).2 ⟨x,hx,hb,rfl⟩
       have hlt:x.on<j:=by
        have hjl2:j<(Yd ops).length:=by simp [Yd]; exact hj
        have h1:=List.all_eq_true.1 hf ((Yd ops)[j],j) (by rw [List.mem_zipIdx_iff_getElem?]; simp [List.getElem?_eq_getElem hjl2])
        have he' : x.on∈(Yd ops)[j]:=by simpa [List.getD,List.getElem?_eq_getElem hjl2] using he
        simpa using List.all_eq_true.1 h1 x.on he'
       exact ih x.on hlt (by omega)⟩
      rw [hr] at this; cases this
 induction fuel with
 | zero =>
   intro listed a w hl M
   have hall : ∀ j,listed.getD j true=true:=by
    intro j
    have he:listed.toList.filter (!·)=[]:=List.length_eq_zero_iff.1 (Nat.le_zero.1 hl)
    rcases Nat.lt_or_ge j listed.size with h | h
    · have:=List.filter_eq_nil_iff.1 he listed[j] (by simp)
      simpa [Array.getD_eq_getD_getElem?,h] using this
    · simp [Array.getD_eq_getD_getElem?,Array.getElem?_eq_none h]
   have hr:Region.ready .any ops listed=[]:=by
    rw [List.eq_nil_iff_forall_not_mem]
    intro j hj
    have:=(mem_ready.1 hj).1
    rw [hall j] at this; cases this
   exact ⟨hr,allOf listed a w M hr⟩
 | succ fuel ih =>
   intro listed a w hl M
   refine ⟨allOf listed a w M,fun i hi=>mid_step hok hd (hsp i) (trace_same hsp htl) hm (fun k _ _ _ _ _=>hR k) M hi _ fun a' w' M'=>ih _ a' w' ?_ M'⟩
   have hi0:=(mem_ready.1 hi).1
   have hil:i<listed.size:=by
    rcases Nat.lt_or_ge i listed.size with h | h
    · exact h
    · simp [Array.getD_eq_getD_getElem?,Array.getElem?_eq_none h] at hi0
   have hv:listed[i]=false:=by simpa [Array.getD_eq_getD_getElem?,hil] using hi0
   have e1:listed.toList=listed.toList.take i++false::listed.toList.drop (i+1):=by
    have:=List.take_append_drop i listed.toList
    rw [List.drop_eq_getElem_cons (by simpa using hil)] at this
    simpa [hv] using this.symm
   have e2:(listed.setIfInBounds i true).toList=listed.toList.take i++true::listed.toList.drop (i+1):=by
    rw [Array.toList_setIfInBounds]
    exact (List.set_eq_take_append_cons_drop ..).trans (by rw [if_pos (by simpa using hil)])
   rw [e2]
   rw [e1] at hl
   simp only [List.filter_append,List.filter_cons,Bool.not_false,Bool.not_true,if_true,List.length_append,List.length_cons] at hl ⊢
   simp at hl ⊢
   omega
end
theorem awp_draw {P:Program} [Tabs P] {sz id:Nat} {ops:Array Oper} {Q:Exit→Env→Zh→Prop} {e:Env} {h:Zh} (qs:List (Nat×Nat)) (hm:P.follows .mixedOrders=true) (hok:ops.toList.all (opsOK sz ops)=true)
  (hd:Vm (Zs ops) (Yd ops) qs=true) (hf:fwd (Yd ops)=true) (hk:dops P qs (Q .normal) 0 (Zs ops) e h):AWP P sz (.region id ops true) Q e h:=by
 intro r n m ρ a w hmm s x
 obtain ⟨tr,e',h',ht,hN⟩:=dops_trace _ _ _ _ hk
 obtain ⟨htl,hE,hH,hsp⟩:=ht.spec
 simp only [Nat.zero_add] at hsp
 obtain ⟨s1,e1⟩:=drew_sim s
 refine wpIn_region_any hm (mid_run (ρ0:=ρ) (w0:=w) (fun o ho=>List.all_eq_true.1 hok o ho) hd hf hsp htl hmm (fun _=>trivial) ?_ ops.size (Array.replicate ops.size false) a { w with drawn:=w.drawn+1 } ?_ ?_)
 · intro listed a1 w1 M hall
   obtain ⟨ρ1,ee,hh,g1,g2,g3,g4,k,g5,g6⟩:=M.st
   have hlen:(Zs ops).length=ops.size:=by simp [Zs]
   have hSall : ∀ j o,(Zs ops)[j]? = some o→j<ops.size:=fun j o hj=>by rw [← hlen]; exact (List.getElem?_eq_some_iff.1 hj).1
   have hheap:hh=h':=by
    rw [g5,← hH]
    refine heapAt_eq (X:=fun k=>∃ o,(Zs ops)[k]? = some o∧cls qs k o.op=3) ?_ fun j ⟨oj,hj,hx⟩=>?_
    · intro k hk hX
      have hkl:k<(Zs ops).length:=by omega
      obtain ⟨v,q1,q2⟩:=hsp k _ (List.getElem?_eq_getElem hkl)
      have hne:cls qs k (Zs ops)[k].op≠3:=fun hc=>hX ⟨_,List.getElem?_eq_getElem hkl,hc⟩
      unfold StepD at q2
      split at q2
      · exact q2.2.1 hne
      · rename_i d want _
        obtain ⟨b,_,q3,q4⟩:=q2
        by_cases hb:b=some want
        · exact (q3 hb).2.1 hne
        · exact (q4 hb).2
    · have:=(g6 j oj hj hx).1 (hall j (hSall j oj hj))
      have:=hSall j oj hj
      constructor <;> intro <;> omega
   refine ⟨ρ1,e',hh,by rw [hheap]; exact hN,g1,g2,g3.size,fun t ht=>?_,g3.marks,g3.round⟩
   obtain ⟨k2,q1,q2⟩:=g4 t
   have:sget e' t=sget ee t:=by
    rw [q1,← hE]
    exact Vn fun j oj hj hdt=>by
     have:=(q2 j oj hj hdt).1 (hall j (hSall j oj hj))
     have:=hSall j oj hj
     constructor <;> intro <;> omega
   rw [this]; exact g3.env t ht
 · have:=List.length_filter_le (!·) (Array.replicate ops.size false).toList
   simpa using this
 · refine ⟨by simp,fun j hj=>?_,ρ,e,h,e1,s1,⟨x.size,x.env,x.marks,x.round⟩,fun t=>⟨0,rfl,fun i o _ _=>?_⟩,0,rfl,fun i o _ _=>?_⟩
   · simp [Array.getD_eq_getD_getElem?,Array.getElem?_replicate] at hj
     split at hj <;> simp at hj
   · simp only [Array.getD_eq_getD_getElem?,Array.getElem?_replicate]
     split <;> simp
   · simp only [Array.getD_eq_getD_getElem?,Array.getElem?_replicate]
     split <;> simp
theorem aw_draw {P:Program} [Tabs P] {sz:Nat} {l:List SOp} {af:List (List Nat)} {Q:Exit→Env→Zh→Prop} {e:Env} {h:Zh} (qs:List (Nat×Nat)) (hm:P.follows .mixedOrders=true)
  (hd:Vm l af qs=true) (hf:fwd af=true) (hk:dops P qs (Q .normal) 0 l e h):aw P sz (.draw l af) Q e h:=by
 intro c hc hok
 cases c with
 | region id ops d =>
   cases d with
   | false=>simp [Zy] at hc
   | true =>
     simp only [Zy,SCode.draw.injEq] at hc
     obtain ⟨h1,h2⟩:=hc
     have h2' : Yd ops=af:=h2
     subst h1
     rw [← h2'] at hd hf
     exact awp_draw qs hm hok hd hf hk
 | _=>simp [Zy] at hc
end Go.Am
namespace Go.Am
def bits (s:Nat):List Nat:=(List.range 64).filter fun i=>s.testBit i
section
variable {P:Program} [Tabs P] {ρ ρ1:Nat→Loc} {h h1:Zh} {w W W' : World}
theorem Evo.onto (a:Evo h ρ w h1 ρ1 W) (hs:W.heap.size≤W'.heap.size) (ho:W'.os=W.os) (ht:W'.tape=W.tape) (hp:W'.output=W.output) (hk : ∀ k,k<w.heap.size→¬ Mine h ρ k→W'.heap[k]? = W.heap[k]?):Evo h ρ w h1 ρ1 W' :=
 ⟨a.len,a.agree,Nat.le_trans a.wsize hs,ho.trans a.os,ht.trans a.tape,hp.trans a.output,fun k hk1 hk2=>(hk k hk1 hk2).trans (a.keep k hk1 hk2),a.orig,a.live⟩
theorem Sim.onto (s:Sim P ρ1 h1 W) (hk : ∀ k,Live h1 ρ1 k→W'.heap[k]? = W.heap[k]?) (ht : ∀ p∈Tabs.tabs P,W'.heap[p.1]? = W.heap[p.1]?):Sim P ρ1 h1 W' :=
 s.same (fun i x hv=>hk _ ⟨i,x,hv,rfl⟩) ht
theorem Sim.notLive (s:Sim P ρ h w) {k:Nat} {o:Obj} (hk:w.heap[k]? = some o) (ho:ownObj o=false) : ¬ Live h ρ k:=by
 rintro ⟨i,⟨c,e,ro⟩,hv,rfl⟩
 cases hs:side h i with
 | true =>
   obtain ⟨b,h1,h2⟩:=side_spec hs
   obtain ⟨o',h3,h4⟩:=s.sides i b h1 h2
   rw [hk] at h3; cases h3
   rw [(h4.own h2).1] at ho; cases ho
 | false =>
   obtain ⟨c',fr,hc,_⟩:=s.cells i c e ro hv hs
   rw [hk] at hc; cases hc; cases ho
theorem Mine.live {k:Nat} (hm:Mine h ρ k):Live h ρ k:=let ⟨i,c,e,hv,hb⟩:=hm; ⟨i,_,hv,hb⟩
theorem Sim.turn (s:Sim P ρ1 h1 W) {l:Nat} {o o' : Obj} (hl:W.heap[l]? = some o) (ho:ownObj o=false) (ht : ∀ p∈Tabs.tabs P,p.1≠l):Sim P ρ1 h1 (W.putObj l o') :=
 s.onto (fun k hk=>World.putObj_heap_other (fun he=>s.notLive hl ho (he▸hk))) (fun p hp=>World.putObj_heap_other (ht p hp))
theorem Evo.turn (a:Evo h ρ w h1 ρ1 W) {l:Nat} {o' : Obj} (hl:w.heap.size≤l):Evo h ρ w h1 ρ1 (W.putObj l o') :=
 a.onto (by simp) rfl rfl rfl (fun k hk _=>World.putObj_heap_other (by omega))
end
end Go.Am
namespace Go.Am
open Go.ChangeShapes Go.WideShapes Go.ChangeAt Go.WideMaps Go.WideElems Go.RowKit
def keepV (n:Nat):Value→Bool
 | .slice (some ⟨b,_,none⟩) _ _=>decide (b<n)
 | .pointer (some ⟨b,_,none⟩)=>decide (b<n)
 | v=>atom v
def absV (n:Nat) (v:Value):Value:=if keepV n v then v else match v with | .slice (some _) 0 _=>void | _=>undef
def absBlk (n:Nat):Obj→Blk
 | .cells c e _=>.cells (c.toList.map (absV n)) e true
 | _=>.dead
def absHeap (w:World):Zh:=w.heap.toList.map (absBlk w.heap.size)
def absLoc (w:World) (i:Nat):Loc:=⟨i,match w.heap[i]? with | some (.cells c _ _)=>c.size | _=>0,0⟩
theorem keepV_rel {n:Nat} {ρ:Nat→Loc} {v:Value} (hρ : ∀ i,(ρ i).blk=i) (h:keepV n v=true):VRel n ρ v v:=by
 unfold keepV at h
 split at h
 · rename_i b o l c
   have:=VRel.slice (ρ:=ρ) (o:=o) (len:=l) (cap:=c) (of_decide_eq_true h)
   rwa [hρ] at this
 · rename_i b o
   have:=VRel.ptr (ρ:=ρ) (o:=o) (of_decide_eq_true h)
   rwa [hρ] at this
 · exact .atom h
theorem absV_rel {n:Nat} {ρ:Nat→Loc} {v:Value} (hρ : ∀ i,(ρ i).blk=i):VRel n ρ (absV n v) v:=by
 unfold absV
 split
 · exact keepV_rel hρ (by assumption)
 · split
   · exact .void
   · exact .any _
theorem absHeap_len (w:World):(absHeap w).length=w.heap.size:=by simp [absHeap]
theorem view_abs {w:World} {i:Nat} {x:List Value×TypeId×Bool} (h:view (absHeap w) i=some x) : ∃ c e fr,w.heap[i]? = some (.cells c e fr)∧x=(c.toList.map (absV w.heap.size),e,true):=by
 simp only [view,absHeap,List.getElem?_map,Array.getElem?_toList,Option.bind_eq_some_iff,Option.map_eq_some_iff] at h
 obtain ⟨b,⟨o,ho,rfl⟩,hb⟩:=h
 cases o <;> simp [absBlk,Blk.view] at hb
 rename_i c e fr
 exact ⟨c,e,fr,ho,hb.symm⟩
theorem abs_view {w:World} {i:Nat} {c:Array Value} {e:TypeId} {fr:Nat×Nat} (h:w.heap[i]? = some (.cells c e fr)):view (absHeap w) i=some (c.toList.map (absV w.heap.size),e,true):=by
 simp [view,absHeap,h,absBlk,Blk.view]
theorem absSim {P:Program} [Tabs P] (w:World) (ht : ∀ p∈Tabs.tabs P,w.heap[p.1]? = some p.2):Sim P (absLoc w) (absHeap w) w where
 sides i b hi hb:=by
  simp only [absHeap,List.getElem?_map,Option.map_eq_some_iff] at hi
  obtain ⟨o,_,rfl⟩:=hi
  cases o <;> cases hb
 cells i c e ro hv _:=by
  obtain ⟨c',e',fr,hc,hx⟩:=view_abs hv
  cases hx
  refine ⟨c',fr,hc,by simp [absLoc,hc],by simp,fun k hk=>?_,fun h=>by cases h⟩
  simp only [List.length_map,Array.length_toList] at hk
  have e1:(c'.toList.map (absV w.heap.size)).getD k undef=absV w.heap.size (c'.getD k undef):=by
   simp [List.getD,Array.getD,hk]
  rw [e1,absHeap_len]
  exact absV_rel (fun _=>rfl)
 inj i j _ _ _ _ h:=h
 tab p hp:=⟨ht p hp,fun ⟨i,c,e,hv,_⟩=>by
  obtain ⟨_,_,_,_,hx⟩:=view_abs hv
  cases hx⟩
theorem ACall.calls {P:Program} [Tabs P] {f:FuncId} {args:List Value} {w:World} {Q:Value→Zh→Prop} (c:ACall P f args (absHeap w) Q) (ht : ∀ p∈Tabs.tabs P,w.heap[p.1]? = some p.2) (ha : ∀ v∈args,keepV w.heap.size v=true) :
  Calls P f args.toArray w fun en w'=>∃ v v' ρ' h',en = .returned v'∧Q v h'∧VRel h'.length ρ' v v'∧Sim P ρ' h' w'∧Below w.heap.size w w':=by
 rw [← callsIn_wide (n:=0)]
 refine (c.2 0 (absLoc w) args.toArray w (absSim w ht) ⟨rfl,fun k hk=>?_⟩).mono ?_
 · rw [absHeap_len]
   refine keepV_rel (fun _=>rfl) ?_
   simp only [List.getD,List.getElem?_eq_getElem hk,Option.getD_some]
   exact ha _ (List.getElem_mem hk)
 · rintro en w' ⟨v,v',ρ',h',h1,h2,h3,h4,h5⟩
   refine ⟨v,v',ρ',h',h1,h2,h3,h5,h4.os,h4.tape,h4.output,h4.wsize,fun k hk=>h4.keep k hk ?_⟩
   rintro ⟨i,c,e,hv,_⟩
   obtain ⟨_,_,_,_,hx⟩:=view_abs hv
   cases hx
theorem ACall.calls_true {P:Program} [Tabs P] {f:FuncId} {args:List Value} {w:World} (c:ACall P f args (absHeap w) fun v _=>v = .bool true) (ht : ∀ p∈Tabs.tabs P,w.heap[p.1]? = some p.2) (ha : ∀ v∈args,keepV w.heap.size v=true) :
  Calls P f args.toArray w fun en w'=>en = .returned (.bool true)∧Below w.heap.size w w' :=
 (c.calls ht ha).mono fun _ _ ⟨_,_,_,_,h1,h2,h3,_,h5⟩=>by
  subst h2
  rw [h3.bool] at h1
  exact ⟨h1,h5⟩
def IntSl (h:Zh) (v:Value) (xs:List Int):Prop :=
 (v = .slice none 0 0∧xs=[])∨∃ b o sp cap c e ro,v = .slice (some ⟨b,o,sp⟩) xs.length cap∧xs.length≤cap∧view h b=some (c,e,ro)∧∀ i,i<xs.length→c[o+i]? = some (Zd (xs.getD i 0))
section read
variable {H:Type} {enc:TypeId×Value→H} {P:Program} {w:World} {base:Nat} {r:Reach}
theorem okWide_sl {t e:TypeId} {v:Value} (ht:P.underlying t=some (.slice e)) (h:Value.okWide P w r base t v) :
  v = .slice none 0 0∨∃ b o len cap c e' fr,v = .slice (some ⟨b,o,none⟩) len cap∧len≤cap∧w.heap[b]? = some (.cells c e' fr):=by
 obtain ⟨a,len,cap,rfl⟩:=okWide_slice ht h
 simp only [Value.okWide,ht,Cell.okWide,Cell.ok] at h
 cases a with
 | none=>cases len <;> cases cap <;> simp_all
 | some a =>
   obtain ⟨hl,_,_,hs,row,cells,hsh,_⟩:=h
   obtain ⟨b,o,s⟩:=a
   simp only at hs hsh
   subst hs
   simp only [World.shape?] at hsh
   split at hsh
   · rename_i c e' fr hb
     exact .inr ⟨b,o,len,cap,c,e',fr,rfl,hl,hb⟩
   · cases hsh
theorem keepV_sl {t e:TypeId} {v:Value} (ht:P.underlying t=some (.slice e)) (h:Value.okWide P w r base t v):keepV w.heap.size v=true:=by
 rcases okWide_sl ht h with rfl | ⟨b,o,len,cap,c,e',fr,rfl,_,hb⟩
 · rfl
 · simp only [keepV,decide_eq_true_eq]; exact (Array.getElem?_eq_some_iff.1 hb).1
theorem intSl_of {t e:TypeId} {v:Value} {d:DataW H} {ps:List MemPlace} (ht:P.underlying t=some (.slice e)) (he:P.underlying e=some (.int .i64)) (hc:P.cellsOf e=1) (hok:Value.okWide P w r base t v)
  (h:DataW.Trod enc P w 0 (fun _=>true) true t v d ps) :
  ∃ xs:List Int,IntSl (absHeap w) v xs∧keepV w.heap.size v=true∧(∀ x∈xs,-(2 ^ 63)≤x∧x<2 ^ 63)∧xs.length<2 ^ 63:=by
 have hkeep:=keepV_sl ht hok
 obtain ⟨fuel,h⟩:=h
 rcases okWide_sl ht hok with rfl | ⟨b,o,len,cap,c,e',fr,rfl,hl,hb⟩
 · exact ⟨[],.inl ⟨rfl,rfl⟩,hkeep,by simp,by simp⟩
 · rcases open_ints ht he hc h with ⟨h1,_⟩ | ⟨a,len',cap',zs,h1,_,_,hm,hz,_,hcell,hwf⟩
   · simp [Value.cells] at h1
   · simp [Value.cells] at h1
     obtain ⟨rfl,rfl,rfl⟩:=h1
     simp only [if_true] at hz
     have hzl:(zs.take len).length=len:=by simp; omega
     refine ⟨zs.take len,.inr ⟨b,o,none,cap,_,_,_,by rw [hzl],by rw [hzl]; exact hl,abs_view hb,fun i hi=>?_⟩,hkeep,fun x hx=>?_,?_⟩
     · rw [hzl] at hi
       have:=hcell i (by omega)
       rw [Wg] at this
       simp only [World.cell?,hb] at this
       simp only [List.getElem?_map,Array.getElem?_toList]
       simp at this
       rw [this]
       simp [absV,keepV,atom,List.getD,hi]
     · have:=hwf x (List.mem_of_mem_take hx)
       simp [Lit.wf,IntKind.min,IntKind.max,IntKind.signed,IntKind.bits] at this
       omega
     · rw [hzl]; simp only [maxLen] at hm; omega
end read
section law
variable {H:Type} {enc:TypeId×Value→H} {P:Program}
theorem trodAll_below {W W' : World} (hl:laidOutB P=true) (hb:Below W.heap.size W W') : ∀ {ts:List TypeId} {vs:List Value} {ds:List (DataW H)} {ps:List MemPlace},(∀ t∈ts,P.readableRec t=true∧t<P.types.size) →
  DataW.TrodAll enc P W 0 (fun _=>true) true ts vs ds ps→(∀ x∈ps,x.block<W.heap.size)→DataW.TrodAll enc P W' 0 (fun b=>decide (b<W.heap.size)) true ts vs ds ps
 | [],vs,ds,ps,_,h,_=>by
   obtain ⟨rfl,rfl,rfl⟩:=trodAll_nil h
   exact h
 | t::ts,_,_,_,ht,h,hlt=>by
   obtain ⟨v,vs1,d,ds1,a,b,rfl,rfl,rfl,h1,h2⟩:=trodAll_cons h
   refine ⟨a,b,Below.trod hl (ht t (by simp)).1 (ht t (by simp)).2 h1 hb (fun x hx=>hlt x (by simp [hx])),trodAll_below hl hb (fun t h=>ht t (by simp [h])) h2 (fun x hx=>hlt x (by simp [hx])),rfl⟩
theorem post_true {f:Func} {s:ChangeSpec} {apart fresh:Bool} {W W' : World} {args:Array Value} {ds gs:List (DataW H)} {before:List MemPlace} {tb:TypeId} (hl:laidOutB P=true)
  (hts:f.params.toList.all (fun t=>P.readableRec t&&decide (t<P.types.size))=true) (hr:f.resultTypes = #[tb]) (htb:P.underlying tb=some .bool) (hvars:s.vars=[])
  (hW:DataW.Whole enc P f.params.toList s.vars apart W args.toList ds gs before) (hfn:(s.fn H (ds++gs)).results=[.lit (.bool true)]∧(s.fn H (ds++gs)).args=ds∧(s.fn H (ds++gs)).vars=gs) (hb:Below W.heap.size W W') :
  s.post enc P f apart fresh false false W args (.bool true) W':=by
 have hlt:=hW.lt
 obtain ⟨p,q,hA,hV,rfl,h5,h6⟩:=hW
 have hV':=hV
 rw [hvars] at hV'
 obtain ⟨rfl,rfl⟩:=trodVars_none hV'
 refine ⟨ds,[],p++[],[],p,[],⟨p,[],hA,hV,rfl,h5,h6⟩,?_,?_,?_,hb.frame _,fun h=>by cases h⟩
 · rw [hfn.1,hr]
   exact trodAll_mk1 (shut_bool htb _)
 · rw [hfn.2.1]
   exact trodAll_below hl hb (fun t ht=>by simpa using List.all_eq_true.1 hts t ht) hA (fun x hx=>hlt x (by simp [hx]))
 · rw [hfn.2.2,hvars]; rfl
end law
end Go.Am
namespace Go.Am
theorem wrap_id {x:Int} (h1 : -9223372036854775808≤x) (h2:x<9223372036854775808):IntKind.i64.wrap x=x:=by
 simp [IntKind.wrap,IntKind.signed,IntKind.bits]; omega
theorem Wf {a b:Int} (h1 : -9223372036854775808≤a+b) (h2:a+b<9223372036854775808):addV .i64 a b=a+b:=wrap_id h1 h2
theorem Vk {a b:Int} (h1 : -9223372036854775808≤a-b) (h2:a-b<9223372036854775808):subV .i64 a b=a-b:=wrap_id h1 h2
theorem mulV_id {a b:Int} (h1 : -9223372036854775808≤a*b) (h2:a*b<9223372036854775808):mulV .i64 a b=a*b:=wrap_id h1 h2
theorem ofNat64 {a:Nat} (ha:a<9223372036854775808):(BitVec.ofInt 64 (a:Int)).toNat=a:=by
 rw [BitVec.ofInt_natCast,BitVec.toNat_ofNat]; exact Nat.mod_eq_of_lt (by omega)
theorem bitsV_and {a b:Nat} (ha:a<9223372036854775808) (hb:b<9223372036854775808):Wj .and .i64 a b=((a &&& b:Nat):Int):=by
 have hx:a &&& b<2 ^ 63:=Nat.and_lt_two_pow _ (by omega)
 show IntKind.i64.wrap ((BitVec.ofInt 64 (a:Int) &&& BitVec.ofInt 64 (b:Int)).toNat:Int)=_
 rw [BitVec.toNat_and,ofNat64 ha,ofNat64 hb]; exact wrap_id (by omega) (by omega)
theorem bitsV_or {a b:Nat} (ha:a<9223372036854775808) (hb:b<9223372036854775808):Wj .or .i64 a b=((a ||| b:Nat):Int):=by
 have hx:a ||| b<2 ^ 63:=Nat.or_lt_two_pow (by omega) (by omega)
 show IntKind.i64.wrap ((BitVec.ofInt 64 (a:Int) ||| BitVec.ofInt 64 (b:Int)).toNat:Int)=_
 rw [BitVec.toNat_or,ofNat64 ha,ofNat64 hb]; exact wrap_id (by omega) (by omega)
def less (a b:Nat):Nat:=a ^^^ (a &&& b)
theorem Yj (a b i:Nat):(less a b).testBit i=(a.testBit i && !b.testBit i):=by
 simp only [less,Nat.testBit_xor,Nat.testBit_and]; cases a.testBit i <;> cases b.testBit i <;> rfl
theorem less_lt {a b n:Nat} (ha:a<2 ^ n):less a b<2 ^ n:=Nat.xor_lt_two_pow ha (Nat.lt_of_le_of_lt Nat.and_le_left ha)
theorem bitsV_andNot {a b:Nat} (ha:a<9223372036854775808) (hb:b<9223372036854775808):Wj .andNot .i64 a b=((less a b:Nat):Int):=by
 have hx:less a b<2 ^ 63:=less_lt (by omega)
 show IntKind.i64.wrap ((BitVec.ofInt 64 (a:Int) &&& ~~~ (BitVec.ofInt 64 (b:Int))).toNat:Int)=_
 have e:(BitVec.ofInt 64 (a:Int) &&& ~~~ (BitVec.ofInt 64 (b:Int))).toNat=less a b:=by
  apply Nat.eq_of_testBit_eq
  intro i
  rw [Yj,BitVec.testBit_toNat,BitVec.getLsbD_and,BitVec.getLsbD_not,← BitVec.testBit_toNat,← BitVec.testBit_toNat,ofNat64 ha,ofNat64 hb]
  by_cases hi:i<64
  · simp [hi]
  · have:a.testBit i=false:=Nat.testBit_lt_two_pow (Nat.lt_of_lt_of_le ha (by have:=Nat.pow_le_pow_right (n:=2) (by decide) (show 63≤i by omega); omega))
    simp [this]
 rw [e]; exact wrap_id (by omega) (by omega)
theorem shrV_nat {a y:Nat} (ha:a<9223372036854775808):shrV .i64 a y=((a >>> y:Nat):Int):=by
 simp only [shrV,Int.toNat_natCast,IntKind.bits]
 rw [Nat.shiftRight_eq_div_pow]
 by_cases hy:y≤64
 · rw [Nat.min_eq_left hy,Int.fdiv_eq_ediv_of_nonneg _ (by exact Int.le_of_lt (Int.pow_pos (by decide)))]
   simp
 · rw [Nat.min_eq_right (by omega)]
   have h1:a / 2 ^ y=0:=Nat.div_eq_of_lt (Nat.lt_of_lt_of_le ha (by have:=Nat.pow_le_pow_right (n:=2) (by decide) (show 63≤y by omega); omega))
   rw [h1,Int.fdiv_eq_ediv_of_nonneg _ (by decide)]
   omega
theorem shlV_nat {a y:Nat} (h:a*2 ^ y<9223372036854775808) (hy:y≤64):shlV .i64 a y=((a*2 ^ y:Nat):Int):=by
 simp only [shlV,Int.toNat_natCast,IntKind.bits]
 rw [Nat.min_eq_left hy]
 have e:(a:Int)*2 ^ y=((a*2 ^ y:Nat):Int):=by simp
 rw [e]; exact wrap_id (by omega) (by omega)
theorem testV {a y:Nat} (ha:a<9223372036854775808):Wj .and .i64 (shrV .i64 a y) 1=if a.testBit y then 1 else 0:=by
 rw [shrV_nat ha]
 have:=bitsV_and (a:=a >>> y) (b:=1) (Nat.lt_of_le_of_lt (by rw [Nat.shiftRight_eq_div_pow]; exact Nat.div_le_self _ _) ha) (by decide)
 rw [show ((1:Nat):Int)=1 from rfl] at this
 rw [this,Nat.and_one_is_mod,Nat.testBit_eq_decide_div_mod_eq,Nat.shiftRight_eq_div_pow]
 rcases Nat.mod_two_eq_zero_or_one (a / 2 ^ y) with h | h <;> simp [h]
theorem filter_first {p q:Nat→Bool} {k:Nat} (hk:p k=true) (hlo : ∀ i,i<k→p i=false) (hq : ∀ i,q i=(p i&&decide (i≠k))) :
  ∀ n,((k<n→(List.range n).filter p=k::(List.range n).filter q)∧(n≤k→(List.range n).filter p=[]∧(List.range n).filter q=[]))
 | 0=>by simp
 | n+1=>by
   obtain ⟨h1,h2⟩:=filter_first hk hlo hq n
   rw [List.range_succ,List.filter_append,List.filter_append]
   refine ⟨fun h=>?_,fun h=>?_⟩
   · by_cases hn:k<n
     · rw [h1 hn]
       have:q n=p n:=by rw [hq]; simp; omega
       simp [List.filter_cons,this]
     · obtain rfl:k=n:=by omega
       obtain ⟨e1,e2⟩:=h2 (Nat.le_refl _)
       rw [e1,e2]
       simp [hk,hq]
   · obtain ⟨e1,e2⟩:=h2 (by omega)
     rw [e1,e2]
     have h3:p n=false:=hlo n (by omega)
     simp [h3,hq]
class BitTab (P:Program) (g:outParam Nat) extends Tabs P where
 et:TypeId
 fr:Nat×Nat
 eq:toTabs.tabs=[(g,.cells (Lib.deBruijn64tab.map fun (n:Nat)=>Value.int .u8 n).toArray et fr)]
end Go.Am
namespace Go.Am
def Wb (v:Value) (sz i:Nat):Value :=
 match v with
 | .slice (some ⟨b,o,_⟩) _ _=>.pointer (some ⟨b,o+i*sz,none⟩)
 | _=>undef
section
variable {P:Program} {h:Zh} {v:Value} {xs:List Int}
theorem IntSl.len (hv:IntSl h v xs) (K:Value→Prop):lenK v K=K (Zd xs.length):=by
 rcases hv with ⟨rfl,rfl⟩ | ⟨b,o,sp,cap,c,e,ro,rfl,_⟩ <;> rfl
theorem IntSl.idx (hv:IntSl h v xs) {t e:TypeId} (he:elemOf' P t=some e) (hs:esz P e=some 1) {k:IntKind} {i:Nat} (hi:i<xs.length) (K:Value→Prop) :
  Yy P t v (.int k i) K=K (Wb v 1 i):=by
 rcases hv with ⟨rfl,rfl⟩ | ⟨b,o,sp,cap,c,e',ro,rfl,_⟩
 · simp at hi
 · simp only [Yy,he,hs,Wb,Int.toNat_natCast,eq_iff_iff]
   exact ⟨fun h=>h.2.2,fun h=>⟨by omega,by omega,h⟩⟩
theorem view_cell {b o:Nat} {c:List Value} {e:TypeId} {ro:Bool} {u:Value} {K:Value→Prop} (hv:view h b=some (c,e,ro)) (hc:c[o]? = some u):cellK h b o K=K u:=by
 unfold view at hv
 unfold cellK
 cases hb:h[b]? with
 | none=>simp [hb] at hv
 | some B =>
   rw [hb] at hv
   cases B with
   | cells c' e' ro'=>simp [Blk.view] at hv; obtain ⟨rfl,rfl,rfl⟩:=hv; simp [hc]
   | ints ys e' ro' =>
     simp [Blk.view] at hv
     obtain ⟨rfl,rfl,rfl⟩:=hv
     simp only [List.getElem?_map,Option.map_eq_some_iff] at hc
     obtain ⟨y,hy,rfl⟩:=hc
     obtain ⟨hlt,rfl⟩:=List.getElem?_eq_some_iff.1 hy
     simp [hlt]
   | dead=>simp [Blk.view] at hv
   | map es=>simp [Blk.view] at hv; obtain ⟨rfl,_⟩:=hv; simp at hc
   | iter m a s l=>simp [Blk.view] at hv; obtain ⟨rfl,_⟩:=hv; simp at hc
theorem IntSl.load (hv:IntSl h v xs) {t:TypeId} (hs:shp P t=some none) {i:Nat} (hi:i<xs.length) (K:Value→Prop):Xq P h t (Wb v 1 i) K=K (Zd (xs.getD i 0)):=by
 rcases hv with ⟨rfl,rfl⟩ | ⟨b,o,sp,cap,c,e',ro,rfl,_,hvw,hc⟩
 · simp at hi
 · simp only [Wb,Xq,hs,Nat.mul_one]
   exact view_cell hvw (hc i hi)
theorem IntSl.grow (hv:IntSl h v xs) (g:List Blk):IntSl (h++g) v xs:=by
 rcases hv with ⟨rfl,rfl⟩ | ⟨b,o,sp,cap,c,e',ro,rfl,hl,hvw,hc⟩
 · exact .inl ⟨rfl,rfl⟩
 · refine .inr ⟨b,o,sp,cap,c,e',ro,rfl,hl,?_,hc⟩
   have:=Wn hvw
   simp only [view,List.getElem?_append_left this]
   exact hvw
end
def Wm:Op→Bool
 | .pick (.tmp _) _ _=>true
 | _=>false
theorem Wx {n:Nat} (h:n<9223372036854775807):addV .i64 n 1=((n+1:Nat):Int):=by rw [Wf (by omega) (by omega)]; omega
theorem isPick_no:(∀ x,Wm (.move x)=false)∧(∀ x,Wm (.assign x)=false)∧(∀ t,Wm (.alloc t)=false)∧(∀ t x,Wm (.box t x)=false)∧(∀ t p,Wm (.build t p)=false)∧(∀ t n p,Wm (.buildSlice t n p)=false)∧(∀ t x,Wm (.load t x)=false)∧(∀ t x y,Wm (.store t x y)=false)∧(∀ x,Wm (.nilCheck x)=false)∧(∀ o t x y u,Wm (.binOp o t x y u)=false)∧(∀ o t x,Wm (.unOp o t x)=false)∧(∀ a b x,Wm (.convert a b x)=false)∧(∀ f a b,Wm (.makeFunc f a b)=false)∧(∀ t l c,Wm (.makeSlice t l c)=false)∧(∀ t x a b c,Wm (.slice t x a b c)=false)∧(∀ t x f,Wm (.fieldAddr t x f)=false)∧(∀ t x f,Wm (.field t x f)=false)∧(∀ t x i,Wm (.indexAddr t x i)=false)∧(∀ t x i,Wm (.index t x i)=false)∧(∀ x i,Wm (.extract x i)=false)∧(∀ c,Wm (.call c)=false) :=
 ⟨fun _=>rfl,fun _=>rfl,fun _=>rfl,fun _ _=>rfl,fun _ _=>rfl,fun _ _ _=>rfl,fun _ _=>rfl,fun _ _ _=>rfl,fun _=>rfl,fun _ _ _ _ _=>rfl,fun _ _ _=>rfl,fun _ _ _=>rfl,fun _ _ _=>rfl,fun _ _ _=>rfl,fun _ _ _ _ _=>rfl,fun _ _ _=>rfl,fun _ _ _=>rfl,fun _ _ _=>rfl,fun _ _ _=>rfl,fun _ _=>rfl,fun _=>rfl⟩
theorem Zc {P:Program} [Tabs P] {N:Env→Zh→Prop} {e:Env} {h:Zh} {dst:Option Nat} {op:Op} {l:List SOp} (_:Wm op=false) :
  sops P N (⟨dst,op,none⟩::l) e h=aop P false op (ev e) h (fun v h'=>sops P N l (Zf e dst v) h'):=rfl
theorem sops_pick_t {P:Program} [Tabs P] {N:Env→Zh→Prop} {e:Env} {h:Zh} {dst:Option Nat} {c:Nat} {a b:Operand} {l:List SOp} (hc:sget e c = .bool true) :
  sops P N (⟨dst,.pick (.tmp c) a b,none⟩::l) e h=sops P N l (Zf e dst (ev e a)) h:=by
 rw [sops_cons]; simp only [aop,ev,hc,pickK,cond_true]
theorem sops_pick_f {P:Program} [Tabs P] {N:Env→Zh→Prop} {e:Env} {h:Zh} {dst:Option Nat} {c:Nat} {a b:Operand} {l:List SOp} (hc:sget e c = .bool false) :
  sops P N (⟨dst,.pick (.tmp c) a b,none⟩::l) e h=sops P N l (Zf e dst (ev e b)) h:=by
 rw [sops_cons]; simp only [aop,ev,hc,pickK,cond_false]
theorem aw_hide {P:Program} [Tabs P] {sz:Nat} {sc:SCode} {Q:Exit→Env→Zh→Prop} {e:Env} {h:Zh} (H : ∀ Q' : Exit→Env→Zh→Prop,(∀ x e' h',Q x e' h'→Q' x e' h')→aw P sz sc Q' e h):aw P sz sc Q e h:=H Q fun _ _ _ h=>h
theorem Zm {P:Program} [Tabs P] {sz:Nat} {sc:SCode} {Q:Exit→Env→Zh→Prop} {e:Env} {h:Zh} (H : ∀ Q' : Exit→Env→Zh→Prop,(∀ x e' h',Q x e' h'→Q' x e' h')→AWS P sz sc Q' e h):AWS P sz sc Q e h:=H Q fun _ _ _ h=>h
theorem ele_nil (e:Env):ELe e []=True:=eq_true (fun _ h=>by cases h)
theorem ele_cons (e:Env) (i:Nat) (v:Value) (l:Env):ELe e ((i,v)::l)=(sget e i=v∧ELe e l):=by
 apply propext
 exact ⟨fun h=>⟨h (i,v) (by simp),fun p hp=>h p (by simp [hp])⟩,fun h p hp=>by
  rcases List.mem_cons.1 hp with rfl | hp
  · exact h.1
  · exact h.2 p hp⟩
theorem worldless_yes:(∀ x,Ym (.move x)=true)∧(∀ x,Ym (.assign x)=true)∧(∀ c x y,Ym (.pick c x y)=true)∧(∀ t p,Ym (.build t p)=true)∧(∀ x,Ym (.nilCheck x)=true)∧(∀ o t x y u,Ym (.binOp o t x y u)=true)∧(∀ o t x,Ym (.unOp o t x)=true)∧(∀ a b x,Ym (.convert a b x)=true)∧(∀ f a b,Ym (.makeFunc f a b)=true)∧(∀ t x a b c,Ym (.slice t x a b c)=true)∧(∀ t x f,Ym (.fieldAddr t x f)=true)∧(∀ t x f,Ym (.field t x f)=true)∧(∀ t x i,Ym (.indexAddr t x i)=true)∧(∀ t x i,Ym (.index t x i)=true)∧(∀ x i,Ym (.extract x i)=true) :=
 ⟨fun _=>rfl,fun _=>rfl,fun _ _ _=>rfl,fun _ _=>rfl,fun _=>rfl,fun _ _ _ _ _=>rfl,fun _ _ _=>rfl,fun _ _ _=>rfl,fun _ _ _=>rfl,fun _ _ _ _ _=>rfl,fun _ _ _=>rfl,fun _ _ _=>rfl,fun _ _ _=>rfl,fun _ _ _=>rfl,fun _ _=>rfl⟩
section drawn
variable {P:Program} [Tabs P] {qs:List (Nat×Nat)} {N:Env→Zh→Prop} {i:Nat} {e:Env} {h:Zh} {dst:Option Nat} {op:Op} {l:List SOp}
theorem dops_nil:dops P qs N i [] e h=N e h:=rfl
theorem dops_0 (hw:Ym op=true):dops P qs N i (⟨dst,op,none⟩::l) e h=aop P true op (ev e) h (fun v h'=>dops P qs N (i+1) l (Zf e dst v) h'):=by simp [dops,cls,hw]
theorem dops_load {t:TypeId} {x:Operand}:dops P [] N i (⟨dst,.load t x,none⟩::l) e h=Xq P h t (ev e x) (fun v=>dops P [] N (i+1) l (Zf e dst v) h):=by
 have:cls [] i (.load t x)=1:=rfl
 simp only [dops,this,aop,true_and]
end drawn
end Go.Am
namespace Go.Am
def OwnSl (e:TypeId) (h:Zh) (v:Value) (xs:List Int):Prop :=
 (v = .slice none 0 0∧xs=[])∨∃ (b:Nat) (ys:List Int),v = .slice (some ⟨b,0,some 0⟩) xs.length (xs.length+ys.length)∧h[b]? = some (.ints (xs++ys) e false)
def Ye:Value→Option Nat
 | .slice (some ⟨b,_,_⟩) _ _=>some b
 | _=>none
def Ext (S:Nat→Prop) (h h' : Zh):Prop:=h.length≤h'.length∧∀ i,i<h.length→¬ S i→h'[i]? = h[i]?
theorem Ext.refl (S:Nat→Prop) (h:Zh):Ext S h h:=⟨Nat.le_refl _,fun _ _ _=>rfl⟩
theorem Ext.trans {S:Nat→Prop} {a b c:Zh} (h1:Ext S a b) (h2:Ext S b c):Ext S a c :=
 ⟨Nat.le_trans h1.1 h2.1,fun i hi hs=>(h2.2 i (Nat.lt_of_lt_of_le hi h1.1) hs).trans (h1.2 i hi hs)⟩
theorem Ext.mono {S T:Nat→Prop} {a b:Zh} (h1:Ext S a b) (hs : ∀ i,S i→T i):Ext T a b:=⟨h1.1,fun i hi hn=>h1.2 i hi (fun h=>hn (hs i h))⟩
theorem Ext.app (S:Nat→Prop) (h g:Zh):Ext S h (h++g):=⟨by simp,fun i hi _=>by rw [List.getElem?_append_left hi]⟩
theorem Ext.set {S:Nat→Prop} {h:Zh} {b:Nat} (B:Blk) (hb:S b):Ext S h (h.set b B):=⟨by simp,fun i _ hs=>by
 rw [List.getElem?_set_ne]; rintro rfl; exact hs hb⟩
theorem intsOf_map' : ∀ xs:List Int,Xa (xs.map Zd)=some xs
 | []=>rfl
 | x::xs=>by simp [Xa,intsOf_map' xs]
section
variable {P:Program} {h:Zh} {v:Value} {xs:List Int} {e:TypeId}
theorem OwnSl.int (ho:OwnSl e h v xs):IntSl h v xs:=by
 rcases ho with ⟨rfl,rfl⟩ | ⟨b,ys,rfl,hb⟩
 · exact .inl ⟨rfl,rfl⟩
 · refine .inr ⟨b,0,some 0,_,(xs++ys).map Zd,e,false,rfl,by omega,by simp [view,hb,Blk.view],fun i hi=>?_⟩
   rw [List.map_append,Nat.zero_add,List.getElem?_append_left (by simpa using hi)]
   simp [List.getElem?_eq_getElem hi,List.getD]
theorem OwnSl.ext {S:Nat→Prop} {h' : Zh} (ho:OwnSl e h v xs) (hx:Ext S h h') (hs : ∀ b,Ye v=some b→¬ S b):OwnSl e h' v xs:=by
 rcases ho with ⟨rfl,rfl⟩ | ⟨b,ys,rfl,hb⟩
 · exact .inl ⟨rfl,rfl⟩
 · exact .inr ⟨b,ys,rfl,(hx.2 b (List.getElem?_eq_some_iff.1 hb).1 (hs b rfl)).trans hb⟩
theorem OwnSl.lt (ho:OwnSl e h v xs) {b:Nat} (hb:Ye v=some b):b<h.length:=by
 rcases ho with ⟨rfl,rfl⟩ | ⟨b',ys,rfl,hb'⟩
 · cases hb
 · cases hb; exact (List.getElem?_eq_some_iff.1 hb').1
theorem OwnSl.cut {x:Int} {t:TypeId} (ho:OwnSl e h v (xs++[x])) (he:elemOf' P t=some e) (hs:esz P e=some 1) {K:Value→Prop} (hk : ∀ v',OwnSl e h v' xs→Ye v' = Ye v→K v'):Xb P t v none (some (Zd xs.length)) none K:=by
 rcases ho with ⟨rfl,h2⟩ | ⟨b,ys,rfl,hb⟩
 · simp at h2
 · simp only [Xb,he,hs,bnd,List.length_append,List.length_singleton]
   refine ⟨by omega,by omega,by omega,fun h=>(by cases h),fun _=>.inl ⟨rfl,hk _ (.inr ⟨b,x::ys,by simp; omega,by rw [hb]; simp⟩) rfl⟩⟩
theorem OwnSl.append {x:Int} {t t2:TypeId} {b2 c2:Nat} {c:Bool} (ho:OwnSl e h v xs) (hT:appT P t t2=some (e,1,8)) (hn:xs.length<1099511627776) (hb2:h[b2]? = some (.ints [x] e c)) {K:Value→Zh→Prop}
  (hk : ∀ v' h',OwnSl e h' v' (xs++[x])→Ext (fun i=>Ye v=some i) h h'→(Ye v' = Ye v∨∃ b,Ye v' = some b∧h.length≤b)→K v' h') :
  Ys P h t t2 v (.slice (some ⟨b2,0,none⟩) 1 c2) K:=by
 simp only [Ys,hT,elemsK,Xo,hb2]
 refine ⟨fun h=>by omega,fun _=>⟨by simp,?_⟩⟩
 have hi:Xa (List.map Zd (List.take (1*1) (List.drop 0 [x])))=some [x]:=rfl
 rcases ho with ⟨rfl,rfl⟩ | ⟨b,ys,rfl,hb⟩
 · simp only [putK]
   refine ⟨fun h=>by omega,fun _=>⟨by omega,hk _ _ (.inr ⟨h.length,[],rfl,?_⟩) (Ext.app _ _ _) (.inr ⟨_,rfl,Nat.le_refl _⟩)⟩⟩
   rw [List.getElem?_append_right (Nat.le_refl _)]
   simp [mkb,Xa]
 · simp only [putK,hb,hi]
   refine ⟨fun hroom=>⟨fun h=>by omega,fun _=>⟨rfl,by simp; omega,?_⟩⟩,fun hroom=>⟨by omega,trivial,rfl,by simp [view,hb,Blk.view],?_⟩⟩
   · cases ys with
     | nil=>simp only [List.length_nil] at hroom; omega
     | cons y ys =>
       refine hk _ _ (.inr ⟨b,ys,by simp; omega,?_⟩) (Ext.set _ rfl) (.inl rfl)
       rw [List.getElem?_set_self (List.getElem?_eq_some_iff.1 hb).1]
       simp [Yh]
   · obtain rfl:ys=[]:=by cases ys with | nil=>rfl | cons y ys=>simp at hroom
     simp only [Xo,hb]
     refine ⟨by simp,hk _ _ (.inr ⟨h.length,[],by simp,?_⟩) ?_ (.inr ⟨_,rfl,Nat.le_refl _⟩)⟩
     · rw [List.getElem?_append_right (by simp)]
       have:Xa (List.map Zd (List.take (xs.length*1) (List.drop 0 (xs++[])))++List.map Zd (List.take (1*1) (List.drop 0 [x])))=some (xs++[x]):=by
        rw [← List.map_append]; simp only [List.drop_zero,List.append_nil,Nat.mul_one,List.take_length]; exact intsOf_map' _
       simp only [List.append_nil] at this
       simp only [mkb,List.length_set,Nat.sub_self,List.getElem?_cons_zero,List.append_nil,this]
     · exact (Ext.set (S:=fun i=>Ye (.slice (some ⟨b,0,some 0⟩) xs.length (xs.length+([]:List Int).length))=some i) .dead rfl).trans (Ext.app _ _ _)
theorem IntSl.pre {t:TypeId} {m:Nat} (hv:IntSl h v xs) (he:elemOf' P t=some e) (hs:esz P e=some 1) (hm:m≤xs.length) {K:Value→Prop} (hk : ∀ v',IntSl h v' (xs.take m)→K v'):Xb P t v none (some (Zd m)) none K:=by
 have hl:(xs.take m).length=m:=by simp; omega
 rcases hv with ⟨rfl,rfl⟩ | ⟨b,o,sp,cap,c,e',ro,rfl,hc,hb,hx⟩
 · simp only [List.length_nil,Nat.le_zero_eq] at hm
   subst hm
   simp only [Xb,he,hs,bnd,Option.bind_some,Option.isSome_some]
   exact ⟨trivial,rfl,rfl,rfl,hk _ (.inl ⟨rfl,rfl⟩)⟩
 · simp only [Xb,he,hs,bnd]
   have hx' : ∀ i,i<(xs.take m).length→c[o+i]? = some (Zd ((xs.take m).getD i 0)):=fun i hi=>by
    rw [hl] at hi
    rw [hx i (by omega)]; simp [List.getD,hi]
   refine ⟨by omega,by omega,by omega,fun _=>hk _ (.inr ⟨b,o,none,cap,c,e',ro,?_,by rw [hl]; omega,hb,hx'⟩),fun _=>.inl ⟨rfl,hk _ (.inr ⟨b,o,some 0,cap,c,e',ro,?_,by rw [hl]; omega,hb,hx'⟩)⟩⟩
   · rw [hl]; simp
   · rw [hl]; simp
theorem IntSl.cells (hv:IntSl h v xs) (hn:xs≠[]) (b o:Nat) (sp:Option Nat) (l cap:Nat) (he:v = .slice (some ⟨b,o,sp⟩) l cap) {K:List Value→Prop} (hk:K (xs.map Zd)):Xo h b o (xs.length*1) K:=by
 rcases hv with ⟨rfl,rfl⟩ | ⟨b',o',sp',cap',c,e',ro,rfl,hc,hb,hx⟩
 · cases he
 · cases he
   have hpos:0<xs.length:=List.length_pos_iff.2 hn
   have hlen:o+xs.length≤c.length:=by
    have:=(List.getElem?_eq_some_iff.1 (hx (xs.length-1) (by omega))).1
    omega
   have hc:(c.drop o).take xs.length=xs.map Zd:=by
    apply List.ext_getElem?
    intro k
    by_cases hk:k<xs.length
    · rw [List.getElem?_take_of_lt hk,List.getElem?_drop,hx k hk]; simp [List.getD,hk]
    · rw [List.getElem?_eq_none (by simp; omega),List.getElem?_eq_none (by simp; omega)]
   unfold view at hb
   unfold Xo
   cases hB:h[b]? with
   | none=>simp [hB] at hb
   | some B =>
     rw [hB] at hb
     cases B with
     | cells c2 e2 ro2=>simp [Blk.view] at hb; obtain ⟨rfl,rfl,rfl⟩:=hb; simp only [Nat.mul_one]; exact ⟨hlen,by rw [hc]; exact hk⟩
     | ints ys e2 ro2 =>
       simp [Blk.view] at hb
       obtain ⟨rfl,rfl,rfl⟩:=hb
       simp only [List.length_map] at hlen
       simp only [Nat.mul_one]
       refine ⟨hlen,?_⟩
       rw [List.map_take,List.map_drop,hc]; exact hk
     | dead=>simp [Blk.view] at hb
     | map es=>simp [Blk.view] at hb; obtain ⟨rfl,_⟩:=hb; rw [List.length_nil] at hlen; omega
     | iter m a s l=>simp [Blk.view] at hb; obtain ⟨rfl,_⟩:=hb; rw [List.length_nil] at hlen; omega
theorem IntSl.copy {t t2:TypeId} {b0:Nat} (hv:IntSl h v xs) (hT:appT P t t2=some (e,1,8)) (hn:xs.length<1099511627776) (hb0:h[b0]? = some (.ints [] e false)) {K:Value→Zh→Prop}
  (hk : ∀ r g,IntSl (h++g) r xs→(r = .slice none 0 0→False)→K r (h++g)):Ys P h t t2 (.slice (some ⟨b0,0,none⟩) 0 0) v K:=by
 have hz:xs=[]→K (.slice (some ⟨b0,0,none⟩) 0 0) h:=fun hx=>by
  subst hx
  have:=hk (.slice (some ⟨b0,0,none⟩) 0 0) [] (.inr ⟨b0,0,none,0,[],e,false,rfl,Nat.le_refl _,by simp [view,hb0,Blk.view],fun i hi=>by simp at hi⟩) (fun h=>by cases h)
  simpa using this
 have hgo:xs≠[]→putK h e 1 8 (.slice (some ⟨b0,0,none⟩) 0 0) xs.length (xs.map Zd) K:=fun hx=>by
  have hpos:0<xs.length:=List.length_pos_iff.2 hx
  simp only [putK]
  refine ⟨fun h=>by omega,fun _=>⟨by omega,?_⟩⟩
  simp only [Xo,hb0]
  refine ⟨by simp,hk _ _ (.inr ⟨h.length,0,some 0,_,xs.map Zd,e,false,by simp; rfl,by omega,?_,fun i hi=>by simp [List.getD,hi]⟩) (fun h=>by cases h)⟩
  simp [view,mkb,intsOf_map',Blk.view]
 simp only [Ys,hT]
 rcases Classical.em (xs=[]) with hx | hx
 · subst hx
   have hput:putK h e 1 8 (.slice (some ⟨b0,0,none⟩) 0 0) 0 [] K:=by
    simp only [putK]; exact ⟨fun _=>⟨fun _=>hz rfl,fun h=>absurd rfl h⟩,fun h=>by omega⟩
   rcases hv with ⟨rfl,_⟩ | ⟨b,o,sp,cap,c,e',ro,rfl,hc,hb,_⟩
   · exact ⟨rfl,hput⟩
   · exact ⟨fun _=>hput,fun h=>absurd rfl h⟩
 · rcases Classical.em (v = .slice none 0 0) with h0 | h0
   · rcases hv with ⟨_,h1⟩ | ⟨b,o,sp,cap,c,e',ro,h1,_⟩
     · exact absurd h1 hx
     · rw [h0] at h1; cases h1
   · have hv':=hv
     rcases hv with ⟨h1,_⟩ | ⟨b,o,sp,cap,c,e',ro,rfl,hc,hb,_⟩
     · exact absurd h1 h0
     · exact ⟨fun h=>absurd (List.length_eq_zero_iff.1 h) hx,fun _=>hv'.cells hx b o sp _ cap rfl (hgo hx)⟩
end
section box
variable {P:Program} {h:Zh} {b:Nat} {v v' : Value} {e t:TypeId} {ro:Bool}
theorem load1 (hb:h[b]? = some (.cells [v] e ro)) (hs:shp P t=some none) (K:Value→Prop):Xq P h t (.pointer (some ⟨b,0,none⟩)) K=K v:=by
 simp only [Xq,hs,cellK,hb,List.getElem?_cons_zero]
theorem store1 (hb:h[b]? = some (.cells [v] e false)) (hs:shp P t=some none) (ho:one v' = true) (K:Zh→Prop):Xh P h t (.pointer (some ⟨b,0,none⟩)) v' K=K (h.set b (.cells [v'] e false)):=by
 simp only [Xh,hs,hb,ho,List.length_singleton,Nat.zero_lt_one,List.set_cons_zero,true_and]
theorem Xj (hb:b<h.length) (B:Blk):(h.set b B)[b]? = some B:=List.getElem?_set_self hb
theorem Yp (h:Zh) (B:Blk):(h++[B])[h.length]? = some B:=by rw [List.getElem?_append_right (Nat.le_refl _)]; simp
theorem Vc {B:Blk} (hb:h[b]? = some B) (g:Zh):(h++g)[b]? = some B:=by
 rw [List.getElem?_append_left (List.getElem?_eq_some_iff.1 hb).1]; exact hb
theorem Zz {B:Blk} (hb:h[b]? = some B):b<h.length:=(List.getElem?_eq_some_iff.1 hb).1
end box
end Go.Am
