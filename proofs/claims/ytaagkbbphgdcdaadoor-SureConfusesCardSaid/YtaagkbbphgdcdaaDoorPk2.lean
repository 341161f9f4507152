/-
  The abstract machine, part E: operations that touch no memory; places; slices of slices; literals; what is asked of calls.
  The abstract machine, part F: literals of structs, arrays, slices; copy; min, max; the operations together.
  The abstract machine, part G: one operation; calls; regions in the text's order.
  The abstract machine, part H: regions; the calculus of code; loops; functions.
-/
import Derived.Test.YtaagkbbphgdcdaaDoorPk1
import Derived.DeepKeys3
set_option linter.all false
namespace Go.Am
def Wj (op:BinOp) (k:IntKind) (x y:Int):Int :=
 match op with
 | .and=>k.wrap (BitVec.ofInt k.bits x &&& BitVec.ofInt k.bits y).toNat
 | .or=>k.wrap (BitVec.ofInt k.bits x ||| BitVec.ofInt k.bits y).toNat
 | .xor=>k.wrap (BitVec.ofInt k.bits x ^^^ BitVec.ofInt k.bits y).toNat
 | _=>k.wrap (BitVec.ofInt k.bits x &&& ~~~(BitVec.ofInt k.bits y)).toNat
def shlV (k:IntKind) (x y:Int):Int:=k.wrap (x*2 ^ (min y.toNat k.bits))
def shrV (k:IntKind) (x y:Int):Int:=x.fdiv (2 ^ (min y.toNat k.bits))
def addV (k:IntKind) (x y:Int):Int:=k.wrap (x+y)
def subV (k:IntKind) (x y:Int):Int:=k.wrap (x-y)
def mulV (k:IntKind) (x y:Int):Int:=k.wrap (x*y)
def quoV (k:IntKind) (x y:Int):Int:=k.wrap (x.tdiv y)
def Zx (op:BinOp) (k k' : IntKind) (a b:Int) (K:Value→Prop):Prop :=
 match op with
 | .shl=>0≤b∧K (.int k (shlV k a b))
 | .shr=>0≤b∧K (.int k (shrV k a b))
 | .add=>k=k'∧K (.int k (addV k a b))
 | .sub=>k=k'∧K (.int k (subV k a b))
 | .mul=>k=k'∧K (.int k (mulV k a b))
 | .quo=>k=k'∧b≠0∧K (.int k (quoV k a b))
 | .rem=>k=k'∧b≠0∧K (.int k (a.tmod b))
 | .and | .or | .xor | .andNot=>k=k'∧K (.int k (Wj op k a b))
 | .eql=>k=k'∧K (.bool (a==b))
 | .neq=>k=k'∧K (.bool (a != b))
 | .lss=>k=k'∧K (.bool (decide (a<b)))
 | .leq=>k=k'∧K (.bool (decide (a≤b)))
 | .gtr=>k=k'∧K (.bool (decide (b<a)))
 | .geq=>k=k'∧K (.bool (decide (b≤a)))
def EqT (P:Program) (t:TypeId) (n:Nat):Prop :=
 ∀ (xs ys:List Int) (w:World) (x y:Operand),xs.length=n→ys.length=n →
   (do eqGuard .eql t x y (.agg (xs.map Zd).toArray) (.agg (ys.map Zd).toArray); binOp .eql t (.agg (xs.map Zd).toArray) (.agg (ys.map Zd).toArray):Sem Value).run P w = .ok (.bool (xs==ys)) w ∧
   (do eqGuard .neq t x y (.agg (xs.map Zd).toArray) (.agg (ys.map Zd).toArray); binOp .neq t (.agg (xs.map Zd).toArray) (.agg (ys.map Zd).toArray):Sem Value).run P w = .ok (.bool (xs != ys)) w
def Zv (P:Program) (op:BinOp) (t:TypeId) (x y:Value) (K:Value→Prop):Prop :=
 match x,y with
 | .int k a,.int k' b=>Zx op k k' a b K
 | .bool a,.bool b=>P.underlying t=some .bool∧(match op with | .eql=>K (.bool (a==b)) | .neq=>K (.bool (a != b)) | _=>False)
 | .agg xs,.agg ys=>(match Xa xs.toList,Xa ys.toList with
   | some is,some js=>EqT P t is.length∧is.length=js.length∧(match op with | .eql=>K (.bool (is==js)) | .neq=>K (.bool (is != js)) | _=>False)
   | _,_=>False)
 | .slice none _ _,.slice none _ _=>(elemOf' P t).isSome=true∧(match op with | .eql=>K (.bool true) | .neq=>K (.bool false) | _=>False)
 | .slice (some _) _ _,.slice none _ _=>(elemOf' P t).isSome=true∧(match op with | .eql=>K (.bool false) | .neq=>K (.bool true) | _=>False)
 | _,_=>False
theorem LRel.ints {n:Nat} {ρ:Nat→Loc} {xs ys:Array Value} {is:List Int} (h:LRel n ρ xs.toList ys.toList) (hi:Xa xs.toList=some is):xs=(is.map Zd).toArray∧ys=xs:=by
 have e:=intsOf_eq hi
 have e2:ys.toList=xs.toList:=by
  apply List.ext_getElem?
  intro k
  by_cases hk:k<xs.toList.length
  · have:=h.2 k hk
    have hk' : k<ys.toList.length:=by rw [← h.1]; exact hk
    simp only [List.getD,List.getElem?_eq_getElem hk,List.getElem?_eq_getElem hk',Option.getD_some] at this ⊢
    have:ys.toList[k]=xs.toList[k]:=by
     apply this.atom_eq
     have:xs.toList[k]∈is.map Zd:=by rw [← e]; exact List.getElem_mem hk
     obtain ⟨n,_,hn⟩:=List.mem_map.1 this
     rw [← hn]; rfl
    rw [this]
  · have:=h.1
    rw [List.getElem?_eq_none (by omega),List.getElem?_eq_none (by omega)]
 exact ⟨by rw [← e],by apply Array.ext'; exact e2⟩
theorem equalIn_bool {P:Program} [Tabs P] {t:TypeId} (ht:P.underlying t=some .bool) (d:Nat) (a b:Bool) (w:World):(Op.equalIn (d+1) t (.bool a) (.bool b)).run P w = .ok (a==b) w:=by
 simp [Op.equalIn,run_underlying ht]
theorem run_equal_bool {P:Program} [Tabs P] {t:TypeId} (ht:P.underlying t=some .bool) (a b:Bool) (w:World):(Op.equal t (.bool a) (.bool b)).run P w = .ok (a==b) w:=equalIn_bool ht 9999 a b w
theorem equalIn_slice_nil {P:Program} [Tabs P] {t e:TypeId} (ht:P.underlying t=some (.slice e)) (d:Nat) (a:Option Addr) (l c l' c' : Nat) (w:World) :
  (Op.equalIn (d+1) t (.slice a l c) (.slice none l' c')).run P w = .ok a.isNone w:=by
 cases a <;> simp [Op.equalIn,run_underlying ht]
theorem Xz {P:Program} [Tabs P] {t e:TypeId} (ht:P.underlying t=some (.slice e)) (a:Option Addr) (l c l' c' : Nat) (w:World) :
  (Op.equal t (.slice a l c) (.slice none l' c')).run P w = .ok a.isNone w:=equalIn_slice_nil ht 9999 a l c l' c' w
theorem binK_sound {P:Program} [Tabs P] {n:Nat} {ρ:Nat→Loc} {op:BinOp} {t:TypeId} {x y x' y' : Value} {K:Value→Prop} (hx:VRel n ρ x x') (hy:VRel n ρ y y') (hk:Zv P op t x y K) :
  ∃ v v',K v∧VRel n ρ v v'∧∀ (w:World) (X Y:Operand),(do eqGuard op t X Y x' y'; binOp op t x' y' : Sem Value).run P w = .ok v' w:=by
 unfold Zv at hk
 split at hk
 · rename_i k a k' b
   rw [hx.int,hy.int]
   cases op <;> simp only [Zx] at hk
   case shl=>exact ⟨_,_,hk.2,.atom rfl,fun w X Y=>by have:=Int.not_lt.2 hk.1; simp [eqGuard,binOp,Op.shift,this,shlV]⟩
   case shr=>exact ⟨_,_,hk.2,.atom rfl,fun w X Y=>by have:=Int.not_lt.2 hk.1; simp [eqGuard,binOp,Op.shift,this,shrV]⟩
   case quo=>obtain ⟨rfl,h1,hk⟩:=hk; exact ⟨_,_,hk,.atom rfl,fun w X Y=>by simp [eqGuard,binOp,Op.intDiv,h1,quoV]⟩
   case rem=>obtain ⟨rfl,h1,hk⟩:=hk; exact ⟨_,_,hk,.atom rfl,fun w X Y=>by simp [eqGuard,binOp,Op.intDiv,h1]⟩
   all_goals (obtain ⟨rfl,hk⟩:=hk; exact ⟨_,_,hk,.atom rfl,fun w X Y=>by simp [eqGuard,binOp,Op.intArith,Op.intBits,Op.intCmp,Wj,addV,subV,mulV]⟩)
 · rename_i a b
   obtain ⟨ht,hk⟩:=hk
   rw [hx.bool,hy.bool]
   split at hk
   · exact ⟨_,_,hk,.atom rfl,fun w X Y=>by simp [eqGuard,binOp,run_equal_bool ht]⟩
   · exact ⟨_,_,hk,.atom rfl,fun w X Y=>by simp [eqGuard,binOp,run_equal_bool ht,bne]⟩
   · exact hk.elim
 · rename_i xs ys
   obtain ⟨xs',rfl,hrx⟩:=hx.agg_iff
   obtain ⟨ys',rfl,hry⟩:=hy.agg_iff
   split at hk
   · rename_i is js hi hj
     obtain ⟨e1,rfl⟩:=hrx.ints hi
     obtain ⟨e2,rfl⟩:=hry.ints hj
     obtain ⟨hE,hl,hk⟩:=hk
     rw [e1,e2]
     split at hk
     · exact ⟨_,_,hk,.atom rfl,fun w X Y=>(hE is js w X Y rfl hl.symm).1⟩
     · exact ⟨_,_,hk,.atom rfl,fun w X Y=>(hE is js w X Y rfl hl.symm).2⟩
     · exact hk.elim
   · exact hk.elim
 · obtain ⟨ht,hk⟩:=hk
   obtain ⟨e,he⟩:=Option.isSome_iff_exists.1 ht
   rw [hx.atom_eq rfl,hy.atom_eq rfl]
   split at hk
   · exact ⟨_,_,hk,.atom rfl,fun w X Y=>by simp [eqGuard,binOp,Xz (elemOf'_eq he)]⟩
   · exact ⟨_,_,hk,.atom rfl,fun w X Y=>by simp [eqGuard,binOp,Xz (elemOf'_eq he)]⟩
   · exact hk.elim
 · rename_i a _ _ _ _
   obtain ⟨ht,hk⟩:=hk
   obtain ⟨e,he⟩:=Option.isSome_iff_exists.1 ht
   obtain ⟨b,o,sp⟩:=a
   obtain ⟨_,cap',_,_,_,rfl,_⟩:=hx.sl
   rw [hy.atom_eq rfl]
   split at hk
   · exact ⟨_,_,hk,.atom rfl,fun w X Y=>by simp [eqGuard,binOp,Xz (elemOf'_eq he)]⟩
   · exact ⟨_,_,hk,.atom rfl,fun w X Y=>by simp [eqGuard,binOp,Xz (elemOf'_eq he)]⟩
   · exact hk.elim
 · exact hk.elim
def unK (op:UnOp) (x:Value) (K:Value→Prop):Prop :=
 match op,x with
 | .not,.bool b=>K (.bool !b)
 | .neg,.int k a=>K (.int k (subV k 0 a))
 | .xor,.int k a=>K (.int k (Wj .xor k (if k.signed then -1 else k.max) a))
 | _,_=>False
theorem unK_sound {P:Program} [Tabs P] {n:Nat} {ρ:Nat→Loc} {op:UnOp} {x x' : Value} {K:Value→Prop} (hx:VRel n ρ x x') (hk:unK op x K) :
  ∃ v v',K v∧VRel n ρ v v'∧∀ w:World,(Op.unary op x').run P w = .ok v' w:=by
 unfold unK at hk
 split at hk
 · rw [hx.bool]; exact ⟨_,_,hk,.atom rfl,fun w=>by simp [Op.unary]⟩
 · rw [hx.int]; exact ⟨_,_,hk,.atom rfl,fun w=>by simp [Op.unary,Op.intArith,subV]⟩
 · rw [hx.int]; exact ⟨_,_,hk,.atom rfl,fun w=>by simp [Op.unary,Op.intBits,Wj]⟩
 · exact hk.elim
def convK (P:Program) (s d:TypeId) (x:Value) (K:Value→Prop):Prop :=
 match x with
 | .int _ a=>(match P.underlying s,P.underlying d with | some _,some (.int k)=>K (.int k (k.wrap a)) | _,_=>False)
 | _=>False
theorem convK_sound {P:Program} [Tabs P] {n:Nat} {ρ:Nat→Loc} {s d:TypeId} {x x' : Value} {K:Value→Prop} (hx:VRel n ρ x x') (hk:convK P s d x K) :
  ∃ v v',K v∧VRel n ρ v v'∧∀ w:World,(convert s d x').run P w = .ok v' w:=by
 unfold convK at hk
 split at hk
 · split at hk
   · rename_i sd k h1 h2
     rw [hx.int]
     exact ⟨_,_,hk,.atom rfl,fun w=>by simp [convert,run_underlying h1,run_underlying h2,Conv.intToInt]⟩
   · exact hk.elim
 · exact hk.elim
def pickK (c a b:Value) (K:Value→Prop):Prop :=
 match c with
 | .bool g=>K (bif g then a else b)
 | _=>False
def Yy (P:Program) (t:TypeId) (x i:Value) (K:Value→Prop):Prop :=
 match i with
 | .int _ i=>(match x with
   | .slice (some ⟨b,o,_⟩) len _=>(match elemOf' P t with
     | some e=>(match esz P e with | some sz=>0≤i∧i<len∧K (.pointer (some ⟨b,o+i.toNat*sz,none⟩)) | none=>False)
     | none=>False)
   | .pointer (some ⟨b,o,none⟩)=>(match P.underlying t with
     | some (.array len e)=>(match esz P e with | some sz=>0≤i∧i<len∧K (.pointer (some ⟨b,o+i.toNat*sz,none⟩)) | none=>False)
     | _=>False)
   | _=>False)
 | _=>False
theorem esz_eq {P:Program} [Tabs P] {t:TypeId} {n:Nat} (h:esz P t=some n) : ∃ i,P.info? t=some i∧i.size=n:=Option.map_eq_some_iff.1 h
theorem idxAddrK_sound {P:Program} [Tabs P] {n:Nat} {ρ:Nat→Loc} {t:TypeId} {x x' i i' : Value} {K:Value→Prop} (hx:VRel n ρ x x') (hi:VRel n ρ i i') (hk:Yy P t x i K) :
  ∃ v v',K v∧VRel n ρ v v'∧∀ w:World,(Instr.indexAt t x' i').run P w = .ok v' w:=by
 unfold Yy at hk
 split at hk
 · rename_i k i
   rw [hi.int]
   split at hk
   · rename_i b o sp len cap
     obtain ⟨hb,cap',_,_,_,rfl,_⟩:=hx.sl
     split at hk
     · rename_i e he
       split at hk
       · rename_i sz hs
         obtain ⟨inf,hinf,rfl⟩:=esz_eq hs
         obtain ⟨h0,h1,hk⟩:=hk
         refine ⟨_,_,hk,.ptr hb,fun w=>?_⟩
         simp [Instr.indexAt,asIntOf,run_underlying (elemOf'_eq he),h0,h1,Yf hinf,Wg]
       · exact hk.elim
     · exact hk.elim
   · rename_i b o
     obtain ⟨_,hb,rfl⟩:=hx.ptr'
     split at hk
     · rename_i len e he
       split at hk
       · rename_i sz hs
         obtain ⟨inf,hinf,rfl⟩:=esz_eq hs
         obtain ⟨h0,h1,hk⟩:=hk
         refine ⟨_,_,hk,.ptr hb,fun w=>?_⟩
         simp [Instr.indexAt,asIntOf,run_underlying he,Instr.sureAddr,h0,h1,Yf hinf,Wg]
       · exact hk.elim
     · exact hk.elim
   · exact hk.elim
 · exact hk.elim
def fldOf (P:Program) (t:TypeId) (f:Nat):Option (TypeId×Nat) :=
 match P.underlying t with
 | some (.struct fs)=>(fs[f]?).map fun x=>(x.type,x.offset)
 | _=>none
def Xk (P:Program) (t:TypeId) (x:Value) (f:Nat) (K:Value→Prop):Prop :=
 match x with
 | .pointer (some ⟨b,o,none⟩)=>(match fldOf P t f with
   | some (ft,off)=>(match esz P ft with | some sz=>sz≠0∧K (.pointer (some ⟨b,o+off,none⟩)) | none=>False)
   | none=>False)
 | _=>False
theorem fieldAddrK_sound {P:Program} [Tabs P] {n:Nat} {ρ:Nat→Loc} {t:TypeId} {x x' : Value} {f:Nat} {K:Value→Prop} (hx:VRel n ρ x x') (hk:Xk P t x f K) :
  ∃ v v',K v∧VRel n ρ v v'∧∀ w:World,(Instr.fieldAt t x' f).run P w = .ok v' w:=by
 unfold Xk at hk
 split at hk
 · rename_i b o
   obtain ⟨_,hb,rfl⟩:=hx.ptr'
   split at hk
   · rename_i ft off hf
     split at hk
     · rename_i sz hs
       obtain ⟨inf,hinf,rfl⟩:=esz_eq hs
       obtain ⟨h0,hk⟩:=hk
       refine ⟨_,_,hk,.ptr hb,fun w=>?_⟩
       unfold fldOf at hf
       split at hf
       · rename_i fs hu
         obtain ⟨fd,hfd,he⟩:=Option.map_eq_some_iff.1 hf
         cases he
         simp [Instr.fieldAt,run_underlying hu,hfd,Instr.sureAddr,fieldPlace,Yf hinf,h0,Wg]
       · cases hf
     · exact hk.elim
   · exact hk.elim
 · exact hk.elim
def partK (P:Program) (t:TypeId) (cs:List Value) (off:Nat) (K:Value→Prop):Prop :=
 match shp P t with
 | some none=>(match cs[off]? with | some v=>K v | none=>False)
 | some (some n)=>off+n≤cs.length∧K (.agg ((cs.drop off).take n).toArray)
 | none=>False
theorem partK_sound {P:Program} [Tabs P] {n:Nat} {ρ:Nat→Loc} {t:TypeId} {cs cs' : Array Value} {off:Nat} {K:Value→Prop} (hr:LRel n ρ cs.toList cs'.toList) (hk:partK P t cs.toList off K) :
  ∃ v v',K v∧VRel n ρ v v'∧∀ w:World,(part t cs' off).run P w = .ok v' w:=by
 unfold partK at hk
 split at hk
 · rename_i hs
   split at hk
   · rename_i v hv
     obtain ⟨hlt,hvv⟩:=List.getElem?_eq_some_iff.1 hv
     have hlt' : off<cs'.size:=by have:=hr.1; simp at this hlt; omega
     have:=hr.2 off hlt
     refine ⟨v,cs'[off],hk,?_,fun w=>?_⟩
     · simpa [List.getD,hv,List.getElem?_eq_getElem,hlt'] using this
     · have:=(run_isAgg (w:=w) hs).1
       simp [part,this,hlt']
   · exact hk.elim
 · rename_i m hs
   obtain ⟨hle,hk⟩:=hk
   have hsz:cs.toList.length=cs'.size:=by have:=hr.1; simpa using this
   have hl:((cs.toList.drop off).take m).length=m:=by simp at hle ⊢; omega
   have hr2:LRel n ρ ((cs.toList.drop off).take m) ((cs'.toList.drop off).take m):=⟨by rw [hl]; simp at hle hsz ⊢; omega,fun k hk=>by
    rw [hl] at hk
    have:=hr.2 (off+k) (by omega)
    simpa [List.getD,List.getElem?_take,hk,List.getElem?_drop] using this⟩
   refine ⟨_,.agg ((cs'.toList.drop off).take m).toArray,hk,.of_LRel hr2,fun w=>?_⟩
   obtain ⟨ha,i,hi,hsi⟩:=run_isAgg (w:=w) hs
   simp at hsi
   simp [part,ha,Yf hi,hsi]
   apply Array.ext'
   simp [Array.toList_extract,List.extract_eq_take_drop]
 · exact hk.elim
def fieldK (P:Program) (t:TypeId) (x:Value) (f:Nat) (K:Value→Prop):Prop :=
 match x with
 | .agg cs=>(match fldOf P t f with | some (ft,off)=>partK P ft cs.toList off K | none=>False)
 | _=>False
theorem fieldK_sound {P:Program} [Tabs P] {n:Nat} {ρ:Nat→Loc} {t:TypeId} {x x' : Value} {f:Nat} {K:Value→Prop} (hx:VRel n ρ x x') (hk:fieldK P t x f K) :
  ∃ v v',K v∧VRel n ρ v v'∧∀ w:World,(Instr.field t x' f).run P w = .ok v' w:=by
 unfold fieldK at hk
 split at hk
 · obtain ⟨ys,rfl,hr⟩:=hx.agg_iff
   split at hk
   · rename_i ft off hf
     obtain ⟨v,v',h1,h2,h3⟩:=partK_sound hr hk
     refine ⟨v,v',h1,h2,fun w=>?_⟩
     unfold fldOf at hf
     split at hf
     · rename_i fs hu
       obtain ⟨fd,hfd,he⟩:=Option.map_eq_some_iff.1 hf
       cases he
       simp [Instr.field,run_underlying hu,hfd,asAgg,h3]
     · cases hf
   · exact hk.elim
 · exact hk.elim
def indexK (P:Program) (t:TypeId) (x i:Value) (K:Value→Prop):Prop :=
 match x,i with
 | .agg cs,.int _ i=>(match P.underlying t with
   | some (.array len e)=>(match esz P e with | some sz=>0≤i∧i<len∧partK P e cs.toList (i.toNat*sz) K | none=>False)
   | _=>False)
 | .string s,.int _ i=>(match P.underlying t with
   | some .string=>0≤i∧(match s[i.toNat]? with | some b=>K (.int .u8 b.toNat) | none=>False)
   | _=>False)
 | _,_=>False
theorem indexK_sound {P:Program} [Tabs P] {n:Nat} {ρ:Nat→Loc} {t:TypeId} {x x' i i' : Value} {K:Value→Prop} (hx:VRel n ρ x x') (hi:VRel n ρ i i') (hk:indexK P t x i K) :
  ∃ v v',K v∧VRel n ρ v v'∧∀ w:World,(Instr.index t x' i').run P w = .ok v' w:=by
 unfold indexK at hk
 split at hk
 · obtain ⟨ys,rfl,hr⟩:=hx.agg_iff
   rw [hi.int]
   split at hk
   · rename_i len e hu
     split at hk
     · rename_i sz hs
       obtain ⟨inf,hinf,rfl⟩:=esz_eq hs
       obtain ⟨h0,h1,hk⟩:=hk
       obtain ⟨v,v',g1,g2,g3⟩:=partK_sound hr hk
       exact ⟨v,v',g1,g2,fun w=>by simp [Instr.index,asIntOf,run_underlying hu,h0,h1,Yf hinf,g3]⟩
     · exact hk.elim
   · exact hk.elim
 · rw [hx.atom_eq rfl,hi.int]
   split at hk
   · rename_i hu
     obtain ⟨h0,hk⟩:=hk
     split at hk
     · rename_i b hb
       exact ⟨_,_,hk,.atom rfl,fun w=>by simp [Instr.index,asIntOf,run_underlying hu,h0,hb]⟩
     · exact hk.elim
   · exact hk.elim
 · exact hk.elim
def Wk (x:Value) (i:Nat) (K:Value→Prop):Prop :=
 match x with
 | .tuple vs=>(match vs[i]? with | some v=>K v | none=>False)
 | _=>False
theorem extractK_sound {P:Program} [Tabs P] {n:Nat} {ρ:Nat→Loc} {x x' : Value} {i:Nat} {K:Value→Prop} (hx:VRel n ρ x x') (hk:Wk x i K) :
  ∃ v v',K v∧VRel n ρ v v'∧∀ w:World,(Instr.extract x' i).run P w = .ok v' w:=by
 unfold Wk at hk
 split at hk
 · rename_i vs
   split at hk
   · rename_i v hv
     obtain ⟨hlt,hvv⟩:=Array.getElem?_eq_some_iff.1 hv
     obtain ⟨ys,rfl,hs,hr⟩:=hx.tuple' (by rintro rfl; simp at hlt)
     have hlt' : i<ys.size:=by omega
     refine ⟨v,ys[i],hk,?_,fun w=>by simp [Instr.extract,hlt']⟩
     have:=hr i hlt
     simpa [Array.getD_eq_getD_getElem?,hv,hlt'] using this
   · exact hk.elim
 · exact hk.elim
def bnd (v:Option Value) (d:Nat):Option Int :=
 match v with
 | none=>some d
 | some (.int _ n)=>some n
 | some _=>none
def mx0 (hi mx:Option Value):Bool :=
 match mx with
 | none=>true
 | some (.int _ n)=>n==0&&hi.isSome
 | _=>false
def Xb (P:Program) (t:TypeId) (x:Value) (lo hi mx:Option Value) (K:Value→Prop):Prop :=
 match x with
 | .slice none 0 0=>((elemOf' P t).bind (esz P)).isSome=true∧bnd lo 0=some 0∧bnd hi 0=some 0∧mx0 hi mx=true∧K (.slice none 0 0)
 | .slice (some ⟨b,o,sp⟩) len cap=>(match elemOf' P t with
   | some e=>(match esz P e,bnd lo 0,bnd hi len,mx with
     | some sz,some l,some h,none=>0≤l∧l≤h∧h≤cap ∧
        ((sp=none→K (.slice (some ⟨b,if (cap:Int)=l then o else o+l.toNat*sz,none⟩) (h-l).toNat (cap-l.toNat))) ∧
         (sp≠none→(l=0∧K (.slice (some ⟨b,o,some 0⟩) h.toNat cap)) ∨
          (0<l∧((l<h∧0<sz∧K (.slice (some ⟨b,o+l.toNat*sz,some 0⟩) (h-l).toNat (cap-l.toNat)))∨(l=h∧K void)))))
     | some sz,some l,some h,some (.int _ m)=>0≤l∧l≤h∧h≤m∧m≤cap∧hi.isSome=true ∧
        K (.slice (some ⟨b,if m=l then o else o+l.toNat*sz,none⟩) (h-l).toNat (m.toNat-l.toNat))
     | _,_,_,_=>False)
   | none=>False)
 | .pointer (some ⟨b,o,none⟩)=>(match P.underlying t with
   | some (.array n e)=>(match esz P e,bnd lo 0,bnd hi n,mx with
     | some sz,some l,some h,none=>0≤l∧l≤h∧h≤n∧K (.slice (some ⟨b,if (n:Int)=l then o else o+l.toNat*sz,none⟩) (h-l).toNat (n-l.toNat))
     | _,_,_,_=>False)
   | _=>False)
 | _=>False
theorem Yq {P:Program} [Tabs P] {w:World} {k:IntKind} {i:Int} {y:Nat} {c:BoundsCode} (h0:0≤i) (h1:i≤y):(Instr.sliceBound (.int k i) y c).run P w = .ok i.toNat w:=by
 simp [Instr.sliceBound,asIntOf,h0,h1]
theorem bnd_rel {n:Nat} {ρ:Nat→Loc} {v v' : Option Value} {d:Nat} {l:Int} (hv : ∀ x,v=some x→∃ x',v' = some x'∧VRel n ρ x x') (hn:v=none→v' = none) (h:bnd v d=some l) :
  (v=none∧v' = none∧l=d)∨∃ k,v=some (.int k l)∧v' = some (.int k l):=by
 unfold bnd at h
 split at h
 · cases h; exact .inl ⟨rfl,hn rfl,rfl⟩
 · rename_i k n'
   cases h
   obtain ⟨x',h1,h2⟩:=hv _ rfl
   rw [h2.int] at h1
   exact .inr ⟨k,rfl,h1⟩
 · cases h
theorem sliceK_sound {P:Program} [Tabs P] {n:Nat} {ρ:Nat→Loc} {t:TypeId} {x x' : Value} {lo hi mx lo' hi' mx' : Option Value} {K:Value→Prop} (hx:VRel n ρ x x')
  (hlo:(∀ x,lo=some x→∃ x',lo' = some x'∧VRel n ρ x x')∧(lo=none→lo' = none)) (hhi:(∀ x,hi=some x→∃ x',hi' = some x'∧VRel n ρ x x')∧(hi=none→hi' = none))
  (hmx:(∀ x,mx=some x→∃ x',mx' = some x'∧VRel n ρ x x')∧(mx=none→mx' = none)) (hk:Xb P t x lo hi mx K) :
  ∃ v v',K v∧VRel n ρ v v'∧∀ w:World,(Instr.sliceAt t x' lo' hi' mx').run P w = .ok v' w:=by
 unfold Xb at hk
 split at hk
 · obtain ⟨ht,h1,h2,h3,hk⟩:=hk
   obtain ⟨sz,hsz⟩:=Option.isSome_iff_exists.1 ht
   obtain ⟨e,he,hes⟩:=Option.bind_eq_some_iff.1 hsz
   obtain ⟨inf,hinf,rfl⟩:=esz_eq hes
   rw [hx.atom_eq rfl]
   refine ⟨_,_,hk,.atom rfl,fun w=>?_⟩
   have hb1:(Instr.sliceBounds true 0 0 lo' hi' mx').run P w = .ok (0,0,0) w:=by
    unfold mx0 at h3
    split at h3
    case h_2 k' n' =>
     simp only [Bool.and_eq_true,beq_iff_eq] at h3
     obtain ⟨rfl,h4⟩:=h3
     obtain ⟨x',e5,e6⟩:=hmx.1 _ rfl
     rw [e6.int] at e5
     rcases bnd_rel hlo.1 hlo.2 h1 with ⟨_,e1,e2⟩ | ⟨k,_,e1⟩ <;> rcases bnd_rel hhi.1 hhi.2 h2 with ⟨e0,e3,e4⟩ | ⟨k2,_,e3⟩ <;> rw [e1,e3,e5] <;>
      first
      | (rw [e0] at h4; cases h4)
      | simp [Instr.sliceBounds,Yq (P:=P) (w:=w) (i:=0) (y:=0) (Int.le_refl 0) (by simp)]
    case h_3=>cases h3
    rw [hmx.2 rfl]
    rcases bnd_rel hlo.1 hlo.2 h1 with ⟨_,e1,e2⟩ | ⟨k,_,e1⟩ <;> rcases bnd_rel hhi.1 hhi.2 h2 with ⟨_,e3,e4⟩ | ⟨k2,_,e3⟩ <;> rw [e1,e3] <;>
     simp [Instr.sliceBounds,Yq (P:=P) (w:=w) (i:=0) (y:=0) (Int.le_refl 0) (by simp)]
   simp [Instr.sliceAt,Instr.slice,run_underlying (elemOf'_eq he),hb1,Yf hinf]
 · rename_i b o sp len cap
   obtain ⟨hb,cap',hcap,hex,hls,rfl,hsp⟩:=hx.sl
   split at hk
   · rename_i e he
     split at hk
     · rename_i sz l hh hes hl hhh
       obtain ⟨inf,hinf,rfl⟩:=esz_eq hes
       obtain ⟨h0,h1,h2,hK1,hK2⟩:=hk
       rw [hmx.2 rfl]
       have hb1 : ∀ w:World,(Instr.sliceBounds true len cap' lo' hi' none).run P w = .ok (l.toNat,hh.toNat,cap') w:=by
        intro w
        rcases bnd_rel hlo.1 hlo.2 hl with ⟨_,e1,e2⟩ | ⟨k,_,e1⟩ <;> rcases bnd_rel hhi.1 hhi.2 hhh with ⟨_,e3,e4⟩ | ⟨k2,_,e3⟩ <;> rw [e1,e3]
        · subst e2 e4; simp [Instr.sliceBounds]
        · subst e2; simp [Instr.sliceBounds,Yq (show 0≤hh by omega) (show hh≤(cap' : Int) by omega)]
        · subst e4; simp [Instr.sliceBounds,Yq h0 h1]
        · simp [Instr.sliceBounds,Yq (show 0≤hh by omega) (show hh≤(cap' : Int) by omega),Yq h0 (show l≤(hh.toNat:Int) by omega)]
       rcases hsp with rfl | rfl
       · obtain rfl:=hex rfl
         refine ⟨_,.slice (some ⟨(ρ b).blk,if (cap' : Int)=l then o else o+l.toNat*inf.size,none⟩) (hh-l).toNat (cap' - l.toNat),hK1 rfl,?_,fun w=>?_⟩
         · exact .slice hb
         · have e5:hh.toNat-l.toNat=(hh-l).toNat:=by omega
           by_cases hc:(cap' : Int)=l
           · obtain rfl:l=(cap' : Int):=hc.symm
             have hb2:=hb1 w
             simp only [Int.toNat_natCast] at hb2
             simp [Instr.sliceAt,Instr.slice,run_underlying (elemOf'_eq he),hb2,Yf hinf]
           · have hc' : ¬ cap' = l.toNat:=by omega
             simp [Instr.sliceAt,Instr.slice,run_underlying (elemOf'_eq he),hb1 w,Yf hinf,e5,hc,hc',Wg]
       · rcases hK2 (by simp) with ⟨rfl,hK⟩ | ⟨hl0,⟨hlt,hsz,hK⟩ | ⟨rfl,hK⟩⟩
         rotate_left
         · refine ⟨_,.slice (some ⟨(ρ b).blk,o+l.toNat*inf.size,none⟩) (hh-l).toNat (cap' - l.toNat),hK,.loose hb (by omega) (fun h0=>?_),fun w=>?_⟩
           · have:0<l.toNat*inf.size:=Nat.mul_pos (by omega) hsz
             omega
           · have e5:hh.toNat-l.toNat=(hh-l).toNat:=by omega
             have hc' : ¬ cap' = l.toNat:=by omega
             simp [Instr.sliceAt,Instr.slice,run_underlying (elemOf'_eq he),hb1 w,Yf hinf,e5,hc',Wg]
         · refine ⟨_,_,hK,.void (a:=⟨(ρ b).blk,if cap' = l.toNat then o else o+l.toNat*inf.size,none⟩) (cap:=cap' - l.toNat),fun w=>?_⟩
           by_cases hc' : cap' = l.toNat
           · subst hc'
             have hb2:=hb1 w
             simp [Instr.sliceAt,Instr.slice,run_underlying (elemOf'_eq he),hb2,Yf hinf]
           · simp [Instr.sliceAt,Instr.slice,run_underlying (elemOf'_eq he),hb1 w,Yf hinf,hc',Wg]
         refine ⟨_,.slice (some ⟨(ρ b).blk,o,none⟩) hh.toNat cap',hK,.loose hb hcap (hls (by simp)),fun w=>?_⟩
         simp [Instr.sliceAt,Instr.slice,run_underlying (elemOf'_eq he),hb1 w,Yf hinf,Wg]
     · rename_i sz l hh k m hes hl hhh
       obtain ⟨inf,hinf,rfl⟩:=esz_eq hes
       obtain ⟨h0,h1,h2,h3,h4,hK⟩:=hk
       obtain ⟨m',hm',hmr⟩:=hmx.1 _ rfl
       rw [hm',hmr.int]
       have hb1 : ∀ w:World,(Instr.sliceBounds true len cap' lo' hi' (some (.int k m))).run P w = .ok (l.toNat,hh.toNat,m.toNat) w:=by
        intro w
        have hm1:=Yq (P:=P) (w:=w) (k:=k) (c:=.slice3Acap) (show 0≤m by omega) (show m≤(cap' : Int) by omega)
        rcases bnd_rel hlo.1 hlo.2 hl with ⟨_,e1,e2⟩ | ⟨k,_,e1⟩ <;> rcases bnd_rel hhi.1 hhi.2 hhh with ⟨e0,e3,e4⟩ | ⟨k2,_,e3⟩
        · simp [e0] at h4
        · rw [e1,e3]; subst e2; simp [Instr.sliceBounds,hm1,Yq (show 0≤hh by omega) (show hh≤(m.toNat:Int) by omega)]
        · simp [e0] at h4
        · rw [e1,e3]; simp [Instr.sliceBounds,hm1,Yq (show 0≤hh by omega) (show hh≤(m.toNat:Int) by omega),Yq h0 (show l≤(hh.toNat:Int) by omega)]
       refine ⟨_,.slice (some ⟨(ρ b).blk,if m=l then o else o+l.toNat*inf.size,none⟩) (hh-l).toNat (m.toNat-l.toNat),hK,.slice hb,fun w=>?_⟩
       have e5:hh.toNat-l.toNat=(hh-l).toNat:=by omega
       by_cases hc:m=l
       · subst hc
         simp [Instr.sliceAt,Instr.slice,run_underlying (elemOf'_eq he),hb1 w,Yf hinf,e5]
       · have hc' : ¬ m.toNat=l.toNat:=by omega
         simp [Instr.sliceAt,Instr.slice,run_underlying (elemOf'_eq he),hb1 w,Yf hinf,e5,hc,hc',Wg]
     · exact hk.elim
   · exact hk.elim
 · rename_i b o
   obtain ⟨_,hb,rfl⟩:=hx.ptr'
   split at hk
   · rename_i m e hu
     split at hk
     · rename_i sz l hh hes hl hhh
       obtain ⟨inf,hinf,rfl⟩:=esz_eq hes
       obtain ⟨h0,h1,h2,hK⟩:=hk
       rw [hmx.2 rfl]
       have hb1 : ∀ w:World,(Instr.sliceBounds false m m lo' hi' none).run P w = .ok (l.toNat,hh.toNat,m) w:=by
        intro w
        rcases bnd_rel hlo.1 hlo.2 hl with ⟨_,e1,e2⟩ | ⟨k,_,e1⟩ <;> rcases bnd_rel hhi.1 hhi.2 hhh with ⟨_,e3,e4⟩ | ⟨k2,_,e3⟩ <;> rw [e1,e3]
        · subst e2 e4; simp [Instr.sliceBounds]
        · subst e2; simp [Instr.sliceBounds,Yq (show 0≤hh by omega) (show hh≤(m:Int) by omega)]
        · subst e4; simp [Instr.sliceBounds,Yq h0 h1]
        · simp [Instr.sliceBounds,Yq (show 0≤hh by omega) (show hh≤(m:Int) by omega),Yq h0 (show l≤(hh.toNat:Int) by omega)]
       refine ⟨_,.slice (some ⟨(ρ b).blk,if (m:Int)=l then o else o+l.toNat*inf.size,none⟩) (hh-l).toNat (m-l.toNat),hK,.slice hb,fun w=>?_⟩
       have e5:hh.toNat-l.toNat=(hh-l).toNat:=by omega
       by_cases hc:(m:Int)=l
       · obtain rfl:l=(m:Int):=hc.symm
         have hb2:=hb1 w
         simp only [Int.toNat_natCast] at hb2
         simp [Instr.sliceAt,Instr.sureAddr,run_underlying hu,hb2,Yf hinf]
       · have hc' : ¬ m=l.toNat:=by omega
         simp [Instr.sliceAt,Instr.sureAddr,run_underlying hu,hb1 w,Yf hinf,e5,hc,hc',Wg]
     · exact hk.elim
   · exact hk.elim
 · exact hk.elim
end Go.Am
namespace Go.Am
instance:LawfulMonad Sem:=LawfulMonad.mk' Sem (fun x=>Sem.bind_pure' x) (fun _ _=>rfl) (fun x f g=>Sem.bind_assoc' x f g)
theorem run_mapM_list {P:Program} [Tabs P] {α β:Type} {g:α→Sem β} {g' : α→β} : ∀ (l:List α) (w:World),(∀ x∈l,∀ w:World,(g x).run P w = .ok (g' x) w)→(l.mapM g).run P w = .ok (l.map g') w
 | [],w,_=>by simp
 | x::l,w,h=>by
   have h1:=h x (by simp) w
   have ih:=run_mapM_list (g:=g) (g':=g') l w (fun y hy=>h y (by simp [hy]))
   simp [List.mapM_cons,h1,ih]
theorem run_mapM_array {P:Program} [Tabs P] {α β:Type} {g:α→Sem β} {g' : α→β} (l:Array α) (w:World) (h : ∀ x∈l,∀ w:World,(g x).run P w = .ok (g' x) w):(l.mapM g).run P w = .ok (l.map g') w:=by
 rw [Array.mapM_eq_mapM_toList]
 simp [run_mapM_list l.toList w (fun x hx=>h x (by simpa using hx))]
 apply Array.ext'
 simp
theorem splice_cons {α:Type} {c:List α} {o:Nat} {v:α} {vs:List α} (h:o<c.length):Yh (c.set o v) (o+1) vs=Yh c o (v::vs):=by
 have e:c.set o v=c.take o++v::c.drop (o+1):=List.set_eq_take_append_cons_drop .. |>.trans (by rw [if_pos h])
 have hm:min o c.length=o:=by omega
 simp only [Yh,e,List.length_cons]
 have e1:(c.take o++v::c.drop (o+1)).take (o+1)=c.take o++[v]:=by
  rw [List.take_append,List.length_take,hm,show o+1-o=1 by omega,List.take_take,show min (o+1) o=o by omega]; rfl
 have e2:(c.take o++v::c.drop (o+1)).drop (o+1+vs.length)=c.drop (o+(vs.length+1)):=by
  rw [List.drop_append,List.length_take,hm,show o+1+vs.length-o=vs.length+1 by omega,List.drop_eq_nil_of_le (by simp; omega)]
  simp only [List.nil_append,List.drop_succ_cons,List.drop_drop]
  congr 1; omega
 rw [e1,e2]
 simp
theorem foldl_set : ∀ (vs:List Value) (off k:Nat) (cs:Array Value),off+k+vs.length≤cs.size→((vs.zipIdx k).foldl (fun (cs:Array Value) (p:Value×Nat)=>cs.setIfInBounds (off+p.2) p.1) cs).toList=Yh cs.toList (off+k) vs
 | [],off,k,cs,_=>by simp [Yh]
 | v::vs,off,k,cs,h=>by
   simp only [List.zipIdx_cons,List.foldl_cons]
   simp only [List.length_cons] at h
   rw [foldl_set vs off (k+1) _ (by simp; omega)]
   rw [Array.toList_setIfInBounds,show off+(k+1)=off+k+1 by omega]
   exact splice_cons (by simp; omega)
def Wl:Value→Bool
 | .tuple _ | .chan (some _)=>false
 | _=>true
def fillL (place:Nat→Option (Nat×Nat)):List Value→List (Nat×Value)→Option (List Value)
 | c,[]=>some c
 | c,(i,v)::r=>match place i with
   | some (off,size)=>if Wl v=true∧(cellsOf v).length=size∧off+size≤c.length then fillL place (Yh c off (cellsOf v)) r else none
   | none=>none
def PRel (n:Nat) (ρ:Nat→Loc):List (Nat×Value)→List (Nat×Value)→Prop
 | [],[]=>True
 | (i,v)::l,(j,u)::l'=>i=j∧VRel n ρ v u∧PRel n ρ l l'
 | _,_=>False
theorem splice_rel {n:Nat} {ρ:Nat→Loc} {c c' vs vs' : List Value} {o:Nat} (h:LRel n ρ c c') (g:LRel n ρ vs vs') (hl:o+vs.length≤c.length):LRel n ρ (Yh c o vs) (Yh c' o vs'):=by
 have hl' : o+vs'.length≤c'.length:=by rw [← g.1,← h.1]; exact hl
 refine ⟨by rw [Wa hl,Wa hl',h.1],fun k hk=>?_⟩
 rw [Wa hl] at hk
 rw [splice_getD hl,splice_getD hl',← g.1]
 by_cases h1:k<o
 · rw [if_pos h1,if_pos h1]; exact h.2 k hk
 · rw [if_neg h1,if_neg h1]
   by_cases h2:k<o+vs.length
   · rw [if_pos h2,if_pos h2]; exact g.2 _ (by omega)
   · rw [if_neg h2,if_neg h2]; exact h.2 k hk
theorem fill_rel {n:Nat} {ρ:Nat→Loc} {place:Nat→Option (Nat×Nat)} : ∀ {parts parts' : List (Nat×Value)} {c r:List Value} {c' : Array Value},PRel n ρ parts parts'→LRel n ρ c c'.toList→fillL place c parts=some r →
  ∃ r',Instr.fill place c' parts' = some r'∧LRel n ρ r r'.toList
 | [],[],c,r,c',_,hc,hf=>by simp only [fillL,Option.some.injEq] at hf; subst hf; exact ⟨c',rfl,hc⟩
 | (i,v)::l,(j,u)::l',c,r,c',hp,hc,hf=>by
   obtain ⟨rfl,hv,hp⟩:=hp
   simp only [fillL] at hf
   split at hf
   · rename_i off size hpl
     split at hf
     · rename_i hcond
       obtain ⟨ht,hsz,hle⟩:=hcond
       obtain ⟨hcr,hcs⟩:=hv.cells (fun vs e=>by subst e; simp [Wl] at ht) (fun vs e=>by subst e; simp [Wl] at ht)
       have hcl:c.length=c'.size:=by have:=hc.1; simpa using this
       have hset:(u.cells.zipIdx.foldl (fun (cs:Array Value) (p:Value×Nat)=>cs.setIfInBounds (off+p.2) p.1) c').toList=Yh c'.toList off u.cells.toList:=by
        rw [← Array.foldl_toList,Array.toList_zipIdx]
        exact foldl_set u.cells.toList off 0 c' (by simp; omega)
       obtain ⟨r',h1,h2⟩:=fill_rel (c':=u.cells.zipIdx.foldl (fun (cs:Array Value) (p:Value×Nat)=>cs.setIfInBounds (off+p.2) p.1) c') hp (by rw [hset]; exact splice_rel hc hcr (by omega)) hf
       refine ⟨r',?_,h2⟩
       rw [Instr.fill,hpl]
       simp only
       rw [if_neg (by simp; omega)]
       exact h1
     · cases hf
   · cases hf
 | [],(_,_)::_,_,_,_,hp,_,_=>hp.elim
 | (_,_)::_,[],_,_,_,hp,_,_=>hp.elim
def Vd (P:Program) (t:TypeId) (i:Nat):Option (Nat×Nat) :=
 match P.underlying t with
 | some (.struct fs)=>if fs.all (fun f=>(P.info? f.type).isSome) then (fs[i]?).map (fun f=>(f.offset,((P.info? f.type).map (·.size)).getD 0)) else none
 | some (.array _ e)=>(esz P e).map (fun n=>(i*n,n))
 | _=>none
def Va (P:Program) (t:TypeId) (parts:List (Nat×Value)) (K:Value→Prop):Prop :=
 match Xs P t with
 | some z=>(match fillL (Vd P t) z parts with | some c=>(parts=[]→Vd P t 0≠none)∧K (.agg c.toArray) | none=>False)
 | none=>False
theorem zeroOf_eq {P:Program} [Tabs P] {t:TypeId} {z:List Value} (h:Xs P t=some z) : ∃ i v,P.info? t=some i∧i.zero=some v∧v.cells.toList=z∧z.all atom=true:=by
 unfold Xs at h
 cases hi:P.info? t with
 | none=>simp [hi] at h
 | some i =>
   cases hz:i.zero with
   | none=>simp [hi,hz] at h
   | some v =>
     simp only [hi,hz] at h
     split at h
     · rename_i ha; cases h; exact ⟨i,v,rfl,hz,rfl,ha⟩
     · cases h
theorem buildK_sound {P:Program} [Tabs P] {n:Nat} {ρ:Nat→Loc} {t:TypeId} {parts parts' : List (Nat×Value)} {K:Value→Prop} (hp:PRel n ρ parts parts') (hk:Va P t parts K) :
  ∃ v v',K v∧VRel n ρ v v'∧∀ w:World,(Instr.build t parts'.toArray).run P w = .ok v' w:=by
 unfold Va at hk
 split at hk
 · rename_i z hz
   obtain ⟨i,v,hi,hiz,hvz,hat⟩:=zeroOf_eq hz
   split at hk
   · rename_i c hf
     obtain ⟨hne,hk⟩:=hk
     obtain ⟨r',h1,h2⟩:=fill_rel (c':=v.cells) hp (by rw [hvz]; exact .atoms hat) hf
     refine ⟨_,.agg r',hk,by have:=VRel.of_LRel h2; simpa using this,fun w=>?_⟩
     have hpl : ∃ x,Vd P t x≠none:=by
      cases parts with
      | nil=>exact ⟨0,hne rfl⟩
      | cons p l =>
        refine ⟨p.1,fun e=>?_⟩
        simp [fillL,e] at hf
     obtain ⟨x,hx⟩:=hpl
     unfold Vd at hx h1
     cases hu:P.underlying t with
     | none=>simp [hu] at hx
     | some d =>
       simp only [hu] at hx h1
       cases d with
       | struct fs =>
         simp only at hx h1
         split at hx
         · rename_i hall
           simp only [hall,if_true] at h1
           have hm:=run_mapM_array (P:=P) (g:=fun f:Field=>do pure (f.offset,← sizeOf f.type)) (g':=fun f=>(f.offset,((P.info? f.type).map (·.size)).getD 0)) fs w (fun f hf w=>by
            have:=Array.all_eq_true_iff_forall_mem.1 hall f hf
            obtain ⟨j,hj⟩:=Option.isSome_iff_exists.1 this
            simp [Yf hj,hj])
           simp only [Instr.build,Sem.run_bind,zeroValue,typeInfo,run_program,hi,Result.andThen_ok,Sem.run_pure,hiz,run_underlying hu,hm]
           have e1:(fun x:Nat=>(fs.map (fun f:Field=>(f.offset,((P.info? f.type).map (·.size)).getD 0)))[x]?)=(fun x:Nat=>(fs[x]?).map (fun f:Field=>(f.offset,((P.info? f.type).map (·.size)).getD 0))):=by funext x; simp
           rw [e1,h1]; rfl
         · exact absurd rfl hx
       | array len e =>
         simp only at hx h1
         cases he:esz P e with
         | none=>simp [he] at hx
         | some m =>
           obtain ⟨inf,hinf,rfl⟩:=esz_eq he
           simp only [he,Option.map_some] at h1
           simp only [Instr.build,Sem.run_bind,zeroValue,typeInfo,run_program,hi,Result.andThen_ok,Sem.run_pure,hiz,run_underlying hu,Yf hinf,h1]
       | _=>exact absurd rfl hx
   · exact hk.elim
 · exact hk.elim
def Yo (P:Program) (h:Zh) (t:TypeId) (len:Nat) (parts:List (Nat×Value)) (K:Value→Zh→Prop):Prop :=
 match elemOf' P t with
 | some e=>(match Xs P e,esz P e with
   | some z,some sz=>z.length=sz∧0<sz∧len*sz≤16777216 ∧
      (match fillL (fun i=>some (i*sz,sz)) (reps z len) parts with | some c=>K (.slice (some ⟨h.length,0,none⟩) len len) (h++[mkb c e]) | none=>False)
   | _,_=>False)
 | none=>False
theorem zeros_rel {n:Nat} {ρ:Nat→Loc} {z:Array Value} {m len:Nat} (hz:z.toList.all atom=true) (hs:z.size=m) (hm:0<m):LRel n ρ (reps z.toList len) ((Array.range (len*m)).map (fun k=>z[k % z.size]!)).toList:=by
 refine ⟨by rw [reps_length]; simp [hs],fun k hk=>?_⟩
 rw [reps_length] at hk
 have hk' : k<len*m:=by simpa [hs] using hk
 rw [reps_get _ _ _ hk]
 have hmod:k % z.size<z.size:=Nat.mod_lt _ (by omega)
 have e1:((Array.range (len*m)).map (fun k=>z[k % z.size]!)).toList.getD k undef=z.toList.getD (k % z.toList.length) undef:=by
  simp [List.getD,hk',hmod]
 rw [e1]
 exact (LRel.atoms hz).2 _ (by simpa using hmod)
theorem buildSliceK_sound {P:Program} [Tabs P] {ρ:Nat→Loc} {h:Zh} {w:World} {t:TypeId} {len:Nat} {parts parts' : List (Nat×Value)} {K:Value→Zh→Prop} (s:Sim P ρ h w) (hp:PRel h.length ρ parts parts') (hk:Yo P h t len parts K) :
  ∃ v v' h' ρ' w',K v h'∧(Instr.buildSlice t len parts'.toArray).run P w = .ok v' w'∧VRel h'.length ρ' v v'∧Sim P ρ' h' w'∧Evo h ρ w h' ρ' w':=by
 unfold Yo at hk
 split at hk
 · rename_i e he
   split at hk
   · rename_i z sz hz hs
     obtain ⟨i,v,hi,hiz,hvz,hat⟩:=zeroOf_eq hz
     obtain ⟨inf,hinf,rfl⟩:=esz_eq hs
     rw [hi] at hinf; cases hinf
     obtain ⟨hzl,h0,hle,hk⟩:=hk
     split at hk
     · rename_i c hf
       have hvs:v.cells.size=i.size:=by rw [← hzl,← hvz]; simp
       obtain ⟨r',h1,h2⟩:=fill_rel (c':=(Array.range (len*i.size)).map (fun k=>v.cells[k % v.cells.size]!)) hp (by rw [← hvz]; exact zeros_rel (by rw [hvz]; exact hat) hvs h0) hf
       obtain ⟨hS,hE⟩:=mkb_alloc s (c:=c) (e:=e) (c':=r') (es:=i.size) (by have:=h2.1; simp at this; omega) (fun k hk=>by
        have:=h2.2 k hk
        simpa [List.getD,Array.getD_eq_getD_getElem?] using this) (by simp [hi])
       refine ⟨_,.slice (some ⟨w.heap.size,0,none⟩) len len,_,_,_,hk,?_,?_,hS,hE⟩
       · have t1 : ¬ (16777216<len*i.size):=by omega
         by_cases hz0:len*i.size=0
         · have hl0:len=0:=by rcases Nat.mul_eq_zero.1 hz0 with h | h; exact h; omega
           subst hl0
           simp only [Nat.zero_mul,Array.range_zero'] at h1
           simp [Instr.buildSlice,run_underlying (elemOf'_eq he),Yf hi,Array.range_zero',newRow]
           simp at h1
           simp [h1]
         · simp [Instr.buildSlice,run_underlying (elemOf'_eq he),Yf hi,t1,hz0,zeroValue,typeInfo,hi,hiz,newRow,h1]
       · have:=VRel.slice (n:=(h++[mkb c e]).length) (ρ:=Loc.upd ρ h.length ⟨w.heap.size,r'.size,i.size⟩) (b:=h.length) (o:=0) (len:=len) (cap:=len) (by simp)
         rwa [Loc.upd_same] at this
     · exact hk.elim
   · exact hk.elim
 · exact hk.elim
def storesK (h:Zh) (b o:Nat) (ns:List Value) (K:Zh→Prop):Prop :=
 ns.all one=true∧(match h[b]? with
  | some (.cells c e false)=>o+ns.length≤c.length∧K (h.set b (.cells (Yh c o ns) e false))
  | some (.ints xs e false)=>(match Xa ns with | some is=>o+is.length≤xs.length∧K (h.set b (.ints (Yh xs o is) e false)) | none=>False)
  | _=>False)
def copyK (P:Program) (h:Zh) (t:TypeId) (d x:Value) (K:Value→Zh→Prop):Prop :=
 match d,x with
 | .slice (some ⟨b,o,_⟩) l _,.slice (some ⟨b2,o2,_⟩) m _=>(match elemOf' P t with
   | some e=>(match esz P e with | some sz=>Xo h b2 o2 (min m l*sz) (fun ns=>storesK h b o ns (fun h'=>K (Zd (min m l)) h')) | none=>False)
   | none=>False)
 | _,_=>False
theorem storesK_sound {P:Program} [Tabs P] {ρ:Nat→Loc} {h:Zh} {w:World} {b o:Nat} {ns ns' : List Value} {K:Zh→Prop} (s:Sim P ρ h w) (hr:LRel h.length ρ ns ns') (hk:storesK h b o ns K) :
  ∃ h' w',K h'∧(storeCells ⟨(ρ b).blk,o,none⟩ ns').run P w = .ok () w'∧Sim P ρ h' w'∧Evo h ρ w h' ρ w'∧h'.length=h.length:=by
 obtain ⟨h1,hk⟩:=hk
 split at hk
 · rename_i c e hb
   obtain ⟨w',g1,g2,g3⟩:=s.stores (b:=.cells (Yh c o ns) e false) (show view h b=some (c,e,false) by simp [view,hb,Blk.view]) (by rw [Wz hb]; rfl) rfl rfl hk.1 hr (fun v hv=>List.all_eq_true.1 h1 v hv)
   exact ⟨_,w',hk.2,g1,g2,g3,by simp⟩
 · rename_i xs e hb
   split at hk
   · rename_i is his
     have e1:=intsOf_eq his
     obtain ⟨w',g1,g2,g3⟩:=s.stores (o:=o) (b:=.ints (Yh xs o is) e false) (c:=xs.map Zd) (e:=e) (show view h b=some (xs.map Zd,e,false) by simp [view,hb,Blk.view]) (by rw [Wz hb]; rfl) (by rw [e1]; simp [Blk.view,splice_map]) rfl (by rw [e1]; simpa using hk.1) hr (fun v hv=>List.all_eq_true.1 h1 v hv)
     exact ⟨_,w',hk.2,g1,g2,g3,by simp⟩
   · exact hk.elim
 · exact hk.elim
theorem copyK_sound {P:Program} [Tabs P] {ρ:Nat→Loc} {h:Zh} {w:World} {t t2 ty:TypeId} {d d' x x' : Value} {K:Value→Zh→Prop} (s:Sim P ρ h w) (hd:VRel h.length ρ d d') (hx:VRel h.length ρ x x') (hk:copyK P h t d x K) :
  ∃ r r' h' ρ' w',K r h'∧(Builtin.copy_ #[t,t2] ty #[d',x']).run P w = .ok r' w'∧VRel h'.length ρ' r r'∧Sim P ρ' h' w'∧Evo h ρ w h' ρ' w':=by
 unfold copyK at hk
 split at hk
 · rename_i b o sp l cp b2 o2 sp2 m cp2
   obtain ⟨hb,cap',_,_,_,rfl,_⟩:=hd.sl
   obtain ⟨hb2,cap2',_,_,_,rfl,_⟩:=hx.sl
   split at hk
   · rename_i e he
     split at hk
     · rename_i sz hs
       obtain ⟨inf,hinf,rfl⟩:=esz_eq hs
       have hns:=cellsK_side hk
       obtain ⟨c,e2,ro,hv,hle,hk⟩:=cellsK_view hk
       obtain ⟨vs,hrun,hsz,hr⟩:=run_loadCells s hv hns hle
       obtain ⟨h',w',hK,g1,g2,g3,g4⟩:=storesK_sound s (ns':=vs.toList) ⟨by simp [hsz]; omega,fun k hk=>by
        have:=hr k (by simp at hk; omega)
        simpa [List.getD,Array.getD_eq_getD_getElem?] using this⟩ hk
       refine ⟨_,_,h',ρ,w',hK,?_,.atom rfl,g2,g3⟩
       have e9:Nat.min m l=min m l:=rfl
       simp [Builtin.copy_,run_underlying (elemOf'_eq he),Builtin.lenOf,Yf hinf,Builtin.firstCells,e9,hrun w rfl,g1,goInt]
       omega
     · exact hk.elim
   · exact hk.elim
 · exact hk.elim
def clearK (P:Program) (h:Zh) (t:TypeId) (x:Value) (K:Value→Zh→Prop):Prop :=
 (elemOf' P t).isSome=true∧(match x with
 | .chan (some 1)=>K (.tuple #[]) h
 | .slice none _ _=>K (.tuple #[]) h
 | .slice (some ⟨b,o,_⟩) n _=>(n=0→K (.tuple #[]) h)∧(n≠0→(match (elemOf' P t).bind (Xs P) with
    | some [z]=>storesK h b o (List.replicate n z) (fun h'=>K (.tuple #[]) h')
    | some [z,z2]=>z2=z∧storesK h b o (List.replicate (n*2) z) (fun h'=>K (.tuple #[]) h')
    | _=>False))
 | _=>False)
theorem zeroCells_two (z:Value) (n:Nat):(Builtin.zeroCells #[z,z] n).toList=List.replicate (n*2) z:=by
 refine List.ext_getElem (by simp [Builtin.zeroCells]) fun i h1 h2=>?_
 have:i % 2=0∨i % 2=1:=by omega
 rcases this with h | h <;> simp [Builtin.zeroCells,h]
theorem zeroCells_one (z:Value) (n:Nat):(Builtin.zeroCells #[z] n).toList=List.replicate n z:=by
 refine List.ext_getElem (by simp [Builtin.zeroCells]) fun i h1 h2=>?_
 simp [Builtin.zeroCells,Nat.mod_one]
theorem clearK_sound {P:Program} [Tabs P] {ρ:Nat→Loc} {h:Zh} {w:World} {t ty:TypeId} {x x' : Value} {K:Value→Zh→Prop} (s:Sim P ρ h w) (hx:VRel h.length ρ x x') (hk:clearK P h t x K) :
  ∃ r r' h' ρ' w',K r h'∧(Builtin.clear_ #[t] ty #[x']).run P w = .ok r' w'∧VRel h'.length ρ' r r'∧Sim P ρ' h' w'∧Evo h ρ w h' ρ' w':=by
 obtain ⟨he,hk⟩:=hk
 obtain ⟨e,he⟩:=Option.isSome_iff_exists.1 he
 have hr0 : ∀ (n:Nat) (ρ:Nat→Loc),VRel n ρ (.tuple #[]) (.tuple #[]):=fun n ρ=>by
  first
  | exact .atom rfl
  | exact VRel.tuple rfl (fun k hk=>absurd hk (Nat.not_lt_zero k))
 split at hk
 · cases hx with
   | atom h=>simp [atom] at h
   | void=>exact ⟨_,_,h,ρ,w,hk,by simp [Builtin.clear_,run_underlying (elemOf'_eq he)],hr0 _ _,s,Evo.refl _ _ _⟩
 · rw [hx.atom_eq rfl]
   exact ⟨_,_,h,ρ,w,hk,by simp [Builtin.clear_,run_underlying (elemOf'_eq he)],hr0 _ _,s,Evo.refl _ _ _⟩
 · rename_i b o sp n cp
   obtain ⟨hb,cap',_,_,_,rfl,_⟩:=hx.sl
   by_cases hn:n=0
   · subst hn
     exact ⟨_,_,h,ρ,w,hk.1 rfl,by simp [Builtin.clear_,run_underlying (elemOf'_eq he)],hr0 _ _,s,Evo.refl _ _ _⟩
   · have hk:=hk.2 hn
     rw [he,Option.bind_some] at hk
     split at hk
     · rename_i z hz
       obtain ⟨i,v,hi,hiz,hvz,hat⟩:=zeroOf_eq hz
       have hvc:v.cells = #[z]:=by apply Array.ext'; simpa using hvz
       have haz:atom z=true:=by simpa using hat
       obtain ⟨h',w',hK,g1,g2,g3,g4⟩:=storesK_sound s (ns':=List.replicate n z) ⟨rfl,fun k hk=>by
        rw [List.length_replicate] at hk
        have : ∀ d,(List.replicate n z).getD k d=z:=fun d=>by rw [List.getD,List.getElem?_replicate,if_pos hk]; rfl
        rw [this]; exact .atom haz⟩ hk
       refine ⟨_,_,h',ρ,w',hK,?_,hr0 _ _,g2,g3⟩
       have hzc:=zeroCells_one z n
       cases n with
       | zero=>exact absurd rfl hn
       | succ n=>simp [Builtin.clear_,run_underlying (elemOf'_eq he),zeroValue,typeInfo,hi,hiz,hvc,hzc,g1]
     · rename_i z z2 hz
       obtain ⟨rfl,hk⟩:=hk
       obtain ⟨i,v,hi,hiz,hvz,hat⟩:=zeroOf_eq hz
       have hvc:v.cells = #[z2,z2]:=by apply Array.ext'; simpa using hvz
       have haz:atom z2=true:=by simpa using hat
       obtain ⟨h',w',hK,g1,g2,g3,g4⟩:=storesK_sound s (ns':=List.replicate (n*2) z2) ⟨rfl,fun k hk=>by
        rw [List.length_replicate] at hk
        have : ∀ d,(List.replicate (n*2) z2).getD k d=z2:=fun d=>by rw [List.getD,List.getElem?_replicate,if_pos hk]; rfl
        rw [this]; exact .atom haz⟩ hk
       refine ⟨_,_,h',ρ,w',hK,?_,hr0 _ _,g2,g3⟩
       have hzc:=zeroCells_two z2 n
       cases n with
       | zero=>exact absurd rfl hn
       | succ n=>simp [Builtin.clear_,run_underlying (elemOf'_eq he),zeroValue,typeInfo,hi,hiz,hvc,hzc,g1]
     · exact hk.elim
 · exact hk.elim
end Go.Am
namespace Go.Am
def fence (r:Option Nat):Fence:={ Fence.wide with round:=r }
def ACall (P:Program) [Tabs P] (f:FuncId) (args:List Value) (h:Zh) (Q:Value→Zh→Prop):Prop :=
 (∀ (as:Array Value) (w:World),(callFunc f as).run P w = .ok (.enter f as) w) ∧
 ∀ (n:Nat) (ρ:Nat→Loc) (args' : Array Value) (w:World),Sim P ρ h w→LRel h.length ρ args args'.toList →
   CallsIn Fence.wide n P f args' w fun en w'=>∃ v v' ρ' h',en = .returned v'∧Q v h'∧VRel h'.length ρ' v v'∧Evo h ρ w h' ρ' w'∧Sim P ρ' h' w'
theorem ACall.mono {P:Program} [Tabs P] {f:FuncId} {args:List Value} {h:Zh} {Q Q' : Value→Zh→Prop} (c:ACall P f args h Q) (hq : ∀ v h',Q v h'→Q' v h'):ACall P f args h Q' :=
 ⟨c.1,fun n ρ args' w s hr=>(c.2 n ρ args' w s hr).mono fun _ _ ⟨v,v',ρ',h',h1,h2,h3,h4,h5⟩=>⟨v,v',ρ',h',h1,hq _ _ h2,h3,h4,h5⟩⟩
def Wo (P:Program) [Tabs P] (f:FuncId) (args:List Value) (h:Zh) (v:Value):Prop:=ACall P f args h fun v' h'=>v' = v∧h' = h
def ADet (P:Program) [Tabs P] (f:FuncId) (args:List Value) (h:Zh) (v:Value) (h' : Zh):Prop:=ACall P f args h fun v1 h1=>v1=v∧h1=h'
def Yz (P:Program) [Tabs P] (d:Bool) (f:Value) (args:List Value) (h:Zh) (K:Value→Zh→Prop):Prop :=
 match f with
 | .func (.func g) first captured=>(match d with
   | false=>ACall P g (first.toList++args++captured.toList) h K
   | true=>∃ v h',ADet P g (first.toList++args++captured.toList) h v h'∧K v h')
 | _=>False
def lenK (x:Value) (K:Value→Prop):Prop :=
 match x with
 | .slice _ n _=>K (Zd n)
 | .chan (some 1)=>K (Zd 0)
 | _=>False
def isSl (P:Program) (t:TypeId):Bool:=(elemOf' P t).isSome
def mmK (mx:Bool) (xs:List Value) (K:Value→Prop):Prop :=
 match xs with
 | [.int k a,.int _ b]=>K (.int k (if mx then (if b > a then b else a) else (if b<a then b else a)))
 | _=>False
def nilK (x:Value) (K:Value→Prop):Prop :=
 match x with
 | .pointer (some _) | .func (.func _) _ _=>K x
 | _=>False
def arrSliceK (P:Program) (t:TypeId) (x:Value) (K:Value→Prop):Prop :=
 match x,P.underlying t with
 | .pointer (some ⟨b,o,none⟩),some (.array n e)=>(esz P e).isSome=true∧K (.slice (some ⟨b,o,none⟩) n n)
 | _,_=>False
def Zi (P:Program) (b:Builtin) (ts:List TypeId) (xs:List Value) (h:Zh) (K:Value→Zh→Prop):Prop :=
 match b,ts,xs with
 | .len,[t],[x]=>isSl P t=true∧lenK x (fun v=>K v h)
 | .append,[t,t2],[s,x]=>Ys P h t t2 s x K
 | .copy,[t,_],[d,x]=>copyK P h t d x K
 | .max,_,xs=>mmK true xs (fun v=>K v h)
 | .min,_,xs=>mmK false xs (fun v=>K v h)
 | .clear,[t],[x]=>clearK P h t x K
 | _,_,_=>False
/-! ### Maps whose keys are ints -/
/-- The value at a key. -/
def mgetI (n:Int):List (Value×Value)→Option Value
 | []=>none
 | (.int _ m,v)::es=>if m=n then some v else mgetI n es
 | _::es=>mgetI n es
def mputI (kk:IntKind) (n:Int) (v:Value):List (Value×Value)→List (Value×Value)
 | []=>[(.int kk n,v)]
 | (.int k m,u)::es=>if m=n then (.int kk n,v)::es else (.int k m,u)::mputI kk n v es
 | p::es=>p::mputI kk n v es
def keysI (kk:IntKind) (es:List (Value×Value)):Prop:=∀ p∈es,∃ m,p.1 = .int kk m
/-! ### Maps whose keys are arrays or structs of ints -/
/-- Ints of 64 bits. -/
def inR64 (xs:List Int):Prop:=∀ x∈xs,-9223372036854775808≤x∧x<9223372036854775808
def KeyT (P:Program) (t:TypeId) (n:Nat):Prop :=
 (match P.underlying t with | some (.array _ _) | some (.struct _)=>true | _=>false)=true ∧
 ∀ (xs:List Int) (w:World),xs.length=n→inR64 xs→(∀ em,(Instr.checkKey em 10000 t (.agg (xs.map Zd).toArray)).run P w = .ok () w) ∧
   ∀ ys:List Int,ys.length=n→inR64 ys→(Op.equal t (.agg (xs.map Zd).toArray) (.agg (ys.map Zd).toArray)).run P w = .ok (xs==ys) w
theorem intsOf_vint : ∀ xs:List Int,Xa (xs.map Zd)=some xs
 | []=>rfl
 | x::xs=>by
   have ih:=intsOf_vint xs
   show (Xa (xs.map Zd)).map (x :: ·)=_
   rw [ih]; rfl
def mgetA (is:List Int):List (Value×Value)→Option Value
 | []=>none
 | (.agg xs,v)::es=>if Xa xs.toList=some is then some v else mgetA is es
 | _::es=>mgetA is es
def mputA (is:List Int) (v:Value):List (Value×Value)→List (Value×Value)
 | []=>[(.agg (is.map Zd).toArray,v)]
 | (.agg xs,u)::es=>if Xa xs.toList=some is then (.agg (is.map Zd).toArray,v)::es else (.agg xs,u)::mputA is v es
 | p::es=>p::mputA is v es
def keysA (n:Nat) (es:List (Value×Value)):Prop:=∀ p∈es,∃ js:List Int,js.length=n∧inR64 js∧p.1 = .agg (js.map Zd).toArray
theorem findAsking_get {P:Program} {w:World} {t:TypeId} {n:Nat} {is:List Int} {v:Value} (hT:KeyT P t n) (his:is.length=n) (hir:inR64 is) : ∀ (l:List MapEntry) (es:List (Value×Value)) (i:Nat),l.length=es.length→(∀ j x,l[j]? = some x→x.key=(es.getD j (undef,undef)).1)→keysA n es →
  (mgetA is es=none∧(Instr.findAsking t (.agg (is.map Zd).toArray) l i).run P w = .ok none w∧mputA is v es=es++[(.agg (is.map Zd).toArray,v)]) ∨
  ∃ j e u,l[j]? = some e∧e.key = .agg (is.map Zd).toArray∧(Instr.findAsking t (.agg (is.map Zd).toArray) l i).run P w = .ok (some (i+j,e.val)) w∧es[j]? = some (.agg (is.map Zd).toArray,u)∧mgetA is es=some u∧mputA is v es=es.set j (.agg (is.map Zd).toArray,v)
 | [],[],i,_,_,_=>.inl ⟨rfl,by simp [Instr.findAsking],rfl⟩
 | x::l,(k,u)::es,i,hl,hk,hi=>by
   obtain ⟨js,hjl,hjr,hjs⟩:=hi (k,u) (by simp)
   simp only at hjs
   subst hjs
   have hx:x.key = .agg (js.map Zd).toArray:=hk 0 x rfl
   have heq:=((hT.2 is w his hir).2 js hjl hjr)
   rw [← hx] at heq
   have hio:Xa (js.map Zd).toArray.toList=some js:=intsOf_vint js
   by_cases hmn:is=js
   · subst hmn
     rw [beq_self_eq_true] at heq
     right
     refine ⟨0,x,u,rfl,hx,?_,rfl,by rw [mgetA,if_pos hio],by rw [mputA,if_pos hio]; rfl⟩
     simp [Instr.findAsking,heq]
   · have hne:(is==js)=false:=by rw [Bool.eq_false_iff]; exact fun h=>hmn (beq_iff_eq.1 h)
     have hno : ¬ Xa (js.map Zd).toArray.toList=some is:=by rw [hio]; exact fun h=>hmn (Option.some.inj h).symm
     rw [hne] at heq
     rcases findAsking_get (w:=w) (v:=v) hT his hir l es (i+1) (by simpa using hl) (fun j y hj=>by have:=hk (j+1) y hj; simpa [List.getD] using this) (fun p hp=>hi p (by simp [hp])) with ⟨h1,h2,h3⟩ | ⟨j,e,u',h1,h2,h3,h4,h5,h6⟩
     · left
       exact ⟨by rw [mgetA,if_neg hno,h1],by simp [Instr.findAsking,heq,h2],by rw [mputA,if_neg hno,h3]; rfl⟩
     · right
       exact ⟨j+1,e,u',by simpa using h1,h2,by simp [Instr.findAsking,heq,h3,Nat.add_assoc,Nat.add_comm 1 j],by simpa using h4,by rw [mgetA,if_neg hno,h5],by rw [mputA,if_neg hno,h6]; rfl⟩
 | [],_::_,_,hl,_,_=>by simp at hl
 | _::_,[],_,hl,_,_=>by simp at hl
def zeroV (P:Program) (t:TypeId):Option Value :=
 match (P.info? t).bind (·.zero) with
 | some z=>if atom z=true then some z else none
 | none=>none
def makeMapK (h:Zh) (K:Value→Zh→Prop):Prop:=K (.map (some h.length)) (h++[.map []])
def lookupK (P:Program) (h:Zh) (t:TypeId) (x i:Value) (ok:Bool) (K:Value→Prop):Prop :=
 match P.underlying t,x,i with
 | some (.map kt et),.map (some b),.int kk n=>P.underlying kt=some (.int kk) ∧
   (match h[b]?,zeroV P et with
    | some (.map es),some z=>keysI kk es∧K (bif ok then .tuple #[(mgetI n es).getD z,.bool (mgetI n es).isSome] else (mgetI n es).getD z)
    | _,_=>False)
 | some (.map kt et),.map (some b),.agg ks=>∃ is,Xa ks.toList=some is∧inR64 is∧KeyT P kt is.length ∧
   (match h[b]?,zeroV P et with
    | some (.map es),some z=>keysA is.length es∧K (bif ok then .tuple #[(mgetA is es).getD z,.bool (mgetA is es).isSome] else (mgetA is es).getD z)
    | _,_=>False)
 | _,_,_=>False
def mapUpdK (P:Program) (h:Zh) (t:TypeId) (x i v:Value) (K:Zh→Prop):Prop :=
 match P.underlying t,x,i with
 | some (.map kt _),.map (some b),.int kk n=>P.underlying kt=some (.int kk) ∧
   (match h[b]? with
    | some (.map es)=>keysI kk es∧K (h.set b (.map (mputI kk n v es)))
    | _=>False)
 | some (.map kt _),.map (some b),.agg ks=>∃ is,Xa ks.toList=some is∧inR64 is∧KeyT P kt is.length ∧
   (match h[b]? with
    | some (.map es)=>keysA is.length es∧K (h.set b (.map (mputA is v es)))
    | _=>False)
 | _,_,_=>False
def rangeK (P:Program) (h:Zh) (t:TypeId) (x:Value) (K:Value→Zh→Prop):Prop :=
 match P.underlying t,x with
 | some (.map _ _),.map (some b)=>(match h[b]? with
   | some (.map es)=>K (Xc h) (h++[.iter b es.length [] es.length])
   | _=>False)
 | _,_=>False
def nextK (h:Zh) (x:Value) (K:Value→Zh→Prop):Prop :=
 match x with
 | .pointer (some ⟨it,0,none⟩)=>(match h[it]? with
   | some (.iter m since seen stepped)=>(match h[m]? with
     | some (.map es)=>since=es.length∧(seen=[]∨(0<stepped∧es≠[])) ∧
        (∀ j p,es[j]? = some p→j ∉ seen→K (.tuple #[.bool true,p.1,p.2]) (h.set it (.iter m since (seen++[j]) es.length)))∧((∀ j,j<es.length→j∈seen)→K (.tuple #[.bool false]) h)
     | _=>False)
   | _=>False)
 | _=>False
def entryK (h:Zh) (x:Value) (K:Value→Prop):Prop :=
 match x with
 | .pointer (some ⟨it,0,none⟩)=>(match h[it]? with
   | some (.iter m _ seen stepped)=>(match h[m]?,seen.getLast? with
     | some (.map es),some j=>(match es[j]? with
       | some p=>stepped=es.length∧K (.tuple #[p.1,p.2])
       | none=>False)
     | _,_=>False)
   | _=>False)
 | _=>False
theorem findNow_get {kk:IntKind} {n:Int} {v:Value} : ∀ (l:List MapEntry) (es:List (Value×Value)) (i:Nat),l.length=es.length→(∀ j x,l[j]? = some x→x.key=(es.getD j (undef,undef)).1)→keysI kk es →
  (mgetI n es=none∧Instr.findNow (.int kk) (.int kk n) l i=some none∧mputI kk n v es=es++[(.int kk n,v)]) ∨
  ∃ j e u,l[j]? = some e∧e.key = .int kk n∧Instr.findNow (.int kk) (.int kk n) l i=some (some (i+j,e.val))∧es[j]? = some (.int kk n,u)∧mgetI n es=some u∧mputI kk n v es=es.set j (.int kk n,v)
 | [],[],i,_,_,_=>.inl ⟨rfl,rfl,rfl⟩
 | x::l,(k,u)::es,i,hl,hk,hi=>by
   obtain ⟨m,hm⟩:=hi (k,u) (by simp)
   simp only at hm
   subst hm
   have hx:x.key = .int kk m:=hk 0 x rfl
   have hsn:Instr.sameNow (.int kk) (.int kk n) x.key=some (n==m):=by rw [hx]; simp [Instr.sameNow]
   by_cases hmn:m=n
   · subst hmn
     right
     refine ⟨0,x,u,rfl,hx,?_,rfl,by simp [mgetI],by simp [mputI]⟩
     simp [Instr.findNow,hsn]
   · have hne:(n==m)=false:=by simpa using fun h=>hmn h.symm
     rw [hne] at hsn
     rcases findNow_get (n:=n) (v:=v) l es (i+1) (by simpa using hl) (fun j y hj=>by have:=hk (j+1) y hj; simpa [List.getD] using this) (fun p hp=>hi p (by simp [hp])) with ⟨h1,h2,h3⟩ | ⟨j,e,u',h1,h2,h3,h4,h5,h6⟩
     · left
       exact ⟨by simp [mgetI,hmn,h1],by simp [Instr.findNow,hsn,h2],by simp [mputI,hmn,h3]⟩
     · right
       exact ⟨j+1,e,u',by simpa using h1,h2,by simp [Instr.findNow,hsn,h3]; omega,by simpa using h4,by simp [mgetI,hmn,h5],by simp [mputI,hmn,h6]⟩
 | [],_::_,_,hl,_,_=>by simp at hl
 | _::_,[],_,hl,_,_=>by simp at hl
section maps
variable {P:Program} [Tabs P] {ρ:Nat→Loc} {h:Zh} {w:World}
theorem flat_rel {n:Nat} {v:Value} (hf:flat v=true):VRel n ρ v v:=by
 cases v with
 | agg xs =>
   refine .agg rfl fun i hi=>.atom ?_
   simp only [flat,List.all_eq_true] at hf
   have:xs.getD i undef=xs[i]:=by simp [Array.getD,hi]
   rw [this]; exact hf _ (by simp)
 | _=>exact .atom hf
theorem Sim.map (s:Sim P ρ h w) {b:Nat} {es:List (Value×Value)} (hb:h[b]? = some (.map es)) : ∃ E:Array MapEntry,w.heap[(ρ b).blk]? = some (.map E es.length)∧E.size=es.length∧∀ k x,E[k]? = some x→x.born=k∧x.key=(es.getD k (undef,undef)).1∧flat x.key=true∧VRel h.length ρ (es.getD k (undef,undef)).2 x.val:=by
 obtain ⟨o,h1,E,rfl,h2,h3⟩:=s.sides b _ hb rfl
 exact ⟨E,h1,h2,h3⟩
theorem Sim.iter (s:Sim P ρ h w) {b m since stepped:Nat} {seen:List Nat} (hb:h[b]? = some (.iter m since seen stepped)):w.heap[(ρ b).blk]? = some (.mapIter (some (ρ m).blk) since seen.toArray stepped):=by
 obtain ⟨o,h1,rfl,h2⟩:=s.sides b _ hb rfl
 exact h1
theorem Sim.allocS (s:Sim P ρ h w) {b:Blk} {o:Obj} (hb:b.side=true) (hr:SRel (h.length+1) (Loc.upd ρ h.length ⟨w.heap.size,0,0⟩) b o) :
  Sim P (Loc.upd ρ h.length ⟨w.heap.size,0,0⟩) (h++[b]) (w.alloc o)∧Evo h ρ w (h++[b]) (Loc.upd ρ h.length ⟨w.heap.size,0,0⟩) (w.alloc o):=by
 have hag : ∀ i,i<h.length→Loc.upd ρ h.length ⟨w.heap.size,0,0⟩ i=ρ i:=fun i hi=>Loc.upd_lt ρ _ hi
 have hnew:(w.alloc o).heap[w.heap.size]? = some o:=World.alloc_heap_new w _
 have hold : ∀ k,k<w.heap.size→(w.alloc o).heap[k]? = w.heap[k]?:=fun k hk=>Go.RowKit.Below.heap_alloc w _ k hk
 have hbv:b.view=some ([],0,false):=by cases b <;> first | rfl | cases hb
 have hEvo:Evo h ρ w (h++[b]) (Loc.upd ρ h.length ⟨w.heap.size,0,0⟩) (w.alloc o):=by
  refine ⟨by simp,hag,by simp,rfl,rfl,rfl,fun k hk _=>hold k hk,?_,?_⟩
  · rintro k ⟨i,c1,e1,hv,rfl⟩
    rcases Xi hv with ⟨hi,hv1⟩ | ⟨rfl,hv1⟩
    · right; exact ⟨i,c1,e1,hv1,by rw [hag i hi]⟩
    · left; rw [Loc.upd_same]; exact Nat.le_refl _
  · rintro k ⟨i,x1,hv,rfl⟩
    rcases Xi hv with ⟨hi,hv1⟩ | ⟨rfl,hv1⟩
    · right; exact ⟨i,x1,hv1,by rw [hag i hi]⟩
    · left; rw [Loc.upd_same]; exact Nat.le_refl _
 refine ⟨⟨?_,?_,?_,fun p hp=>hEvo.tab (s.tab p hp)⟩,hEvo⟩
 · intro i c1 e1 ro1 hv hns
   rcases Xi hv with ⟨hi,hv1⟩ | ⟨rfl,hv1⟩
   · obtain ⟨c2,fr,hc,hsz,hl,hrel,hw⟩:=s.cells i c1 e1 ro1 hv1 (by rw [side_append hi] at hns; exact hns)
     rw [hag i hi]
     refine ⟨c2,fr,?_,hsz,hl,fun k hk=>(hrel k hk).mono (by simp) hag,hw⟩
     rw [hold _ (Array.getElem?_eq_some_iff.1 hc).1]; exact hc
   · rw [side_new,hb] at hns; cases hns
 · intro i b1 hi1 hb1
   by_cases hi:i<h.length
   · rw [List.getElem?_append_left hi] at hi1
     obtain ⟨o1,h3,h4⟩:=s.sides i b1 hi1 hb1
     rw [hag i hi]
     exact ⟨o1,(hold _ (Array.getElem?_eq_some_iff.1 h3).1).trans h3,h4.mono (by simp) hag⟩
   · have hil:=(List.getElem?_eq_some_iff.1 hi1).1
     simp only [List.length_append,List.length_singleton] at hil
     obtain rfl:i=h.length:=by omega
     rw [List.getElem?_append_right (Nat.le_refl _)] at hi1
     simp at hi1
     subst hi1
     rw [Loc.upd_same]
     exact ⟨o,hnew,by simpa using hr⟩
 · intro i j x y hi hj hij
   rcases Xi hi with ⟨hi1,hi2⟩ | ⟨rfl,hi2⟩ <;> rcases Xi hj with ⟨hj1,hj2⟩ | ⟨rfl,hj2⟩
   · rw [hag i hi1,hag j hj1] at hij; exact s.inj i j x y hi2 hj2 hij
   · rw [hag i hi1,Loc.upd_same] at hij; have:=s.lt hi2; simp only at hij; omega
   · rw [hag j hj1,Loc.upd_same] at hij; have:=s.lt hj2; simp only at hij; omega
   · rfl
theorem Sim.writeS (s:Sim P ρ h w) {i:Nat} {b b2:Blk} {o:Obj} (hi0:h[i]? = some b) (hb:b.side=true) (hb2:b2.side=true) (hr:SRel h.length ρ b2 o) :
  Sim P ρ (h.set i b2) { w with heap:=w.heap.setIfInBounds (ρ i).blk o }∧Evo h ρ w (h.set i b2) ρ { w with heap:=w.heap.setIfInBounds (ρ i).blk o }:=by
 have hil:i<h.length:=(List.getElem?_eq_some_iff.1 hi0).1
 have hv:view h i=some ([],0,false):=by rw [view,hi0]; cases b <;> first | rfl | cases hb
 have hbv:b2.view=some ([],0,false):=by cases b2 <;> first | rfl | cases hb2
 have hbl:=s.lt hv
 have hlen:(h.set i b2).length=h.length:=by simp
 have hother : ∀ k,k≠(ρ i).blk→(w.heap.setIfInBounds (ρ i).blk o)[k]? = w.heap[k]?:=fun k hk=>by simp [Array.getElem?_setIfInBounds_ne (Ne.symm hk)]
 have hsame:(w.heap.setIfInBounds (ρ i).blk o)[(ρ i).blk]? = some o:=by simp [hbl]
 have vs : ∀ j x,view (h.set i b2) j=some x→view h j=some x:=fun j x hj=>by
  rw [view_set hil] at hj
  by_cases hij:i=j
  · subst hij; rw [if_pos rfl,hbv] at hj; rw [hv]; exact hj
  · rw [if_neg hij] at hj; exact hj
 have hEvo:Evo h ρ w (h.set i b2) ρ { w with heap:=w.heap.setIfInBounds (ρ i).blk o }:=by
  refine ⟨by simp,fun _ _=>rfl,by simp,rfl,rfl,rfl,?_,?_,?_⟩
  · intro k hk hm
    exact hother k (fun he=>hm ⟨i,_,_,hv,he.symm⟩)
  · rintro k ⟨j,cj,ej,hj,rfl⟩
    exact .inr ⟨j,cj,ej,vs _ _ hj,rfl⟩
  · rintro k ⟨j,xj,hj,rfl⟩
    exact .inr ⟨j,xj,vs _ _ hj,rfl⟩
 refine ⟨⟨?_,?_,?_,fun p hp=>hEvo.tab (s.tab p hp)⟩,hEvo⟩
 · intro j cj ej roj hj hns
   have hij:i≠j:=by
    rintro rfl
    rw [side_set hil,if_pos rfl,hb2] at hns; cases hns
   rw [side_set hil,if_neg hij] at hns
   have hj':=vs _ _ hj
   obtain ⟨c3,fr3,h3,g1,g2,g3,g4⟩:=s.cells j cj ej roj hj' hns
   have hne:(ρ j).blk≠(ρ i).blk:=fun he=>hij (s.inj i j _ _ hv hj' he.symm)
   exact ⟨c3,fr3,(hother _ hne).trans h3,g1,g2,fun k hk=>by rw [hlen]; exact g3 k hk,g4⟩
 · intro j b1 hj1 hb1
   by_cases hij:i=j
   · subst hij
     rw [List.getElem?_set_self hil] at hj1; cases hj1
     exact ⟨o,hsame,by rw [hlen]; exact hr⟩
   · rw [List.getElem?_set_ne hij] at hj1
     obtain ⟨o1,h3,h4⟩:=s.sides j b1 hj1 hb1
     have hvj:view h j=some ([],0,false):=by rw [view,hj1]; cases b1 <;> first | rfl | cases hb1
     have hne:(ρ j).blk≠(ρ i).blk:=fun he=>hij (s.inj i j _ _ hv hvj he.symm)
     exact ⟨o1,(hother _ hne).trans h3,by rw [hlen]; exact h4⟩
 · intro j l x y hj hl hjl
   exact s.inj j l x y (vs _ _ hj) (vs _ _ hl) hjl
theorem makeMapK_sound {t:TypeId} {K:Value→Zh→Prop} (s:Sim P ρ h w) (hk:makeMapK h K) :
  ∃ v v' h' ρ' w',K v h'∧(Instr.makeMap t none).run P w = .ok v' w'∧VRel h'.length ρ' v v'∧Sim P ρ' h' w'∧Evo h ρ w h' ρ' w':=by
 obtain ⟨hS,hE⟩:=s.allocS (b:=.map []) (o:=.map #[] 0) rfl ⟨#[],rfl,rfl,fun k x hx=>by simp at hx⟩
 refine ⟨_,.map (some w.heap.size),_,_,_,hk,by simp [Instr.makeMap,Result.andThen],?_,hS,hE⟩
 have:=VRel.mapv (n:=(h++[Blk.map []]).length) (ρ:=Loc.upd ρ h.length ⟨w.heap.size,0,0⟩) (b:=h.length) (by simp)
 rwa [Loc.upd_same] at this
theorem run_zeroV {t:TypeId} {z:Value} (hz:zeroV P t=some z) (w:World):(zeroValue t).run P w = .ok z w∧atom z=true:=by
 unfold zeroV at hz
 cases hi:P.info? t with
 | none=>simp [hi] at hz
 | some i =>
   cases hzz:i.zero with
   | none=>simp [hi,hzz] at hz
   | some z' =>
     simp only [hi,hzz,Option.bind_some] at hz
     split at hz
     · rename_i ha
       cases hz
       exact ⟨by simp [zeroValue,typeInfo,hi,hzz],ha⟩
     · cases hz
theorem agg_ints {n:Nat} {ks:Array Value} {i' : Value} {is:List Int} (hi:VRel n ρ (.agg ks) i') (hks:Xa ks.toList=some is):ks=(is.map Zd).toArray∧i' = .agg ks:=by
 obtain ⟨ys,rfl,hl⟩:=hi.agg_iff
 obtain ⟨e1,rfl⟩:=hl.ints hks
 exact ⟨e1,rfl⟩
theorem flat_ints (is:List Int):flat (.agg (is.map Zd).toArray)=true:=by
 simp [flat,atom]
theorem run_stays {is:List Int}:(Instr.keyThatStays (.agg (is.map Zd).toArray) (.agg (is.map Zd).toArray)).run P w = .ok (.agg (is.map Zd).toArray) w:=by
 have:Instr.sameBits 10000 (.agg (is.map Zd).toArray) (.agg (is.map Zd).toArray)=true:=by
  rw [show (10000:Nat)=9999+1 from rfl,Instr.sameBits]
  rw [Bool.and_eq_true,beq_self_eq_true,List.all_eq_true]
  refine ⟨rfl,fun p hp=>?_⟩
  obtain ⟨i,hi,rfl⟩:=List.mem_iff_getElem.1 hp
  rw [List.getElem_zip]
  simp [Instr.sameBits]
 simp [Instr.keyThatStays,this]
theorem lookupK_sound {t:TypeId} {x x' i i' : Value} {ok:Bool} {K:Value→Prop} (s:Sim P ρ h w) (hx:VRel h.length ρ x x') (hi:VRel h.length ρ i i') (hk:lookupK P h t x i ok K) :
  ∃ v v',K v∧VRel h.length ρ v v'∧(Instr.lookup t x' i' ok).run P w = .ok v' w:=by
 unfold lookupK at hk
 split at hk
 · rename_i kt et b kk n hu
   obtain ⟨hkt,hk⟩:=hk
   obtain ⟨hb,rfl⟩:=hx.map'
   have hi2:=hi.int
   subst hi2
   split at hk
   · rename_i es z hes hz
     obtain ⟨hkeys,hk⟩:=hk
     obtain ⟨E,hE,hEs,hEk⟩:=s.map hes
     obtain ⟨hzr,hza⟩:=run_zeroV hz w
     have hck : ∀ e,(Instr.checkKey e 10000 kt (.int kk n)).run P w = .ok () w:=fun e=>Go.MapKept.run_checkKey hkt (show Go.MapKept.IsKey (.int kk) (.int kk n) from rfl) e 9999
     have fin : ∀ (u u' : Value) (bb:Bool),VRel h.length ρ u u'→VRel h.length ρ (bif ok then .tuple #[u,.bool bb] else u) (bif ok then .tuple #[u',.bool bb] else u'):=fun u u' bb hr=>by
      cases ok with
      | false=>exact hr
      | true=>exact VRel.tuple_of_LRel (l:=[u,.bool bb]) (l':=[u',.bool bb]) (LRel.cons hr (LRel.cons (.atom rfl) (LRel.nil _ _)))
     rcases findNow_get (v:=undef) E.toList es 0 (by simpa using hEs) (fun j y hj=>(hEk j y (by simpa using hj)).2.1) hkeys with ⟨h1,h2,_⟩ | ⟨j,e,u,h1,h2,h3,h4,h5,_⟩
     · rw [h1] at hk
       refine ⟨_,(bif ok then .tuple #[z,.bool false] else z),hk,fin _ _ _ (.atom hza),?_⟩
       cases ok <;> simp [Instr.lookup,run_underlying hu,Go.MapKept.run_getObj_map hE,hck,Go.MapKept.run_findKey hkt h2,hzr,Result.andThen]
     · rw [h5] at hk
       have hje:E[j]? = some e:=by simpa using h1
       obtain ⟨_,_,_,hval⟩:=hEk j e hje
       have hu2:(es.getD j (undef,undef)).2=u:=by rw [List.getD,h4]; rfl
       rw [hu2] at hval
       refine ⟨_,(bif ok then .tuple #[e.val,.bool true] else e.val),hk,fin _ _ _ hval,?_⟩
       cases ok <;> simp [Instr.lookup,run_underlying hu,Go.MapKept.run_getObj_map hE,hck,Go.MapKept.run_findKey hkt h3,Result.andThen]
   · exact hk.elim
 · rename_i kt et b ks hu
   obtain ⟨is,hks,hir,hT,hk⟩:=hk
   obtain ⟨hb,rfl⟩:=hx.map'
   obtain ⟨hki,rfl⟩:=agg_ints hi hks
   split at hk
   · rename_i es z hes hz
     obtain ⟨hkeys,hk⟩:=hk
     obtain ⟨E,hE,hEs,hEk⟩:=s.map hes
     obtain ⟨hzr,hza⟩:=run_zeroV hz w
     rw [hki]
     have hck : ∀ e,(Instr.checkKey e 10000 kt (.agg (is.map Zd).toArray)).run P w = .ok () w:=fun e=>(hT.2 is w rfl hir).1 e
     have fin : ∀ (u u' : Value) (bb:Bool),VRel h.length ρ u u'→VRel h.length ρ (bif ok then .tuple #[u,.bool bb] else u) (bif ok then .tuple #[u',.bool bb] else u'):=fun u u' bb hr=>by
      cases ok with
      | false=>exact hr
      | true=>exact VRel.tuple_of_LRel (l:=[u,.bool bb]) (l':=[u',.bool bb]) (LRel.cons hr (LRel.cons (.atom rfl) (LRel.nil _ _)))
     rcases findAsking_get (w:=w) (v:=undef) hT rfl hir E.toList es 0 (by simpa using hEs) (fun j y hj=>(hEk j y (by simpa using hj)).2.1) hkeys with ⟨h1,h2,_⟩ | ⟨j,e,u,h1,h2,h3,h4,h5,_⟩
     · rw [h1] at hk
       refine ⟨_,(bif ok then .tuple #[z,.bool false] else z),hk,fin _ _ _ (.atom hza),?_⟩
       cases ok <;> simp [Instr.lookup,run_underlying hu,Go.MapKept.run_getObj_map hE,hck,run_findKey_eq w hT.1,h2,hzr,Result.andThen]
     · rw [h5] at hk
       have hje:E[j]? = some e:=by simpa using h1
       obtain ⟨_,_,_,hval⟩:=hEk j e hje
       have hu2:(es.getD j (undef,undef)).2=u:=by rw [List.getD,h4]; rfl
       rw [hu2] at hval
       refine ⟨_,(bif ok then .tuple #[e.val,.bool true] else e.val),hk,fin _ _ _ hval,?_⟩
       cases ok <;> simp [Instr.lookup,run_underlying hu,Go.MapKept.run_getObj_map hE,hck,run_findKey_eq w hT.1,h3,Result.andThen]
   · exact hk.elim
 · exact hk.elim
theorem mapUpdK_sound {t:TypeId} {x x' i i' v v' : Value} {K:Zh→Prop} (s:Sim P ρ h w) (hx:VRel h.length ρ x x') (hi:VRel h.length ρ i i') (hv:VRel h.length ρ v v') (hk:mapUpdK P h t x i v K) :
  ∃ h' w',K h'∧(Instr.mapUpdate t x' i' v').run P w = .ok () w'∧Sim P ρ h' w'∧Evo h ρ w h' ρ w':=by
 unfold mapUpdK at hk
 split at hk
 · rename_i kt et b kk n hu
   obtain ⟨hkt,hk⟩:=hk
   obtain ⟨hb,rfl⟩:=hx.map'
   have hi2:=hi.int
   subst hi2
   split at hk
   · rename_i es hes
     obtain ⟨hkeys,hk⟩:=hk
     obtain ⟨E,hE,hEs,hEk⟩:=s.map hes
     have hkey:Go.MapKept.IsKey (.int kk) (.int kk n):=rfl
     have hck : ∀ e,(Instr.checkKey e 10000 kt (.int kk n)).run P w = .ok () w:=fun e=>Go.MapKept.run_checkKey hkt hkey e 9999
     rcases findNow_get (v:=v) E.toList es 0 (by simpa using hEs) (fun j y hj=>(hEk j y (by simpa using hj)).2.1) hkeys with ⟨h1,h2,h3⟩ | ⟨j,e,u,h1,h2,h3,h4,h5,h6⟩
     · rw [h3] at hk
       obtain ⟨hS,hEv⟩:=s.writeS (b2:=.map (es++[(.int kk n,v)])) (o:=.map (E.push { key:=.int kk n,val:=v',born:=es.length }) (es.length+1)) hes rfl rfl
        ⟨_,by rw [List.length_append,List.length_singleton],by simp [hEs],fun k y hy=>by
         rw [Array.getElem?_push] at hy
         split at hy
         · rename_i hkk
           cases hy
           have:(es++[(Value.int kk n,v)]).getD k (undef,undef)=(.int kk n,v):=by rw [hkk,hEs,List.getD,List.getElem?_append_right (Nat.le_refl _)]; simp
           rw [this]
           exact ⟨by rw [hkk,hEs],rfl,rfl,hv⟩
         · have hkl:k<es.length:=by have:=(Array.getElem?_eq_some_iff.1 hy).1; omega
           have:(es++[(Value.int kk n,v)]).getD k (undef,undef)=es.getD k (undef,undef):=by rw [List.getD,List.getElem?_append_left hkl]; rfl
           rw [this]
           exact hEk k y hy⟩
       refine ⟨_,_,hk,?_,hS,hEv⟩
       simp [Instr.mapUpdate,run_underlying hu,Go.MapKept.run_getObj_map hE,hck,Go.MapKept.run_findKey hkt h2,Go.MapKept.run_setObj_map _ hE,Result.andThen]
     · rw [h6] at hk
       have hje:E[j]? = some e:=by simpa using h1
       have hjl:j<E.size:=(Array.getElem?_eq_some_iff.1 hje).1
       obtain ⟨hS,hEv⟩:=s.writeS (b2:=.map (es.set j (.int kk n,v))) (o:=.map (E.modify j fun e=>{ e with key:=.int kk n,val:=v' }) es.length) hes rfl rfl
        ⟨_,by rw [List.length_set],by simp [hEs],fun k y hy=>by
         rw [Array.getElem?_modify] at hy
         by_cases hjk:j=k
         · subst hjk
           rw [if_pos rfl,hje] at hy
           simp only [Option.map_some,Option.some.injEq] at hy
           subst hy
           have:(es.set j (Value.int kk n,v)).getD j (undef,undef)=(.int kk n,v):=by rw [List.getD,List.getElem?_set_self (by omega)]; rfl
           rw [this]
           exact ⟨(hEk j e hje).1,rfl,rfl,hv⟩
         · rw [if_neg hjk] at hy
           have:(es.set j (Value.int kk n,v)).getD k (undef,undef)=es.getD k (undef,undef):=by rw [List.getD,List.getElem?_set_ne hjk]; rfl
           rw [this]
           exact hEk k y hy⟩
       refine ⟨_,_,hk,?_,hS,hEv⟩
       simp [Instr.mapUpdate,run_underlying hu,Go.MapKept.run_getObj_map hE,hck,Go.MapKept.run_findKey hkt h3,hje,h2,Go.MapKept.run_keyThatStays hkey,Go.MapKept.run_setObj_map _ hE,Result.andThen]
   · exact hk.elim
 · rename_i kt et b ks hu
   obtain ⟨is,hks,hir,hT,hk⟩:=hk
   obtain ⟨hb,rfl⟩:=hx.map'
   obtain ⟨hki,rfl⟩:=agg_ints hi hks
   split at hk
   · rename_i es hes
     obtain ⟨hkeys,hk⟩:=hk
     obtain ⟨E,hE,hEs,hEk⟩:=s.map hes
     rw [hki]
     have hck : ∀ e,(Instr.checkKey e 10000 kt (.agg (is.map Zd).toArray)).run P w = .ok () w:=fun e=>(hT.2 is w rfl hir).1 e
     rcases findAsking_get (w:=w) (v:=v) hT rfl hir E.toList es 0 (by simpa using hEs) (fun j y hj=>(hEk j y (by simpa using hj)).2.1) hkeys with ⟨h1,h2,h3⟩ | ⟨j,e,u,h1,h2,h3,h4,h5,h6⟩
     · rw [h3] at hk
       obtain ⟨hS,hEv⟩:=s.writeS (b2:=.map (es++[(.agg (is.map Zd).toArray,v)])) (o:=.map (E.push { key:=.agg (is.map Zd).toArray,val:=v',born:=es.length }) (es.length+1)) hes rfl rfl
        ⟨_,by rw [List.length_append,List.length_singleton],by simp [hEs],fun k y hy=>by
         rw [Array.getElem?_push] at hy
         split at hy
         · rename_i hkk
           cases hy
           have:(es++[(Value.agg (is.map Zd).toArray,v)]).getD k (undef,undef)=(.agg (is.map Zd).toArray,v):=by rw [hkk,hEs,List.getD,List.getElem?_append_right (Nat.le_refl _)]; simp
           rw [this]
           exact ⟨by rw [hkk,hEs],rfl,flat_ints is,hv⟩
         · have hkl:k<es.length:=by have:=(Array.getElem?_eq_some_iff.1 hy).1; omega
           have:(es++[(Value.agg (is.map Zd).toArray,v)]).getD k (undef,undef)=es.getD k (undef,undef):=by rw [List.getD,List.getElem?_append_left hkl]; rfl
           rw [this]
           exact hEk k y hy⟩
       refine ⟨_,_,hk,?_,hS,hEv⟩
       simp [Instr.mapUpdate,run_underlying hu,Go.MapKept.run_getObj_map hE,hck,run_findKey_eq w hT.1,h2,Go.MapKept.run_setObj_map _ hE,Result.andThen]
     · rw [h6] at hk
       have hje:E[j]? = some e:=by simpa using h1
       have hjl:j<E.size:=(Array.getElem?_eq_some_iff.1 hje).1
       obtain ⟨hS,hEv⟩:=s.writeS (b2:=.map (es.set j (.agg (is.map Zd).toArray,v))) (o:=.map (E.modify j fun e=>{ e with key:=.agg (is.map Zd).toArray,val:=v' }) es.length) hes rfl rfl
        ⟨_,by rw [List.length_set],by simp [hEs],fun k y hy=>by
         rw [Array.getElem?_modify] at hy
         by_cases hjk:j=k
         · subst hjk
           rw [if_pos rfl,hje] at hy
           simp only [Option.map_some,Option.some.injEq] at hy
           subst hy
           have:(es.set j (Value.agg (is.map Zd).toArray,v)).getD j (undef,undef)=(.agg (is.map Zd).toArray,v):=by rw [List.getD,List.getElem?_set_self (by omega)]; rfl
           rw [this]
           exact ⟨(hEk j e hje).1,rfl,flat_ints is,hv⟩
         · rw [if_neg hjk] at hy
           have:(es.set j (Value.agg (is.map Zd).toArray,v)).getD k (undef,undef)=es.getD k (undef,undef):=by rw [List.getD,List.getElem?_set_ne hjk]; rfl
           rw [this]
           exact hEk k y hy⟩
       refine ⟨_,_,hk,?_,hS,hEv⟩
       simp [Instr.mapUpdate,run_underlying hu,Go.MapKept.run_getObj_map hE,hck,run_findKey_eq w hT.1,h3,hje,h2,run_stays,Go.MapKept.run_setObj_map _ hE,Result.andThen]
   · exact hk.elim
 · exact hk.elim
theorem rangeK_sound {t:TypeId} {x x' : Value} {K:Value→Zh→Prop} (s:Sim P ρ h w) (hx:VRel h.length ρ x x') (hk:rangeK P h t x K) :
  ∃ v v' h' ρ' w',K v h'∧(Instr.range t x').run P w = .ok v' w'∧VRel h'.length ρ' v v'∧Sim P ρ' h' w'∧Evo h ρ w h' ρ' w':=by
 unfold rangeK at hk
 split at hk
 · rename_i kt et b hu
   obtain ⟨hb,rfl⟩:=hx.map'
   split at hk
   · rename_i es hes
     obtain ⟨E,hE,hEs,hEk⟩:=s.map hes
     obtain ⟨hS,hEv⟩:=s.allocS (b:=.iter b es.length [] es.length) (o:=.mapIter (some (ρ b).blk) es.length #[] es.length) rfl ⟨by rw [Loc.upd_lt ρ _ hb],by omega⟩
     refine ⟨_,.pointer (some ⟨w.heap.size,0,none⟩),_,_,_,hk,by simp [Instr.range,run_underlying hu,Go.MapKept.run_getObj_map hE,Result.andThen],?_,hS,hEv⟩
     have:=VRel.ptr (n:=(h++[Blk.iter b es.length [] es.length]).length) (ρ:=Loc.upd ρ h.length ⟨w.heap.size,0,0⟩) (b:=h.length) (o:=0) (by simp)
     rwa [Loc.upd_same] at this
   · exact hk.elim
 · exact hk.elim
theorem run_getObj_iter {P:Program} {w:World} {r:Nat} {m:Option Nat} {since stepped:Nat} {seen:Array Nat} (hb:w.heap[r]? = some (.mapIter m since seen stepped)):(getObj r).run P w = .ok (.mapIter m since seen stepped) w:=by
 simp [getObj,Sem.run,hb]
theorem run_setObj_iter {P:Program} {w:World} {r:Nat} {m:Option Nat} {since stepped:Nat} {seen:Array Nat} (o:Obj) (hb:w.heap[r]? = some (.mapIter m since seen stepped)):(setObj r o).run P w = .ok () { w with heap:=w.heap.setIfInBounds r o }:=by
 simp [setObj,Sem.run,hb]
theorem entryK_sound {x x' : Value} {K:Value→Prop} (s:Sim P ρ h w) (hx:VRel h.length ρ x x') (hk:entryK h x K) :
  ∃ v v',K v∧VRel h.length ρ v v'∧(Instr.entry x').run P w = .ok v' w:=by
 unfold entryK at hk
 split at hk
 · rename_i it
   obtain ⟨_,hb,rfl⟩:=hx.ptr'
   split at hk
   · rename_i m since seen stepped hit
     have hI:=s.iter hit
     split at hk
     · rename_i es j hes hj
       obtain ⟨E,hE,hEs,hEk⟩:=s.map hes
       split at hk
       · rename_i p hp
         obtain ⟨rfl,hk⟩:=hk
         have hjl:j<E.size:=by have:=(List.getElem?_eq_some_iff.1 hp).1; omega
         obtain ⟨f1,f2,f3,f4⟩:=hEk j E[j] (Array.getElem?_eq_getElem hjl)
         have hg:es.getD j (undef,undef)=p:=by rw [List.getD,hp]; rfl
         rw [hg] at f2 f4
         have hback:seen.toArray.back? = some j:=by simpa [Array.back?,List.getLast?_eq_getElem?] using hj
         have hfind:E.find? (fun e=>e.born==j)=some E[j]:=by
          rw [← Array.find?_toList,List.find?_eq_some_iff_getElem]
          refine ⟨by simp [f1],j,by simpa using hjl,by simp,fun k hk=>?_⟩
          obtain ⟨g1,_⟩:=hEk k E[k] (Array.getElem?_eq_getElem (by omega))
          simp [g1]; omega
         refine ⟨_,.tuple #[E[j].key,E[j].val],hk,?_,?_⟩
         · refine VRel.tuple_of_LRel (l:=[p.1,p.2]) (l':=[E[j].key,E[j].val]) (LRel.cons ?_ (LRel.cons f4 (LRel.nil _ _)))
           rw [← f2]; exact flat_rel f3
         · simp [Instr.entry,run_getObj_iter hI,hback,Go.MapKept.run_getObj_map hE,hfind,Result.andThen]
       · exact hk.elim
     · exact hk.elim
   · exact hk.elim
 · exact hk.elim
theorem run_choose_next {P:Program} {w:World} {n:Nat} (hn:0<n) : ∃ i w1,i<n∧(choose (.mapNext n)).run P w = .ok i w1∧(w1=w∨w1={ w with drawn:=w.drawn+1 }):=by
 by_cases h1:n≤1
 · exact ⟨0,w,hn,by simp [choose,Sem.run,Question.forced,h1],.inl rfl⟩
 · exact ⟨w.tape w.drawn (.mapNext n) % n,{ w with drawn:=w.drawn+1 },Nat.mod_lt _ hn,by
    have hf:(Question.mapNext n).forced=false:=decide_eq_false h1
    rw [choose,Sem.run,hf]; rfl,.inr rfl⟩
theorem nextK_sound {x x' : Value} {ty:TypeId} {K:Value→Zh→Prop} (s:Sim P ρ h w) (hx:VRel h.length ρ x x') (hk:nextK h x K) :
  ∃ v v' h' ρ' w',K v h'∧(Instr.next x' false ty).run P w = .ok v' w'∧VRel h'.length ρ' v v'∧Sim P ρ' h' w'∧Evo h ρ w h' ρ' w':=by
 unfold nextK at hk
 split at hk
 · rename_i it
   obtain ⟨_,hb,rfl⟩:=hx.ptr'
   split at hk
   · rename_i m since seen stepped hit
     have hI:=s.iter hit
     split at hk
     · rename_i es hes
       obtain ⟨E,hE,hEs,hEk⟩:=s.map hes
       obtain ⟨rfl,hst,hk1,hk2⟩:=hk
       -- no entry is gone
       have hgone:(!seen.toArray.isEmpty && !E.isEmpty&&E.all (fun e=>decide (e.born≥stepped)))=false:=by
        rcases hst with rfl | ⟨h0,hne⟩
        · rfl
        · have hpos:0<E.size:=by rw [hEs]; exact List.length_pos_iff.2 hne
          have hf:E.all (fun e=>decide (e.born≥stepped))=false:=by
           rw [Array.all_eq_false]
           exact ⟨0,hpos,by have:=(hEk 0 E[0] (Array.getElem?_eq_getElem hpos)).1; simp [this]; omega⟩
          rw [hf,Bool.and_false]
       -- what is left is old
       have hold : ∀ l:Array MapEntry,l=E.filter (fun e=>!seen.toArray.contains e.born)→l.filter (fun e=>decide (e.born<es.length))=l∧l.filter (fun e=>decide (e.born≥es.length)) = #[]:=by
        intro l hl
        have hlt : ∀ e∈l,e.born<es.length:=by
         intro e he
         rw [hl,Array.mem_filter] at he
         obtain ⟨k,hkl,rfl⟩:=Array.getElem_of_mem he.1
         rw [(hEk k E[k] (Array.getElem?_eq_getElem hkl)).1]; omega
        constructor
        · rw [Array.filter_eq_self]
          intro e he; exact decide_eq_true (hlt e he)
        · rw [Array.filter_eq_empty_iff]
          intro e he; simp; exact hlt e he
       obtain ⟨ho1,ho2⟩:=hold _ rfl
       generalize hleft:E.filter (fun e=>!seen.toArray.contains e.born)=left at ho1 ho2
       have hmem : ∀ e,e∈left↔e∈E∧e.born ∉ seen:=fun e=>by
        rw [← hleft,Array.mem_filter]; simp
       by_cases hem:left.isEmpty
       · -- over
         have hle:left = #[]:=by simpa using hem
         have hall : ∀ j,j<es.length→j∈seen:=fun j hj=>by
          have hjl:j<E.size:=by omega
          obtain ⟨f1,_⟩:=hEk j E[j] (Array.getElem?_eq_getElem hjl)
          apply Classical.byContradiction
          intro hn
          have:E[j]∈left:=(hmem _).2 ⟨Array.getElem_mem hjl,by rw [f1]; exact hn⟩
          rw [hle] at this; simp at this
         refine ⟨_,.tuple #[.bool false],h,ρ,w,hk2 hall,?_,VRel.tuple_of_LRel (l:=[.bool false]) (l':=[.bool false]) (LRel.cons (.atom rfl) (LRel.nil _ _)),s,.refl _ _ _⟩
         subst hle
         unfold Instr.next
         simp only [Sem.run_bind,run_getObj_iter hI,Go.MapKept.run_getObj_map hE,Result.andThen,hgone,hleft,ho1,ho2,Bool.false_eq_true,if_false]
         simp [choose,Sem.run,Question.forced]
       · have hpos:0<left.size:=by
          rcases Nat.eq_zero_or_pos left.size with h0 | h0
          · rw [Array.isEmpty,decide_eq_true h0] at hem; exact absurd rfl hem
          · exact h0
         have hempty:left.isEmpty=false:=by simpa using hem
         obtain ⟨i,w1,hi,hch,hw1⟩:=run_choose_next (P:=P) (w:=w) hpos
         obtain ⟨s1,e1⟩:Sim P ρ h w1∧Evo h ρ w h ρ w1:=by
          rcases hw1 with rfl | rfl
          · exact ⟨s,.refl _ _ _⟩
          · exact drew_sim s
         have hI1:=s1.iter hit
         obtain ⟨hin,hns⟩:=(hmem left[i]).1 (Array.getElem_mem hi)
         obtain ⟨k,hkl,hke⟩:=Array.getElem_of_mem hin
         obtain ⟨f1,f2,f3,f4⟩:=hEk k E[k] (Array.getElem?_eq_getElem hkl)
         rw [hke] at f1 f2 f3 f4
         have hkes:k<es.length:=by omega
         have hp:es[k]? = some es[k]:=List.getElem?_eq_getElem hkes
         have hg:es.getD k (undef,undef)=es[k]:=by rw [List.getD,hp]; rfl
         rw [hg] at f2 f4
         rw [f1] at hns
         obtain ⟨s2,e2⟩:=s1.writeS (b2:=.iter m es.length (seen++[k]) es.length) (o:=.mapIter (some (ρ m).blk) es.length (seen++[k]).toArray es.length) hit rfl rfl ⟨rfl,(List.getElem?_eq_some_iff.1 hes).1⟩
         refine ⟨_,.tuple #[.bool true,left[i].key,left[i].val],_,ρ,_,hk1 k es[k] hp hns,?_,?_,s2,e1.trans e2⟩
         · unfold Instr.next
           simp only [Sem.run_bind,run_getObj_iter hI,Go.MapKept.run_getObj_map hE,Result.andThen,hgone,hleft,ho1,ho2,Bool.false_eq_true,if_false,hempty]
           have hsz:(#[]++Array.map some (left++#[]):Array (Option MapEntry)).size=left.size:=by simp
           have hgi:(#[]++Array.map some (left++#[]):Array (Option MapEntry))[i]? = some (some left[i]):=by simp [hi]
           rw [hsz,hch]
           simp only [hgi]
           have hpush:seen.toArray.push left[i].born=(seen++[k]).toArray:=by rw [f1]; simp
           simp only [Sem.run_bind,run_setObj_iter _ hI1,Result.andThen,Sem.run_pure,hpush]
         · refine VRel.tuple_of_LRel (l:=[.bool true,es[k].1,es[k].2]) (l':=[.bool true,left[i].key,left[i].val]) (LRel.cons (.atom rfl) (LRel.cons ?_ (LRel.cons (by simpa using f4) (LRel.nil _ _))))
           rw [← f2]; exact flat_rel f3
     · exact hk.elim
   · exact hk.elim
 · exact hk.elim
end maps
def aop (P:Program) [Tabs P] (d:Bool) (op:Op) (E:Operand→Value) (h:Zh) (K:Value→Zh→Prop):Prop :=
 match op with
 | .move x | .assign x=>K (E x) h
 | .pick c a b=>pickK (E c) (E a) (E b) (fun v=>K v h)
 | .alloc t=>Xv P h t K
 | .box t x=>boxK P h t (E x) K
 | .build t parts=>Va P t (parts.toList.map fun p=>(p.1,E p.2)) (fun v=>K v h)
 | .buildSlice t len parts=>Yo P h t len (parts.toList.map fun p=>(p.1,E p.2)) K
 | .load t x=>Xq P h t (E x) (fun v=>K v h)
 | .store t x y=>Xh P h t (E x) (E y) (fun h'=>K undef h')
 | .nilCheck x=>nilK (E x) (fun v=>K v h)
 | .binOp op t x y _=>Zv P op t (E x) (E y) (fun v=>K v h)
 | .unOp op _ x=>unK op (E x) (fun v=>K v h)
 | .convert s d x=>convK P s d (E x) (fun v=>K v h)
 | .makeFunc (.func f) first captured=>K (.func (.func f) (first.map E) (captured.map E)) h
 | .makeSlice t l c=>makeK P h t (E l) (E c) K
 | .slice t x lo hi mx=>(match lo,hi,mx,P.underlying t with
   | none,none,none,some (.array _ _)=>arrSliceK P t (E x) (fun v=>K v h)
   | _,_,_,_=>Xb P t (E x) (lo.map E) (hi.map E) (mx.map E) (fun v=>K v h))
 | .fieldAddr t x f=>Xk P t (E x) f (fun v=>K v h)
 | .field t x f=>fieldK P t (E x) f (fun v=>K v h)
 | .indexAddr t x i=>Yy P t (E x) (E i) (fun v=>K v h)
 | .index t x i=>indexK P t (E x) (E i) (fun v=>K v h)
 | .extract x i=>Wk (E x) i (fun v=>K v h)
 | .makeMap _ none=>makeMapK h K
 | .lookup t x i ok=>lookupK P h t (E x) (E i) ok (fun v=>K v h)
 | .mapUpdate t m k v=>mapUpdK P h t (E m) (E k) (E v) (fun h'=>K undef h')
 | .range t x=>rangeK P h t (E x) K
 | .next x false=>bif d then False else nextK h (E x) K
 | .entry x=>entryK h (E x) (fun v=>K v h)
 | .call { callee:=.builtin b,args,argTypes }=>Zi P b argTypes.toList (args.toList.map E) h K
 | .call { callee:=.value f,args,.. }=>Yz P d (E f) (args.toList.map E) h K
 | _=>False
def isNext:Op→Bool
 | .next ..=>true
 | _=>false
def isCall:Op→Bool
 | .call { callee:=.value _,.. }=>true
 | _=>false
theorem prel_map {n:Nat} {ρ:Nat→Loc} {E E' : Operand→Value} : ∀ (l:List (Nat×Operand)),(∀ p∈l,VRel n ρ (E p.2) (E' p.2))→PRel n ρ (l.map fun p=>(p.1,E p.2)) (l.map fun p=>(p.1,E' p.2))
 | [],_=>trivial
 | p::l,h=>⟨rfl,h p (by simp),prel_map l (fun q hq=>h q (by simp [hq]))⟩
theorem lrel_map {n:Nat} {ρ:Nat→Loc} {E E' : Operand→Value} : ∀ (l:List Operand),(∀ x∈l,VRel n ρ (E x) (E' x))→LRel n ρ (l.map E) (l.map E')
 | [],_=>LRel.nil _ _
 | x::l,h=>LRel.cons (h x (by simp)) (lrel_map l (fun y hy=>h y (by simp [hy])))
section
variable {P:Program} [Tabs P] {ρ:Nat→Loc} {h:Zh} {w:World}
def Done (P:Program) [Tabs P] (ρ:Nat→Loc) (h:Zh) (w:World) (K:Value→Zh→Prop) (r:Result Next):Prop :=
 ∃ nx v v' h' ρ' w',K v h'∧r = .ok nx w'∧(nx = .value v'∨(nx = .skip∧v' = undef))∧VRel h'.length ρ' v v'∧Sim P ρ' h' w'∧Evo h ρ w h' ρ' w'
theorem Done.val {K:Value→Zh→Prop} {sm:Sem Value} (s:Sim P ρ h w) (hx : ∃ v v',K v h∧VRel h.length ρ v v'∧sm.run P w = .ok v' w):Done P ρ h w K ((do pure (.value (← sm)):Sem Next).run P w):=by
 obtain ⟨v,v',h1,h2,h3⟩:=hx
 exact ⟨.value v',v,v',h,ρ,w,h1,by simp [h3],.inl rfl,h2,s,.refl _ _ _⟩
theorem Done.eff {K:Value→Zh→Prop} {sm:Sem Value} (hx : ∃ v v' h' ρ' w',K v h'∧sm.run P w = .ok v' w'∧VRel h'.length ρ' v v'∧Sim P ρ' h' w'∧Evo h ρ w h' ρ' w'):Done P ρ h w K ((do pure (.value (← sm)):Sem Next).run P w):=by
 obtain ⟨v,v',h',ρ',w',h1,h2,h3,h4,h5⟩:=hx
 exact ⟨.value v',v,v',h',ρ',w',h1,by simp [h2],.inl rfl,h3,h4,h5⟩
theorem opt_rel {n:Nat} {E E' : Operand→Value} {o:Option Operand} (h : ∀ x,o=some x→VRel n ρ (E x) (E' x)) :
  (∀ x,o.map E=some x→∃ x',o.map E' = some x'∧VRel n ρ x x')∧(o.map E=none→o.map E' = none):=by
 cases o with
 | none=>exact ⟨(fun x hx=>by cases hx),fun _=>rfl⟩
 | some y=>exact ⟨(fun x hx=>by cases hx; exact ⟨_,rfl,h y rfl⟩),(fun hx=>by cases hx)⟩
omit [Tabs P] in
theorem mmK_sound {n:Nat} {mx:Bool} {xs xs' : List Value} {K:Value→Prop} (hr:LRel n ρ xs xs') (hk:mmK mx xs K) :
  ∃ v v',K v∧VRel n ρ v v'∧∀ (ts:Array TypeId) (ty:TypeId) (w:World),(if mx then Builtin.max_ ts ty xs'.toArray else Builtin.min_ ts ty xs'.toArray).run P w = .ok v' w:=by
 unfold mmK at hk
 split at hk
 · obtain ⟨v1,l1,rfl,h1,hr⟩:=hr.cons_inv
   obtain ⟨v2,l2,rfl,h2,hr⟩:=hr.cons_inv
   obtain rfl:l2=[]:=List.length_eq_zero_iff.1 hr.1.symm
   rw [h1.int,h2.int]
   cases mx with
   | true=>exact ⟨_,_,hk,.atom rfl,fun ts ty w=>by simp [Builtin.max_,Builtin.max2]⟩
   | false=>exact ⟨_,_,hk,.atom rfl,fun ts ty w=>by simp [Builtin.min_,Builtin.min2]⟩
 · exact hk.elim
theorem builtinK_sound {b:Builtin} {ts:Array TypeId} {ty:TypeId} {cs:Array Bool} {xs xs' : List Value} {K:Value→Zh→Prop} (s:Sim P ρ h w) (hr:LRel h.length ρ xs xs') (hk:Zi P b ts.toList xs h K) :
  Done P ρ h w K ((builtin b ts ty cs xs'.toArray).run P w):=by
 unfold Zi at hk
 split at hk
 · rename_i t x hts
   obtain ⟨x',l1,rfl,h1,hr⟩:=hr.cons_inv
   obtain rfl:l1=[]:=List.length_eq_zero_iff.1 hr.1.symm
   have hts' : ts = #[t]:=by apply Array.ext'; simpa using hts
   subst hts'
   obtain ⟨he,hk⟩:=hk
   obtain ⟨e,he⟩:=Option.isSome_iff_exists.1 he
   unfold lenK at hk
   split at hk
   · rename_i a n c
     refine Done.val s ⟨_,_,hk,.atom rfl,?_⟩
     cases a with
     | none=>rw [h1.atom_eq rfl]; simp [Builtin.len_,run_underlying (elemOf'_eq he),goInt]
     | some a=>obtain ⟨b,o,sp⟩:=a; obtain ⟨_,cap',_,_,_,rfl,_⟩:=h1.sl; simp [Builtin.len_,run_underlying (elemOf'_eq he),goInt]
   · refine Done.val s ⟨_,_,hk,.atom rfl,?_⟩
     cases h1 with
     | atom h=>simp [atom] at h
     | void=>simp [Builtin.len_,run_underlying (elemOf'_eq he),goInt]
   · exact hk.elim
 · rename_i t t2 v x hts
   obtain ⟨v',l1,rfl,h1,hr⟩:=hr.cons_inv
   obtain ⟨x',l2,rfl,h2,hr⟩:=hr.cons_inv
   obtain rfl:l2=[]:=List.length_eq_zero_iff.1 hr.1.symm
   have hts' : ts = #[t,t2]:=by apply Array.ext'; simpa using hts
   subst hts'
   exact Done.eff (appendK_sound s h1 h2 hk)
 · rename_i t t2 v x hts
   obtain ⟨v',l1,rfl,h1,hr⟩:=hr.cons_inv
   obtain ⟨x',l2,rfl,h2,hr⟩:=hr.cons_inv
   obtain rfl:l2=[]:=List.length_eq_zero_iff.1 hr.1.symm
   have hts' : ts = #[t,t2]:=by apply Array.ext'; simpa using hts
   subst hts'
   exact Done.eff (copyK_sound s h1 h2 hk)
 · obtain ⟨v,v',h1,h2,h3⟩:=mmK_sound (P:=P) hr hk
   exact Done.val s ⟨v,v',h1,h2,by simpa using h3 ts ty w⟩
 · obtain ⟨v,v',h1,h2,h3⟩:=mmK_sound (P:=P) hr hk
   exact Done.val s ⟨v,v',h1,h2,by simpa using h3 ts ty w⟩
 · rename_i t x hts
   obtain ⟨x',l1,rfl,h1,hr⟩:=hr.cons_inv
   obtain rfl:l1=[]:=List.length_eq_zero_iff.1 hr.1.symm
   have hts' : ts = #[t]:=by apply Array.ext'; simpa using hts
   subst hts'
   exact Done.eff (clearK_sound s h1 hk)
 · exact hk.elim
theorem aop_sound {d:Bool} {o:Oper} {E E' : Operand→Value} {K:Value→Zh→Prop} (s:Sim P ρ h w) (hE : ∀ x∈o.op.operands.toList,VRel h.length ρ (E x) (E' x)) (hc:isCall o.op=false) (hk:aop P d o.op E h K) :
  Done P ρ h w K ((execOp E' o).run P w):=by
 obtain ⟨dst,op,ty,pos,after,guard⟩:=o
 simp only at hk hE hc
 cases op <;> simp only [aop] at hk <;> try exact hk.elim
 case move x=>exact ⟨.value (E' x),E x,E' x,h,ρ,w,hk,by simp [execOp],.inl rfl,hE x (by simp [Op.operands]),s,.refl _ _ _⟩
 case assign x=>exact ⟨.value (E' x),E x,E' x,h,ρ,w,hk,by simp [execOp],.inl rfl,hE x (by simp [Op.operands]),s,.refl _ _ _⟩
 case pick c a b =>
  have h1:=hE c (by simp [Op.operands])
  have h2:=hE a (by simp [Op.operands])
  have h3:=hE b (by simp [Op.operands])
  unfold pickK at hk
  split at hk
  · rename_i g hg
    rw [hg] at h1
    have hb:=h1.bool
    refine ⟨.value (if g then E' a else E' b),_,_,h,ρ,w,hk,by simp [execOp,hb,asBool],.inl rfl,?_,s,.refl _ _ _⟩
    cases g <;> simp [h2,h3]
  · exact hk.elim
 case alloc t=>exact Done.eff (allocK_sound s hk)
 case box t x=>exact Done.eff (boxK_sound s (hE x (by simp [Op.operands])) hk)
 case build t parts =>
  have hp:PRel h.length ρ (parts.toList.map fun p=>(p.1,E p.2)) (parts.toList.map fun p=>(p.1,E' p.2)):=prel_map _ (fun p hp=>hE p.2 (by simp [Op.operands]; exact ⟨p.1,by simpa using hp⟩))
  obtain ⟨v,v',h1,h2,h3⟩:=buildK_sound (P:=P) hp hk
  refine Done.val s ⟨v,v',h1,h2,?_⟩
  have e1:(parts.toList.map fun p=>(p.1,E' p.2)).toArray=parts.map fun p=>(p.1,E' p.2):=by apply Array.ext'; simp
  rw [e1] at h3
  exact h3 w
 case buildSlice t len parts =>
  have hp:PRel h.length ρ (parts.toList.map fun p=>(p.1,E p.2)) (parts.toList.map fun p=>(p.1,E' p.2)):=prel_map _ (fun p hp=>hE p.2 (by simp [Op.operands]; exact ⟨p.1,by simpa using hp⟩))
  obtain ⟨v,v',h',ρ',w',h1,h2,h3⟩:=buildSliceK_sound s hp hk
  have e1:(parts.toList.map fun p=>(p.1,E' p.2)).toArray=parts.map fun p=>(p.1,E' p.2):=by apply Array.ext'; simp
  rw [e1] at h2
  exact Done.eff ⟨v,v',h',ρ',w',h1,h2,h3⟩
 case load t x =>
  obtain ⟨v,v',h1,h2,h3⟩:=loadK_sound s (hE x (by simp [Op.operands])) hk
  exact Done.val s ⟨v,v',h1,h2,h3⟩
 case store t x y =>
  obtain ⟨h',w',h1,h2,h3,h4⟩:=storeK_sound s (hE x (by simp [Op.operands])) (hE y (by simp [Op.operands])) hk
  exact ⟨.skip,undef,undef,h',ρ,w',h1,by simp [execOp,h2],.inr ⟨rfl,rfl⟩,.any _,h3,h4⟩
 case nilCheck x =>
  have h1:=hE x (by simp [Op.operands])
  unfold nilK at hk
  split at hk
  · rename_i a ha
    obtain ⟨b,o,sp⟩:=a
    rw [ha] at h1
    obtain ⟨rfl,hb,he⟩:=h1.ptr'
    exact ⟨.value (E' x),_,E' x,h,ρ,w,hk,by simp [execOp,he],.inl rfl,by rw [ha]; exact h1,s,.refl _ _ _⟩
  · rename_i f xs us ha
    rw [ha] at h1
    obtain ⟨ys,vs,he,_⟩:=h1.func'
    exact ⟨.value (E' x),_,E' x,h,ρ,w,hk,by simp [execOp,he],.inl rfl,by rw [ha]; exact h1,s,.refl _ _ _⟩
  · exact hk.elim
 case binOp op t x y t2 =>
  obtain ⟨v,v',h1,h2,h3⟩:=binK_sound (hE x (by simp [Op.operands])) (hE y (by simp [Op.operands])) hk
  exact Done.val s ⟨v,v',h1,h2,h3 w x y⟩
 case unOp op t x =>
  obtain ⟨v,v',h1,h2,h3⟩:=unK_sound (P:=P) (hE x (by simp [Op.operands])) hk
  exact Done.val s ⟨v,v',h1,h2,h3 w⟩
 case convert sr ds x =>
  obtain ⟨v,v',h1,h2,h3⟩:=convK_sound (hE x (by simp [Op.operands])) hk
  exact Done.val s ⟨v,v',h1,h2,h3 w⟩
 case makeFunc fn first captured =>
  cases fn <;> simp only [] at hk <;> try exact hk.elim
  rename_i f
  refine Done.val s ⟨_,.func (.func f) (first.map E') (captured.map E'),hk,?_,by simp [Instr.makeFunc]⟩
  refine .func (by simp) (by simp) (fun i hi=>?_) (fun i hi=>?_)
  · simp at hi; simpa [Array.getD_eq_getD_getElem?,hi] using hE first[i] (by simp [Op.operands])
  · simp at hi; simpa [Array.getD_eq_getD_getElem?,hi] using hE captured[i] (by simp [Op.operands])
 case makeSlice t l c=>exact Done.eff (makeK_sound s (hE l (by simp [Op.operands])) (hE c (by simp [Op.operands])) hk)
 case slice t x lo hi mx =>
  have hx:=hE x (by simp [Op.operands])
  split at hk
  · rename_i n e hu
    unfold arrSliceK at hk
    split at hk
    · rename_i b o n2 e2 hb hu2
      obtain ⟨hs,hk⟩:=hk
      obtain ⟨sz,hs⟩:=Option.isSome_iff_exists.1 hs
      obtain ⟨inf,hinf,rfl⟩:=esz_eq hs
      rw [hb] at hx
      obtain ⟨_,hbl,he⟩:=hx.ptr'
      refine Done.val s ⟨_,_,hk,.slice hbl,?_⟩
      simp [he,Instr.sliceAt,run_underlying hu2,Instr.sureAddr,Instr.sliceBounds,Yf hinf,Wg]
    · exact hk.elim
  · rename_i lo hi mx _ _ _ _ _
    obtain ⟨v,v',h1,h2,h3⟩:=sliceK_sound hx (opt_rel (E:=E) (E':=E') (o:=lo) (fun y hy=>hE y (by subst hy; simp [Op.operands]))) (opt_rel (E:=E) (E':=E') (o:=hi) (fun y hy=>hE y (by subst hy; simp [Op.operands])))
     (opt_rel (E:=E) (E':=E') (o:=mx) (fun y hy=>hE y (by subst hy; simp [Op.operands]))) hk
    exact Done.val s ⟨v,v',h1,h2,h3 w⟩
 case fieldAddr t x f =>
  obtain ⟨v,v',h1,h2,h3⟩:=fieldAddrK_sound (hE x (by simp [Op.operands])) hk
  exact Done.val s ⟨v,v',h1,h2,h3 w⟩
 case field t x f =>
  obtain ⟨v,v',h1,h2,h3⟩:=fieldK_sound (hE x (by simp [Op.operands])) hk
  exact Done.val s ⟨v,v',h1,h2,h3 w⟩
 case indexAddr t x i =>
  obtain ⟨v,v',h1,h2,h3⟩:=idxAddrK_sound (hE x (by simp [Op.operands])) (hE i (by simp [Op.operands])) hk
  exact Done.val s ⟨v,v',h1,h2,h3 w⟩
 case index t x i =>
  obtain ⟨v,v',h1,h2,h3⟩:=indexK_sound (hE x (by simp [Op.operands])) (hE i (by simp [Op.operands])) hk
  exact Done.val s ⟨v,v',h1,h2,h3 w⟩
 case extract x i =>
  obtain ⟨v,v',h1,h2,h3⟩:=extractK_sound (P:=P) (hE x (by simp [Op.operands])) hk
  exact Done.val s ⟨v,v',h1,h2,h3 w⟩
 case makeMap t r =>
  cases r with
  | some r=>exact hk.elim
  | none=>exact Done.eff (makeMapK_sound s hk)
 case lookup t x i ok =>
  obtain ⟨v,v',h1,h2,h3⟩:=lookupK_sound s (hE x (by simp [Op.operands])) (hE i (by simp [Op.operands])) hk
  exact Done.val s ⟨v,v',h1,h2,h3⟩
 case mapUpdate t m k v =>
  obtain ⟨h',w',h1,h2,h3,h4⟩:=mapUpdK_sound s (hE m (by simp [Op.operands])) (hE k (by simp [Op.operands])) (hE v (by simp [Op.operands])) hk
  exact ⟨.skip,undef,undef,h',ρ,w',h1,by simp [execOp,h2],.inr ⟨rfl,rfl⟩,.any _,h3,h4⟩
 case range t x=>exact Done.eff (rangeK_sound s (hE x (by simp [Op.operands])) hk)
 case next x isS =>
  cases isS with
  | true=>exact hk.elim
  | false =>
    cases d with
    | true=>exact hk.elim
    | false=>exact Done.eff (nextK_sound s (hE x (by simp [Op.operands])) hk)
 case entry x =>
  obtain ⟨v,v',h1,h2,h3⟩:=entryK_sound s (hE x (by simp [Op.operands])) hk
  exact Done.val s ⟨v,v',h1,h2,h3⟩
 case call c =>
  obtain ⟨callee,args,argTypes⟩:=c
  cases callee with
  | builtin b =>
    simp only [] at hk
    have hr:LRel h.length ρ (args.toList.map E) (args.toList.map E'):=lrel_map _ (fun x hx=>hE x (by simpa [Op.operands,Call.operands] using hx))
    have e1:(args.toList.map E').toArray=args.map E':=by apply Array.ext'; simp
    have key : ∀ cs,Done P ρ h w K ((builtin b argTypes ty cs (args.map E')).run P w):=fun cs=>by rw [← e1]; exact builtinK_sound s hr hk
    simpa [execOp,resolve,invoke] using key _
  | value f=>simp [isCall] at hc
  | invoke r m=>simp only [] at hk
end
end Go.Am
namespace Go.Am
def vokB (sz:Nat):Operand→Bool
 | .tmp t=>decide (t<sz)
 | .const v=>atom v || (match v with | .agg k=>k.toList.all atom | _=>false)
 | .global _=>false
 | .func _=>true
theorem vokB_eq {sz:Nat} {o:Operand} (h:vokB sz o=true):vok sz o:=by
 cases o with
 | tmp t=>simpa [vokB,vok] using h
 | const v =>
   simp only [vokB,Bool.or_eq_true] at h
   rcases h with h | h
   · exact .inl h
   · cases v <;> simp at h
     rename_i k
     refine .inr ⟨k,rfl,fun i hi=>?_⟩
     have:=h i hi
     simpa [Array.getD_eq_getD_getElem?,hi] using this
 | global g=>simp [vokB] at h
 | func f=>trivial
def opOK (sz:Nat) (o:Oper):Bool:=o.op.operands.toList.all (vokB sz)&&(match o.dst with | some d=>decide (d<sz) | none=>true)
def gslot (ops:Array Oper) (j:Nat):Option Nat:=(ops[j]?).bind (·.dst)
def opsOK (sz:Nat) (ops:Array Oper) (o:Oper):Bool:=opOK sz o&&(match o.guard with | none=>true | some (j,_)=>(match gslot ops j with | some d=>decide (d<sz) | none=>false))
def OpOK (P:Program) [Tabs P] (sz:Nat) (o:Oper) (K:Env→Zh→Prop) (e:Env) (h:Zh):Prop :=
 ∀ (r:Option Nat) (n m:Nat) (ρ:Nat→Loc) (a:Act) (w:World),m≤w.heap.size→Sim P ρ h w→ARel r m sz ρ h e a w→∀ (Qx:Exit→Act→World→Prop),
   o.wpIn (fence r) n P a w (fun a' w'=>∃ ρ' e' h',K e' h'∧Evo h ρ w h' ρ' w'∧Sim P ρ' h' w'∧ARel r m sz ρ' h' e' a' w') Qx
theorem fence_call {P:Program} [Tabs P] {r:Option Nat} {n:Nat} {f:FuncId} {args:Array Value} {w:World} {R:Ending→World→Prop} (h:CallsIn Fence.wide n P f args w R):CallsIn (fence r) n P f args w R:=by
 cases r with
 | none=>exact h
 | some l=>exact CallsIn.inRound l h
theorem isCall_eq {op:Op} (h:isCall op=true) : ∃ f args ats,op = .call { callee:=.value f,args:=args,argTypes:=ats }:=by
 unfold isCall at h
 split at h
 · exact ⟨_,_,_,rfl⟩
 · cases h
theorem op_ok {P:Program} [Tabs P] {sz:Nat} {o:Oper} {K:Env→Zh→Prop} {e:Env} {h:Zh} (ho:opOK sz o=true) (hk:aop P false o.op (ev e) h (fun v h'=>K (Zf e o.dst v) h')):OpOK P sz o K e h:=by
 intro r n m ρ a w hm s x Qx
 simp only [opOK,Bool.and_eq_true] at ho
 have hE : ∀ y∈o.op.operands.toList,VRel h.length ρ (ev e y) (a.eval y):=fun y hy=>x.ev (vokB_eq (List.all_eq_true.1 ho.1 y hy))
 refine ⟨fun _ _=>trivial,?_⟩
 have hnd : ∀ c,o.op≠.defer c:=fun c hc=>by rw [hc] at hk; exact hk
 rw [Oper.semAt_eq _ _ _ hnd]
 by_cases hc:isCall o.op=true
 · -- a call
   obtain ⟨f,args,ats,hop⟩:=isCall_eq hc
   obtain ⟨dst,op,ty,pos,after,guard⟩:=o
   simp only at hop
   subst hop
   simp only [aop,Yz] at hk
   split at hk
   · rename_i g first captured hf
     obtain ⟨hent,hcall⟩:=hk
     have hfr:=hE f (by simp [Op.operands,Call.operands])
     rw [hf] at hfr
     obtain ⟨ys,vs,hev,h1,h2,h3,h4⟩:=hfr.func'
     have hargs:LRel h.length ρ (args.toList.map (ev e)) (args.map a.eval).toList:=by
      have:=lrel_map (n:=h.length) (ρ:=ρ) (E:=ev e) (E':=a.eval) args.toList (fun y hy=>hE y (by simp [Op.operands,Call.operands]; right; simpa using hy))
      simpa using this
     have lr : ∀ (us ws:Array Value),us.size=ws.size→(∀ i,i<us.size→VRel h.length ρ (us.getD i undef) (ws.getD i undef))→LRel h.length ρ us.toList ws.toList:=fun us ws e1 e2=>⟨by simp [e1],fun k hk=>by
      have:=e2 k (by simpa using hk)
      simpa [List.getD,Array.getD_eq_getD_getElem?] using this⟩
     have hall:=((lr _ _ h1 h3).append hargs).append (lr _ _ h2 h4)
     have hcl:=hcall (n-1) ρ (ys++args.map a.eval++vs) w s (by simpa using hall)
     have hx:(execOp a.eval { dst:=dst,op:=.call { callee:=.value f,args:=args,argTypes:=ats },type:=ty,pos:=pos,after:=after,guard:=guard }).run P w = .ok (.enter g (ys++args.map a.eval++vs)) w:=by
      simp [execOp,resolve,hev,Deferred.ofValue,invoke,hent]
     rw [hx]
     refine ⟨fun hd=>by simp [fence,Fence.wide] at hd,(fence_call hcl).mono ?_⟩
     rintro en w' ⟨v,v',ρ',h',rfl,hK,hv,hE',hS⟩
     exact ⟨ρ',_,h',hK,hE',hS,(x.evo s hE').put hv⟩
   · exact hk.elim
 · obtain ⟨nx,v,v',h',ρ',w',hK,hrun,hnx,hv,hS,hE'⟩:=aop_sound (E':=a.eval) s hE (by simpa using hc) hk
   rw [hrun]
   rcases hnx with rfl | ⟨rfl,rfl⟩
   · exact ⟨ρ',_,h',hK,hE',hS,(x.evo s hE').put hv⟩
   · exact ⟨ρ',_,h',hK,hE',hS,(x.evo s hE').put hv⟩
def aops (P:Program) [Tabs P] (ops:Array Oper) (N:Env→Zh→Prop):List Oper→Env→Zh→Prop
 | [],e,h=>N e h
 | o::l,e,h=>match o.guard with
   | none=>aop P false o.op (ev e) h (fun v h'=>aops P ops N l (Zf e o.dst v) h')
   | some (j,want)=>∃ (d:Nat) (g:Option Bool),gslot ops j=some d∧sget e d=gv g∧(g=some want→aop P false o.op (ev e) h (fun v h'=>aops P ops N l (Zf e o.dst v) h'))∧(g≠some want→aops P ops N l (Zf e o.dst skp) h)
theorem aops_sound {P:Program} [Tabs P] {sz:Nat} {ops:Array Oper} {N:Env→Zh→Prop} {r:Option Nat} {n m:Nat} {Q:Exit→Act→World→Prop} : ∀ (l:List Oper) {e:Env} {h:Zh} {ρ:Nat→Loc} {a:Act} {w:World},
  (∀ o∈l,opsOK sz ops o=true)→aops P ops N l e h→m≤w.heap.size→Sim P ρ h w→ARel r m sz ρ h e a w →
  (∀ e' h' ρ' a' w',N e' h'→Evo h ρ w h' ρ' w'→Sim P ρ' h' w'→ARel r m sz ρ' h' e' a' w'→Q .normal a' w')→wpListIn (fence r) n P ops Q l a w
 | [],e,h,ρ,a,w,_,hk,_,s,x,hQ=>hQ e h ρ a w hk (.refl _ _ _) s x
 | o::l,e,h,ρ,a,w,hok,hk,hm,s,x,hQ=>by
   have ho:=hok o (by simp)
   simp only [opsOK,Bool.and_eq_true] at ho
   have rest : ∀ e1 h1,aops P ops N l e1 h1→∀ ρ1 a1 w1,Evo h ρ w h1 ρ1 w1→Sim P ρ1 h1 w1→ARel r m sz ρ1 h1 e1 a1 w1→wpListIn (fence r) n P ops Q l a1 w1:=fun e1 h1 hk1 ρ1 a1 w1 hE1 s1 x1 =>
    aops_sound l (fun o ho=>hok o (by simp [ho])) hk1 (Nat.le_trans hm hE1.wsize) s1 x1 (fun e' h' ρ' a' w' g1 g2 g3 g4=>hQ e' h' ρ' a' w' g1 (hE1.trans g2) g3 g4)
   have run:aop P false o.op (ev e) h (fun v h'=>aops P ops N l (Zf e o.dst v) h')→o.wpIn (fence r) n P a w (wpListIn (fence r) n P ops Q l) Q:=fun hk=>by
    have:=op_ok (P:=P) (sz:=sz) (o:=o) (K:=fun e1 h1=>aops P ops N l e1 h1) ho.1 hk r n m ρ a w hm s x Q
    exact Oper.wpIn_mono (fun a' w' ⟨ρ',e',h',g1,g2,g3,g4⟩=>rest e' h' g1 ρ' a' w' g2 g3 g4) this
   unfold wpListIn
   unfold aops at hk
   cases hg:o.guard with
   | none =>
     simp only [hg] at hk
     rw [if_pos (by simp [Region.wanted,hg])]
     exact run hk
   | some p =>
     obtain ⟨j,want⟩:=p
     simp only [hg] at hk
     obtain ⟨d,b,hsl,hb,h1,h2⟩:=hk
     have hd:d<sz:=by have:=ho.2; simpa [hg,hsl] using this
     have hr:=x.env d (by rw [x.size]; exact hd)
     rw [hb] at hr
     have hv:=hr.gv
     have hy:yielded ops a.tmps j=b:=by
      have hlt:d<a.tmps.size:=by rw [x.size]; exact hd
      unfold yielded
      unfold gslot at hsl
      rw [hsl]
      have e1:a.tmps.getD d undef=a.tmps[d]:=by simp [Array.getD_eq_getD_getElem?,hlt]
      rw [e1] at hv
      simp only [Option.bind_some,Array.getElem?_eq_getElem hlt]
      rw [← hv]; cases a.tmps[d] <;> rfl
     by_cases hbw:b=some want
     · rw [if_pos (by simp [Region.wanted,hg,hy,hbw])]
       exact run (h1 hbw)
     · rw [if_neg (by simp [Region.wanted,hg,hy,hbw])]
       exact ⟨fun _ _=>trivial,rest _ _ (h2 hbw) ρ _ w (.refl _ _ _) s (x.put .skip)⟩
/-! ### The calculus -/
def AWP (P:Program) [Tabs P] (sz:Nat) (c:Code) (Q:Exit→Env→Zh→Prop) (e:Env) (h:Zh):Prop :=
 ∀ (r:Option Nat) (n m:Nat) (ρ:Nat→Loc) (a:Act) (w:World),m≤w.heap.size→Sim P ρ h w→ARel r m sz ρ h e a w →
   c.wpIn (fence r) n P (fun x a' w'=>∃ ρ' e' h',Q x e' h'∧Evo h ρ w h' ρ' w'∧Sim P ρ' h' w'∧ARel r m sz ρ' h' e' a' w') a w
def Zg (N:Env→Zh→Prop) (Q:Exit→Env→Zh→Prop):Exit→Env→Zh→Prop
 | .normal,e,h=>N e h
 | x,e,h=>Q x e h
def Zl (id:Nat) (Q:Exit→Env→Zh→Prop):Exit→Env→Zh→Prop
 | .exit i,e,h=>if i=id then Q .normal e h else Q (.exit i) e h
 | x,e,h=>Q x e h
def Yn (sz:Nat):Code→Bool
 | .region _ ops _=>ops.toList.all (opsOK sz ops)
 | .seq a b=>Yn sz a&&Yn sz b
 | .cond c a b=>vokB sz c&&Yn sz a&&Yn sz b
 | .block _ b | .loop b | .scope b=>Yn sz b
 | .rangeFunc f ps assign body=>vokB sz f&&ps.toList.all (fun p=>decide (p<sz))&&Yn sz assign&&Yn sz body
 | _=>true
section calculus
variable {P:Program} [Tabs P] {sz:Nat} {Q Q' : Exit→Env→Zh→Prop} {e:Env} {h:Zh}
theorem AWP.mono {c:Code} (hc:AWP P sz c Q e h) (hq : ∀ x e' h',Q x e' h'→Q' x e' h'):AWP P sz c Q' e h :=
 fun r n m ρ a w hm s x=>wpIn_mono (hc r n m ρ a w hm s x) fun _ _ _ ⟨ρ',e',h',g1,g2⟩=>⟨ρ',e',h',hq _ _ _ g1,g2⟩
theorem AWP.le {c:Code} {e1:Env} (hc:AWP P sz c Q e1 h) (hl:ELe e e1):AWP P sz c Q e h :=
 fun r n m ρ a w hm s x=>hc r n m ρ a w hm s (x.le hl)
theorem awp_seq {c d:Code} (hc:AWP P sz c (Zg (AWP P sz d Q) Q) e h):AWP P sz (.seq c d) Q e h:=by
 intro r n m ρ a w hm s x
 refine wpIn_seq (wpIn_mono (hc r n m ρ a w hm s x) ?_)
 rintro ex a' w' ⟨ρ',e',h',g1,g2,g3,g4⟩
 cases ex with
 | normal=>exact wpIn_mono (g1 r n m ρ' a' w' (Nat.le_trans hm g2.wsize) g3 g4) fun _ _ _ ⟨ρ2,e2,h2,k1,k2,k3,k4⟩=>⟨ρ2,e2,h2,k1,g2.trans k2,k3,k4⟩
 | _=>exact ⟨ρ',e',h',g1,g2,g3,g4⟩
theorem awp_skip (hq:Q .normal e h):AWP P sz .skip Q e h:=fun _ _ _ ρ _ _ _ s x=>wpIn_skip ⟨ρ,e,h,hq,.refl _ _ _,s,x⟩
theorem awp_label {l:Nat} (hq:Q .normal e h):AWP P sz (.label l) Q e h:=fun _ _ _ ρ _ _ _ s x=>wpIn_label ⟨ρ,e,h,hq,.refl _ _ _,s,x⟩
theorem awp_exit {id:Nat} (hq:Q (.exit id) e h):AWP P sz (.exit id) Q e h:=fun _ _ _ ρ _ _ _ s x=>wpIn_exit ⟨ρ,e,h,hq,.refl _ _ _,s,x⟩
theorem awp_ret (hq:Q .ret e h):AWP P sz .ret Q e h:=fun _ _ _ ρ _ _ _ s x=>wpIn_ret ⟨ρ,e,h,hq,.refl _ _ _,s,x⟩
theorem awp_cond {c:Operand} {x y:Code} {b:Bool} (hv:vokB sz c=true) (hc:ev e c = .bool b) (ht:b=true→AWP P sz x Q e h) (hf:b=false→AWP P sz y Q e h):AWP P sz (.cond c x y) Q e h:=by
 intro r n m ρ a w hm s xr
 have:=xr.ev (vokB_eq hv)
 rw [hc] at this
 refine wpIn_cond this.bool ?_
 cases b with
 | true=>exact ht rfl r n m ρ a w hm s xr
 | false=>exact hf rfl r n m ρ a w hm s xr
theorem awp_block {id:Nat} {c:Code} (hc:AWP P sz c (Zl id Q) e h):AWP P sz (.block id c) Q e h:=by
 intro r n m ρ a w hm s x
 refine wpIn_block (wpIn_mono (hc r n m ρ a w hm s x) ?_)
 rintro ex a' w' ⟨ρ',e',h',g1,g⟩
 cases ex with
 | exit i =>
   simp only [Zl] at g1
   simp only [Exit.inBlock]
   by_cases hi:i=id
   · rw [if_pos hi] at g1 ⊢; exact ⟨ρ',e',h',g1,g⟩
   · rw [if_neg hi] at g1 ⊢; exact ⟨ρ',e',h',g1,g⟩
 | _=>exact ⟨ρ',e',h',g1,g⟩
theorem awp_region {id:Nat} {ops:Array Oper} (hok:ops.toList.all (opsOK sz ops)=true) (hk:aops P ops (Q .normal) ops.toList e h):AWP P sz (.region id ops false) Q e h:=by
 intro r n m ρ a w hm s x
 exact wpIn_region_list (aops_sound ops.toList (fun o ho=>List.all_eq_true.1 hok o ho) hk hm s x fun e' h' ρ' a' w' g1 g2 g3 g4=>⟨ρ',e',h',g1,g2,g3,g4⟩)
open Classical in
noncomputable def least (p:Nat→Prop):Nat:=if hp : ∃ k,p k∧∀ j,p j→k≤j then Classical.choose hp else 0
theorem least_spec {p:Nat→Prop} (hp : ∃ k,p k):p (least p)∧∀ j,p j→least p≤j:=by
 have : ∃ k,p k∧∀ j,p j→k≤j:=by
  obtain ⟨k,hk⟩:=hp
  induction k using Nat.strongRecOn with
  | _ k ih =>
    by_cases hex : ∃ j,j<k∧p j
    · obtain ⟨j,hj,hpj⟩:=hex; exact ih j hj hpj
    · exact ⟨k,hk,fun j hj=>by
       rcases Nat.lt_or_ge j k with h | h
       · exact absurd ⟨j,h,hj⟩ hex
       · exact h⟩
 unfold least
 rw [dif_pos this]
 exact Classical.choose_spec this
theorem awp_loop {γ:Type} {c:Code} (inv:γ→Prop) (st:γ→Env×Zh) (μ:γ→Nat) (g0:γ) (h0:inv g0) (he:ELe e (st g0).1) (hh:h=(st g0).2)
  (round : ∀ g,inv g→AWP P sz c (Zg (fun e' h'=>∃ g',inv g'∧μ g' < μ g∧ELe e' (st g').1∧h' = (st g').2) Q) (st g).1 (st g).2):AWP P sz (.loop c) Q e h:=by
 intro r n m ρ a w hm s x
 subst hh
 let I:Nat→Act→World→Prop:=fun k a' w'=>∃ g ρ',inv g∧μ g=k∧Evo (st g0).2 ρ w (st g).2 ρ' w'∧Sim P ρ' (st g).2 w'∧ARel r m sz ρ' (st g).2 (st g).1 a' w'
 refine wpIn_loop (fun a' w'=>∃ k,I k a' w') (fun a' w'=>least (fun k=>I k a' w')) ⟨_,g0,ρ,h0,rfl,.refl _ _ _,s,x.le he⟩ ?_
 intro a1 w1 hI
 obtain ⟨⟨g,ρ1,hg,hμ,hE,hS,hA⟩,_⟩:=least_spec hI
 refine wpIn_mono (round g hg r n m ρ1 a1 w1 (Nat.le_trans hm hE.wsize) hS hA) ?_
 rintro ex a' w' ⟨ρ',e',h',g1,g2,g3,g4⟩
 cases ex with
 | normal =>
   obtain ⟨g',k1,k2,k3,k4⟩:=g1
   subst k4
   have hI' : I (μ g') a' w':=⟨g',ρ',k1,rfl,hE.trans g2,g3,g4.le k3⟩
   refine ⟨⟨_,hI'⟩,?_⟩
   have:=(least_spec (p:=fun k=>I k a' w') ⟨_,hI'⟩).2 _ hI'
   show least (fun k=>I k a' w')<least (fun k=>I k a1 w1)
   omega
 | _=>exact ⟨ρ',e',h',g1,hE.trans g2,g3,g4⟩
end calculus
/-! ### Functions -/
def Zt:Nat→List Value→Env
 | _,[]=>[]
 | i,v::l=>(i,v)::Zt (i+1) l
theorem sget_argEnv : ∀ (l:List Value) (i k:Nat),sget (Zt i l) k=if i≤k then l.getD (k-i) undef else undef
 | [],i,k=>by simp [Zt,sget]
 | v::l,i,k=>by
   simp only [Zt,sget,cond_eq_ite,beq_iff_eq,sget_argEnv l (i+1) k]
   by_cases h:i=k
   · subst h; simp
   · rw [if_neg h]
     by_cases h2:i+1≤k
     · rw [if_pos h2,if_pos (by omega)]
       obtain ⟨j,hj⟩ : ∃ j,k-i=j+1:=⟨k-i-1,by omega⟩
       rw [hj,show k-(i+1)=j by omega]; rfl
     · rw [if_neg h2,if_neg (by omega)]
def Xu (P:Program) (h:Zh) (e:Env):List ResultVar→(List Value→Prop)→Prop
 | [],K=>K []
 | .tmp t::l,K=>Xu P h e l (fun vs=>K (sget e t::vs))
 | .cell a t::l,K=>Xq P h t (sget e a) (fun v=>Xu P h e l (fun vs=>K (v::vs)))
def tup:List Value→Value
 | [v]=>v
 | vs=>.tuple vs.toArray
def resSlots (sz:Nat):List ResultVar→Bool
 | []=>true
 | .tmp t::l=>decide (t<sz)&&resSlots sz l
 | .cell a _::l=>decide (a<sz)&&resSlots sz l
def resOne (tmps:Array Value):ResultVar→Sem Value
 | .tmp t=>pure (tmps.getD t undef)
 | .cell a t=>do loadVar t (← asAddr (tmps.getD a undef))
theorem resK_sound {P:Program} [Tabs P] {ρ:Nat→Loc} {h:Zh} {w:World} (s:Sim P ρ h w) {e:Env} {tmps:Array Value} (he:ERel h.length ρ e tmps) : ∀ (l:List ResultVar) {K:List Value→Prop},resSlots tmps.size l=true→Xu P h e l K →
  ∃ vs vs',K vs∧LRel h.length ρ vs vs'∧(l.mapM (resOne tmps)).run P w = .ok vs' w
 | [],K,_,hk=>⟨[],[],hk,LRel.nil _ _,by simp⟩
 | .tmp t::l,K,hs,hk=>by
   simp only [resSlots,Bool.and_eq_true,decide_eq_true_eq] at hs
   obtain ⟨vs,vs',h1,h2,h3⟩:=resK_sound s he l hs.2 hk
   refine ⟨_,tmps.getD t undef::vs',h1,LRel.cons (he t hs.1) h2,?_⟩
   rw [List.mapM_cons]
   simp only [resOne,Sem.run_bind,Sem.run_pure,Result.andThen_ok,h3]
 | .cell a t::l,K,hs,hk=>by
   simp only [resSlots,Bool.and_eq_true,decide_eq_true_eq] at hs
   obtain ⟨v,v',hk',hv,hrun⟩:=loadK_sound s (he a hs.1) hk
   obtain ⟨vs,vs',h1,h2,h3⟩:=resK_sound s he l hs.2 hk'
   refine ⟨_,v' :: vs',h1,LRel.cons hv h2,?_⟩
   have hld:(resOne tmps (.cell a t)).run P w = .ok v' w:=by
    simp only [Xu,Xq] at hk
    split at hk
    · rename_i b o hp
      have hr:=he a hs.1
      rw [hp] at hr
      obtain ⟨_,_,hpt⟩:=hr.ptr'
      rw [hpt] at hrun
      simp only [resOne,hpt]
      simpa [Instr.loadAt,Instr.sureAddr,asAddr] using hrun
    · exact hk.elim
   rw [List.mapM_cons]
   simp only [Sem.run_bind,Sem.run_pure,hld,Result.andThen_ok,h3]
theorem tup_rel {n:Nat} {ρ:Nat→Loc} {vs vs' : List Value} (h:LRel n ρ vs vs'):VRel n ρ (tup vs) (tup vs'):=by
 match vs,vs',h.1,h with
 | [],[],_,_=>exact .any _
 | [v],[v'],_,h=>exact h.2 0 (by simp)
 | v::u::l,v' :: u' :: l',_,h=>exact .tuple_of_LRel h
theorem run_results {P:Program} [Tabs P] {fn:Func} {tmps:Array Value} {vs' : List Value} {w:World} (h:(fn.results.toList.mapM (resOne tmps)).run P w = .ok vs' w):(results fn tmps).run P w = .ok (tup vs') w:=by
 have e:results fn tmps=(do let vs ← fn.results.mapM (resOne tmps); pure (if h:vs.size=1 then vs[0] else .tuple vs)):=by
  unfold results
  congr 1
 rw [e,Array.mapM_eq_mapM_toList]
 simp only [Sem.run_bind,Sem.run_map,Sem.run_pure,h,Result.andThen_ok]
 match vs' with
 | []=>rfl
 | [v]=>rfl
 | v::u::l=>simp [tup]
theorem leaves {P:Program} [Tabs P] {n:Nat} {fn:Func} {tmps:Array Value} {R:Ending→World→Prop} : ∀ (Ds:List Nat) (w:World),Ds.Nodup→(∀ D∈Ds,w.heap[D]? = some (.deferred (some []))) →
  (∀ w' : World,w'.heap.size=w.heap.size→w'.os=w.os→w'.tape=w.tape→w'.output=w.output→(∀ k,k ∉ Ds→w'.heap[k]? = w.heap[k]?)→LeavesIn Fence.wide n P fn tmps R [] .returning w') →
  LeavesInM Fence.wide n P fn tmps R (Ds.map (fun D=>{ target:=.collected D,args:=#[] })) .returning w
 | [],w,_,_,h=>h w rfl rfl rfl rfl (fun _ _=>rfl)
 | D::Ds,w,hn,hd,h=>by
   have hD:=hd D (by simp)
   have hn':=List.nodup_cons.1 hn
   refine ⟨by simp,.inl ⟨D,_,rfl,run_takeDeferred hD,?_⟩⟩
   refine leaves Ds _ hn'.2 (fun D' hD'=>?_) (fun w' h1 h2 h3 h4 h5=>h w' (by rw [h1]; simp) h2 h3 h4 (fun k hk=>?_))
   · have hne:D'≠D:=fun he=>hn'.1 (he▸hD')
     rw [World.putObj_heap_other hne]; exact hd D' (by simp [hD'])
   · simp only [List.mem_cons,not_or] at hk
     rw [h5 k hk.2,World.putObj_heap_other hk.1]
theorem acall_of_body {P:Program} [Tabs P] {f:FuncId} {fn:Func} {c:Code} {args:List Value} {h:Zh} {Q:Value→Zh→Prop} (hf:P.funcs[f]? = some fn) (hb:fn.body=some c)
  (hent : ∀ (as:Array Value) (w:World),(callFunc f as).run P w = .ok (.enter f as) w) (hsz:args.length≤fn.ntmps) (hrs:resSlots fn.ntmps fn.results.toList=true)
  (hbody:AWP P fn.ntmps c (fun x e' h'=>(x = .normal∨x = .ret)∧Xu P h' e' fn.results.toList (fun vs=>Q (tup vs) h')) (Zt 0 args) h):ACall P f args h Q:=by
 refine ⟨hent,fun n ρ args' w s hr=>?_⟩
 have hal:args'.size=args.length:=by have:=hr.1; simpa using this.symm
 refine callsIn_of_wp_marks hf hb trivial ?_ rfl
 have hA:ARel none w.heap.size fn.ntmps ρ h (Zt 0 args) { tmps:=args'++Array.replicate (fn.ntmps-args'.size) undef,defers:=[] } w:=by
  refine ⟨by simp; omega,fun i hi=>?_,⟨[],rfl,by simp,fun D hD=>by simp at hD⟩,fun l hl=>by cases hl⟩
  rw [sget_argEnv]
  simp only [Nat.zero_le,if_true,Nat.sub_zero]
  by_cases hi2:i<args.length
  · have:=hr.2 i hi2
    have hi3:i<args'.size:=by omega
    have e1:(args'++Array.replicate (fn.ntmps-args'.size) undef).getD i undef=args'.toList.getD i undef:=by
     simp [Array.getD_eq_getD_getElem?,Array.getElem?_append_left hi3,List.getD]
    rw [e1]; exact this
  · have:args.getD i undef=undef:=by simp [List.getD,List.getElem?_eq_none (Nat.le_of_not_lt hi2)]
    rw [this]; exact .any _
 refine wpIn_mono (hbody none n w.heap.size ρ _ w (Nat.le_refl _) s hA) ?_
 rintro ex a' w' ⟨ρ',e',h',⟨hex,hres⟩,hE,hS,hA'⟩
 obtain ⟨Ds,hd,hnd,hD⟩:=hA'.marks
 have main:LeavesInM Fence.wide n P fn a'.tmps (fun en w'=>∃ v v' ρ' h',en = .returned v'∧Q v h'∧VRel h'.length ρ' v v'∧Evo h ρ w h' ρ' w'∧Sim P ρ' h' w') a'.defers .returning w':=by
  rw [hd]
  refine leaves Ds w' hnd (fun D hDm=>(hD D hDm).2) ?_
  intro w2 g1 g2 g3 g4 g5
  have notlive : ∀ i x,view h' i=some x→(ρ' i).blk ∉ Ds:=by
   rintro i ⟨c2,e2,ro⟩ hv hm
   cases hs:side h' i with
   | true =>
     obtain ⟨b,h1,h2⟩:=side_spec hs
     obtain ⟨o,h3,h4⟩:=hS.sides i b h1 h2
     rw [(hD _ hm).2] at h3; cases h3
     have:=(h4.own h2).1; cases this
   | false =>
     obtain ⟨c',fr,hc,_⟩:=hS.cells i c2 e2 ro hv hs
     rw [(hD _ hm).2] at hc; cases hc
  have nottab : ∀ p∈Tabs.tabs P,p.1 ∉ Ds:=fun p hp hm=>by
   have h1:=(s.tab p hp).1
   have:=(Array.getElem?_eq_some_iff.1 h1).1
   have:=(hD _ hm).1
   omega
  have s2:Sim P ρ' h' w2:=hS.same (fun i x hv=>g5 _ (notlive i x hv)) (fun p hp=>g5 _ (nottab p hp))
  obtain ⟨vs,vs',k1,k2,k3⟩:=resK_sound s2 (tmps:=a'.tmps) hA'.env fn.results.toList (by rw [hA'.size]; exact hrs) hres
  refine ⟨tup vs',run_results k3,tup vs,tup vs',ρ',h',rfl,k1,tup_rel k2,?_,s2⟩
  exact { hE with
   wsize:=by rw [g1]; exact hE.wsize
   os:=g2.trans hE.os
   tape:=g3.trans hE.tape
   output:=g4.trans hE.output
   keep:=fun k hk hm=>by
    rw [g5 k (fun hin=>by have:=(hD k hin).1; omega)]
    exact hE.keep k hk hm }
 rcases hex with rfl | rfl
 · exact main
 · exact main
end Go.Am
