/-
  The abstract machine: types all of whose cells are ints serve as keys.
-/
import Derived.Test.YtnjacpfahhjpiaaDoorPk4
set_option linter.all false
namespace Go.Am
def intsAt (P:Program):Nat→TypeId→Bool
 | 0,_=>false
 | d+1,t=>match P.underlying t with
   | some (.int .i64)=>P.cellsOf t==1
   | some (.array n e)=>P.cellsOf t==n*P.cellsOf e&&intsAt P d e
   | some (.struct fs)=>fs.all fun f=>f.name != "_" && (decide (f.offset+P.cellsOf f.type≤P.cellsOf t)&&intsAt P d f.type)
   | _=>false
theorem mapM_ex {α β:Type} {f:α→Option β} : ∀ {l:List α},(∀ a∈l,∃ b,f a=some b)→∃ bs,l.mapM f=some bs
 | [],_=>⟨[],rfl⟩
 | a::l,h=>by
   obtain ⟨b,hb⟩:=h a (by simp)
   obtain ⟨bs,hbs⟩:=mapM_ex fun x hx=>h x (List.mem_cons_of_mem a hx)
   exact ⟨b::bs,by rw [List.mapM_cons,hb,hbs]; rfl⟩
theorem inR64.sub {xs:List Int} (h:inR64 xs) (o n:Nat):inR64 ((xs.drop o).take n):=fun x hx=>h x (List.mem_of_mem_drop (List.mem_of_mem_take hx))
theorem cut_vint (xs:List Int) (o n:Nat):((xs.map Zx).drop o).take n=((xs.drop o).take n).map Zx:=by rw [← List.map_drop,← List.map_take]
theorem keyLits_ints {P:Program} : ∀ (d:Nat) (t:TypeId),intsAt P d t=true→∀ (k:Nat) (xs:List Int),xs.length=P.cellsOf t→inR64 xs→∃ la,P.keyLits (d+k) t (xs.map Zx)=some la
 | 0,_,h,_,_,_,_=>by simp [intsAt] at h
 | d+1,t,h,k,xs,hx,hr=>by
   rw [show d+1+k=(d+k)+1 by omega]
   rw [intsAt] at h
   split at h
   · rename_i hu
     rw [beq_iff_eq.1 h] at hx
     match xs,hx with
     | [a],_ =>
       have ha:=hr a (by simp)
       have hw:(Lit.int .i64 a).wf=true:=by
        simp only [Lit.wf,Bool.and_eq_true,decide_eq_true_eq]
        exact ⟨ha.1,by have:=ha.2; show a≤9223372036854775807; omega⟩
       exact ⟨[.int .i64 a],by unfold Program.keyLits; simp [hu,hw]⟩
   · rename_i n e hu
     rw [Bool.and_eq_true,beq_iff_eq] at h
     unfold Program.keyLits
     simp only [hu]
     rw [if_pos (by rw [List.length_map]; exact hx)]
     obtain ⟨bs,hbs⟩:=mapM_ex (f:=fun i=>P.keyLits (d+k) e (((xs.map Zx).drop (i*P.cellsOf e)).take (P.cellsOf e))) (l:=List.range n) fun i hi=>by
      have hi':=List.mem_range.1 hi
      rw [cut_vint]
      refine keyLits_ints d e h.2 k _ ?_ (hr.sub _ _)
      have:(i+1)*P.cellsOf e≤n*P.cellsOf e:=Nat.mul_le_mul_right _ hi'
      rw [Nat.add_mul,Nat.one_mul] at this
      rw [List.length_take,List.length_drop,hx,h.1]; omega
     exact ⟨_,by rw [hbs]; rfl⟩
   · rename_i fs hu
     have hn:fs.all (·.name != "_")=true:=by
      rw [Array.all_eq_true_iff_forall_mem] at h ⊢
      intro f hf
      have:=h f hf
      rw [Bool.and_eq_true] at this
      exact this.1
     unfold Program.keyLits
     simp only [hu]
     rw [if_pos ⟨by rw [List.length_map]; exact hx,hn⟩]
     obtain ⟨bs,hbs⟩:=mapM_ex (f:=fun f:Field=>P.keyLits (d+k) f.type (((xs.map Zx).drop f.offset).take (P.cellsOf f.type))) (l:=fs.toList) fun f hf=>by
      have h1:=Array.all_eq_true_iff_forall_mem.1 h f (Array.mem_toList_iff.1 hf)
      rw [Bool.and_eq_true,Bool.and_eq_true,decide_eq_true_eq] at h1
      rw [cut_vint]
      refine keyLits_ints d f.type h1.2.2 k _ ?_ (hr.sub _ _)
      rw [List.length_take,List.length_drop,hx]; omega
     exact ⟨_,by rw [hbs]; rfl⟩
   · cases h
theorem keyT_ints {P:Program} {t:TypeId} {n d m:Nat} (hw:(match P.underlying t with | some (.array _ _) | some (.struct _)=>true | _=>false)=true) (hd:intsAt P d t=true) (hdp:d≤P.types.size+1) (hm:m≤10000) (hk:P.keyTypeAt m t=true) (ht:P.tiled m t=true) (hkt:P.keyType t=true) (hn:P.cellsOf t=n):KeyT P t n:=by
 refine keyT_of hm hk ht hw fun xs hx hr=>?_
 have hf:Value.formed P t (.agg (xs.map Zx).toArray)=true:=by
  unfold Value.formed
  split at hw <;> simp_all
 obtain ⟨k,hk2⟩ : ∃ k,P.types.size+1=d+k:=⟨P.types.size+1-d,by omega⟩
 obtain ⟨la,hla⟩:=keyLits_ints d t hd k xs (hx.trans hn.symm) hr
 refine ⟨?_,hf,d+k,la,hla⟩
 unfold keyOf
 have hc:(Value.agg (xs.map Zx).toArray).cells.toList=xs.map Zx:=by simp [Value.cells]
 split at hw
 · rename_i hu
   simp only [hu,hkt,hf,Bool.and_self,if_true,hc,hk2,hla]; rfl
 · rename_i hu
   simp only [hu,hkt,hf,Bool.and_self,if_true,hc,hk2,hla]; rfl
 · cases hw
end Go.Am
