/- Plain laws of areas and their marks: the areas of marks are valid and have these marks; valid areas with the same marks are the same. No condition. -/
import Derived.Test.YthdjckbjjfiopacGreatDoorPartA
set_option linter.unusedSimpArgs false
set_option linter.unusedVariables false
namespace Go.Proofs.YthdjckbjjfiopacGreatDoor
open Go.Sl Go.Proofs
def zvF:Int→List Area→Int
  | e,[]=>e
  | _,a::l=>zvF (a.fr+a.many) l
theorem zr2 (e:Int)(l:List Area)(x:Area):zvF e (l++ [x])=x.fr+x.many:=by
  induction l generalizing e with
  | nil=>rfl
  | cons a l ih=>exact ih _
theorem zi9 (e:Int)(l:List Area)(x:Area):zrU e (l++ [x])=0 ↔ zrU e l=0∧(0≤x.fr∧1≤x.many∧x.fr+x.many≤16)∧zvF e l<x.fr:=by
  induction l generalizing e with
  | nil=>
    simp only[List.nil_append,zrU,zvF,true_and];split
    · constructor
      · intro h;omega
      · intro h;omega
    · split
      · constructor
        · intro h;omega
        · intro h;omega
      · constructor
        · intro h;omega
        · intro h;rfl
  | cons a l ih=>
    simp only[List.cons_append,zrU,zvF];split
    · constructor
      · intro h;omega
      · intro h;omega
    · split
      · constructor
        · intro h;omega
        · intro h;omega
      · exact ih _
theorem zq5 {l:List Area}(h:0<l.length):∃r,l=r++ [zdS l]:=by
  refine ⟨l.dropLast,?_⟩;have hne:l≠ []:=(by intro e;subst e;simp at h);have:zdS l=l.getLast hne:=by
    unfold zdS;rw[List.getD_eq_getElem?_getD,List.getElem?_eq_getElem (by omega),List.getLast_eq_getElem]
    rfl
  rw[this,List.dropLast_concat_getLast]
theorem zgA (m:Nat→Bool):∀k,k≤16→zrU (-1) (zbg m k)=0∧∀p:Nat,mk (zbg m k) p=(m p && decide (p<k))
  | 0,_=>⟨rfl,fun p=>by simp[zbg,mk]⟩
  | k+1,hk=>by
    obtain ⟨h1,h2⟩:=zgA m k (by omega);obtain ⟨h3,h4⟩:=zf6 m k;simp only[zbg,zma];generalize zbg m k=l at*;by_cases hm:m k=true
    · rw[if_pos hm];by_cases hc:0<l.length∧(zdS l).fr+(zdS l).many=k
      · rw[if_pos hc];obtain ⟨r,hr⟩:=zq5 hc.1;generalize zdS l=x at*;subst hr;rw[zi9] at h1;have e:(r++ [x]).set ((r++ [x]).length - 1) ⟨x.fr,x.many+1⟩=r++ [⟨x.fr,x.many+1⟩]:=(by simp[List.set_append]);rw[e];refine ⟨(zi9 _ _ _).2 ⟨h1.1,by simp only;omega,h1.2.2⟩,fun p=>?_⟩;have hp:=h2 p;simp only[mk,List.any_append,List.any_cons,List.any_nil,Bool.or_false] at hp ⊢;by_cases hpk:p=k
        · subst hpk;have:decide (x.fr≤(p:Int)∧(p:Int)<x.fr+(x.many+1))=true:=decide_eq_true (by omega);simp[this,hm]
        · have e1:decide (x.fr≤(p:Int)∧(p:Int)<x.fr+(x.many+1))=decide (x.fr≤(p:Int)∧(p:Int)<x.fr+x.many):=decide_eq_decide.2 (by omega);have e2:decide (p<k+1)=decide (p<k):=decide_eq_decide.2 (by omega);rw[e1,e2,hp]
      · rw[if_neg hc];have hend:zvF (-1) l<k:=by
          by_cases h0:0<l.length
          · obtain ⟨r,hr⟩:=zq5 h0;have hx:=h4 (zdS l) (List.mem_of_getElem? (zdw h0));rw[hr,zr2];omega
          · have:l=[]:=List.length_eq_zero_iff.1 (by omega);subst this;show (-1:Int)<k;omega
        refine ⟨(zi9 _ _ _).2 ⟨h1,by simp only;omega,hend⟩,fun p=>?_⟩;have hp:=h2 p;simp only[mk,List.any_append,List.any_cons,List.any_nil,Bool.or_false] at hp ⊢;rw[hp];by_cases hpk:p=k
        · subst hpk;simp[hm];omega
        · have e1:decide ((k:Int)≤(p:Int)∧(p:Int)<(k:Int)+1)=false:=decide_eq_false (by omega);have e2:decide (p<k+1)=decide (p<k):=decide_eq_decide.2 (by omega);rw[e1,e2,Bool.or_false]
    · rw[if_neg hm];refine ⟨h1,fun p=>?_⟩;rw[h2];by_cases hpk:p=k
      · subst hpk;simp[hm]
      · have e2:decide (p<k+1)=decide (p<k):=decide_eq_decide.2 (by omega);rw[e2]
theorem zt5 (m:Nat→Bool):zrU (-1) (ofM m)=0:=(zgA m 16 (Nat.le_refl _)).1
theorem zsY (m:Nat→Bool){p:Nat}(h:p<16):mk (ofM m) p=m p:=by
  rw[(zgA m 16 (Nat.le_refl _)).2 p];simp[h]
theorem zlD (m:Nat→Bool):okV (ofM m):=(ztx (zt5 m)).1
theorem zpy {m n:Nat→Bool}(h:∀p,p<16→m p=n p):ofM m=ofM n:=zeA h 16 (Nat.le_refl _)
theorem zuD {l:List Area}{n:Int}(h0:0≤n):ztz l n=mk l n.toNat:=by
  simp only[ztz,mk,show (n.toNat:Int)=n by omega]
end Go.Proofs.YthdjckbjjfiopacGreatDoor
