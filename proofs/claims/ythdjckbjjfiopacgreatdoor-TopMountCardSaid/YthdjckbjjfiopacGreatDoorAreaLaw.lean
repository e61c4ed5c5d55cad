/- Plain laws of areas and their marks: the areas of marks are valid and have these marks; valid areas with the same marks are the same. No condition. -/
import Derived.Test.YthdjckbjjfiopacGreatDoorPartA
set_option linter.unusedSimpArgs false
set_option linter.unusedVariables false
namespace Go.Proofs.YthdjckbjjfiopacGreatDoor
open Go.Sl Go.Proofs
def zvJ:Int→List Area→Int
  | e,[]=>e
  | _,a::l=>zvJ (a.fr+a.many) l
theorem zrZ (e:Int)(l:List Area)(x:Area):zvJ e (l++ [x])=x.fr+x.many:=by
  induction l generalizing e with
  | nil=>rfl
  | cons a l ih=>exact ih _
theorem ziZ (e:Int)(l:List Area)(x:Area):zsj e (l++ [x])=0 ↔ zsj e l=0∧(0≤x.fr∧1≤x.many∧x.fr+x.many≤16)∧zvJ e l<x.fr:=by
  induction l generalizing e with
  | nil=>
    simp only[List.nil_append,zsj,zvJ,true_and];split
    · constructor
      · intro h;omega
      · intro h;omega
    · split
      · constructor
        · intro h;omega
        · intro h;omega
      · constructor
        · intro h;omega
        · intro h;rfl
  | cons a l ih=>
    simp only[List.cons_append,zsj,zvJ];split
    · constructor
      · intro h;omega
      · intro h;omega
    · split
      · constructor
        · intro h;omega
        · intro h;omega
      · exact ih _
theorem zpk {l:List Area}(h:0<l.length):∃r,l=r++ [zdQ l]:=by
  refine ⟨l.dropLast,?_⟩;have hne:l≠ []:=(by intro e;subst e;simp at h);have:zdQ l=l.getLast hne:=by
    unfold zdQ;rw[List.getD_eq_getElem?_getD,List.getElem?_eq_getElem (by omega),List.getLast_eq_getElem]
    rfl
  rw[this,List.dropLast_concat_getLast]
theorem zgz (m:Nat→Bool):∀k,k≤16→zsj (-1) (zbk m k)=0∧∀p:Nat,mk (zbk m k) p=(m p && decide (p<k))
  | 0,_=>⟨rfl,fun p=>by simp[zbk,mk]⟩
  | k+1,hk=>by
    obtain ⟨h1,h2⟩:=zgz m k (by omega);obtain ⟨h3,h4⟩:=zf3 m k;simp only[zbk,zl8];generalize zbk m k=l at*;by_cases hm:m k=true
    · rw[if_pos hm];by_cases hc:0<l.length∧(zdQ l).fr+(zdQ l).many=k
      · rw[if_pos hc];obtain ⟨r,hr⟩:=zpk hc.1;generalize zdQ l=x at*;subst hr;rw[ziZ] at h1;have e:(r++ [x]).set ((r++ [x]).length - 1) ⟨x.fr,x.many+1⟩=r++ [⟨x.fr,x.many+1⟩]:=(by simp[List.set_append]);rw[e];refine ⟨(ziZ _ _ _).2 ⟨h1.1,by simp only;omega,h1.2.2⟩,fun p=>?_⟩;have hp:=h2 p;simp only[mk,List.any_append,List.any_cons,List.any_nil,Bool.or_false] at hp ⊢;by_cases hpk:p=k
        · subst hpk;have:decide (x.fr≤(p:Int)∧(p:Int)<x.fr+(x.many+1))=true:=decide_eq_true (by omega);simp[this,hm]
        · have e1:decide (x.fr≤(p:Int)∧(p:Int)<x.fr+(x.many+1))=decide (x.fr≤(p:Int)∧(p:Int)<x.fr+x.many):=decide_eq_decide.2 (by omega);have e2:decide (p<k+1)=decide (p<k):=decide_eq_decide.2 (by omega);rw[e1,e2,hp]
      · rw[if_neg hc];have hend:zvJ (-1) l<k:=by
          by_cases h0:0<l.length
          · obtain ⟨r,hr⟩:=zpk h0;have hx:=h4 (zdQ l) (List.mem_of_getElem? (zdo h0));rw[hr,zrZ];omega
          · have:l=[]:=List.length_eq_zero_iff.1 (by omega);subst this;show (-1:Int)<k;omega
        refine ⟨(ziZ _ _ _).2 ⟨h1,by simp only;omega,hend⟩,fun p=>?_⟩;have hp:=h2 p;simp only[mk,List.any_append,List.any_cons,List.any_nil,Bool.or_false] at hp ⊢;rw[hp];by_cases hpk:p=k
        · subst hpk;simp[hm];omega
        · have e1:decide ((k:Int)≤(p:Int)∧(p:Int)<(k:Int)+1)=false:=decide_eq_false (by omega);have e2:decide (p<k+1)=decide (p<k):=decide_eq_decide.2 (by omega);rw[e1,e2,Bool.or_false]
    · rw[if_neg hm];refine ⟨h1,fun p=>?_⟩;rw[h2];by_cases hpk:p=k
      · subst hpk;simp[hm]
      · have e2:decide (p<k+1)=decide (p<k):=decide_eq_decide.2 (by omega);rw[e2]
theorem zvr (m:Nat→Bool):zsj (-1) (ofM m)=0:=(zgz m 16 (Nat.le_refl _)).1
theorem ztl (m:Nat→Bool){p:Nat}(h:p<16):mk (ofM m) p=m p:=by
  rw[(zgz m 16 (Nat.le_refl _)).2 p];simp[h]
theorem zl6 (m:Nat→Bool):okV (ofM m):=(zta (zvr m)).1
theorem zqp {m n:Nat→Bool}(h:∀p,p<16→m p=n p):ofM m=ofM n:=zev h 16 (Nat.le_refl _)
theorem zuc {l:List Area}{n:Int}(h0:0≤n):zs8 l n=mk l n.toNat:=by
  simp only[zs8,mk,show (n.toNat:Int)=n by omega]
end Go.Proofs.YthdjckbjjfiopacGreatDoor
