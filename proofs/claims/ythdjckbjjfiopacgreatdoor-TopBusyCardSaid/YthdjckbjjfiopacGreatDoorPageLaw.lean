/- Plain laws of pages of marks. No condition. -/
import Derived.Test.YthdjckbjjfiopacGreatDoorAreaLaw
import Derived.Test.YthdjckbjjfiopacGreatDoorPartA
set_option linter.unusedSimpArgs false
set_option linter.unusedVariables false
namespace Go.Proofs.YthdjckbjjfiopacGreatDoor
open Go.Sl Go.Proofs
theorem zfY {m n:Nat→Bool}:∀{k:Nat},(∀p,p<k→m p=n p)→cM m k=cM n k
  | 0,_=>rfl
  | k+1,h=>by simp only[cM,zfY (k:=k) (fun p hp=>h p (by omega)),h k (by omega)]
theorem zle {m:Nat→Bool}:∀{k:Nat},(∀p,p<k→m p=false)→cM m k=0
  | 0,_=>rfl
  | k+1,h=>by simp[cM,zle (k:=k) (fun p hp=>h p (by omega)),h k (by omega)]
def wnM (m:Nat→Bool)(f t:Int)(p:Nat):Bool:=m p && (decide (f≤p) && decide ((p:Int)<t))
theorem zpk {m:Nat→Bool}{f:Int}{k:Nat}(j:Nat):cM (wnM m f k) (k+j)=cM (wnM m f k) k:=by
  induction j with
  | zero=>rfl
  | succ j ih=>rw[←Nat.add_assoc,cM,ih];simp[wnM];intros;omega
theorem ztJ {m:Nat→Bool}{f:Int}{k:Nat}(h:k<16):cM (wnM m f (k+1:Nat)) 16=cM (wnM m f k) 16+if m k=true∧f≤k then 1 else 0:=by
  have e1:cM (wnM m f (k+1:Nat)) 16=cM (wnM m f (k+1:Nat)) (k+1):=by
    have:=zpk (m:=m) (f:=f) (k:=k+1) (15 - k);rwa [show k+1+(15 - k)=16 by omega] at this
  have e2:cM (wnM m f k) 16=cM (wnM m f k) k:=by
    have:=zpk (m:=m) (f:=f) (k:=k) (16 - k);rwa [show k+(16 - k)=16 by omega] at this
  rw[e1,e2,cM,zfY (m:=wnM m f (k+1:Nat)) (n:=wnM m f k)]
  · congr 1;simp only[wnM];by_cases h1:m k=true <;> by_cases h2:f≤(k:Int) <;> simp[h1,h2] <;> omega
  · intro p hp;simp only[wnM];rw[decide_eq_true (show (p:Int)<((k+1:Nat):Int) by omega),decide_eq_true (show (p:Int)<(k:Int) by omega)]
def ztu (m:Nat→Bool)(f many:Int)(r:(Nat→Bool)×Int):Prop:=
  (r.2= -1∧(∀p,p<16→r.1 p=wnM m f 16 p)∧cM r.1 16≤many)∨(f<r.2∧r.2<16∧(∀p,p<16→r.1 p=wnM m f r.2 p)∧cM r.1 16=many)
theorem zuG (m:Nat→Bool)(f many:Int)(hf:0≤f)(h1:1≤many):∀(r k:Nat) (out:Nat→Bool) (n:Nat),r+k=16→(∀p,p<16→out p=wnM m f k p)→n=cM out 16→(n:Int)≤many→ztu m f many (pg m f many r k out n)
  | 0,k,out,n,hr,ho,hn,hm=>by
    obtain rfl:k=16:=(by omega);exact .inl ⟨rfl,ho,by show (cM out 16:Int)≤many;omega⟩
  | r+1,k,out,n,hr,ho,hn,hm=>by
    have hk:k<16:=(by omega);unfold pg;have hcs:cM out 16=cM (wnM m f k) 16:=zfY ho;by_cases hc:(!m k || decide ((k:Int)<f))=true
    · rw[if_pos hc];refine zuG m f many hf h1 r (k+1) out n (by omega) (fun p hp=>?_) hn hm;rw[ho p hp];simp only[wnM];by_cases hpk:p=k
      · subst hpk;simp at hc;rcases hc with hc | hc
        · simp[hc]
        · simp;intro _ h;omega
      · rw[decide_eq_decide.2 (show (p:Int)<k ↔ (p:Int)<((k+1:Nat):Int) by omega)]
    · rw[if_neg hc];simp at hc;by_cases hnm:(n:Int)=many
      · rw[if_pos hnm];refine .inr ⟨?_,by simp only;omega,ho,by show (cM out 16:Int)=many;omega⟩;by_cases hfk:f<k
        · exact hfk
        · exfalso;have:cM out 16=0:=zle fun p hp=>by
            rw[ho p hp];simp[wnM];intro _ h;omega
          omega
      · rw[if_neg hnm];have key:∀p,p<16→(if p=k then true else out p)=wnM m f (k+1:Nat) p:=fun p hp=>by
          by_cases hpk:p=k
          · subst hpk;rw[if_pos rfl];simp[wnM,hc];omega
          · rw[if_neg hpk,ho p hp];simp only[wnM];rw[decide_eq_decide.2 (show (p:Int)<k ↔ (p:Int)<((k+1:Nat):Int) by omega)]
        refine zuG m f many hf h1 r (k+1) (fun i=>if i=k then true else out i) (n+1) (by omega) key ?_ (by omega);rw[zfY key,ztJ hk,if_pos (by simp[hc]),hn,hcs]
theorem zu8 (m:Nat→Bool){f many:Int}(hf:0≤f)(h1:1≤many):ztu m f many (zd6 m f many):=
  zuG m f many hf h1 16 0 (fun _=>false) 0 rfl (fun p hp=>by simp[wnM]) (by rw[zle (by simp)]) (by omega)
end Go.Proofs.YthdjckbjjfiopacGreatDoor
