/- What differs between snapshots is reported: plain laws. No condition. -/
import Derived.Test.YthdjckbjjfiopadGreatDoorFoldLaw
set_option linter.unusedSimpArgs false
set_option linter.unusedVariables false
namespace Go.Proofs.YthdjckbjjfiopadGreatDoor
open Go.Sl Go.Proofs
theorem zpX {s t u:SnapM}{m k:Nat→Bool}(h1:cov s t m)(h2:cov t u k):cov s u (orM m k):=fun p hp hm=>by
  unfold orM at hm;simp at hm;have a1:=h1 p hp hm.1;have a2:=h2 p hp hm.2;exact ⟨a1.1.trans a2.1,fun hl=>(a1.2 hl).trans (a2.2 (a1.1.1 hl))⟩
theorem zl5 {D:VdM}(hi:inv D.snaps):∀(c i:Nat) (s t:SnapM),D.snaps[i]? =some s→D.snaps[i+c]? =some t→s.time=t.time→cov s t (chM D i c)
  | 0,i,s,t,hs,ht,_=>by
    rw[Nat.add_zero,hs] at ht;injection ht with ht;subst ht;exact fun p _ _=>⟨Iff.rfl,fun _=>rfl⟩
  | c+1,i,s,t,hs,ht,e=>by
    obtain ⟨u,hu⟩:∃u,D.snaps[i+c]? =some u:=⟨_,List.getElem?_eq_getElem (by have:=(List.getElem?_eq_some_iff.1 ht).1;omega)⟩;have h1:=(zlW hi c i s u hs hu).1;have h2:=hi (i+c) u t hu ht;have e1:s.time=u.time:=(by have:=h2.2.1;omega);have ih:=zl5 hi c i s u hs hu e1;have h3:=h2.2.2 (by omega);have:(zah D (i+1+c)).dirty=t.dirty:=(by rw[yI (by rw[show i+1+c=i+(c+1) by omega];exact ht)]);show cov s t (orM (chM D i c) (zah D (i+1+c)).dirty);rw[this];exact zpX ih h3
theorem zuL {D:VdM}{a n:Int}{i:Nat}{s:SnapM}(hf:wm D.snaps a=(i:Int))(hs:D.snaps[i]? =some s):rdS D a n=if n<0∨s.size≤n then ([],0,1) else (s.blocks n.toNat,s.size,0):=by
  have c1:¬(((i:Nat):Int)<0):=(by omega);unfold rdS;rw[hf,Int.toNat_natCast,yI hs,if_neg c1]
theorem zmN {D:VdM}{a b:Int}{i k:Nat}{s t:SnapM}(h1:wm D.snaps a=(i:Int))(h2:D.snaps[i]? =some s)(k1:wm D.snaps b=(k:Int))(k2:D.snaps[k]? =some t){p:Nat}(hsz:((p:Int)<s.size ↔ (p:Int)<t.size)∧((p:Int)<s.size→s.blocks p=t.blocks p)):zr0 D a b p=false:=by
  have e:rdS D a p=if (p:Int)<s.size then (s.blocks p,s.size,0) else ([],0,1):=by
    rw[zuL h1 h2];by_cases h:(p:Int)<s.size
    · rw[if_pos h,if_neg (by omega),Int.toNat_natCast]
    · rw[if_neg h,if_pos (by omega)]
  have e':rdS D b p=if (p:Int)<t.size then (t.blocks p,t.size,0) else ([],0,1):=by
    rw[zuL k1 k2];by_cases h:(p:Int)<t.size
    · rw[if_pos h,if_neg (by omega),Int.toNat_natCast]
    · rw[if_neg h,if_pos (by omega)]
  unfold zr0;rw[e,e'];by_cases h:(p:Int)<s.size
  · rw[if_pos h,if_pos (hsz.1.1 h),hsz.2 h];simp
  · rw[if_neg h,if_neg (fun hh=>h (hsz.1.2 hh))];simp
theorem zsp (D:VdM)(a b n:Int):zr0 D a b n=zr0 D b a n:=by
  unfold zr0;rw[show decide ((rdS D a n).1=(rdS D b n).1)=decide ((rdS D b n).1=(rdS D a n).1) from decide_eq_decide.2 eq_comm,show decide (decide ((rdS D a n).2.2=0)=decide ((rdS D b n).2.2=0))=decide (decide ((rdS D b n).2.2=0)=decide ((rdS D a n).2.2=0)) from decide_eq_decide.2 eq_comm]
theorem cover {D:VdM}(hi:iok D){a b:Int}(h:chE D a b=0){p:Nat}(hp:p<16)(hu:zr0 D a b p=true):zrM (chA D a b) (p:Int)=true:=by
  have hb:¬(wm D.snaps a<0∨wm D.snaps b<0):=fun hh=>by
    unfold chE at h;rw[if_pos hh] at h;cases h
  obtain ⟨i,s,h1,h2,_,h3⟩:=zaJ (fun hh=>hb (.inl hh));obtain ⟨k,t,k1,k2,_,k3⟩:=zaJ (fun hh=>hb (.inr hh));have hA:chA D a b=ofM (chM D (zjk D a b) (zlu D a b - zjk D a b)):=(by unfold chA;rw[if_pos h]);rw[hA];have hh:∀m:Nat→Bool,zrM (ofM m) (p:Int)=m p:=fun m=>(by rw[←zg2 m hp];rfl);rw[hh];have hte:(zah D (zjk D a b)).time=(zah D (zlu D a b)).time:=by
    unfold chE at h;rw[if_neg hb] at h;exact Decidable.byContradiction fun hne=>by rw[if_pos hne] at h;cases h
  have hinv:=zqv hi;refine Decidable.byContradiction fun hno=>?_;have hno':chM D (zjk D a b) (zlu D a b - zjk D a b) p=false:=(by simpa using hno);rcases Nat.lt_or_ge i k with hik | hik
  · have e1:zjk D a b=i:=(by unfold zjk;rw[h1,k1,if_neg (by omega)];simp);have e2:zlu D a b=k:=(by unfold zlu;rw[h1,k1,if_pos (by omega)];simp);rw[e1,e2] at hno' hte;rw[yI h2,yI k2] at hte;have:=zl5 hinv (k - i) i s t h2 (by rw[show i+(k - i)=k by omega];exact k2) hte p hp hno';rw[zmN h1 h2 k1 k2 this] at hu;cases hu
  · have e1:zjk D a b=k:=by
      unfold zjk;rw[h1,k1];by_cases hc:k<i
      · rw[if_pos (by omega)];simp
      · rw[if_neg (by omega)];simp;omega
    have e2:zlu D a b=i:=(by unfold zlu;rw[h1,k1,if_neg (by omega)];simp);rw[e1,e2] at hno' hte;rw[yI h2,yI k2] at hte;have:=zl5 hinv (i - k) k t s k2 (by rw[show k+(i - k)=i by omega];exact h2) hte p hp hno';rw[zsp,zmN k1 k2 h1 h2 this] at hu;cases hu
theorem zw7 (D:VdM)(x y:Int):okV (chA D x y)∧zrK (-1) (chA D x y)=0∧okA (chA D x y):=by
  unfold chA;split
  · exact ⟨zbR _,zri _,zu0 _⟩
  · exact ⟨by simp[okV],rfl,by simp[okA]⟩
theorem ztK (D:VdM)(x y:Int):(chA D x y).length≤1000000:=by unfold chA;split;exact zb8 _;simp
end Go.Proofs.YthdjckbjjfiopadGreatDoor
