/- Walks through package carrier: sending. No condition but the library's tables. -/
import Derived.Test.YthdjckbjjfiopacGreatDoorRp9
import Derived.Test.YthdjckbjjfiopacGreatDoorVd4
import Derived.Test.YthdjckbjjfiopacGreatDoorPageLaw
set_option linter.unusedSimpArgs false
set_option linter.unusedVariables false
namespace Go.Proofs.YthdjckbjjfiopacGreatDoor
open Go.Sl Go.Proofs
def zcc (V:VdM)(snap sess:Int):List Nat→RpM→Int→RpM→Prop
  | [],z,e,z2=>e=0∧z2=z
  | p::l,z,e,z2=>if (rdS V snap p).2.2≠0 then e=(rdS V snap p).2.2∧z2=z else if zbz z sess p (rdS V snap p).1≠0 then e=zbz z sess p (rdS V snap p).1∧z2=z else ∃so co,zcc V snap sess l (z.putted sess p (rdS V snap p).1 so co) e z2
def zek (m:Nat→Bool)(f:Nat):List Nat:=(List.range' f (16 - f)).filter m
theorem zkq {m:Nat→Bool}{k:Nat}(h:k<16):zek m k=if m k=true then k::zek m (k+1) else zek m (k+1):=by
  unfold zek;rw[show 16 - k=(16 - (k+1))+1 by omega,List.range'_succ,List.filter_cons]
theorem zm7 {m:Nat→Bool}{k:Nat}(h:16≤k):zek m k=[]:=by
  unfold zek;rw[show 16 - k=0 by omega]
  rfl
theorem zkl {m q:Nat→Bool}{f t:Nat}(hft:f≤t)(ht:t≤16)(hq:∀p,p<16→q p=wnM m f t p):zek q 0++zek m t=zek m f:=by
  unfold zek;have e1:List.range' 0 (16 - 0)=List.range' 0 f++(List.range' f (t - f)++List.range' t (16 - t)):=by
    rw[show List.range' f (t - f)++List.range' t (16 - t)=List.range' f (16 - f) by
      have:=List.range'_append_1 (s:=f) (m:=t - f) (n:=16 - t);rw[show f+(t - f)=t by omega,show t - f+(16 - t)=16 - f by omega] at this;exact this]
    have:=List.range'_append_1 (s:=0) (m:=f) (n:=16 - f);rw[show 0+f=f by omega,show f+(16 - f)=16 by omega] at this;exact this.symm
  have e2:List.range' f (16 - f)=List.range' f (t - f)++List.range' t (16 - t):=by
    have:=List.range'_append_1 (s:=f) (m:=t - f) (n:=16 - t);rw[show f+(t - f)=t by omega,show t - f+(16 - t)=16 - f by omega] at this;exact this.symm
  rw[e1,e2,List.filter_append,List.filter_append,List.filter_append];have a1:(List.range' 0 f).filter q=[]:=List.filter_eq_nil_iff.2 fun p hp=>by
    rw[List.mem_range'_1] at hp;rw[hq p (by omega)];simp[wnM];omega
  have a2:(List.range' t (16 - t)).filter q=[]:=List.filter_eq_nil_iff.2 fun p hp=>by
    rw[List.mem_range'_1] at hp;rw[hq p (by omega)];simp[wnM];omega
  have a3:(List.range' f (t - f)).filter q=(List.range' f (t - f)).filter m:=List.filter_congr fun p hp=>by
    rw[List.mem_range'_1] at hp;rw[hq p (by omega)];simp[wnM];omega
  rw[a1,a2,a3];simp
theorem Rok.put {z:RpM}{id at_:Int}{d:Bytes}{so:Option Addr}{co:Nat}(R:Rok z)(hp:zbz z id at_ d=0):Rok (z.putted id at_ d so co):=by
  unfold RpM.putted;unfold zbz at hp;cases hf:fSe z.ses id with
  | none=>exact R
  | some y=>
    rw[hf] at hp;simp only at hp ⊢;obtain ⟨hy,_,_⟩:=zka hf;have hym:=List.mem_of_getElem? hy;have h1:¬(at_<0∨y.size≤at_):=fun h=>(by rw[if_pos h] at hp;cases hp);rw[if_neg h1] at hp;have h2:¬6<d.length:=fun h=>(by rw[if_pos h] at hp;cases hp);refine ⟨R.con,R.next,fun e he=>?_,R.keyM,fun e he=>?_⟩
    · rcases zg2 he with he | rfl
      · exact R.keyS e he
      · exact R.keyS y hym
    · rcases zg2 he with he | rfl
      · exact R.sesS e he
      · exact zs4 (R.sesS y hym) h1 h2
end Go.Proofs.YthdjckbjjfiopacGreatDoor
