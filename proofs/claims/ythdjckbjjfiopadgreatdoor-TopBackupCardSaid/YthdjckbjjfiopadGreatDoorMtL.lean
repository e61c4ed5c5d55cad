/- Mounts, and points that are in use. Plain laws. No condition. -/
import Derived.Test.YthdjckbjjfiopadGreatDoorKpL
set_option linter.unusedSimpArgs false
set_option linter.unusedVariables false
namespace Go.Proofs.YthdjckbjjfiopadGreatDoor
open Go.Sl Go.Proofs
theorem zuO {l:List SeE}{m:SeE}(h:∀e∈l,e.key<m.key):fSe (l++ [m]) m.key=some m:=by
  have hn:fSe l m.key=none:=by
    unfold fSe;rw[List.find?_eq_none];intro e he hk;have:=h e he;simp at hk;omega
  unfold fSe at hn ⊢;rw[List.find?_append,hn];simp
theorem zki {at_:Int}{i:Nat}(h:at_≠(i:Int)):∀(l:List PutM) (d:Bytes),zcW (l.filter fun x=>!decide (x.at_=at_)) i d=zcW l i d
  | [],d=>rfl
  | p::l,d=>by
    have ih:=zki h l;unfold zcW at ih ⊢;by_cases hp:p.at_=at_
    · rw[List.filter_cons_of_neg (by simp[hp]),List.foldl_cons,if_neg (by omega)];exact ih d
    · rw[List.filter_cons_of_pos (by simp[hp]),List.foldl_cons,List.foldl_cons];exact ih _
theorem zos (l:List PutM)(at_:Int)(x d:Bytes)(i:Nat):zcW (zfF l at_ x) i d=if at_=(i:Int) then x else zcW l i d:=by
  unfold zfF;by_cases h:at_=(i:Int)
  · rw[if_pos h];unfold zcW;rw[List.foldl_append];simp only[List.foldl_cons,List.foldl_nil];rw[if_pos h]
  · rw[if_neg h,←zki h l d];unfold zcW;rw[List.foldl_append];simp only[List.foldl_cons,List.foldl_nil];rw[if_neg h]
theorem zp7:∀{l:List SeE} {k:Int} {m m':SeE},fSe l k=some m→m'.key=k→fSe (l.set (sIx l k) m') k=some m'
  | [],k,m,m',h,hk=>by cases h
  | a::l,k,m,m',h,hk=>by
    unfold fSe at h ⊢;unfold sIx;by_cases ha:a.key=k
    · rw[List.findIdx_cons,decide_eq_true ha];show List.find? _ (m'::l)=_;rw[List.find?_cons_of_pos (by simp[hk])]
    · rw[List.findIdx_cons,decide_eq_false ha];rw[List.find?_cons_of_neg (by simpa using ha)] at h;have ih:=zp7 (l:=l) (m':=m') h hk;unfold fSe at ih;unfold sIx at ih;show List.find? _ (a::l.set _ m')=_;rw[List.find?_cons_of_neg (by simpa using ha)];exact ih
theorem zpo {z:RpM}{k at_:Int}{d:Bytes}{so:Option Addr}{co:Nat}{e:SeE}(h:fSe z.ses k=some e):z.putted k at_ d so co=z.sess (z.ses.set (sIx z.ses k) ⟨e.key,e.a,so,co,e.base,e.disk,e.size,zfF e.puts at_ d⟩):=by
  unfold RpM.putted;rw[h]
theorem zlI {z:RpM}{k at_:Int}{d:Bytes}{so:Option Addr}{co:Nat}{e:SeE}(h:fSe z.ses k=some e):fSe (z.putted k at_ d so co).ses k=some ⟨e.key,e.a,so,co,e.base,e.disk,e.size,zfF e.puts at_ d⟩:=by
  rw[zpo h];exact zp7 h (zlf h).2.1
theorem Up.put {t:Nat}{D:DiskM}{z:RpM}(R:Up t D z){k at_:Int}{d:Bytes}(h:zcc z k at_ d=0)(so:Option Addr)(co:Nat):Up t D (z.putted k at_ d so co):=R.same (zgW z k at_ d so co) (R.rep.rok.put h)
end Go.Proofs.YthdjckbjjfiopadGreatDoor
