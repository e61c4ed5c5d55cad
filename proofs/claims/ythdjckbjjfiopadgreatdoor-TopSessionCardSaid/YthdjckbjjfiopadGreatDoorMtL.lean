/- Mounts, and points that are in use. Plain laws. No condition. -/
import Derived.Test.YthdjckbjjfiopadGreatDoorKpL
set_option linter.unusedSimpArgs false
set_option linter.unusedVariables false
namespace Go.Proofs.YthdjckbjjfiopadGreatDoor
open Go.Sl Go.Proofs
theorem Up.mounted {t:Nat}{D:DiskM}{z:RpM}{a r:Nat}{id:Int}(R:Up t D z)(ht:t≤90000):Up (t+1) D (z.mounted a r id):=by
  have hn1:=R.rep.rok.next;have hnx:=R.next;refine ⟨R.rep.turn (by omega) _ _ _ (by omega) (fun e he=>⟨by have:=R.rep.rok.keyS e he;omega,R.rep.rok.sesS e he⟩) (fun e he=>?_),R.up,by show z.next+1≤_;omega⟩;rcases List.mem_append.1 he with he | he
  · have:=R.rep.rok.keyM e he;omega
  · rw[List.mem_singleton] at he;subst he;show 1≤z.next∧z.next<z.next+1;omega
theorem zuP {l:List SeE}{m:SeE}(h:∀e∈l,e.key<m.key):fSe (l++ [m]) m.key=some m:=by
  have hn:fSe l m.key=none:=by
    unfold fSe;rw[List.find?_eq_none];intro e he hk;have:=h e he;simp at hk;omega
  unfold fSe at hn ⊢;rw[List.find?_append,hn];simp
theorem Up.written {t:Nat}{D:DiskM}{z:RpM}(R:Up t D z)(k at_:Int)(d:Bytes):Up t D (z.written k at_ d):=by
  unfold RpM.written;split
  · exact R
  · rename_i m hf;obtain ⟨hy,_,_⟩:=zjW hf;refine zmd R _ fun e he=>?_;rcases zgL he with he | rfl
    · exact R.rep.rok.keyM e he
    · exact R.rep.rok.keyM m (List.mem_of_getElem? hy)
theorem zj5 {at_:Int}{i:Nat}(h:at_≠(i:Int)):∀(l:List PutM) (d:Bytes),zbZ (l.filter fun x=>!decide (x.at_=at_)) i d=zbZ l i d
  | [],d=>rfl
  | p::l,d=>by
    have ih:=zj5 h l;unfold zbZ at ih ⊢;by_cases hp:p.at_=at_
    · rw[List.filter_cons_of_neg (by simp[hp]),List.foldl_cons,if_neg (by omega)];exact ih d
    · rw[List.filter_cons_of_pos (by simp[hp]),List.foldl_cons,List.foldl_cons];exact ih _
theorem zn7 (l:List PutM)(at_:Int)(x d:Bytes)(i:Nat):zbZ (ze5 l at_ x) i d=if at_=(i:Int) then x else zbZ l i d:=by
  unfold ze5;by_cases h:at_=(i:Int)
  · rw[if_pos h];unfold zbZ;rw[List.foldl_append];simp only[List.foldl_cons,List.foldl_nil];rw[if_pos h]
  · rw[if_neg h,←zj5 h l d];unfold zbZ;rw[List.foldl_append];simp only[List.foldl_cons,List.foldl_nil];rw[if_neg h]
theorem zp5:∀{l:List SeE} {k:Int} {m m':SeE},fSe l k=some m→m'.key=k→fSe (l.set (sIx l k) m') k=some m'
  | [],k,m,m',h,hk=>by cases h
  | a::l,k,m,m',h,hk=>by
    unfold fSe at h ⊢;unfold sIx;by_cases ha:a.key=k
    · rw[List.findIdx_cons,decide_eq_true ha];show List.find? _ (m'::l)=_;rw[List.find?_cons_of_pos (by simp[hk])]
    · rw[List.findIdx_cons,decide_eq_false ha];rw[List.find?_cons_of_neg (by simpa using ha)] at h;have ih:=zp5 (l:=l) (m':=m') h hk;unfold fSe at ih;unfold sIx at ih;show List.find? _ (a::l.set _ m')=_;rw[List.find?_cons_of_neg (by simpa using ha)];exact ih
theorem zqL {z:RpM}{k at_:Int}{d:Bytes}{so:Option Addr}{co:Nat}{e:SeE}(h:fSe z.ses k=some e):z.putted k at_ d so co=z.sess (z.ses.set (sIx z.ses k) ⟨e.key,e.a,so,co,e.base,e.disk,e.size,ze5 e.puts at_ d⟩):=by
  unfold RpM.putted;rw[h]
theorem zlD {z:RpM}{k at_:Int}{d:Bytes}{so:Option Addr}{co:Nat}{e:SeE}(h:fSe z.ses k=some e):fSe (z.putted k at_ d so co).ses k=some ⟨e.key,e.a,so,co,e.base,e.disk,e.size,ze5 e.puts at_ d⟩:=by
  rw[zqL h];exact zp5 h (zio h).2.1
theorem Up.put {t:Nat}{D:DiskM}{z:RpM}(R:Up t D z){k at_:Int}{d:Bytes}(h:zaY z k at_ d=0)(so:Option Addr)(co:Nat):Up t D (z.putted k at_ d so co):=R.same (zec z k at_ d so co) (R.rep.rok.put h)
theorem zu5 {z:RpM}{k at_:Int}{d:Bytes}{e:SeE}(h:fSe z.ses k=some e)(hp:zaY z k at_ d=0):0≤at_∧at_<e.size:=by
  unfold zaY at hp;rw[h] at hp;simp only at hp;split at hp
  · cases hp
  · omega
theorem zsn {l:List SeE}{k:Int}:fSe (dSe l k) k=none:=by
  unfold fSe dSe;rw[List.find?_eq_none];intro e he;have:=(List.mem_filter.1 he).2;simpa using this
end Go.Proofs.YthdjckbjjfiopadGreatDoor
