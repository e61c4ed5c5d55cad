/- Mounts, and points that are in use. Plain laws. No condition. -/
import Derived.Test.YthdjckbjjfiopacGreatDoorKpL
set_option linter.unusedSimpArgs false
set_option linter.unusedVariables false
namespace Go.Proofs.YthdjckbjjfiopacGreatDoor
open Go.Sl Go.Proofs
theorem Up.mounted {t:Nat}{D:DiskM}{z:RpM}{a r:Nat}{id:Int}(R:Up t D z)(ht:t≤90000):Up (t+1) D (z.mounted a r id):=by
  have hn1:=R.rep.rok.next;have hnx:=R.next;refine ⟨R.rep.turn (by omega) _ _ _ (by omega) (fun e he=>⟨by have:=R.rep.rok.keyS e he;omega,R.rep.rok.sesS e he⟩) (fun e he=>?_),R.up,by show z.next+1≤_;omega⟩;rcases List.mem_append.1 he with he | he
  · have:=R.rep.rok.keyM e he;omega
  · rw[List.mem_singleton] at he;subst he;show 1≤z.next∧z.next<z.next+1;omega
theorem Up.unmount {t:Nat}{D:DiskM}{z:RpM}(R:Up t D z)(id:Int):Up t D (z.moun (dMo z.mou id)):=ziW R _ fun e he=>R.rep.rok.keyM e (List.mem_filter.1 he).1
theorem ztU {l:List MoE}{m:MoE}(h:∀e∈l,e.key<m.key):fMo (l++ [m]) m.key=some m:=by
  have hn:fMo l m.key=none:=by
    unfold fMo;rw[List.find?_eq_none];intro e he hk;have:=h e he;simp at hk;omega
  unfold fMo at hn ⊢;rw[List.find?_append,hn];simp
theorem zuw {l:List SeE}{m:SeE}(h:∀e∈l,e.key<m.key):fSe (l++ [m]) m.key=some m:=by
  have hn:fSe l m.key=none:=by
    unfold fSe;rw[List.find?_eq_none];intro e he hk;have:=h e he;simp at hk;omega
  unfold fSe at hn ⊢;rw[List.find?_append,hn];simp
theorem Up.written {t:Nat}{D:DiskM}{z:RpM}(R:Up t D z)(k at_:Int)(d:Bytes):Up t D (z.written k at_ d):=by
  unfold RpM.written;split
  · exact R
  · rename_i m hf;obtain ⟨hy,_,_⟩:=zkm hf;refine ziW R _ fun e he=>?_;rcases zg2 he with he | rfl
    · exact R.rep.rok.keyM e he
    · exact R.rep.rok.keyM m (List.mem_of_getElem? hy)
theorem zjY {D D2:DiskM}{z z2:RpM}{id e:Int}(hf:(yc z.L id).isSome=true)(hu:zaQ z id=true)(k:zdR D z id e D2 z2):e=6∧D2=D∧z2=z:=by
  have hd:zbW z id=6:=by
    unfold zbW;rw[if_neg (by rw[Option.isNone_iff_eq_none];intro hn;rw[hn] at hf;cases hf),if_pos hu]
  unfold zdR at k;rw[if_pos (by omega),hd] at k;exact k
theorem zpo {D D2:DiskM}{z z2:RpM}{id e:Int}(hf:yc z.L id=none)(k:zdR D z id e D2 z2):e=5∧D2=D∧z2=z:=by
  have hd:zbW z id=5:=by
    unfold zbW;rw[if_pos (by rw[hf];rfl)]
  unfold zdR at k;rw[if_pos (by omega),hd] at k;exact k
theorem zm9 {t:Nat}{D D2:DiskM}{z z2:RpM}{id e:Int}(R:Up t D z)(ht:t≤90000)(hf:(yc z.L id).isSome=true)(k:zdR D z id e D2 z2):e=0∨e=6:=by
  rcases zeD R.rep (by omega) k with ⟨h,_⟩ | ⟨_,_,h,_⟩ | ⟨_,hn,_⟩
  · exact .inl h
  · unfold zbW at h;rw[if_neg (by rw[Option.isNone_iff_eq_none];intro hn;rw[hn] at hf;cases hf)] at h;split at h
    · exact .inr h
    · exact .inl h
  · exact absurd R.up hn
theorem znX {z:RpM}{a:Nat}{id disk size:Int}:zaQ (z.begun a id disk size) id=true:=by
  unfold zaQ;rw[Bool.or_eq_true];refine .inl (List.any_eq_true.2 ⟨_,List.mem_append.2 (.inr (List.mem_singleton.2 rfl)),by simp⟩)
theorem zks {z:RpM}{a r:Nat}{id:Int}:zaQ (z.mounted a r id) id=true:=by
  unfold zaQ;rw[Bool.or_eq_true];refine .inr (List.any_eq_true.2 ⟨_,List.mem_append.2 (.inr (List.mem_singleton.2 rfl)),by simp⟩)
theorem zjP {L:List Pt}{gone:List Int}{id:Int}(hf:(yc L id).isSome=true)(hg:id ∉ gone):(yc (L.filter fun p=>!decide (p.id∈gone)) id).isSome=true:=by
  obtain ⟨p,hp,e⟩:=find_is.1 hf;exact find_is.2 ⟨p,List.mem_filter.2 ⟨hp,by rw[e];simpa using hg⟩,e⟩
theorem Up.put {t:Nat}{D:DiskM}{z:RpM}(R:Up t D z){k at_:Int}{d:Bytes}(h:zbz z k at_ d=0)(so:Option Addr)(co:Nat):Up t D (z.putted k at_ d so co):=R.same (zgq z k at_ d so co) (R.rep.rok.put h)
end Go.Proofs.YthdjckbjjfiopacGreatDoor
