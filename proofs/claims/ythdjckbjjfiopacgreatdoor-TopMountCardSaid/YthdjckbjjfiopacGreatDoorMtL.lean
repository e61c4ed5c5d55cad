/- Mounts, and points that are in use. Plain laws. No condition. -/
import Derived.Test.YthdjckbjjfiopacGreatDoorKpL
set_option linter.unusedSimpArgs false
set_option linter.unusedVariables false
namespace Go.Proofs.YthdjckbjjfiopacGreatDoor
open Go.Sl Go.Proofs
theorem Up.mounted {t:Nat}{D:DiskM}{z:RpM}{a r:Nat}{id:Int}(R:Up t D z)(ht:t≤90000):Up (t+1) D (z.mounted a r id):=by
  have hn1:=R.rep.rok.next;have hnx:=R.next;refine ⟨R.rep.turn (by omega) _ _ _ (by omega) (fun e he=>⟨by have:=R.rep.rok.keyS e he;omega,R.rep.rok.sesS e he⟩) (fun e he=>?_),R.up,by show z.next+1≤_;omega⟩;rcases List.mem_append.1 he with he | he
  · have:=R.rep.rok.keyM e he;omega
  · rw[List.mem_singleton] at he;subst he;show 1≤z.next∧z.next<z.next+1;omega
theorem zqe {l:List MoE}{m:MoE}(h:∀e∈l,e.key<m.key):fMo (l++ [m]) m.key=some m:=by
  have hn:fMo l m.key=none:=by
    unfold fMo;rw[List.find?_eq_none];intro e he hk;have:=h e he;simp at hk;omega
  unfold fMo at hn ⊢;rw[List.find?_append,hn];simp
theorem zuK {l:List MoE}{m m':MoE}{k:Int}(h:fMo l k=some m):fMo (l++ [m']) k=some m:=by unfold fMo at h ⊢;rw[List.find?_append,h];rfl
theorem zmf:∀{l:List MoE} {k:Int} {m m':MoE} (k2:Int),fMo l k=some m→m'.key=k→fMo (l.set (mIx l k) m') k2=if k2=k then some m' else fMo l k2
  | [],k,m,m',k2,h,hk=>by cases h
  | a::l,k,m,m',k2,h,hk=>by
    unfold fMo at h ⊢;unfold mIx;by_cases ha:a.key=k
    · rw[List.findIdx_cons,decide_eq_true ha];show List.find? _ (m'::l)=_;by_cases h2:k2=k
      · rw[if_pos h2,List.find?_cons_of_pos (by simp[hk,h2])]
      · rw[if_neg h2,List.find?_cons_of_neg (by simp[hk];exact fun e=>h2 e.symm),List.find?_cons_of_neg (by simp[ha];exact fun e=>h2 e.symm)]
    · rw[List.findIdx_cons,decide_eq_false ha];rw[List.find?_cons_of_neg (by simpa using ha)] at h;have ih:=zmf (l:=l) (m':=m') k2 h hk;unfold fMo at ih;unfold mIx at ih;show List.find? _ (a::l.set _ m')=_;by_cases h3:a.key=k2
      · rw[List.find?_cons_of_pos (by simpa using h3),List.find?_cons_of_pos (by simpa using h3),if_neg (fun e=>ha (h3.trans e))]
      · rw[List.find?_cons_of_neg (by simpa using h3),List.find?_cons_of_neg (by simpa using h3)];exact ih
theorem zvd {S:SI}{L:List Pt}{id at_:Int}(h:(rdE S L id at_).2≠0):rdE S L id at_=([],(rdE S L id at_).2):=by
  unfold rdE at h ⊢;split
  · rfl
  · rename_i p hf;rw[hf] at h;simp only at h ⊢;split
    · rfl
    · rename_i hb;rw[if_neg hb] at h;exact absurd rfl h
theorem zh3 {z:RpM}{k at_:Int}{m:MoE}(h:fMo z.mou k=some m)(ho:ovL m.over at_=none):zab z k at_=rdE z.S z.L m.point at_:=by
  unfold zab;rw[h];simp only;by_cases hr:(rdE z.S z.L m.point at_).2≠0
  · rw[if_pos hr];exact (zvd hr).symm
  · rw[if_neg hr,ho];exact Prod.ext rfl (by
        have:(rdE z.S z.L m.point at_).2=0:=(by omega);exact this.symm)
theorem zqI {z:RpM}(K:Rok z){a r a2 r2:Nat}{id:Int}:
    fMo ((z.mounted a r id).mounted a2 r2 id).mou z.next=some ⟨z.next,a,r,id,[]⟩∧fMo ((z.mounted a r id).mounted a2 r2 id).mou (z.next+1)=some ⟨z.next+1,a2,r2,id,[]⟩:=by
  have hk:=K.keyM;have h1:fMo (z.mounted a r id).mou z.next=some ⟨z.next,a,r,id,[]⟩:=zqe (m:=⟨z.next,a,r,id,[]⟩) fun e he=>(hk e he).2;refine ⟨zuK h1,?_⟩;refine zqe (m:=⟨z.next+1,a2,r2,id,[]⟩) fun e he=>?_;rcases List.mem_append.1 he with he | he
  · have:=(hk e he).2;show e.key<z.next+1;omega
  · rw[List.mem_singleton] at he;subst he;show z.next<z.next+1;omega
theorem zsF {z:RpM}{k at_:Int}{d:Bytes}(h:zaR z k at_ d=0):(zab z k at_).2=0:=by
  unfold zaR at h;split at h
  · exact h
  · omega
theorem zia {z:RpM}{k at_:Int}{d:Bytes}{m:MoE}(h:fMo z.mou k=some m):z.written k at_ d=z.moun (z.mou.set (mIx z.mou k) ⟨m.key,m.a,m.r,m.point,ovS m.over at_ d⟩):=by
  unfold RpM.written;rw[h]
theorem zkq {z:RpM}{k at_:Int}{d:Bytes}{m:MoE}(h:fMo z.mou k=some m)(hr:(rdE z.S z.L m.point at_).2=0):zab (z.written k at_ d) k at_=(d,0):=by
  obtain ⟨_,hk,_⟩:=zgS h;rw[zia h];unfold zab;have hf:fMo (z.moun (z.mou.set (mIx z.mou k) ⟨m.key,m.a,m.r,m.point,ovS m.over at_ d⟩)).mou k=some ⟨m.key,m.a,m.r,m.point,ovS m.over at_ d⟩:=by
    show fMo (z.mou.set _ _) k=_;rw[zmf (m':=⟨m.key,m.a,m.r,m.point,ovS m.over at_ d⟩) k h hk,if_pos rfl]
  rw[hf];simp only;rw[if_neg (by show ¬(rdE z.S z.L m.point at_).2≠0;omega),ovL_S,if_pos rfl]
theorem ziL {z:RpM}{k k2 at_ at2:Int}{d:Bytes}{m:MoE}(h:fMo z.mou k=some m)(hne:k2≠k):zab (z.written k at_ d) k2 at2=zab z k2 at2:=by
  obtain ⟨_,hk,_⟩:=zgS h;rw[zia h];unfold zab;have hf:fMo (z.moun (z.mou.set (mIx z.mou k) ⟨m.key,m.a,m.r,m.point,ovS m.over at_ d⟩)).mou k2=fMo z.mou k2:=by
    show fMo (z.mou.set _ _) k2=_;rw[zmf (m':=⟨m.key,m.a,m.r,m.point,ovS m.over at_ d⟩) k2 h hk,if_neg hne]
  rw[hf]
  rfl
theorem zkZ {z:RpM}{k at_:Int}{d:Bytes}:(z.written k at_ d).S=z.S∧(z.written k at_ d).L=z.L∧(z.written k at_ d).n=z.n:=by
  unfold RpM.written;split <;> exact ⟨rfl,rfl,rfl⟩
theorem Up.written {t:Nat}{D:DiskM}{z:RpM}(R:Up t D z)(k at_:Int)(d:Bytes):Up t D (z.written k at_ d):=by
  unfold RpM.written;split
  · exact R
  · rename_i m hf;obtain ⟨hy,_,_⟩:=zgS hf;refine zlm R _ fun e he=>?_;rcases zgB he with he | rfl
    · exact R.rep.rok.keyM e he
    · exact R.rep.rok.keyM m (List.mem_of_getElem? hy)
theorem Up.put {t:Nat}{D:DiskM}{z:RpM}(R:Up t D z){k at_:Int}{d:Bytes}(h:zbw z k at_ d=0)(so:Option Addr)(co:Nat):Up t D (z.putted k at_ d so co):=R.same (zgo z k at_ d so co) (R.rep.rok.put h)
end Go.Proofs.YthdjckbjjfiopacGreatDoor
