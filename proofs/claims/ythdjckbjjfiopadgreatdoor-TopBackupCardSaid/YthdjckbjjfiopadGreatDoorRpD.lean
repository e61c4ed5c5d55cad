/- What an act leaves of a repo's state. Plain laws. No condition. -/
import Derived.Test.YthdjckbjjfiopadGreatDoorRp8
set_option linter.unusedSimpArgs false
set_option linter.unusedVariables false
namespace Go.Proofs.YthdjckbjjfiopadGreatDoor
open Go.Sl Go.Proofs
theorem Rep.le {t t':Nat}{D:DiskM}{z:RpM}(R:Rep t D z)(h:t≤t'):Rep t' D z:=⟨R.ok,R.s80,R.cal,by have:=R.ep;omega,by have:=R.first;omega,R.rows,R.rok⟩
theorem zxt {e:SeE}{at_:Int}{d:Bytes}{so:Option Addr}{co:Nat}(h:SOk e)(ha:¬(at_<0∨e.size≤at_))(hd:¬6<d.length):SOk ⟨e.key,e.a,so,co,e.base,e.disk,e.size,zfF e.puts at_ d⟩:=by
  refine ⟨h.size,?_,fun p hp=>?_⟩
  · show ((zfF e.puts at_ d).map (·.at_)).Nodup;unfold zfF;rw[List.map_append,List.nodup_append];refine ⟨List.Nodup.sublist (List.Sublist.map _ List.filter_sublist) h.nodup,by simp,fun a ha b hb=>?_⟩;obtain ⟨p,hp,rfl⟩:=List.mem_map.1 ha;have h1:=(List.mem_filter.1 hp).2;simp at h1 hb;rw[hb];exact h1
  · have hp:p∈zfF e.puts at_ d:=hp;unfold zfF at hp;rcases List.mem_append.1 hp with hp | hp
    · exact h.rng p (List.mem_filter.1 hp).1
    · rw[List.mem_singleton] at hp;subst hp;exact ⟨by show 0≤at_∧at_<e.size;omega,by show d.length≤6;omega⟩
theorem Rep.turn {t t':Nat}{D:DiskM}{z:RpM}(R:Rep t D z)(h:t≤t')(ses:List SeE)(mou:List MoE)(next:Int)(hn:1≤next∧next≤1000000)(hs:∀e∈ses,(1≤e.key∧e.key<next)∧SOk e)(hm:∀e∈mou,1≤e.key∧e.key<next):Rep t' D ⟨z.h,z.used,z.rows,z.S,z.L,z.n,ses,mou,next⟩:=
  ⟨R.ok,R.s80,R.cal,by have:=R.ep;show z.h.ep≤_;omega,by have:=R.first;show z.h.first≤_;omega,R.rows,⟨R.rok.con,hn,fun e he=>(hs e he).1,hm,fun e he=>(hs e he).2⟩⟩
theorem zpU {α:Type}{l:List α}{i:Nat}{a x:α}(h:x∈l.set i a):x∈l∨x=a:=List.mem_or_eq_of_mem_set h
theorem zv1 {S:SI}{L:List Pt}{n base disk size:Int}{puts:List PutM}{G:Gh}{S':SI}{L':List Pt}{n' r:Int}(h:Vok S L n G)(e:zgc S L n base disk size puts= .ok (S',L',n',r)):∀p∈L,p∈L':=fun p hp=>by
  obtain ⟨_,_,_,_,e1,_⟩:=zhw h e;rw[e1];exact List.mem_append_left _ hp
theorem zwj {S:SI}{L:List Pt}{n id:Int}{G:Gh}{S':SI}{L':List Pt}{n' r:Int}(h:Vok S L n G)(e:ziI S L n id= .ok (S',L',n',r)):∀p∈L,p∈L':=fun p hp=>by
  obtain ⟨_,_,_,_,_,e1,_⟩:=ziU h e;rw[e1];exact List.mem_append_left _ hp
structure Up (t:Nat) (D:DiskM) (z:RpM):Prop where
  rep:Rep t D z
  up:upW D
  next:z.next≤1+t
theorem Up.le {t t':Nat}{D:DiskM}{z:RpM}(R:Up t D z)(h:t≤t'):Up t' D z:=⟨R.rep.le h,R.up,by have:=R.next;omega⟩
theorem Up.drop {t:Nat}{D D2:DiskM}{z z2:RpM}{id e:Int}(R:Up t D z)(ht:t≤90000)(k:zf4 D z id e D2 z2):Up (t+1) D2 z2:=by
  rcases zcp R.rep (by omega) k with ⟨_,h1,h2,_,_,_,_,h3⟩ | ⟨_,_,_,rfl,rfl⟩ | ⟨_,h,_⟩
  · exact ⟨h1,h2 R.up,by rw[h3];have:=R.next;omega⟩
  · exact R.le (by omega)
  · exact absurd R.up h
theorem Up.keep:∀{l:List Int} {t:Nat} {D D2:DiskM} {z z2:RpM} {gone:List Int} {e:Int},Up t D z→t+l.length≤90000→zcj l D z gone e D2 z2→Up (t+l.length) D2 z2
  | [],t,_,_,_,_,_,_,R,_,h=>by obtain ⟨_,_,rfl,rfl⟩:=h;exact R
  | id::l,t,D,D2,z,z2,gone,e,R,ht,h=>by
    simp only[List.length_cons] at ht ⊢;unfold zcj at h;split at h
    · exact (Up.keep R (by omega) h).le (by omega)
    · obtain ⟨e1,D1,z1,hd,h⟩:=h;have R1:=R.drop (by omega) hd;rcases h with ⟨_,_,_,rfl,rfl⟩ | ⟨_,g',hk,_⟩
      · exact R1.le (by omega)
      · exact (Up.keep R1 (by omega) hk).le (by omega)
theorem Up.kept {t:Nat}{D D2:DiskM}{z z2:RpM}{S':SI}{L':List Pt}{n' e:Int}{G':Gh}(R:Up t D z)(ht:t≤90000)(hC':Con S' L' n' G')(h1:∀p∈z.L,p∈L')(k:zpG D z S' L' n' e D2 z2):e=0∧Up (t+1) D2 z2∧z2.S=S'∧z2.L=L'∧z2.n=n'∧z2.ses=z.ses∧z2.mou=z.mou∧z2.next=z.next:=by
  rcases zkh R.rep (by omega) hC' (P:=L') (by have:=hC'.v.len;omega) h1 (fun p hp=>hp) k with ⟨a1,a2,a3,a4,a5,a6,a7,a8,a9⟩ | ⟨_,h,_⟩
  · exact ⟨a1,⟨a2,a3 R.up,by rw[a9];have:=R.next;omega⟩,a4,a5,a6,a7,a8,a9⟩
  · exact absurd R.up h
theorem zuY {t:Nat}{D:DiskM}{z:RpM}(R:Up t D z)(l:List SeE)(h:∀e∈l,e∈z.ses):Up t D (z.sess l):=
  ⟨R.rep.turn (Nat.le_refl _) l z.mou z.next R.rep.rok.next (fun e he=>⟨R.rep.rok.keyS e (h e he),R.rep.rok.sesS e (h e he)⟩) R.rep.rok.keyM,R.up,R.next⟩
end Go.Proofs.YthdjckbjjfiopadGreatDoor
