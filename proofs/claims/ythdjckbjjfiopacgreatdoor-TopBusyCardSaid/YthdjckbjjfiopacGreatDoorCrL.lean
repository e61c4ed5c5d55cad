/- What a repo that is up remains, when a snap is kept. Plain laws. No condition. -/
import Derived.Test.YthdjckbjjfiopacGreatDoorCr5
import Derived.Test.YthdjckbjjfiopacGreatDoorVdLaw
set_option linter.unusedSimpArgs false
set_option linter.unusedVariables false
namespace Go.Proofs.YthdjckbjjfiopacGreatDoor
open Go.Sl Go.Proofs
theorem Up.begun {t:Nat}{D:DiskM}{z:RpM}{a:Nat}{base disk size:Int}(R:Up t D z)(ht:t≤90000)(hb:wm z base disk size=0):Up (t+1) D (z.begun a base disk size):=by
  have hn1:=R.rep.rok.next;have hnx:=R.next;have hsz:¬(disk<1∨999<disk∨size<1∨16<size):=fun h=>(by unfold wm at hb;rw[if_pos h] at hb;cases hb);refine ⟨R.rep.turn (by omega) _ _ _ (by omega) (fun e he=>?_) (fun e he=>by have:=R.rep.rok.keyM e he;omega),R.up,by show z.next+1≤_;omega⟩;rcases List.mem_append.1 he with he | he
  · have:=R.rep.rok.keyS e he;exact ⟨by omega,R.rep.rok.sesS e he⟩
  · rw[List.mem_singleton] at he;subst he;exact ⟨by show 1≤z.next∧z.next<z.next+1;omega,⟨by show 1≤size∧size≤16;omega,by simp,fun p hp=>by cases hp⟩⟩
theorem SameS.eq {z z1:RpM}(h:SameS z z1):z1=z.sess z1.ses:=by
  obtain ⟨h1,h2,h3,h4,h5,h6,h7,h8⟩:=h;cases z1;cases z;simp only at h1 h2 h3 h4 h5 h6 h7 h8;subst h1 h2 h3 h4 h5 h6 h7 h8
  rfl
theorem Up.same {t:Nat}{D:DiskM}{z z1:RpM}(R:Up t D z)(h:SameS z z1)(K:Rok z1):Up t D z1:=by
  have e:=h.eq;have hk:=K.keyS;have hs:=K.sesS;have hn:=R.rep.rok.next;rw[e];refine ⟨R.rep.turn (Nat.le_refl _) z1.ses z.mou z.next hn (fun y hy=>⟨?_,hs y hy⟩) R.rep.rok.keyM,R.up,R.next⟩;have:=hk y hy;rw[h.2.2.2.2.2.2.2] at this;exact this
theorem Up.abort {t:Nat}{D:DiskM}{z:RpM}(R:Up t D z)(id:Int):Up t D (z.sess (dSe z.ses id)):=zlJ R (dSe z.ses id) fun e he=>(List.mem_filter.1 he).1
theorem ztt {t:Nat}{D D2:DiskM}{z z2:RpM}{id n e:Int}(R:Up t D z)(ht:t≤90000)(k:zrd D z id n e D2 z2):
    (n=0∧e≠0∧D2=D∧z2=z∧(fSe z.ses id=none∧e=5∨∃s,fSe z.ses id=some s∧zhW z.S z.L z.n s.base s.disk s.size s.puts= .error e))∨
    (e=0∧Up (t+1) D2 z2∧(∃s,fSe z.ses id=some s∧zhW z.S z.L z.n s.base s.disk s.size s.puts= .ok (z2.S,z2.L,z2.n,n))∧z2.ses=dSe z.ses id∧z2.mou=z.mou∧z2.next=z.next):=by
  unfold zrd at k;obtain ⟨G,hC⟩:=R.rep.rok.con;cases hf:fSe z.ses id with
  | none=>
    rw[hf] at k;simp only at k;obtain ⟨rfl,rfl,rfl,rfl⟩:=k;exact .inl ⟨rfl,by decide,rfl,rfl, .inl ⟨rfl,rfl⟩⟩
  | some s=>
    rw[hf] at k;simp only at k;split at k
    · rename_i hr;obtain ⟨rfl,rfl,rfl,rfl⟩:=k;exact .inl ⟨rfl,by have:=zm2 hr;omega,rfl,rfl, .inr ⟨s,rfl,hr⟩⟩
    · rename_i S' L' n' r hr;obtain ⟨y,hk,hn,rfl⟩:=k;obtain ⟨G',hC'⟩:=zi4 hC hr;obtain ⟨rfl,R1,e1,e2,e3,e4,e5,e6⟩:=R.kept (by omega) hC' (zoL hC.v hr) hk;rw[if_pos rfl] at hn ⊢;subst hn;refine .inr ⟨rfl,R1.abort id,⟨s,rfl,?_⟩,?_,e5,e6⟩
      · show _=Except.ok (y.S,y.L,y.n,n);rw[e1,e2,e3];exact hr
      · show dSe y.ses id=_;rw[e4]
theorem zxg {t:Nat}{D D2:DiskM}{V:VdM}{z z2:RpM}{disk snap base:Int}{m:Nat→Bool}{page n e:Int}(R:Up t D z)(ht:t≤80000)(k:zmO D V z disk snap base m page n e D2 z2):Up (t+2) D2 z2:=by
  unfold zmO at k;by_cases h1:(szS V snap).2≠0
  · rw[if_pos h1] at k;obtain ⟨_,_,rfl,rfl⟩:=k;exact R.le (by omega)
  rw[if_neg h1] at k;by_cases h2:page<1
  · rw[if_pos h2] at k;obtain ⟨_,_,rfl,rfl⟩:=k;exact R.le (by omega)
  rw[if_neg h2] at k;by_cases h3:wm z base disk (szS V snap).1≠0
  · rw[if_pos h3] at k;obtain ⟨_,_,rfl,rfl⟩:=k;exact R.le (by omega)
  rw[if_neg h3] at k;have hb:wm z base disk (szS V snap).1=0:=(by omega);obtain ⟨a,e1,z1,hs,k⟩:=k;have hnx:=R.next;obtain ⟨K1,S1⟩:=zf7 (R.rep.rok.begin (a:=a) (by omega) hb) hs;have R1:Up (t+1) D z1:=(R.begun (by omega) hb).same S1 K1;rcases k with ⟨_,_,_,rfl,rfl⟩ | ⟨_,n1,e2,y,hf,k⟩
  · exact (R1.abort z.next).le (by omega)
  · have R2:Up (t+2) D2 y:=by
      rcases ztt R1 (by omega) hf with ⟨_,_,rfl,rfl,_⟩ | ⟨_,h,_⟩
      · exact R1.le (by omega)
      · exact h
    rcases k with ⟨_,_,_,rfl⟩ | ⟨_,_,_,rfl⟩
    · exact R2.abort z.next
    · exact R2
def dlk (D:VdM):Prop:=(∀i,(D.blocks i).length≤6)∧∀s∈D.snaps,∀i,(s.blocks i).length≤6
theorem ztS (n:Int):dlk (zhM n):=⟨fun i=>by simp[zhM],fun s hs=>by simp[zhM] at hs⟩
theorem zxu {D:VdM}(h:dlk D)(n:Int)(s:Bytes):dlk (wrD D n s):=by
  unfold wrD;split
  · rename_i he;have hs:s.length≤6:=by
      unfold wrE at he;split at he
      · cases he
      · unfold ztb at he;split at he
        · cases he
        · omega
    refine ⟨fun i=>?_,h.2⟩;show (upd D.blocks n.toNat s i).length≤6;unfold upd;split
    · exact hs
    · exact h.1 i
  · exact h
theorem zwF {D:VdM}(h:dlk D):dlk (snD D):=by
  unfold snD;split
  · refine ⟨h.1,fun s hs=>?_⟩;rcases List.mem_append.1 hs with hs | hs
    · exact h.2 s hs
    · rw[List.mem_singleton] at hs;subst hs;exact h.1
  · exact h
theorem zvK {D:VdM}(h:dlk D)(id n:Int):(rdS D id n).1.length≤6:=by
  unfold rdS;split
  · simp
  · split
    · simp
    · unfold zgO;cases hs:D.snaps[(zcP D.snaps id).toNat]? with
      | none=>simp
      | some s=>exact h.2 s (List.mem_of_getElem? hs) _
end Go.Proofs.YthdjckbjjfiopacGreatDoor
