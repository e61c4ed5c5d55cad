/- What sending leaves of a repo, and how a snap is kept. Plain laws. No condition. -/
import Derived.Test.YthdjckbjjfiopacGreatDoorCr2
set_option linter.unusedSimpArgs false
set_option linter.unusedVariables false
namespace Go.Proofs.YthdjckbjjfiopacGreatDoor
open Go.Sl Go.Proofs
def SameS (z z2:RpM):Prop:=z2.h=z.h∧z2.used=z.used∧z2.rows=z.rows∧z2.S=z.S∧z2.L=z.L∧z2.n=z.n∧z2.mou=z.mou∧z2.next=z.next
theorem SameS.refl (z:RpM):SameS z z:=⟨rfl,rfl,rfl,rfl,rfl,rfl,rfl,rfl⟩
theorem SameS.trans {a b c:RpM}(h:SameS a b)(k:SameS b c):SameS a c:=⟨k.1.trans h.1,k.2.1.trans h.2.1,k.2.2.1.trans h.2.2.1,k.2.2.2.1.trans h.2.2.2.1,k.2.2.2.2.1.trans h.2.2.2.2.1,k.2.2.2.2.2.1.trans h.2.2.2.2.2.1,k.2.2.2.2.2.2.1.trans h.2.2.2.2.2.2.1,k.2.2.2.2.2.2.2.trans h.2.2.2.2.2.2.2⟩
theorem zgq (z:RpM)(id at_:Int)(d:Bytes)(so:Option Addr)(co:Nat):SameS z (z.putted id at_ d so co):=by
  unfold RpM.putted;cases fSe z.ses id with
  | none=>exact SameS.refl z
  | some e=>exact ⟨rfl,rfl,rfl,rfl,rfl,rfl,rfl,rfl⟩
theorem zf7 {V:VdM}{snap sess:Int}:∀{l:List Nat} {z z2:RpM} {e:Int},Rok z→zcc V snap sess l z e z2→Rok z2∧SameS z z2
  | [],z,z2,e,R,h=>by obtain ⟨_,rfl⟩:=h;exact ⟨R,SameS.refl _⟩
  | p::l,z,z2,e,R,h=>by
    unfold zcc at h;by_cases h1:(rdS V snap p).2.2≠0
    · rw[if_pos h1] at h;obtain ⟨_,rfl⟩:=h;exact ⟨R,SameS.refl _⟩
    · rw[if_neg h1] at h;by_cases h2:zbz z sess p (rdS V snap p).1≠0
      · rw[if_pos h2] at h;obtain ⟨_,rfl⟩:=h;exact ⟨R,SameS.refl _⟩
      · rw[if_neg h2] at h;obtain ⟨so,co,h⟩:=h;obtain ⟨a,b⟩:=zf7 (R.put (Decidable.not_not.1 h2)) h;exact ⟨a,(zgq _ _ _ _ _ _).trans b⟩
theorem Dk.same {i:Nat}{D:DiskM}{z z2:RpM}(h:Dk i D z)(s:SameS z z2):Dk i D z2:=by
  obtain ⟨s1,s2,s3,_⟩:=s;exact ⟨h.ok,h.s80,by rw[s1];exact h.hd,by rw[s3];exact h.len,by rw[s3];exact h.okr,by rw[s2];exact h.used,by rw[s3];exact h.srt⟩
theorem Rok.begin {z:RpM}{a:Nat}{base disk size:Int}(R:Rok z)(hn:z.next≤999999)(hb:wm z base disk size=0):Rok (z.begun a base disk size):=by
  have hnx:=R.next;have hsz:¬(disk<1∨999<disk∨size<1∨16<size):=fun h=>(by unfold wm at hb;rw[if_pos h] at hb;cases hb);refine ⟨R.con,by show 1≤z.next+1∧z.next+1≤1000000;omega,fun e he=>?_,fun e he=>by have:=R.keyM e he;show 1≤e.key∧e.key<z.next+1;omega,fun e he=>?_⟩
  · rcases List.mem_append.1 he with he | he
    · have:=R.keyS e he;show 1≤e.key∧e.key<z.next+1;omega
    · rw[List.mem_singleton] at he;subst he;show 1≤z.next∧z.next<z.next+1;omega
  · rcases List.mem_append.1 he with he | he
    · exact R.sesS e he
    · rw[List.mem_singleton] at he;subst he;exact ⟨by show 1≤size∧size≤16;omega,by simp,fun p hp=>by cases hp⟩
theorem zrt {l:List SeE}{id:Int}(h:fSe l id=none):dSe l id=l:=by
  unfold fSe at h;unfold dSe;rw[List.find?_eq_none] at h;exact List.filter_eq_self.2 fun e he=>by have:=h e he;simpa using this
def zmO (D:DiskM)(V:VdM)(z:RpM)(disk snap base:Int)(m:Nat→Bool)(page n e:Int)(D2:DiskM)(z2:RpM):Prop:=
  if (szS V snap).2≠0 then n=0∧e=(szS V snap).2∧D2=D∧z2=z
  else if page<1 then n=0∧e=1∧D2=D∧z2=z
  else if wm z base disk (szS V snap).1≠0 then n=0∧e=wm z base disk (szS V snap).1∧D2=D∧z2=z
  else ∃a e1 z1,zcc V snap z.next (zek (mk (ofM (ltM m (szS V snap).1))) 0) (z.begun a base disk (szS V snap).1) e1 z1∧
    ((e1≠0∧n=0∧e=e1∧D2=D∧z2=z1.sess (dSe z1.ses z.next))∨
     (e1=0∧∃n1 e2 y,zrd D z1 z.next n1 e2 D2 y∧((e2≠0∧n=0∧e=e2∧z2=y.sess (dSe y.ses z.next))∨(e2=0∧n=n1∧e=0∧z2=y))))
end Go.Proofs.YthdjckbjjfiopacGreatDoor
