/- What an act leaves of a repo's state. Plain laws. No condition. -/
import Derived.Test.YthdjckbjjfiopacGreatDoorRp8
set_option linter.unusedSimpArgs false
set_option linter.unusedVariables false
namespace Go.Proofs.YthdjckbjjfiopacGreatDoor
open Go.Sl Go.Proofs
theorem Rep.le {t t':Nat}{D:DiskM}{z:RpM}(R:Rep t D z)(h:t≤t'):Rep t' D z:=⟨R.ok,R.s80,R.cal,by have:=R.ep;omega,by have:=R.first;omega,R.rows,R.rok⟩
theorem zs4 {e:SeE}{at_:Int}{d:Bytes}{so:Option Addr}{co:Nat}(h:SOk e)(ha:¬(at_<0∨e.size≤at_))(hd:¬6<d.length):SOk ⟨e.key,e.a,so,co,e.base,e.disk,e.size,zhS e.puts at_ d⟩:=by
  refine ⟨h.size,?_,fun p hp=>?_⟩
  · show ((zhS e.puts at_ d).map (·.at_)).Nodup;unfold zhS;rw[List.map_append,List.nodup_append];refine ⟨List.Nodup.sublist (List.Sublist.map _ List.filter_sublist) h.nodup,by simp,fun a ha b hb=>?_⟩;obtain ⟨p,hp,rfl⟩:=List.mem_map.1 ha;have h1:=(List.mem_filter.1 hp).2;simp at h1 hb;rw[hb];exact h1
  · have hp:p∈zhS e.puts at_ d:=hp;unfold zhS at hp;rcases List.mem_append.1 hp with hp | hp
    · exact h.rng p (List.mem_filter.1 hp).1
    · rw[List.mem_singleton] at hp;subst hp;exact ⟨by show 0≤at_∧at_<e.size;omega,by show d.length≤6;omega⟩
theorem Rep.turn {t t':Nat}{D:DiskM}{z:RpM}(R:Rep t D z)(h:t≤t')(ses:List SeE)(mou:List MoE)(next:Int)(hn:1≤next∧next≤1000000)(hs:∀e∈ses,(1≤e.key∧e.key<next)∧SOk e)(hm:∀e∈mou,1≤e.key∧e.key<next):Rep t' D ⟨z.h,z.used,z.rows,z.S,z.L,z.n,ses,mou,next⟩:=
  ⟨R.ok,R.s80,R.cal,by have:=R.ep;show z.h.ep≤_;omega,by have:=R.first;show z.h.first≤_;omega,R.rows,⟨R.rok.con,hn,fun e he=>(hs e he).1,hm,fun e he=>(hs e he).2⟩⟩
theorem zg2 {α:Type}{l:List α}{i:Nat}{a x:α}(h:x∈l.set i a):x∈l∨x=a:=List.mem_or_eq_of_mem_set h
theorem zoL {S:SI}{L:List Pt}{n base disk size:Int}{puts:List PutM}{G:Gh}{S':SI}{L':List Pt}{n' r:Int}(h:Vok S L n G)(e:zhW S L n base disk size puts= .ok (S',L',n',r)):∀p∈L,p∈L':=fun p hp=>by
  obtain ⟨_,_,_,_,e1,_⟩:=zlV h e;rw[e1];exact List.mem_append_left _ hp
theorem zvl {S:SI}{L:List Pt}{n id:Int}{G:Gh}{S':SI}{L':List Pt}{n' r:Int}(h:Vok S L n G)(e:zl5 S L n id= .ok (S',L',n',r)):∀p∈L,p∈L':=fun p hp=>by
  obtain ⟨_,_,_,_,_,e1,_⟩:=zlP h e;rw[e1];exact List.mem_append_left _ hp
structure Up (t:Nat) (D:DiskM) (z:RpM):Prop where
  rep:Rep t D z
  up:upW D
  next:z.next≤1+t
theorem Up.le {t t':Nat}{D:DiskM}{z:RpM}(R:Up t D z)(h:t≤t'):Up t' D z:=⟨R.rep.le h,R.up,by have:=R.next;omega⟩
theorem Up.drop {t:Nat}{D D2:DiskM}{z z2:RpM}{id e:Int}(R:Up t D z)(ht:t≤90000)(k:zdR D z id e D2 z2):Up (t+1) D2 z2:=by
  rcases zeD R.rep (by omega) k with ⟨_,h1,h2,_,_,_,_,h3⟩ | ⟨_,_,_,rfl,rfl⟩ | ⟨_,h,_⟩
  · exact ⟨h1,h2 R.up,by rw[h3];have:=R.next;omega⟩
  · exact R.le (by omega)
  · exact absurd R.up h
theorem Up.keep:∀{l:List Int} {t:Nat} {D D2:DiskM} {z z2:RpM} {gone:List Int} {e:Int},Up t D z→t+l.length≤90000→zco l D z gone e D2 z2→Up (t+l.length) D2 z2
  | [],t,_,_,_,_,_,_,R,_,h=>by obtain ⟨_,_,rfl,rfl⟩:=h;exact R
  | id::l,t,D,D2,z,z2,gone,e,R,ht,h=>by
    simp only[List.length_cons] at ht ⊢;unfold zco at h;split at h
    · exact (Up.keep R (by omega) h).le (by omega)
    · obtain ⟨e1,D1,z1,hd,h⟩:=h;have R1:=R.drop (by omega) hd;rcases h with ⟨_,_,_,rfl,rfl⟩ | ⟨_,g',hk,_⟩
      · exact R1.le (by omega)
      · exact (Up.keep R1 (by omega) hk).le (by omega)
theorem Up.kept {t:Nat}{D D2:DiskM}{z z2:RpM}{S':SI}{L':List Pt}{n' e:Int}{G':Gh}(R:Up t D z)(ht:t≤90000)(hC':Con S' L' n' G')(h1:∀p∈z.L,p∈L')(k:zpX D z S' L' n' e D2 z2):e=0∧Up (t+1) D2 z2∧z2.S=S'∧z2.L=L'∧z2.n=n'∧z2.ses=z.ses∧z2.mou=z.mou∧z2.next=z.next:=by
  rcases zj5 R.rep (by omega) hC' (P:=L') (by have:=hC'.v.len;omega) h1 (fun p hp=>hp) k with ⟨a1,a2,a3,a4,a5,a6,a7,a8,a9⟩ | ⟨_,h,_⟩
  · exact ⟨a1,⟨a2,a3 R.up,by rw[a9];have:=R.next;omega⟩,a4,a5,a6,a7,a8,a9⟩
  · exact absurd R.up h
theorem Up.save {t:Nat}{D D2:DiskM}{z z2:RpM}{e:Int}(R:Up t D z)(ht:t≤90000)(k:zwq D z e D2 z2):Up (t+1) D2 z2:=by
  obtain ⟨hr,k⟩:=k;obtain ⟨r0,ds,C,hcur⟩:=R.rep.cal;have hep:=R.rep.ep;have hfi:=R.rep.first;rw[←hcur] at hr;have hs:=zxn R.rep.ok R.rep.s80 C.2.1 hr;obtain ⟨D1,q1,q2,q3⟩:=zwy R.up C.2.1 (by omega) (by omega);rw[q1] at hr;injection hr with h1 h2;subst h1 h2;rcases zng C.1 C.2.1 C.2.2 (by omega) (by omega) q1 with ⟨_,C1⟩ | ⟨h9,_⟩
  · rcases k with ⟨hx,_⟩ | ⟨_,d',u',_,hsc,rfl⟩
    · exact absurd rfl hx
    · have hlg:=C1.2.1.good.log;rw[C1.2.1.len] at hlg;have hu:=(zgQ hsc hlg).2;subst hu;rw[hcur] at C1;exact ⟨⟨zmM hs.1 C1.1,hs.2,⟨z.rows,[],C1,rfl⟩,by show z.h.ep+1≤_;omega,by show z.h.first+(200 - 122)≤_;omega,R.rep.rows,⟨R.rep.rok.con,R.rep.rok.next,R.rep.rok.keyS,R.rep.rok.keyM,R.rep.rok.sesS⟩⟩,q2,by have:=R.next;show z.next≤_;omega⟩
  · cases h9
theorem zlJ {t:Nat}{D:DiskM}{z:RpM}(R:Up t D z)(l:List SeE)(h:∀e∈l,e∈z.ses):Up t D (z.sess l):=
  ⟨R.rep.turn (Nat.le_refl _) l z.mou z.next R.rep.rok.next (fun e he=>⟨R.rep.rok.keyS e (h e he),R.rep.rok.sesS e (h e he)⟩) R.rep.rok.keyM,R.up,R.next⟩
theorem ziW {t:Nat}{D:DiskM}{z:RpM}(R:Up t D z)(l:List MoE)(h:∀e∈l,1≤e.key∧e.key<z.next):Up t D (z.moun l):=
  ⟨R.rep.turn (Nat.le_refl _) z.ses l z.next R.rep.rok.next (fun e he=>⟨R.rep.rok.keyS e he,R.rep.rok.sesS e he⟩) h,R.up,R.next⟩
theorem zoF {t:Nat}{D D2:DiskM}{z z2:RpM}{x:ActM}{n e:Int}{s:Bytes}(R:Up t D z)(ht:t≤80000)(k:zbh D z x n s e D2 z2):Up (t+7) D2 z2:=by
  have hnx:=R.next;have hn1:=R.rep.rok.next;obtain ⟨G,hC⟩:=R.rep.rok.con;have hlen:=hC.v.len;unfold zbh at k;by_cases hkBeg:x.kind=dkBeg
  · rw[if_pos hkBeg] at k;obtain ⟨_,rfl,⟨_,_,_,rfl⟩ | ⟨hb,_,_,a,rfl⟩⟩:=k
    · exact R.le (by omega)
    · have hsz:¬(x.b<1∨999<x.b∨x.c<1∨16<x.c):=fun h=>(by unfold wm at hb;rw[if_pos h] at hb;cases hb);refine ⟨R.rep.turn (by omega) _ _ _ (by omega) (fun e he=>?_) (fun e he=>by have:=R.rep.rok.keyM e he;omega),R.up,by show z.next+1≤_;omega⟩;rcases List.mem_append.1 he with he | he
      · have:=R.rep.rok.keyS e he;exact ⟨by omega,R.rep.rok.sesS e he⟩
      · rw[List.mem_singleton] at he;subst he;exact ⟨by show 1≤z.next∧z.next<z.next+1;omega,⟨by show 1≤x.c∧x.c≤16;omega,by simp,fun p hp=>by cases hp⟩⟩
  rw[if_neg hkBeg] at k;by_cases hkPut:x.kind=dkPut
  · rw[if_pos hkPut] at k;obtain ⟨_,_,rfl,⟨_,_,rfl⟩ | ⟨hp,_,so,co,rfl⟩⟩:=k
    · exact R.le (by omega)
    · unfold RpM.putted;unfold zbz at hp;cases hf:fSe z.ses x.a with
      | none=>exact R.le (by omega)
      | some y=>
        rw[hf] at hp;simp only at hp ⊢;obtain ⟨hy,_,_⟩:=zka hf;have hym:=List.mem_of_getElem? hy;have h1:¬(x.b<0∨y.size≤x.b):=fun h=>(by rw[if_pos h] at hp;cases hp);rw[if_neg h1] at hp;have h2:¬6<x.s.length:=fun h=>(by rw[if_pos h] at hp;cases hp);refine ⟨R.rep.turn (by omega) _ _ _ hn1 (fun e he=>?_) R.rep.rok.keyM,R.up,by show z.next≤_;omega⟩;rcases zg2 he with he | rfl
        · exact ⟨R.rep.rok.keyS e he,R.rep.rok.sesS e he⟩
        · exact ⟨R.rep.rok.keyS y hym,zs4 (R.rep.rok.sesS y hym) h1 h2⟩
  rw[if_neg hkPut] at k;by_cases hkFin:x.kind=dkFin
  · rw[if_pos hkFin] at k;obtain ⟨_,k⟩:=k;unfold zrd at k;split at k
    · obtain ⟨_,_,rfl,rfl⟩:=k;exact R.le (by omega)
    · split at k
      · obtain ⟨_,_,rfl,rfl⟩:=k;exact R.le (by omega)
      · rename_i hr;obtain ⟨y,hk,_,rfl⟩:=k;obtain ⟨G',hC'⟩:=zi4 hC hr;obtain ⟨rfl,R1,_,_,_,e4,_⟩:=R.kept (by omega) hC' (zoL hC.v hr) hk;rw[if_pos rfl];exact (zlJ R1 (dSe y.ses x.a) fun e he=>(List.mem_filter.1 he).1).le (by omega)
  rw[if_neg hkFin] at k;by_cases hkAbo:x.kind=dkAbo
  · rw[if_pos hkAbo] at k;obtain ⟨_,_,rfl,⟨_,_,rfl⟩ | ⟨y,_,_,rfl⟩⟩:=k
    · exact R.le (by omega)
    · exact (zlJ R (dSe z.ses x.a) fun e he=>(List.mem_filter.1 he).1).le (by omega)
  rw[if_neg hkAbo] at k;by_cases hkAgn:x.kind=dkAgn
  · rw[if_pos hkAgn] at k;obtain ⟨_,k⟩:=k;unfold zii at k;split at k
    · obtain ⟨_,_,rfl,rfl⟩:=k;exact R.le (by omega)
    · rename_i hr;obtain ⟨hk,_⟩:=k;obtain ⟨G',hC'⟩:=zmB hC hr;exact (R.kept (by omega) hC' (zvl hC.v hr) hk).2.1.le (by omega)
  rw[if_neg hkAgn] at k;by_cases hkDrp:x.kind=dkDrp
  · rw[if_pos hkDrp] at k;exact (R.drop (by omega) k.2.2).le (by omega)
  rw[if_neg hkDrp] at k;by_cases hkKee:x.kind=dkKee
  · rw[if_pos hkKee] at k;obtain ⟨_,⟨_,_,_,rfl,rfl⟩ | ⟨_,gone,hk,_⟩⟩:=k
    · exact R.le (by omega)
    · have hel:=zfr z.L x.a x.b hlen;exact (Up.keep R (by omega) hk).le (by omega)
  rw[if_neg hkKee] at k;by_cases hkMou:x.kind=dkMou
  · rw[if_pos hkMou] at k;obtain ⟨_,rfl,⟨_,_,_,rfl⟩ | ⟨hb,_,_,a,r,rfl⟩⟩:=k
    · exact R.le (by omega)
    · refine ⟨R.rep.turn (by omega) _ _ _ (by omega) (fun e he=>⟨by have:=R.rep.rok.keyS e he;omega,R.rep.rok.sesS e he⟩) (fun e he=>?_),R.up,by show z.next+1≤_;omega⟩;rcases List.mem_append.1 he with he | he
      · have:=R.rep.rok.keyM e he;omega
      · rw[List.mem_singleton] at he;subst he;show 1≤z.next∧z.next<z.next+1;omega
  rw[if_neg hkMou] at k;by_cases hkUnm:x.kind=dkUnm
  · rw[if_pos hkUnm] at k;obtain ⟨_,_,rfl,⟨_,_,rfl⟩ | ⟨y,_,_,rfl⟩⟩:=k
    · exact R.le (by omega)
    · exact (ziW R (dMo z.mou x.a) fun e he=>R.rep.rok.keyM e (List.mem_filter.1 he).1).le (by omega)
  rw[if_neg hkUnm] at k;by_cases hkRea:x.kind=dkRea
  · rw[if_pos hkRea] at k;obtain ⟨_,_,_,rfl,rfl⟩:=k;exact R.le (by omega)
  rw[if_neg hkRea] at k;by_cases hkWri:x.kind=dkWri
  · rw[if_pos hkWri] at k;obtain ⟨_,_,rfl,⟨_,_,rfl⟩ | ⟨_,_,rfl⟩⟩:=k
    · exact R.le (by omega)
    · unfold RpM.written;split
      · exact R.le (by omega)
      · rename_i m hf;obtain ⟨hy,_,_⟩:=zkm hf;refine (ziW R _ fun e he=>?_).le (by omega);rcases zg2 he with he | rfl
        · exact R.rep.rok.keyM e he
        · exact R.rep.rok.keyM m (List.mem_of_getElem? hy)
  rw[if_neg hkWri] at k;by_cases hkSav:x.kind=dkSav
  · rw[if_pos hkSav] at k;exact (R.save (by omega) k.2.2).le (by omega)
  rw[if_neg hkSav] at k;obtain ⟨_,_,_,rfl,rfl⟩:=k;exact R.le (by omega)
end Go.Proofs.YthdjckbjjfiopacGreatDoor
