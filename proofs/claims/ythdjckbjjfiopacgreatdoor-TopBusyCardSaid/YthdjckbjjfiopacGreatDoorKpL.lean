/- What dropping the eldest points leaves. Plain laws. No condition. -/
import Derived.Test.YthdjckbjjfiopacGreatDoorCrL
set_option linter.unusedSimpArgs false
set_option linter.unusedVariables false
namespace Go.Proofs.YthdjckbjjfiopacGreatDoor
open Go.Sl Go.Proofs
theorem drp_L {S:SI}{L:List Pt}{n id:Int}{S':SI}{L':List Pt}{n' r:Int}(h:zkp S L n id= .ok (S',L',n',r)):L'=L.filter (fun x=>!decide (x.id=id))∧n'=n:=by
  unfold zkp at h;cases hf:yc L id with
  | none=>rw[hf] at h;cases h
  | some p=>
    rw[hf] at h;simp only at h;injection h with h;injection h with e1 h;injection h with e2 h;injection h with e3 e4;exact ⟨e2.symm,e3.symm⟩
theorem find_is {L:List Pt}{id:Int}:(yc L id).isSome=true ↔ ∃p∈L,p.id=id:=by
  unfold yc;rw[List.find?_isSome];simp
theorem zpq {z z2:RpM}(h1:z2.ses=z.ses)(h2:z2.mou=z.mou)(q:Int):zaQ z2 q=zaQ z q:=by unfold zaQ;rw[h1,h2]
theorem ziP:∀{l:List Int} {t:Nat} {D D2:DiskM} {z z2:RpM} {gone:List Int} {e:Int},Up t D z→t+l.length≤90000→l.Nodup→(∀q∈l,(yc z.L q).isSome=true)→zco l D z gone e D2 z2→
    e=0∧gone.Sublist l∧z2.L=z.L.filter (fun p=>!decide (p.id∈gone))∧z2.ses=z.ses∧z2.mou=z.mou∧z2.next=z.next∧z2.n=z.n∧∀q∈gone,zaQ z q=false
  | [],t,D,D2,z,z2,gone,e,R,ht,hnd,hin,h=>by
    obtain ⟨rfl,rfl,rfl,rfl⟩:=h;refine ⟨rfl,List.Sublist.refl _,?_,rfl,rfl,rfl,rfl,fun q hq=>by cases hq⟩
    symm
    exact List.filter_eq_self.2 fun p _=>by simp
  | id::l,t,D,D2,z,z2,gone,e,R,ht,hnd,hin,h=>by
    simp only[List.length_cons] at ht;rw[List.nodup_cons] at hnd;unfold zco at h;by_cases hu:zaQ z id=true
    · rw[if_pos hu] at h;obtain ⟨a1,a2,a3⟩:=ziP R (by omega) hnd.2 (fun q hq=>hin q (List.mem_cons_of_mem _ hq)) h;exact ⟨a1,a2.cons _,a3⟩
    · rw[if_neg hu] at h;have hu0:zaQ z id=false:=(by simpa using hu);have hde:zbW z id=0:=by
        unfold zbW;have:=hin id (by simp);rw[if_neg (by rw[Option.isNone_iff_eq_none];intro hn;rw[hn] at this;cases this),hu0]
        rfl
      obtain ⟨e1,D1,z1,hd,h⟩:=h;rcases zeD R.rep (by omega) hd with ⟨rfl,_,_,_,hdr,hs,hm,hx⟩ | ⟨hne,_,he,_⟩ | ⟨_,hn,_⟩
      · rcases h with ⟨hc,_⟩ | ⟨_,g',hk,hg⟩
        · exact absurd rfl hc
        obtain ⟨hL,hn⟩:=drp_L hdr;obtain ⟨rfl,a2,a3,a4,a5,a6,a7,a8⟩:=ziP (R.drop (by omega) hd) (by omega) hnd.2 (fun q hq=>by
          obtain ⟨p,hp,hpq⟩:=find_is.1 (hin q (List.mem_cons_of_mem _ hq));exact find_is.2 ⟨p,by rw[hL];exact List.mem_filter.2 ⟨hp,by simp;intro e;exact hnd.1 (by rw[←e,hpq];exact hq)⟩,hpq⟩) hk
        rw[if_pos rfl] at hg;subst hg;refine ⟨rfl,a2.cons_cons _,?_,a4.trans hs,a5.trans hm,a6.trans hx,a7.trans hn,fun q hq=>?_⟩
        · rw[a3,hL,List.filter_filter];refine List.filter_congr fun p _=>?_;simp only[List.mem_cons];by_cases h1:p.id=id <;> by_cases h2:p.id∈g' <;> simp[h1,h2]
        · rcases List.mem_cons.1 hq with rfl | hq
          · exact hu0
          · rw[←zpq hs hm];exact a8 q hq
      · exact absurd (he.trans hde) hne
      · exact absurd R.up hn
theorem zp3 (L:List Pt)(disk many:Int):(zfw L disk many).Sublist (L.map (·.id)):=by
  unfold zfw;exact (List.take_sublist _ _).trans (List.Sublist.map _ List.filter_sublist)
theorem ids_nodup {S:SI}{L:List Pt}{n:Int}{G:Gh}(h:Vok S L n G):(L.map (·.id)).Nodup:=by
  rw[List.Nodup,List.pairwise_map];exact h.srt.imp fun h=>by omega
theorem zxj {S:SI}{L:List Pt}{n:Int}{G:Gh}(h:Vok S L n G)(disk many:Int):(zfw L disk many).Nodup∧∀q∈zfw L disk many,(yc L q).isSome=true:=by
  refine ⟨(ids_nodup h).sublist (zp3 L disk many),fun q hq=>?_⟩;obtain ⟨p,hp,e⟩:=List.mem_map.1 ((zp3 L disk many).subset hq);exact find_is.2 ⟨p,hp,e⟩
theorem zqN {t:Nat}{D D2:DiskM}{z z2:RpM}{disk many e:Int}{gone:List Int}(R:Up t D z)(ht:t≤80000)(k:zco (zfw z.L disk many) D z gone e D2 z2):
    Up (t+6) D2 z2∧e=0∧gone.Sublist (zfw z.L disk many)∧z2.L=z.L.filter (fun p=>!decide (p.id∈gone))∧z2.ses=z.ses∧z2.mou=z.mou∧z2.next=z.next∧z2.n=z.n∧∀q∈gone,zaQ z q=false:=by
  obtain ⟨G,hC⟩:=R.rep.rok.con;have hel:=zfr z.L disk many hC.v.len;obtain ⟨h1,h2⟩:=zxj hC.v disk many;exact ⟨(Up.keep R (by omega) k).le (by omega),ziP R (by omega) h1 h2 k⟩
end Go.Proofs.YthdjckbjjfiopacGreatDoor
