/- What dropping the eldest points leaves. Plain laws. No condition. -/
import Derived.Test.YthdjckbjjfiopadGreatDoorCrL
set_option linter.unusedSimpArgs false
set_option linter.unusedVariables false
namespace Go.Proofs.YthdjckbjjfiopadGreatDoor
open Go.Sl Go.Proofs
theorem zuW {S:SI}{L:List Pt}{n id:Int}{S':SI}{L':List Pt}{n' r:Int}(h:zh5 S L n id= .ok (S',L',n',r)):L'=L.filter (fun x=>!decide (x.id=id))∧n'=n:=by
  unfold zh5 at h;cases hf:yq L id with
  | none=>rw[hf] at h;cases h
  | some p=>
    rw[hf] at h;simp only at h;injection h with h;injection h with e1 h;injection h with e2 h;injection h with e3 e4;exact ⟨e2.symm,e3.symm⟩
theorem find_is {L:List Pt}{id:Int}:(yq L id).isSome=true ↔ ∃p∈L,p.id=id:=by
  unfold yq;rw[List.find?_isSome];simp
theorem zrE {z z2:RpM}(h1:z2.ses=z.ses)(h2:z2.mou=z.mou)(q:Int):zbc z2 q=zbc z q:=by unfold zbc;rw[h1,h2]
theorem zgB:∀{l:List Int} {t:Nat} {D D2:DiskM} {z z2:RpM} {gone:List Int} {e:Int},Up t D z→t+l.length≤90000→l.Nodup→(∀q∈l,(yq z.L q).isSome=true)→zcj l D z gone e D2 z2→
    e=0∧gone.Sublist l∧z2.L=z.L.filter (fun p=>!decide (p.id∈gone))∧z2.ses=z.ses∧z2.mou=z.mou∧z2.next=z.next∧z2.n=z.n∧∀q∈gone,zbc z q=false
  | [],t,D,D2,z,z2,gone,e,R,ht,hnd,hin,h=>by
    obtain ⟨rfl,rfl,rfl,rfl⟩:=h;refine ⟨rfl,List.Sublist.refl _,?_,rfl,rfl,rfl,rfl,fun q hq=>by cases hq⟩
    symm
    exact List.filter_eq_self.2 fun p _=>by simp
  | id::l,t,D,D2,z,z2,gone,e,R,ht,hnd,hin,h=>by
    simp only[List.length_cons] at ht;rw[List.nodup_cons] at hnd;unfold zcj at h;by_cases hu:zbc z id=true
    · rw[if_pos hu] at h;obtain ⟨a1,a2,a3⟩:=zgB R (by omega) hnd.2 (fun q hq=>hin q (List.mem_cons_of_mem _ hq)) h;exact ⟨a1,a2.cons _,a3⟩
    · rw[if_neg hu] at h;have hu0:zbc z id=false:=(by simpa using hu);have hde:zb9 z id=0:=by
        unfold zb9;have:=hin id (by simp);rw[if_neg (by rw[Option.isNone_iff_eq_none];intro hn;rw[hn] at this;cases this),hu0]
        rfl
      obtain ⟨e1,D1,z1,hd,h⟩:=h;rcases zcp R.rep (by omega) hd with ⟨rfl,_,_,_,hdr,hs,hm,hx⟩ | ⟨hne,_,he,_⟩ | ⟨_,hn,_⟩
      · rcases h with ⟨hc,_⟩ | ⟨_,g',hk,hg⟩
        · exact absurd rfl hc
        obtain ⟨hL,hn⟩:=zuW hdr;obtain ⟨rfl,a2,a3,a4,a5,a6,a7,a8⟩:=zgB (R.drop (by omega) hd) (by omega) hnd.2 (fun q hq=>by
          obtain ⟨p,hp,hpq⟩:=find_is.1 (hin q (List.mem_cons_of_mem _ hq));exact find_is.2 ⟨p,by rw[hL];exact List.mem_filter.2 ⟨hp,by simp;intro e;exact hnd.1 (by rw[←e,hpq];exact hq)⟩,hpq⟩) hk
        rw[if_pos rfl] at hg;subst hg;refine ⟨rfl,a2.cons_cons _,?_,a4.trans hs,a5.trans hm,a6.trans hx,a7.trans hn,fun q hq=>?_⟩
        · rw[a3,hL,List.filter_filter];refine List.filter_congr fun p _=>?_;simp only[List.mem_cons];by_cases h1:p.id=id <;> by_cases h2:p.id∈g' <;> simp[h1,h2]
        · rcases List.mem_cons.1 hq with rfl | hq
          · exact hu0
          · rw[←zrE hs hm];exact a8 q hq
      · exact absurd (he.trans hde) hne
      · exact absurd R.up hn
theorem zoS (L:List Pt)(disk many:Int):(zfY L disk many).Sublist (L.map (·.id)):=by
  unfold zfY;exact (List.take_sublist _ _).trans (List.Sublist.map _ List.filter_sublist)
theorem ids_nodup {S:SI}{L:List Pt}{n:Int}{G:Gh}(h:Vok S L n G):(L.map (·.id)).Nodup:=by
  rw[List.Nodup,List.pairwise_map];exact h.srt.imp fun h=>by omega
theorem zud {S:SI}{L:List Pt}{n:Int}{G:Gh}(h:Vok S L n G)(disk many:Int):(zfY L disk many).Nodup∧∀q∈zfY L disk many,(yq L q).isSome=true:=by
  refine ⟨(ids_nodup h).sublist (zoS L disk many),fun q hq=>?_⟩;obtain ⟨p,hp,e⟩:=List.mem_map.1 ((zoS L disk many).subset hq);exact find_is.2 ⟨p,hp,e⟩
theorem zqu {t:Nat}{D D2:DiskM}{z z2:RpM}{disk many e:Int}{gone:List Int}(R:Up t D z)(ht:t≤80000)(k:zcj (zfY z.L disk many) D z gone e D2 z2):
    Up (t+6) D2 z2∧e=0∧gone.Sublist (zfY z.L disk many)∧z2.L=z.L.filter (fun p=>!decide (p.id∈gone))∧z2.ses=z.ses∧z2.mou=z.mou∧z2.next=z.next∧z2.n=z.n∧∀q∈gone,zbc z q=false:=by
  obtain ⟨G,hC⟩:=R.rep.rok.con;have hel:=zmb z.L disk many hC.v.len;obtain ⟨h1,h2⟩:=zud hC.v disk many;exact ⟨(Up.keep R (by omega) k).le (by omega),zgB R (by omega) h1 h2 k⟩
theorem zvi {L:List Pt}(h:L.Pairwise fun a b=>a.id<b.id){p q:Pt}(hp:p∈L)(hq:q∈L)(e:p.id=q.id):p=q:=by
  induction L with
  | nil=>cases hp
  | cons a l ih=>
    have h':=List.pairwise_cons.1 h;rcases List.mem_cons.1 hp with rfl | gp
    · rcases List.mem_cons.1 hq with rfl | gq
      · rfl
      · have:=h'.1 q gq;omega
    · rcases List.mem_cons.1 hq with rfl | gq
      · have:=h'.1 p gp;omega
      · exact ih h'.2 gp gq
end Go.Proofs.YthdjckbjjfiopadGreatDoor
