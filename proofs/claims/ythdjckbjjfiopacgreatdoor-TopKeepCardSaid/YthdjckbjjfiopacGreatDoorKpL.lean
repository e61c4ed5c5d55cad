/- What dropping the eldest points leaves. Plain laws. No condition. -/
import Derived.Test.YthdjckbjjfiopacGreatDoorCrL
set_option linter.unusedSimpArgs false
set_option linter.unusedVariables false
namespace Go.Proofs.YthdjckbjjfiopacGreatDoor
open _root_.Go.Proofs.Tryz
open Go.Sl Go.Proofs
theorem zwb (a b:Pt)(w:World):(Op.equal 55 (.agg (yi a).toArray) (.agg (yi b).toArray)).run Tryz.prog w= .ok (decide (a=b)) w:=by
  have h:=fun x y:Int=>zpw (P:=Tryz.prog) (w:=w) (a:=x) (b:=y) 9998 underlying3;show (Op.equalIn (9999+1) _ _ _).run _ _=_;unfold Op.equalIn;simp[underlying,program,Sem.run,underlying55,stoodInHeld55,Go.part,isAgg3,h];obtain ⟨a1,a2,a3,a4⟩:=a;obtain ⟨b1,b2,b3,b4⟩:=b;by_cases e1:a1=b1 <;> by_cases e2:a2=b2 <;> by_cases e3:a3=b3 <;> by_cases e4:a4=b4 <;> simp[e1,e2,e3,e4]
theorem drp_L {S:SI}{L:List Pt}{n id:Int}{S':SI}{L':List Pt}{n' r:Int}(h:zjP S L n id= .ok (S',L',n',r)):L'=L.filter (fun x=>!decide (x.id=id))∧n'=n:=by
  unfold zjP at h;cases hf:yz L id with
  | none=>rw[hf] at h;cases h
  | some p=>
    rw[hf] at h;simp only at h;injection h with h;injection h with e1 h;injection h with e2 h;injection h with e3 e4;exact ⟨e2.symm,e3.symm⟩
theorem find_is {L:List Pt}{id:Int}:(yz L id).isSome=true ↔ ∃p∈L,p.id=id:=by
  unfold yz;rw[List.find?_isSome];simp
theorem zrb {z z2:RpM}(h1:z2.ses=z.ses)(h2:z2.mou=z.mou)(q:Int):zbR z2 q=zbR z q:=by unfold zbR;rw[h1,h2]
theorem zjn:∀{l:List Int} {t:Nat} {D D2:DiskM} {z z2:RpM} {gone:List Int} {e:Int},Up t D z→t+l.length≤90000→l.Nodup→(∀q∈l,(yz z.L q).isSome=true)→zcj l D z gone e D2 z2→
    e=0∧gone.Sublist l∧z2.L=z.L.filter (fun p=>!decide (p.id∈gone))∧z2.ses=z.ses∧z2.mou=z.mou∧z2.next=z.next∧z2.n=z.n∧∀q∈gone,zbR z q=false
  | [],t,D,D2,z,z2,gone,e,R,ht,hnd,hin,h=>by
    obtain ⟨rfl,rfl,rfl,rfl⟩:=h;refine ⟨rfl,List.Sublist.refl _,?_,rfl,rfl,rfl,rfl,fun q hq=>by cases hq⟩
    symm
    exact List.filter_eq_self.2 fun p _=>by simp
  | id::l,t,D,D2,z,z2,gone,e,R,ht,hnd,hin,h=>by
    simp only[List.length_cons] at ht;rw[List.nodup_cons] at hnd;unfold zcj at h;by_cases hu:zbR z id=true
    · rw[if_pos hu] at h;obtain ⟨a1,a2,a3⟩:=zjn R (by omega) hnd.2 (fun q hq=>hin q (List.mem_cons_of_mem _ hq)) h;exact ⟨a1,a2.cons _,a3⟩
    · rw[if_neg hu] at h;have hu0:zbR z id=false:=(by simpa using hu);have hde:zdo z id=0:=by
        unfold zdo;have:=hin id (by simp);rw[if_neg (by rw[Option.isNone_iff_eq_none];intro hn;rw[hn] at this;cases this),hu0]
        rfl
      obtain ⟨e1,D1,z1,hd,h⟩:=h;rcases zht R.rep (by omega) hd with ⟨rfl,_,_,_,hdr,hs,hm,hx⟩ | ⟨hne,_,he,_⟩ | ⟨_,hn,_⟩
      · rcases h with ⟨hc,_⟩ | ⟨_,g',hk,hg⟩
        · exact absurd rfl hc
        obtain ⟨hL,hn⟩:=drp_L hdr;obtain ⟨rfl,a2,a3,a4,a5,a6,a7,a8⟩:=zjn (R.drop (by omega) hd) (by omega) hnd.2 (fun q hq=>by
          obtain ⟨p,hp,hpq⟩:=find_is.1 (hin q (List.mem_cons_of_mem _ hq));exact find_is.2 ⟨p,by rw[hL];exact List.mem_filter.2 ⟨hp,by simp;intro e;exact hnd.1 (by rw[←e,hpq];exact hq)⟩,hpq⟩) hk
        rw[if_pos rfl] at hg;subst hg;refine ⟨rfl,a2.cons_cons _,?_,a4.trans hs,a5.trans hm,a6.trans hx,a7.trans hn,fun q hq=>?_⟩
        · rw[a3,hL,List.filter_filter];refine List.filter_congr fun p _=>?_;simp only[List.mem_cons];by_cases h1:p.id=id <;> by_cases h2:p.id∈g' <;> simp[h1,h2]
        · rcases List.mem_cons.1 hq with rfl | hq
          · exact hu0
          · rw[←zrb hs hm];exact a8 q hq
      · exact absurd (he.trans hde) hne
      · exact absurd R.up hn
theorem zl8 (L:List Pt)(disk many:Int):(zeq L disk many).Sublist (L.map (·.id)):=by
  unfold zeq;exact (List.take_sublist _ _).trans (List.Sublist.map _ List.filter_sublist)
theorem ids_nodup {S:SI}{L:List Pt}{n:Int}{G:Gh}(h:Vok S L n G):(L.map (·.id)).Nodup:=by
  rw[List.Nodup,List.pairwise_map];exact h.srt.imp fun h=>by omega
theorem zv6 {S:SI}{L:List Pt}{n:Int}{G:Gh}(h:Vok S L n G)(disk many:Int):(zeq L disk many).Nodup∧∀q∈zeq L disk many,(yz L q).isSome=true:=by
  refine ⟨(ids_nodup h).sublist (zl8 L disk many),fun q hq=>?_⟩;obtain ⟨p,hp,e⟩:=List.mem_map.1 ((zl8 L disk many).subset hq);exact find_is.2 ⟨p,hp,e⟩
theorem zva {t:Nat}{D D2:DiskM}{z z2:RpM}{disk many e:Int}{gone:List Int}(R:Up t D z)(ht:t≤80000)(k:zcj (zeq z.L disk many) D z gone e D2 z2):
    Up (t+6) D2 z2∧e=0∧gone.Sublist (zeq z.L disk many)∧z2.L=z.L.filter (fun p=>!decide (p.id∈gone))∧z2.ses=z.ses∧z2.mou=z.mou∧z2.next=z.next∧z2.n=z.n∧∀q∈gone,zbR z q=false:=by
  obtain ⟨G,hC⟩:=R.rep.rok.con;have hel:=zg2 z.L disk many hC.v.len;obtain ⟨h1,h2⟩:=zv6 hC.v disk many;exact ⟨(Up.keep R (by omega) k).le (by omega),zjn R (by omega) h1 h2 k⟩
theorem zuX {L:List Pt}(h:L.Pairwise fun a b=>a.id<b.id){p q:Pt}(hp:p∈L)(hq:q∈L)(e:p.id=q.id):p=q:=by
  induction L with
  | nil=>cases hp
  | cons a l ih=>
    have h':=List.pairwise_cons.1 h;rcases List.mem_cons.1 hp with rfl | gp
    · rcases List.mem_cons.1 hq with rfl | gq
      · rfl
      · have:=h'.1 q gq;omega
    · rcases List.mem_cons.1 hq with rfl | gq
      · have:=h'.1 p gp;omega
      · exact ih h'.2 gp gq
def zhx (disk:Int)(p:Pt):Bool:=decide (p.disk=disk)
def wnt (gone:List Int)(p:Pt):Bool:=decide (p.id∈gone)
theorem zm0 {L:List Pt}(hs:L.Pairwise fun a b=>a.id<b.id){disk many:Int}(hm:0≤many){i:Nat}{p:Pt}(hp:L[i]? =some p)(hw:p.id∈zeq L disk many):p.disk=disk∧many<(((L.drop i).filter (zhx disk)).length:Int):=by
  have hpL:=List.mem_of_getElem? hp;have hd:p.disk=disk:=by
    unfold zeq at hw;obtain ⟨y,hy,e⟩:=List.mem_map.1 (List.mem_of_mem_take hw);have hy':=List.mem_filter.1 hy;rw[←zuX hs hy'.1 hpL e];simpa using hy'.2
  refine ⟨hd,?_⟩;have hL:L=L.take i++p::L.drop (i+1):=(by rw[←zbA hp,List.take_append_drop]);have hdr:L.drop i=p::L.drop (i+1):=zbA hp;have hF:L.filter (zhx disk)=(L.take i).filter (zhx disk)++p::(L.drop (i+1)).filter (zhx disk):=by
    conv=>lhs;rw[hL]
    rw[List.filter_append,List.filter_cons_of_pos (by unfold zhx;simpa using hd)]
  have hlt:∀a∈(L.take i).filter (zhx disk),a.id<p.id:=fun a ha=>by
    have h1:=hs;rw[hL,List.pairwise_append] at h1;exact h1.2.2 a (List.mem_filter.1 ha).1 p (by simp)
  unfold zeq at hw;simp only at hw;have hF':(L.filter fun p=>decide (p.disk=disk))=(L.take i).filter (zhx disk)++p::(L.drop (i+1)).filter (zhx disk):=hF;rw[hF'] at hw;rw[hdr,List.filter_cons_of_pos (by unfold zhx;simpa using hd)];refine Decidable.byContradiction fun hc=>?_;rw[List.map_append,List.take_append_of_le_length (by simp only[List.length_append,List.length_map,List.length_cons] at hc ⊢;omega)] at hw;obtain ⟨a,ha,e⟩:=List.mem_map.1 (List.mem_of_mem_take hw);have:=hlt a ha;omega
theorem zoo {α:Type}(f:α→Bool):∀l:List α,(l.filter f).length+(l.filter fun x=>!f x).length=l.length
  | []=>rfl
  | a::l=>by
    have:=zoo f l;cases h:f a with
    | true=>rw[List.filter_cons_of_pos h,List.filter_cons_of_neg (by simp[h])];simp only[List.length_cons];omega
    | false=>rw[List.filter_cons_of_neg (by simp[h]),List.filter_cons_of_pos (by simp[h])];simp only[List.length_cons];omega
theorem zsi {S:SI}{L:List Pt}{n:Int}{G:Gh}(h:Vok S L n G){gone:List Int}(hg:gone.Sublist (L.map (·.id))):(L.filter (wnt gone)).length=gone.length:=by
  have hn:=ids_nodup h;have h1:((L.filter (wnt gone)).map (·.id)).Nodup:=hn.sublist (List.Sublist.map _ List.filter_sublist);have a:=zd7 h1 (m:=gone) fun q hq=>by
    obtain ⟨p,hp,rfl⟩:=List.mem_map.1 hq;simpa [wnt] using (List.mem_filter.1 hp).2
  have b:=zd7 (hn.sublist hg) (m:=(L.filter (wnt gone)).map (·.id)) fun q hq=>by
    obtain ⟨p,hp,rfl⟩:=List.mem_map.1 (hg.subset hq);exact List.mem_map.2 ⟨p,List.mem_filter.2 ⟨hp,by simpa [wnt] using hq⟩,rfl⟩
  rw[List.length_map] at a b;omega
theorem zkH {α:Type}(f:α→Bool){l:List α}{k:Nat}{x:α}(h:l[k]? =some x):(l.take (k+1)).any f=((l.take k).any f || f x):=by
  rw[List.take_add_one,h,List.any_append];simp
theorem zvn {L:List Pt}{gone:List Int}{p:Pt}(hp:p∈L):((L.filter fun p=>!decide (p.id∈gone)).any fun q=>decide (q=p))=!wnt gone p:=by
  unfold wnt;by_cases h:p.id∈gone
  · rw[decide_eq_true h,List.any_eq_false.2 fun q hq=>?_];rfl;have:=List.mem_filter.1 hq;simp at this ⊢;rintro rfl;exact this.2 h
  · rw[decide_eq_false h,List.any_eq_true.2 ⟨p,List.mem_filter.2 ⟨hp,by simpa using h⟩,by simp⟩];rfl
theorem zvk {gone:List Int}{p:Pt}:(gone.any fun g=>decide (g=p.id))=wnt gone p:=by
  unfold wnt;by_cases h:p.id∈gone
  · rw[decide_eq_true h,List.any_eq_true.2 ⟨p.id,h,by simp⟩]
  · rw[decide_eq_false h,List.any_eq_false.2 fun q hq=>?_];simp;rintro rfl;exact h hq
end Go.Proofs.YthdjckbjjfiopacGreatDoor
