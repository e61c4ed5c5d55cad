/- Changes from rows to rows: plain laws. No condition. -/
import Derived.Test.YthdjckbjjfiopacGreatDoorPartC
set_option linter.unusedSimpArgs false
set_option linter.unusedVariables false
namespace Go.Proofs.YthdjckbjjfiopacGreatDoor
open Go.Sl Go.Proofs
def goneC (c:ChangeM):ChangeM:=⟨c.key,[],true⟩
def zxk (a b:List ChangeM):List ChangeM:=(a.filter fun c=>!isS b c.key).map goneC++b.filter fun c=>!decide (c∈a)
def mg:List ChangeM→List ChangeM→List ChangeM
  | [],b=>b
  | a,[]=>a.map goneC
  | x::a,y::b=>if kl x.key y.key=true then goneC x::mg a (y::b) else if kl y.key x.key=true then y::mg (x::a) b else if x=y then mg a b else y::mg a b
termination_by a b=>a.length+b.length
theorem zmd (b:List ChangeM):mg [] b=b:=by unfold mg;rfl
theorem zl8 (a:List ChangeM):mg a []=a.map goneC:=by
  cases a with
  | nil=>rw[zmd];rfl
  | cons x a=>unfold mg;rfl
theorem ztR {x y:ChangeM}{a b:List ChangeM}(h:kl x.key y.key=true):mg (x::a) (y::b)=goneC x::mg a (y::b):=by
  rw[mg];rw[if_pos h]
theorem zvs {x y:ChangeM}{a b:List ChangeM}(h1:¬kl x.key y.key=true)(h:kl y.key x.key=true):mg (x::a) (y::b)=y::mg (x::a) b:=by
  rw[mg];rw[if_neg h1,if_pos h]
theorem zvw {x y:ChangeM}{a b:List ChangeM}(h1:¬kl x.key y.key=true)(h:¬kl y.key x.key=true):mg (x::a) (y::b)=(if x=y then [] else [y])++mg a b:=by
  rw[mg];rw[if_neg h1,if_neg h];split <;> rfl
theorem isS_iff {l:List ChangeM}{k:Bytes}:isS l k=true ↔ ∃r∈l,r.key=k:=by unfold isS;simp[List.any_eq_true]
theorem zdj:∀{a b:List ChangeM},srt a→srt b→∀c,c∈mg a b ↔ (∃x∈a,c=goneC x∧∀y∈b,y.key≠x.key)∨(c∈b∧c ∉ a)
  | [],b,_,_,c=>by rw[zmd];simp
  | x::a,[],_,_,c=>by
    rw[zl8,List.mem_map];constructor
    · rintro ⟨z,hz,rfl⟩;exact .inl ⟨z,hz,rfl,fun y hy=>by cases hy⟩
    · rintro (⟨z,hz,rfl,_⟩ | ⟨h,_⟩)
      · exact ⟨z,hz,rfl⟩
      · cases h
  | x::a,y::b,ha,hb,c=>by
    have ha':=List.pairwise_cons.1 ha;have hb':=List.pairwise_cons.1 hb;by_cases h1:kl x.key y.key=true
    · rw[ztR h1,List.mem_cons,zdj ha'.2 hb];have hxb:∀z∈y::b,z.key≠x.key:=fun z hz e=>by
        rcases List.mem_cons.1 hz with rfl | hz
        · exact zcS h1 e.symm
        · exact zcS (za1 h1 (hb'.1 z hz)) e.symm
      constructor
      · rintro (rfl | ⟨z,hz,rfl,hn⟩ | ⟨h2,h3⟩)
        · exact .inl ⟨x,by simp,rfl,hxb⟩
        · exact .inl ⟨z,List.mem_cons_of_mem _ hz,rfl,hn⟩
        · refine .inr ⟨h2,fun h4=>?_⟩;rcases List.mem_cons.1 h4 with rfl | h4
          · exact hxb _ h2 rfl
          · exact h3 h4
      · rintro (⟨z,hz,rfl,hn⟩ | ⟨h2,h3⟩)
        · rcases List.mem_cons.1 hz with rfl | hz
          · exact .inl rfl
          · exact .inr (.inl ⟨z,hz,rfl,hn⟩)
        · exact .inr (.inr ⟨h2,fun h=>h3 (List.mem_cons_of_mem _ h)⟩)
    · by_cases h2:kl y.key x.key=true
      · rw[zvs h1 h2,List.mem_cons,zdj ha hb'.2];have hya:∀z∈x::a,z.key≠y.key:=fun z hz e=>by
          rcases List.mem_cons.1 hz with rfl | hz
          · exact zcS h2 e.symm
          · exact zcS (za1 h2 (ha'.1 z hz)) e.symm
        constructor
        · rintro (rfl | ⟨z,hz,rfl,hn⟩ | ⟨h3,h4⟩)
          · exact .inr ⟨by simp,fun h=>hya _ h rfl⟩
          · refine .inl ⟨z,hz,rfl,fun w hw=>?_⟩;rcases List.mem_cons.1 hw with rfl | hw
            · exact fun e=>hya z hz e.symm
            · exact hn w hw
          · exact .inr ⟨List.mem_cons_of_mem _ h3,h4⟩
        · rintro (⟨z,hz,rfl,hn⟩ | ⟨h3,h4⟩)
          · exact .inr (.inl ⟨z,hz,rfl,fun w hw=>hn w (List.mem_cons_of_mem _ hw)⟩)
          · rcases List.mem_cons.1 h3 with rfl | h3
            · exact .inl rfl
            · exact .inr (.inr ⟨h3,h4⟩)
      · have hk:x.key=y.key:=by
          rcases zhm x.key y.key with h | h | h
          · exact absurd h h1
          · exact h
          · exact absurd h h2
        have hxb:∀z∈b,z.key≠x.key:=fun z hz e=>zcS (hb'.1 z hz) (by rw[e,hk]);have hya:∀z∈a,z.key≠y.key:=fun z hz e=>zcS (ha'.1 z hz) (by rw[e,hk]);rw[zvw h1 h2,List.mem_append,zdj ha'.2 hb'.2];constructor
        · rintro (h3 | ⟨z,hz,rfl,hn⟩ | ⟨h3,h4⟩)
          · split at h3
            · cases h3
            · rename_i hne;rw[List.mem_singleton] at h3;subst h3;refine .inr ⟨by simp,fun h=>?_⟩;rcases List.mem_cons.1 h with h | h
              · exact hne h.symm
              · exact hya _ h rfl
          · refine .inl ⟨z,List.mem_cons_of_mem _ hz,rfl,fun w hw=>?_⟩;rcases List.mem_cons.1 hw with rfl | hw
            · exact fun e=>hya z hz e.symm
            · exact hn w hw
          · refine .inr ⟨List.mem_cons_of_mem _ h3,fun h=>?_⟩;rcases List.mem_cons.1 h with rfl | h
            · exact hxb _ h3 rfl
            · exact h4 h
        · rintro (⟨z,hz,rfl,hn⟩ | ⟨h3,h4⟩)
          · rcases List.mem_cons.1 hz with rfl | hz
            · exact absurd hk.symm (hn y (by simp))
            · exact .inr (.inl ⟨z,hz,rfl,fun w hw=>hn w (List.mem_cons_of_mem _ hw)⟩)
          · rcases List.mem_cons.1 h3 with rfl | h3
            · left;rw[if_neg (fun e=>h4 (by rw[e];simp))];simp
            · exact .inr (.inr ⟨h3,fun h=>h4 (List.mem_cons_of_mem _ h)⟩)
termination_by a b=>a.length+b.length
theorem zpK {k:Bytes}{a b:List ChangeM}(ha:srt a)(hb:srt b)(h1:∀x∈a,kl k x.key=true)(h2:∀x∈b,kl k x.key=true):∀x∈mg a b,kl k x.key=true:=fun x hx=>by
  rcases (zdj ha hb x).1 hx with ⟨z,hz,rfl,_⟩ | ⟨h,_⟩
  · exact h1 z hz
  · exact h2 x h
theorem zhd:∀{a b:List ChangeM},srt a→srt b→srt (mg a b)
  | [],b,_,hb=>by rw[zmd];exact hb
  | x::a,[],ha,_=>by
    rw[zl8];unfold srt;rw[List.pairwise_map];exact ha
  | x::a,y::b,ha,hb=>by
    have ha':=List.pairwise_cons.1 ha;have hb':=List.pairwise_cons.1 hb;by_cases h1:kl x.key y.key=true
    · rw[ztR h1];refine List.pairwise_cons.2 ⟨zpK ha'.2 hb ha'.1 fun z hz=>?_,zhd ha'.2 hb⟩;rcases List.mem_cons.1 hz with rfl | hz
      · exact h1
      · exact za1 h1 (hb'.1 z hz)
    · by_cases h2:kl y.key x.key=true
      · rw[zvs h1 h2];refine List.pairwise_cons.2 ⟨zpK ha hb'.2 (fun z hz=>?_) hb'.1,zhd ha hb'.2⟩;rcases List.mem_cons.1 hz with rfl | hz
        · exact h2
        · exact za1 h2 (ha'.1 z hz)
      · have hk:x.key=y.key:=by
          rcases zhm x.key y.key with h | h | h
          · exact absurd h h1
          · exact h
          · exact absurd h h2
        rw[zvw h1 h2];split
        · exact zhd ha'.2 hb'.2
        · exact List.pairwise_cons.2 ⟨zpK ha'.2 hb'.2 (fun z hz=>by rw[←hk];exact ha'.1 z hz) hb'.1,zhd ha'.2 hb'.2⟩
termination_by a b=>a.length+b.length
theorem zrr {x y:ChangeM}{l m:List ChangeM}(hl:srt (x::l))(hm:srt (y::m))(h:∀c,c∈x::l ↔ c∈y::m):x=y:=by
  have hl':=List.pairwise_cons.1 hl;have hm':=List.pairwise_cons.1 hm;rcases List.mem_cons.1 ((h x).1 (by simp)) with e | hx
  · exact e
  · rcases List.mem_cons.1 ((h y).2 (by simp)) with e | hy
    · exact e.symm
    · have h1:=hl'.1 y hy;have h2:=hm'.1 x hx;rw[zdf h1] at h2;cases h2
theorem zlv:∀{l m:List ChangeM},srt l→srt m→(∀c,c∈l ↔ c∈m)→l=m
  | [],[],_,_,_=>rfl
  | [],y::m,_,_,h=>by have:=(h y).2 (by simp);cases this
  | x::l,[],_,_,h=>by have:=(h x).1 (by simp);cases this
  | x::l,y::m,hl,hm,h=>by
    obtain rfl:=zrr hl hm h;have hl':=List.pairwise_cons.1 hl;have hm':=List.pairwise_cons.1 hm;rw[zlv hl'.2 hm'.2 fun c=>?_];constructor
    · intro hc;rcases List.mem_cons.1 ((h c).1 (List.mem_cons_of_mem _ hc)) with rfl | hc'
      · have:=hl'.1 c hc;rw[zdW] at this;cases this
      · exact hc'
    · intro hc;rcases List.mem_cons.1 ((h c).2 (List.mem_cons_of_mem _ hc)) with rfl | hc'
      · have:=hm'.1 c hc;rw[zdW] at this;cases this
      · exact hc'
theorem zvi {l:List ChangeM}(h:srt l){x y:ChangeM}(hx:x∈l)(hy:y∈l)(e:x.key=y.key):x=y:=by
  induction l with
  | nil=>cases hx
  | cons z l ih=>
    have h':=List.pairwise_cons.1 h;rcases List.mem_cons.1 hx with h1 | h1
    · rcases List.mem_cons.1 hy with h2 | h2
      · rw[h1,h2]
      · exact absurd (by rw[←h1];exact e) (zcS (h'.1 y h2))
    · rcases List.mem_cons.1 hy with h2 | h2
      · exact absurd (by rw[←h2];exact e.symm) (zcS (h'.1 x h1))
      · exact ih h'.2 h1 h2
theorem zrl {a b:List ChangeM}(c:ChangeM):c∈zxk a b ↔ (∃x∈a,c=goneC x∧∀y∈b,y.key≠x.key)∨(c∈b∧c ∉ a):=by
  unfold zxk;rw[List.mem_append,List.mem_map];constructor
  · rintro (⟨x,hx,rfl⟩ | h)
    · rw[List.mem_filter] at hx;refine .inl ⟨x,hx.1,rfl,fun y hy e=>?_⟩;have:isS b x.key=true:=isS_iff.2 ⟨y,hy,e⟩;rw[this] at hx;simp at hx
    · rw[List.mem_filter] at h;exact .inr ⟨h.1,by simpa using h.2⟩
  · rintro (⟨x,hx,rfl,hn⟩ | ⟨h1,h2⟩)
    · refine .inl ⟨x,List.mem_filter.2 ⟨hx,?_⟩,rfl⟩;cases e:isS b x.key with
      | false=>rfl
      | true=>obtain ⟨r,hr,h⟩:=isS_iff.1 e;exact absurd h (hn r hr)
    · exact .inr (List.mem_filter.2 ⟨h1,by simpa using h2⟩)
theorem zqK {a b:List ChangeM}(ha:srt a)(hb:srt b):(zxk a b).Pairwise fun x y=>x.key≠y.key:=by
  unfold zxk;rw[List.pairwise_append];refine ⟨?_,(List.Pairwise.filter _ hb).imp fun h=>zcS h,fun x hx y hy=>?_⟩
  · rw[List.pairwise_map];exact (List.Pairwise.filter _ ha).imp fun h=>zcS h
  · obtain ⟨z,hz,rfl⟩:=List.mem_map.1 hx;rw[List.mem_filter] at hz hy;intro e;have:isS b z.key=true:=isS_iff.2 ⟨y,hy.1,e.symm⟩;rw[this] at hz;simp at hz
theorem znY {a b l:List ChangeM}(ha:srt a)(hb:srt b)(hp:l.Perm (zxk a b))(hs:l.Pairwise fun x y=>kl y.key x.key=false):l=mg a b:=by
  have hk:l.Pairwise fun x y=>x.key≠y.key:=(hp.pairwise_iff (fun h=>Ne.symm h)).2 (zqK ha hb);have hl:srt l:=(hs.and hk).imp fun {x y} h=>by
    rcases zhm x.key y.key with h1 | h1 | h1
    · exact h1
    · exact absurd h1 h.2
    · rw[h.1] at h1;cases h1
  refine zlv hl (zhd ha hb) fun c=>?_;rw[hp.mem_iff,zrl,zdj ha hb]
theorem ztq {l:List ChangeM}(h:srt l)(c:ChangeM):c∈l ↔ isS l c.key=true∧l[lbS l c.key]? =some c:=by
  constructor
  · intro hc;have h1:isS l c.key=true:=isS_iff.2 ⟨c,hc,rfl⟩;refine ⟨h1,?_⟩;rw[zlu h] at h1;split at h1
    · rename_i r hr;rw[hr,zvi h (List.mem_of_getElem? hr) hc (by simpa using h1)]
    · cases h1
  · rintro ⟨_,h2⟩;exact List.mem_of_getElem? h2
end Go.Proofs.YthdjckbjjfiopacGreatDoor
