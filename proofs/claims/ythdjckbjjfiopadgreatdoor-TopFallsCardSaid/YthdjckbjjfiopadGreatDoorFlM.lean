/- What an act zf6 of a vault, and what a restart finds. Plain laws. No condition. -/
import Derived.Test.YthdjckbjjfiopadGreatDoorFlL
set_option linter.unusedSimpArgs false
set_option linter.unusedVariables false
namespace Go.Proofs.YthdjckbjjfiopadGreatDoor
open Go.Sl Go.Proofs
def Lat (S:SI)(L:List Pt)(S':SI)(L':List Pt):Prop:=∀p∈L,∀p'∈L',p.id=p'.id→blk S p=blk S' p'
theorem Lat.rfl' {S:SI}{L:List Pt}{n:Int}{G:Gh}(h:Vok S L n G):Lat S L S L:=fun p hp p' hp' e=>by rw[zjJ h.srt hp hp' e]
theorem zkJ {G G':Gh}{L:List Pt}(k:zf6 G G' (L.map (·.root))){p:Pt}(hp:p∈L)(hs:p.size≤16):blk (mkG G) p=blk (mkG G') p:=
  (ztq hs fun i hi=>k p.root (List.mem_map.2 ⟨p,hp,rfl⟩) i hi).symm
theorem zqh {S S':SI}{L:List Pt}{n:Int}{G G':Gh}{q:Pt}(h:Vok S L n G)(h':S'=mkG G')(k:zf6 G G' (L.map (·.root)))(hq:q.id=n):Lat S L S' (L++ [q]):=fun p hp p' hp' e=>by
  have hp2:=h.pts p hp;rcases List.mem_append.1 hp' with hp' | hp'
  · rw[←zjJ h.srt hp hp' e,h.e,h'];exact zkJ k hp hp2.2.2.2
  · rw[List.mem_singleton] at hp';subst hp';have:=hp2.1.2;omega
def Less (S:SI)(L:List Pt)(S':SI)(L':List Pt):Prop:=∀p∈L',p∈L∧blk S p=blk S' p
theorem Less.lat {S:SI}{L:List Pt}{n:Int}{G:Gh}{S':SI}{L':List Pt}(h:Vok S L n G)(k:Less S L S' L'):Lat S L S' L':=fun p hp p' hp' e=>by
  obtain ⟨a,b⟩:=k p' hp';rw[zjJ h.srt hp a e];exact b
theorem Less.refl (S:SI)(L:List Pt):Less S L S L:=fun p hp=>⟨hp,rfl⟩
theorem Less.trans {S:SI}{L:List Pt}{S':SI}{L':List Pt}{S2:SI}{L2:List Pt}(h:Less S L S' L')(k:Less S' L' S2 L2):Less S L S2 L2:=fun p hp=>by
  obtain ⟨a,b⟩:=k p hp;obtain ⟨c,d⟩:=h p a;exact ⟨c,d.trans b⟩
theorem ztR {S:SI}{L:List Pt}{n id:Int}{G:Gh}{S':SI}{L':List Pt}{n' r:Int}(h:Vok S L n G)(e:zh0 S L n id= .ok (S',L',n',r)):Less S L S' L':=by
  obtain ⟨G',p,h',_,k,rfl,_,_⟩:=zmu h e;intro q hq;have hqL:=(List.mem_filter.1 hq).1;refine ⟨hqL,?_⟩;rw[h.e,h'.e];exact zkJ k hq (h.pts q hqL).2.2.2
def Kin (σ σ':LR):Prop:=(∃G,Con σ'.S σ'.L σ'.n G)∧Lat σ.S σ.L σ'.S σ'.L
theorem wX {σ σ':LR}{G:Gh}(h:Con σ.S σ.L σ.n G)(h1:σ'.S=σ.S)(h2:σ'.L=σ.L)(h3:σ'.n=σ.n):Kin σ σ':=⟨⟨G,by rw[h1,h2,h3];exact h⟩,by rw[h1,h2];exact Lat.rfl' h.v⟩
theorem zwF {σ:LR}{G:Gh}(h:Con σ.S σ.L σ.n G)(id:Int):Kin σ (znZ σ id).1:=by
  unfold znZ;cases hf:fS σ.ses id with
  | none=>exact wX h rfl rfl rfl
  | some s=>
    dsimp only;cases hr:zgn σ.S σ.L σ.n s.base s.disk s.size s.puts with
    | error f=>exact wX h rfl rfl rfl
    | ok r=>
      obtain ⟨S',L',n',r⟩:=r;obtain ⟨G',hC'⟩:=ze1 h hr;obtain ⟨G2,root,hV2,hk,e1,e2,e3,_⟩:=zjg h.v hr;refine ⟨⟨G',hC'⟩,?_⟩;show Lat σ.S σ.L S' L';rw[e1];exact zqh h.v hV2.e hk rfl
theorem zvb {σ:LR}{G:Gh}(h:Con σ.S σ.L σ.n G)(id:Int):Kin σ (zmG σ id).1:=by
  unfold zmG;cases hr:ziJ σ.S σ.L σ.n id with
  | error f=>exact wX h rfl rfl rfl
  | ok r=>
    obtain ⟨S',L',n',r⟩:=r;obtain ⟨G',hC'⟩:=zeF h hr;obtain ⟨G2,p,hV2,_,hk,e1,e2,e3⟩:=zjf h.v hr;refine ⟨⟨G',hC'⟩,?_⟩;show Lat σ.S σ.L S' L';rw[e1];exact zqh h.v hV2.e hk rfl
theorem zhO {σ:LR}{G:Gh}(h:Con σ.S σ.L σ.n G)(id:Int):(∃G',Con (zcz σ id).1.S (zcz σ id).1.L (zcz σ id).1.n G')∧Less σ.S σ.L (zcz σ id).1.S (zcz σ id).1.L:=by
  unfold zcz;by_cases hd:zkI σ id≠0
  · rw[if_pos hd];exact ⟨⟨G,h⟩,Less.refl _ _⟩
  · rw[if_neg hd];cases hr:zh0 σ.S σ.L σ.n id with
    | error f=>exact ⟨⟨G,h⟩,Less.refl _ _⟩
    | ok r=>
      obtain ⟨S',L',n',r⟩:=r;obtain ⟨G',hC'⟩:=zjM h hr;exact ⟨⟨G',hC'⟩,ztR h.v hr⟩
theorem zhd:∀{l:List Int} {σ:LR} {G:Gh},Con σ.S σ.L σ.n G→(∃G',Con (keepL l σ).1.S (keepL l σ).1.L (keepL l σ).1.n G')∧Less σ.S σ.L (keepL l σ).1.S (keepL l σ).1.L
  | [],σ,G,h=>⟨⟨G,h⟩,Less.refl _ _⟩
  | id::l,σ,G,h=>by
    unfold keepL;split
    · exact zhd h
    · obtain ⟨⟨G1,h1⟩,k1⟩:=zhO h id;obtain ⟨a,b⟩:=zhd (l:=l) h1;exact ⟨a,k1.trans b⟩
theorem zsi {σ:LR}{G:Gh}(h:Con σ.S σ.L σ.n G)(x:ActM):Kin σ (zeK σ x).1:=by
  unfold zeK;by_cases hBeg:x.kind=dkBeg
  · rw[if_pos hBeg];split <;> exact wX h rfl rfl rfl
  rw[if_neg hBeg];by_cases hPut:x.kind=dkPut
  · rw[if_pos hPut];split
    · exact wX h rfl rfl rfl
    · unfold LR.putted;split <;> exact wX h rfl rfl rfl
  rw[if_neg hPut];by_cases hFin:x.kind=dkFin
  · rw[if_pos hFin];exact zwF h x.a
  rw[if_neg hFin];by_cases hAbo:x.kind=dkAbo
  · rw[if_pos hAbo];unfold aboL;split <;> exact wX h rfl rfl rfl
  rw[if_neg hAbo];by_cases hAgn:x.kind=dkAgn
  · rw[if_pos hAgn];exact zvb h x.a
  rw[if_neg hAgn];by_cases hDrp:x.kind=dkDrp
  · rw[if_pos hDrp];obtain ⟨a,b⟩:=zhO h x.a;exact ⟨a,b.lat h.v⟩
  rw[if_neg hDrp];by_cases hKee:x.kind=dkKee
  · rw[if_pos hKee];split
    · exact wX h rfl rfl rfl
    · obtain ⟨a,b⟩:=zhd (l:=zeH σ.L x.a x.b) h;exact ⟨a,b.lat h.v⟩
  rw[if_neg hKee];by_cases hMou:x.kind=dkMou
  · rw[if_pos hMou];split <;> exact wX h rfl rfl rfl
  rw[if_neg hMou];by_cases hUnm:x.kind=dkUnm
  · rw[if_pos hUnm];unfold unmL;split <;> exact wX h rfl rfl rfl
  rw[if_neg hUnm];by_cases hRea:x.kind=dkRea
  · rw[if_pos hRea];exact wX h rfl rfl rfl
  rw[if_neg hRea];by_cases hWri:x.kind=dkWri
  · rw[if_pos hWri];split
    · exact wX h rfl rfl rfl
    · unfold LR.written;split <;> exact wX h rfl rfl rfl
  rw[if_neg hWri];exact wX h rfl rfl rfl
theorem zgN:∀{l:List Int} {t:Nat} {D D2:DiskM} {z z2:RpM} {gone:List Int} {e:Int},Rep t D z→t+l.length≤90000→zbR l D z gone e D2 z2→
    (Rep (t+l.length) D2 z2∧z2.next=z.next∧Less z.S z.L z2.S z2.L)∨(Fall (t+l.length) D2 fun r=>∃S L n G,Con S L n G∧Less z.S z.L S L∧r=qY S L n)
  | [],t,D,D2,z,z2,gone,e,R,ht,h=>by
    obtain ⟨_,_,rfl,rfl⟩:=h;exact .inl ⟨R,rfl,Less.refl _ _⟩
  | id::l,t,D,D2,z,z2,gone,e,R,ht,h=>by
    simp only[List.length_cons] at ht ⊢;obtain ⟨G,hC⟩:=R.rok.con;unfold zbR at h;by_cases hu:zbk z id=true
    · rw[if_pos hu] at h;rcases zgN R (by omega) h with ⟨a,b⟩ | a
      · exact .inl ⟨a.le (by omega),b⟩
      · exact .inr (a.le (by omega) fun r hr=>hr)
    · rw[if_neg hu] at h;obtain ⟨e1,D1,z1,hd,h⟩:=h;obtain ⟨⟨G1,hC1⟩,hl1⟩:=zhO (σ:=z.lr) hC id;rcases zkg R (by omega) hd with ⟨h9,R1,hs⟩ | ⟨h9,hF⟩
      · have hz1:(zcz z.lr id).1=z1.lr:=(by rw[hs]);rw[hz1] at hC1 hl1;have hnx:z1.next=z.next:=by
          rw[show z1.next=z1.lr.next from rfl,←hz1];unfold zcz;split
          · rfl
          · split <;> rfl
        rcases h with ⟨_,_,_,rfl,rfl⟩ | ⟨_,g',hk,_⟩
        · exact .inl ⟨R1.le (by omega),hnx,hl1⟩
        · rcases zgN R1 (by omega) hk with ⟨a,b,c⟩ | a
          · exact .inl ⟨a.le (by omega),b.trans hnx,Less.trans hl1 c⟩
          · exact .inr (a.le (by omega) fun r ⟨S,L,n,G2,h1,h2,h3⟩=>⟨S,L,n,G2,h1,Less.trans hl1 h2,h3⟩)
      · rcases h with ⟨_,_,_,rfl,rfl⟩ | ⟨h0,_⟩
        · refine .inr (hF.le (by omega) fun r hr=>?_);rcases hr with rfl | rfl
          · exact ⟨_,_,_,G,hC,Less.refl _ _,rfl⟩
          · exact ⟨_,_,_,G1,hC1,hl1,rfl⟩
        · rw[h0] at h9;cases h9
theorem zr1 {t:Nat}{D D2:DiskM}{z z2:RpM}{x:ActM}{n e:Int}{s:Bytes}(R:Rep t D z)(hn:z.next≤1+t)(ht:t≤80000)(k:wT D z x n s e D2 z2):
    (Rep (t+7) D2 z2∧z2.next≤1+((t+7:Nat):Int)∧Lat z.S z.L z2.S z2.L)∨(Fall (t+7) D2 fun r=>∃S L n G,Con S L n G∧Lat z.S z.L S L∧r=qY S L n):=by
  obtain ⟨G,hC⟩:=R.rok.con;by_cases hk:x.kind=dkKee
  · unfold wT at k;rw[if_neg (by rw[hk];decide),if_neg (by rw[hk];decide),if_neg (by rw[hk];decide),if_neg (by rw[hk];decide),if_neg (by rw[hk];decide),if_neg (by rw[hk];decide),if_pos hk] at k;obtain ⟨_,⟨_,_,_,rfl,rfl⟩ | ⟨_,gone,hk,_⟩⟩:=k
    · exact .inl ⟨R.le (by omega),by omega,Lat.rfl' hC.v⟩
    · have hel:=zgX z.L x.a x.b hC.v.len;rcases zgN R (by omega) hk with ⟨a,b,c⟩ | a
      · exact .inl ⟨a.le (by omega),by rw[b];omega,c.lat hC.v⟩
      · exact .inr (a.le (by omega) fun r ⟨S,L,n,G2,h1,h2,h3⟩=>⟨S,L,n,G2,h1,h2.lat hC.v,h3⟩)
  · obtain ⟨⟨G1,hC1⟩,hl⟩:=zsi (σ:=z.lr) hC x;rcases zst R hn ht hk k with ⟨a,b,c⟩ | ⟨_,hF⟩
    · refine .inl ⟨a,b,?_⟩;rw[c] at hl;exact hl
    · refine .inr (hF.le (Nat.le_refl _) fun r hr=>?_);rcases hr with rfl | rfl
      · exact ⟨_,_,_,G,hC,Lat.rfl' hC.v,rfl⟩
      · exact ⟨_,_,_,G1,hC1,hl,rfl⟩
theorem ztO {D:DiskM}(h:S80 D)(keep:Int):S80 (zar keep D):=⟨zlF h.1 h.2.2 _,zlF h.1 h.2.2 _,fun t ht=>by cases ht⟩
theorem zwA {D:DiskM}{i:Nat}(h:okW 200 i D)(keep:Int):okW 200 1000 (zar keep D):=by
  have h2:=zsm h keep;exact ⟨h2.1,h2.2.1,h2.2.2.1,h2.2.2.2.1,by show (0:Nat)≤1000;decide⟩
theorem zmL {t:Nat}{D:DiskM}{φ:List ChangeM→Prop}(hok:okW 200 2000 D)(hS:S80 D)(hF:Fell 200 D (1+2*t) (1+400*t) φ)(keep:Int)(hφ:∀r,φ r→∃S L n G,Con S L n G∧r=qY S L n):
    ∃h r0 ds used S L n G,Con S L n G∧Inv 200 (zar keep D) h r0 ds used∧S80 (zar keep D)∧cur r0 ds=qY S L n∧φ (qY S L n)∧Rep t (zar keep D) ⟨h,used,qY S L n,S,L,n,[],[],1⟩:=by
  obtain ⟨h,r0,ds,used,hI,hp,he,hf,hs⟩:=hF keep;obtain ⟨S,L,n,G,hC,hr⟩:=hφ _ hp;have h80:=ztO hS keep;refine ⟨h,r0,ds,used,S,L,n,G,hC,hI,h80,hr,by rw[←hr];exact hp,⟨zwA hok keep,h80,⟨r0,ds,⟨⟨rfl,rfl,rfl⟩,hI,hs⟩,hr⟩,he,hf,rfl,⟨⟨G,hC⟩,by show (1:Int)≤1∧(1:Int)≤1000000;omega,(fun e he=>by cases he),(fun e he=>by cases he),(fun e he=>by cases he)⟩⟩⟩
theorem Rep.fell {t:Nat}{D:DiskM}{z:RpM}(R:Rep t D z):Fell 200 D (1+2*t) (1+400*t) fun r=>r=qY z.S z.L z.n:=by
  obtain ⟨r0,ds,C,hc⟩:=R.cal;exact (zr3 C).mono R.ep R.first fun x hx=>by rw[hx,hc,R.rows]
end Go.Proofs.YthdjckbjjfiopadGreatDoor
