/- What an act zf1 of a vault, and what a restart finds. Plain laws. No condition. -/
import Derived.Test.YthdjckbjjfiopadGreatDoorFlL
set_option linter.unusedSimpArgs false
set_option linter.unusedVariables false
namespace Go.Proofs.YthdjckbjjfiopadGreatDoor
open Go.Sl Go.Proofs
def Lat (S:SI)(L:List Pt)(S':SI)(L':List Pt):Prop:=∀p∈L,∀p'∈L',p.id=p'.id→blk S p=blk S' p'
theorem Lat.rfl' {S:SI}{L:List Pt}{n:Int}{G:Gh}(h:Vok S L n G):Lat S L S L:=fun p hp p' hp' e=>by rw[zmC h.srt hp hp' e]
theorem zk9 {G G':Gh}{L:List Pt}(k:zf1 G G' (L.map (·.root))){p:Pt}(hp:p∈L)(hs:p.size≤16):blk (mkG G) p=blk (mkG G') p:=
  (zsw hs fun i hi=>k p.root (List.mem_map.2 ⟨p,hp,rfl⟩) i hi).symm
theorem zo1 {S S':SI}{L:List Pt}{n:Int}{G G':Gh}{q:Pt}(h:Vok S L n G)(h':S'=mkG G')(k:zf1 G G' (L.map (·.root)))(hq:q.id=n):Lat S L S' (L++ [q]):=fun p hp p' hp' e=>by
  have hp2:=h.pts p hp;rcases List.mem_append.1 hp' with hp' | hp'
  · rw[←zmC h.srt hp hp' e,h.e,h'];exact zk9 k hp hp2.2.2.2
  · rw[List.mem_singleton] at hp';subst hp';have:=hp2.1.2;omega
def Less (S:SI)(L:List Pt)(S':SI)(L':List Pt):Prop:=∀p∈L',p∈L∧blk S p=blk S' p
theorem Less.lat {S:SI}{L:List Pt}{n:Int}{G:Gh}{S':SI}{L':List Pt}(h:Vok S L n G)(k:Less S L S' L'):Lat S L S' L':=fun p hp p' hp' e=>by
  obtain ⟨a,b⟩:=k p' hp';rw[zmC h.srt hp a e];exact b
theorem Less.refl (S:SI)(L:List Pt):Less S L S L:=fun p hp=>⟨hp,rfl⟩
theorem Less.trans {S:SI}{L:List Pt}{S':SI}{L':List Pt}{S2:SI}{L2:List Pt}(h:Less S L S' L')(k:Less S' L' S2 L2):Less S L S2 L2:=fun p hp=>by
  obtain ⟨a,b⟩:=k p hp;obtain ⟨c,d⟩:=h p a;exact ⟨c,d.trans b⟩
theorem zsY {S:SI}{L:List Pt}{n id:Int}{G:Gh}{S':SI}{L':List Pt}{n' r:Int}(h:Vok S L n G)(e:zhY S L n id= .ok (S',L',n',r)):Less S L S' L':=by
  obtain ⟨G',p,h',_,k,rfl,_,_⟩:=zmA h e;intro q hq;have hqL:=(List.mem_filter.1 hq).1;refine ⟨hqL,?_⟩;rw[h.e,h'.e];exact zk9 k hq (h.pts q hqL).2.2.2
def Kin (σ σ':LR):Prop:=(∃G,Con σ'.S σ'.L σ'.n G)∧Lat σ.S σ.L σ'.S σ'.L
theorem zaa {σ σ':LR}{G:Gh}(h:Con σ.S σ.L σ.n G)(h1:σ'.S=σ.S)(h2:σ'.L=σ.L)(h3:σ'.n=σ.n):Kin σ σ':=⟨⟨G,by rw[h1,h2,h3];exact h⟩,by rw[h1,h2];exact Lat.rfl' h.v⟩
theorem zvw {σ:LR}{G:Gh}(h:Con σ.S σ.L σ.n G)(id:Int):Kin σ (zlN σ id).1:=by
  unfold zlN;cases hf:fS σ.ses id with
  | none=>exact zaa h rfl rfl rfl
  | some s=>
    dsimp only;cases hr:zgj σ.S σ.L σ.n s.base s.disk s.size s.puts with
    | error f=>exact zaa h rfl rfl rfl
    | ok r=>
      obtain ⟨S',L',n',r⟩:=r;obtain ⟨G',hC'⟩:=zeO h hr;obtain ⟨G2,root,hV2,hk,e1,e2,e3,_⟩:=zj2 h.v hr;refine ⟨⟨G',hC'⟩,?_⟩;show Lat σ.S σ.L S' L';rw[e1];exact zo1 h.v hV2.e hk rfl
theorem zuS {σ:LR}{G:Gh}(h:Con σ.S σ.L σ.n G)(id:Int):Kin σ (zlI σ id).1:=by
  unfold zlI;cases hr:zik σ.S σ.L σ.n id with
  | error f=>exact zaa h rfl rfl rfl
  | ok r=>
    obtain ⟨S',L',n',r⟩:=r;obtain ⟨G',hC'⟩:=zeL h hr;obtain ⟨G2,p,hV2,_,hk,e1,e2,e3⟩:=zjb h.v hr;refine ⟨⟨G',hC'⟩,?_⟩;show Lat σ.S σ.L S' L';rw[e1];exact zo1 h.v hV2.e hk rfl
theorem zkI {σ:LR}{G:Gh}(h:Con σ.S σ.L σ.n G)(id:Int):(∃G',Con (zcN σ id).1.S (zcN σ id).1.L (zcN σ id).1.n G')∧Less σ.S σ.L (zcN σ id).1.S (zcN σ id).1.L:=by
  unfold zcN;by_cases hd:zkR σ id≠0
  · rw[if_pos hd];exact ⟨⟨G,h⟩,Less.refl _ _⟩
  · rw[if_neg hd];cases hr:zhY σ.S σ.L σ.n id with
    | error f=>exact ⟨⟨G,h⟩,Less.refl _ _⟩
    | ok r=>
      obtain ⟨S',L',n',r⟩:=r;obtain ⟨G',hC'⟩:=zjB h hr;exact ⟨⟨G',hC'⟩,zsY h.v hr⟩
theorem zgN:∀{l:List Int} {σ:LR} {G:Gh},Con σ.S σ.L σ.n G→(∃G',Con (keepL l σ).1.S (keepL l σ).1.L (keepL l σ).1.n G')∧Less σ.S σ.L (keepL l σ).1.S (keepL l σ).1.L
  | [],σ,G,h=>⟨⟨G,h⟩,Less.refl _ _⟩
  | id::l,σ,G,h=>by
    unfold keepL;split
    · exact zgN h
    · obtain ⟨⟨G1,h1⟩,k1⟩:=zkI h id;obtain ⟨a,b⟩:=zgN (l:=l) h1;exact ⟨a,k1.trans b⟩
theorem ztY {σ:LR}{G:Gh}(h:Con σ.S σ.L σ.n G)(x:ActM):Kin σ (wX σ x).1:=by
  unfold wX;by_cases hBeg:x.kind=dkBeg
  · rw[if_pos hBeg];split <;> exact zaa h rfl rfl rfl
  rw[if_neg hBeg];by_cases hPut:x.kind=dkPut
  · rw[if_pos hPut];split
    · exact zaa h rfl rfl rfl
    · unfold LR.putted;split <;> exact zaa h rfl rfl rfl
  rw[if_neg hPut];by_cases hFin:x.kind=dkFin
  · rw[if_pos hFin];exact zvw h x.a
  rw[if_neg hFin];by_cases hAbo:x.kind=dkAbo
  · rw[if_pos hAbo];unfold zxk;split <;> exact zaa h rfl rfl rfl
  rw[if_neg hAbo];by_cases hAgn:x.kind=dkAgn
  · rw[if_pos hAgn];exact zuS h x.a
  rw[if_neg hAgn];by_cases hDrp:x.kind=dkDrp
  · rw[if_pos hDrp];obtain ⟨a,b⟩:=zkI h x.a;exact ⟨a,b.lat h.v⟩
  rw[if_neg hDrp];by_cases hKee:x.kind=dkKee
  · rw[if_pos hKee];split
    · exact zaa h rfl rfl rfl
    · obtain ⟨a,b⟩:=zgN (l:=zeE σ.L x.a x.b) h;exact ⟨a,b.lat h.v⟩
  rw[if_neg hKee];by_cases hMou:x.kind=dkMou
  · rw[if_pos hMou];split <;> exact zaa h rfl rfl rfl
  rw[if_neg hMou];by_cases hUnm:x.kind=dkUnm
  · rw[if_pos hUnm];unfold zw3;split <;> exact zaa h rfl rfl rfl
  rw[if_neg hUnm];by_cases hRea:x.kind=dkRea
  · rw[if_pos hRea];exact zaa h rfl rfl rfl
  rw[if_neg hRea];by_cases hWri:x.kind=dkWri
  · rw[if_pos hWri];split
    · exact zaa h rfl rfl rfl
    · unfold LR.written;split <;> exact zaa h rfl rfl rfl
  rw[if_neg hWri];exact zaa h rfl rfl rfl
theorem zr4 {σ:LR}{x:ActM}(hk:¬x.kind=dkKee)(h:(wX σ x).2.2.2≠0):ww (wX σ x).1=ww σ:=by
  revert h;unfold wX;by_cases hBeg:x.kind=dkBeg
  · rw[if_pos hBeg];split <;> exact fun _=>rfl
  rw[if_neg hBeg];by_cases hPut:x.kind=dkPut
  · rw[if_pos hPut];split
    · exact fun _=>rfl
    · intro h;exact absurd rfl h
  rw[if_neg hPut];by_cases hFin:x.kind=dkFin
  · rw[if_pos hFin];dsimp only;unfold zlN;split
    · exact fun _=>rfl
    · split
      · exact fun _=>rfl
      · intro h;exact absurd rfl h
  rw[if_neg hFin];by_cases hAbo:x.kind=dkAbo
  · rw[if_pos hAbo];dsimp only;unfold zxk;split <;> exact fun _=>rfl
  rw[if_neg hAbo];by_cases hAgn:x.kind=dkAgn
  · rw[if_pos hAgn];dsimp only;unfold zlI;split
    · exact fun _=>rfl
    · intro h;exact absurd rfl h
  rw[if_neg hAgn];by_cases hDrp:x.kind=dkDrp
  · rw[if_pos hDrp];dsimp only;unfold zcN;split
    · exact fun _=>rfl
    · split
      · exact fun _=>rfl
      · intro h;exact absurd rfl h
  rw[if_neg hDrp];by_cases hKee:x.kind=dkKee
  · rw[if_pos hKee];exact absurd hKee hk
  rw[if_neg hKee];by_cases hMou:x.kind=dkMou
  · rw[if_pos hMou];split <;> exact fun _=>rfl
  rw[if_neg hMou];by_cases hUnm:x.kind=dkUnm
  · rw[if_pos hUnm];dsimp only;unfold zw3;split <;> exact fun _=>rfl
  rw[if_neg hUnm];by_cases hRea:x.kind=dkRea
  · rw[if_pos hRea];exact fun _=>rfl
  rw[if_neg hRea];by_cases hWri:x.kind=dkWri
  · rw[if_pos hWri];split
    · exact fun _=>rfl
    · intro h;exact absurd rfl h
  rw[if_neg hWri];exact fun _=>rfl
theorem ztS {D:DiskM}(h:S80 D)(keep:Int):S80 (zaR keep D):=⟨zl8 h.1 h.2.2 _,zl8 h.1 h.2.2 _,fun t ht=>by cases ht⟩
theorem zwF {D:DiskM}{i:Nat}(h:okW 200 i D)(keep:Int):okW 200 1000 (zaR keep D):=by
  have h2:=ztO h keep;exact ⟨h2.1,h2.2.1,h2.2.2.1,h2.2.2.2.1,by show (0:Nat)≤1000;decide⟩
theorem zng {t:Nat}{D:DiskM}{φ:List ChangeM→Prop}(hok:okW 200 2000 D)(hS:S80 D)(hF:Fell 200 D (1+2*t) (1+400*t) φ)(keep:Int)(hφ:∀r,φ r→∃S L n G,Con S L n G∧r=qL S L n):
    ∃h r0 ds used S L n G,Con S L n G∧Inv 200 (zaR keep D) h r0 ds used∧S80 (zaR keep D)∧cur r0 ds=qL S L n∧φ (qL S L n)∧Rep t (zaR keep D) ⟨h,used,qL S L n,S,L,n,[],[],1⟩:=by
  obtain ⟨h,r0,ds,used,hI,hp,he,hf,hs⟩:=hF keep;obtain ⟨S,L,n,G,hC,hr⟩:=hφ _ hp;have h80:=ztS hS keep;refine ⟨h,r0,ds,used,S,L,n,G,hC,hI,h80,hr,by rw[←hr];exact hp,⟨zwF hok keep,h80,⟨r0,ds,⟨⟨rfl,rfl,rfl⟩,hI,hs⟩,hr⟩,he,hf,rfl,⟨⟨G,hC⟩,by show (1:Int)≤1∧(1:Int)≤1000000;omega,(fun e he=>by cases he),(fun e he=>by cases he),(fun e he=>by cases he)⟩⟩⟩
theorem Rep.fell {t:Nat}{D:DiskM}{z:RpM}(R:Rep t D z):Fell 200 D (1+2*t) (1+400*t) fun r=>r=qL z.S z.L z.n:=by
  obtain ⟨r0,ds,C,hc⟩:=R.cal;exact (ztv C).mono R.ep R.first fun x hx=>by rw[hx,hc,R.rows]
theorem zpW {t:Nat}{D D2:DiskM}{z z2:RpM}{x:ActM}{n e:Int}{s:Bytes}(R:Rep t D z)(hn:z.next≤1+t)(ht:t≤80000)(hk:¬x.kind=dkKee)(k:zac D z x n s e D2 z2)(keep:Int):
    okW 200 2000 D2∧S80 D2∧∃h r0 ds used S L n' G,Con S L n' G∧Inv 200 (zaR keep D2) h r0 ds used∧S80 (zaR keep D2)∧cur r0 ds=qL S L n'∧(qL S L n'=ww z.lr∨qL S L n'=ww (wX z.lr x).1)∧(e=0→qL S L n'=ww (wX z.lr x).1):=by
  obtain ⟨G,hC⟩:=R.rok.con;obtain ⟨⟨G1,hC1⟩,_⟩:=ztY (σ:=z.lr) hC x;rcases zsm R hn ht hk k with ⟨R2,_,hs⟩ | ⟨h9,_,hF⟩
  · have hok:=za3 R2.ok (show 1000≤2000 by decide);obtain ⟨h,r0,ds,used,S,L,n',G',hC',hI,h80,hr,hp,_⟩:=zng hok R2.s80 R2.fell keep fun r hr=>⟨_,_,_,_,(R2.rok.con).choose_spec,hr⟩;have hσ:qL z2.S z2.L z2.n=ww (wX z.lr x).1:=(by rw[hs];rfl);exact ⟨hok,R2.s80,h,r0,ds,used,S,L,n',G',hC',hI,h80,hr, .inr (hp.trans hσ),fun _=>hp.trans hσ⟩
  · obtain ⟨h,r0,ds,used,S,L,n',G',hC',hI,h80,hr,hp,_⟩:=zng hF.1 hF.2.1 hF.2.2 keep fun r hr=>by
      rcases hr with rfl | rfl
      · exact ⟨_,_,_,G,hC,rfl⟩
      · exact ⟨_,_,_,G1,hC1,rfl⟩
    exact ⟨hF.1,hF.2.1,h,r0,ds,used,S,L,n',G',hC',hI,h80,hr,hp,fun h0=>by omega⟩
end Go.Proofs.YthdjckbjjfiopadGreatDoor
