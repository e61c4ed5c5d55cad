/- What an act zdY of a vault, and what a restart finds. Plain laws. No condition. -/
import Derived.Test.YthdjckbjjfiopadGreatDoorFlL
set_option linter.unusedSimpArgs false
set_option linter.unusedVariables false
namespace Go.Proofs.YthdjckbjjfiopadGreatDoor
open Go.Sl Go.Proofs
theorem zhg {G G':Gh}{L:List Pt}(k:zdY G G' (L.map (·.root))){p:Pt}(hp:p∈L)(hs:p.size≤16):blk (mkG G) p=blk (mkG G') p:=
  (ztH hs fun i hi=>k p.root (List.mem_map.2 ⟨p,hp,rfl⟩) i hi).symm
def Less (S:SI)(L:List Pt)(S':SI)(L':List Pt):Prop:=∀p∈L',p∈L∧blk S p=blk S' p
theorem Less.refl (S:SI)(L:List Pt):Less S L S L:=fun p hp=>⟨hp,rfl⟩
theorem Less.trans {S:SI}{L:List Pt}{S':SI}{L':List Pt}{S2:SI}{L2:List Pt}(h:Less S L S' L')(k:Less S' L' S2 L2):Less S L S2 L2:=fun p hp=>by
  obtain ⟨a,b⟩:=k p hp;obtain ⟨c,d⟩:=h p a;exact ⟨c,d.trans b⟩
theorem zto {S:SI}{L:List Pt}{n id:Int}{G:Gh}{S':SI}{L':List Pt}{n' r:Int}(h:Vok S L n G)(e:zh5 S L n id= .ok (S',L',n',r)):Less S L S' L':=by
  obtain ⟨G',p,h',_,k,rfl,_,_⟩:=zlL h e;intro q hq;have hqL:=(List.mem_filter.1 hq).1;refine ⟨hqL,?_⟩;rw[h.e,h'.e];exact zhg k hq (h.pts q hqL).2.2.2
theorem zj8 {σ:LR}{G:Gh}(h:Con σ.S σ.L σ.n G)(id:Int):(∃G',Con (zih σ id).1.S (zih σ id).1.L (zih σ id).1.n G')∧Less σ.S σ.L (zih σ id).1.S (zih σ id).1.L:=by
  unfold zih;by_cases hd:zll σ id≠0
  · rw[if_pos hd];exact ⟨⟨G,h⟩,Less.refl _ _⟩
  · rw[if_neg hd];cases hr:zh5 σ.S σ.L σ.n id with
    | error f=>exact ⟨⟨G,h⟩,Less.refl _ _⟩
    | ok r=>
      obtain ⟨S',L',n',r⟩:=r;obtain ⟨G',hC'⟩:=zjf h hr;exact ⟨⟨G',hC'⟩,zto h.v hr⟩
theorem zhP:∀{l:List Int} {σ:LR} {G:Gh},Con σ.S σ.L σ.n G→(∃G',Con (keepL l σ).1.S (keepL l σ).1.L (keepL l σ).1.n G')∧Less σ.S σ.L (keepL l σ).1.S (keepL l σ).1.L
  | [],σ,G,h=>⟨⟨G,h⟩,Less.refl _ _⟩
  | id::l,σ,G,h=>by
    unfold keepL;split
    · exact zhP h
    · obtain ⟨⟨G1,h1⟩,k1⟩:=zj8 h id;obtain ⟨a,b⟩:=zhP (l:=l) h1;exact ⟨a,k1.trans b⟩
theorem Rep.fell {t:Nat}{D:DiskM}{z:RpM}(R:Rep t D z):Fell 200 D (1+2*t) (1+400*t) fun r=>r=yB z.S z.L z.n:=by
  obtain ⟨r0,ds,C,hc⟩:=R.cal;exact (zs6 C).mono R.ep R.first fun x hx=>by rw[hx,hc,R.rows]
end Go.Proofs.YthdjckbjjfiopadGreatDoor
