/- Repos: what changes of a vault come to on a store. Plain laws. No condition. -/
import Derived.Test.YthdjckbjjfiopacGreatDoorRp4
set_option linter.unusedSimpArgs false
set_option linter.unusedVariables false
namespace Go.Proofs.YthdjckbjjfiopacGreatDoor
open Go.Sl Go.Proofs
theorem zpm {S:SI}{L:List Pt}{n:Int}{G:Gh}(h:Con S L n G):∀c∈yz S L n,c.key≠ []∧c.key.length≤8∧c.val.length≤48∧c.gone=false:=fun c hc=>by
  have w:=h.wr;unfold yz at hc;rcases List.mem_append.1 hc with hc | hc
  · rcases List.mem_append.1 hc with hc | hc
    · rcases List.mem_append.1 hc with hc | hc
      · unfold zaG at hc;obtain ⟨q,hq,rfl⟩:=List.mem_map.1 hc;obtain ⟨hq1,hq2⟩:=mem_ids.1 hq;obtain ⟨x,hx⟩:=Option.isSome_iff_exists.1 hq2;have hb:=w.b q x hx;have h1:=yQ (n:=q) (by omega);have h2:=yQ (n:=x.2) (by omega);rw[show gB S.B q=x by unfold gB;rw[hx];rfl];refine ⟨by simp[zvI],?_,?_,rfl⟩ <;> simp only[zvI,List.length_cons,List.length_append] <;> omega
      · unfold zaK at hc;obtain ⟨q,hq,rfl⟩:=List.mem_map.1 hc;obtain ⟨hq1,hq2⟩:=mem_ids.1 hq;have hb:=zt7 h.sm q;have h1:=yQ (n:=q) (by omega);have h2:=zge (n:=gN S.N q) (by omega) (fun k hk=>by have:=hb.2 k hk;omega) 4 (by omega);rw[zqV] at h2;refine ⟨by simp[zvH],?_,?_,rfl⟩ <;> simp only[zvH,List.length_cons] <;> omega
    · obtain ⟨p,hp,rfl⟩:=List.mem_map.1 hc;have hb:=w.p p hp;have h1:=yQ (n:=p.id) (by omega);have h2:=yQ (n:=p.disk) (by omega);have h3:=yQ (n:=p.size) (by omega);have h4:=yQ (n:=p.root) (by omega);refine ⟨by simp[zjI],?_,?_,rfl⟩ <;> simp only[zjI,List.length_cons,List.length_append] <;> omega
  · rw[List.mem_singleton] at hc;subst hc;have h1:=yY (n:=n) (by have:=w.n1;omega);refine ⟨by simp[zoj],?_,?_,rfl⟩ <;> simp only[zoj,List.length_cons,List.length_nil] <;> omega
theorem zuJ {l:List ChangeM}{c x:ChangeM}:x∈apS l c ↔ (x=c∧c.gone=false)∨(x∈l∧x.key≠c.key):=by
  unfold apS;simp only[List.mem_append,List.mem_filter];constructor
  · rintro ((⟨h1,h2⟩ | h) | ⟨h1,h2⟩)
    · exact .inr ⟨h1,zcS h2⟩
    · split at h
      · cases h
      · rename_i hg;exact .inl ⟨List.mem_singleton.1 h,by simpa using hg⟩
    · exact .inr ⟨h1,fun e=>zcS h2 e.symm⟩
  · rintro (⟨rfl,hg⟩ | ⟨h1,h2⟩)
    · exact .inl (.inr (by rw[if_neg (by simp[hg])];simp))
    · rcases zhm x.key c.key with h | h | h
      · exact .inl (.inl ⟨h1,h⟩)
      · exact absurd h h2
      · exact .inr ⟨h1,h⟩
theorem zmV:∀{c l:List ChangeM} {x:ChangeM},srt c→(x∈zaA l c ↔ (x∈c∧x.gone=false)∨(x∈l∧∀y∈c,y.key≠x.key))
  | [],l,x,_=>by simp[zaA]
  | d::c,l,x,h=>by
    have h':=List.pairwise_cons.1 h;show x∈zaA (apS l d) c ↔ _;rw[zmV h'.2,zuJ];constructor
    · rintro (⟨h1,h2⟩ | ⟨⟨rfl,h2⟩ | ⟨h1,h2⟩,h3⟩)
      · exact .inl ⟨List.mem_cons_of_mem _ h1,h2⟩
      · exact .inl ⟨List.mem_cons_self ..,h2⟩
      · refine .inr ⟨h1,fun y hy=>?_⟩;rcases List.mem_cons.1 hy with rfl | hy
        · exact Ne.symm h2
        · exact h3 y hy
    · rintro (⟨h1,h2⟩ | ⟨h1,h2⟩)
      · rcases List.mem_cons.1 h1 with rfl | h1
        · exact .inr ⟨.inl ⟨rfl,h2⟩,fun y hy e=>zcS (h'.1 y hy) e.symm⟩
        · exact .inl ⟨h1,h2⟩
      · exact .inr ⟨.inr ⟨h1,Ne.symm (h2 d (by simp))⟩,fun y hy=>h2 y (List.mem_cons_of_mem _ hy)⟩
theorem zlQ:∀{l:List ChangeM},srt l→∀{x y:ChangeM},x∈l→y∈l→x.key=y.key→x=y
  | a::l,h,x,y,hx,hy,e=>by
    have h':=List.pairwise_cons.1 h;rcases List.mem_cons.1 hx with rfl | gx
    · rcases List.mem_cons.1 hy with rfl | gy
      · rfl
      · exact absurd e (zcS (h'.1 y gy))
    · rcases List.mem_cons.1 hy with rfl | gy
      · exact absurd e.symm (zcS (h'.1 x gx))
      · exact zlQ h'.2 gx gy e
theorem zxv {a b:List ChangeM}(ha:srt a)(hb:srt b)(hg:∀x∈b,x.gone=false):zaA a (mg a b)=b:=by
  refine zlv (zjs ha _).1 hb fun x=>?_;rw[zmV (zhd ha hb),zdj ha hb];constructor
  · rintro (⟨h1,h2⟩ | ⟨h1,h2⟩)
    · rcases h1 with ⟨y,hy,rfl,_⟩ | ⟨h1,_⟩
      · cases h2
      · exact h1
    · refine Decidable.byContradiction fun hx=>?_;by_cases hk:∃y∈b,y.key=x.key
      · obtain ⟨y,hy,hyk⟩:=hk;by_cases hya:y∈a
        · rw[zlQ ha hya h1 hyk] at hy;exact hx hy
        · exact h2 y ((zdj ha hb y).2 (.inr ⟨hy,hya⟩)) hyk
      · exact h2 (goneC x) ((zdj ha hb _).2 (.inl ⟨x,h1,rfl,fun y hy e=>hk ⟨y,hy,e⟩⟩)) rfl
  · intro hx;by_cases hxa:x∈a
    · refine .inr ⟨hxa,fun y hy e=>?_⟩;rcases (zdj ha hb y).1 hy with ⟨z,hz,rfl,hn⟩ | ⟨h1,h2⟩
      · exact hn x hx e.symm
      · rw[zlQ hb h1 hx e] at h2;exact h2 hxa
    · exact .inl ⟨.inr ⟨hx,hxa⟩,hg x hx⟩
theorem zmi:∀{c:List ChangeM},(∀x∈c,zbv x=0)→zhv c=0
  | [],_=>rfl
  | x::c,h=>by
    unfold zhv;rw[if_pos (h x (by simp))];exact zmi fun y hy=>h y (List.mem_cons_of_mem _ hy)
theorem zxq {a b:List ChangeM}(ha:srt a)(hb:srt b)(za:∀c∈a,c.key≠ []∧c.key.length≤8∧c.val.length≤48∧c.gone=false)(zb:∀c∈b,c.key≠ []∧c.key.length≤8∧c.val.length≤48∧c.gone=false):∀x∈mg a b,zbv x=0:=fun x hx=>by
  unfold zbv;rcases (zdj ha hb x).1 hx with ⟨y,hy,rfl,_⟩ | ⟨h1,_⟩
  · have h:=za y hy;rw[if_neg (by simp[goneC,h.1]),if_neg (by simp[goneC];omega)]
  · have h:=zb x h1;rw[if_neg (by simp[h.1,h.2.2.2]),if_neg (by omega)]
theorem zmU:∀{l m:List Bytes},l.Nodup→(∀q∈l,q∈m)→l.length≤m.length
  | [],_,_,_=>by simp
  | a::l,m,hl,h=>by
    rw[List.nodup_cons] at hl;have h1:=zmU (l:=l) (m:=m.erase a) hl.2 fun q hq=>by
      have hne:q≠a:=fun e=>hl.1 (e ▸ hq);exact (List.mem_erase_of_ne hne).2 (h q (List.mem_cons_of_mem _ hq))
    have h2:=List.length_erase_of_mem (h a (by simp));have h3:=List.length_pos_of_mem (h a (by simp));simp only[List.length_cons];omega
def zqU (P:List Pt):List Bytes:=((List.range 40).map fun k=>98::thr ((k+1:Nat):Int))++((List.range 24).map fun k=>110::thr ((k+1:Nat):Int))++P.map (fun p=>112::thr p.id)++ [[120]]
theorem ztg {S:SI}{L:List Pt}{n:Int}{P:List Pt}(hP:∀p∈L,p∈P):∀c∈yz S L n,c.key∈zqU P:=fun c hc=>by
  unfold yz at hc;unfold zqU;simp only[List.mem_append] at hc ⊢;rcases hc with ((hc | hc) | hc) | hc
  · unfold zaG at hc;obtain ⟨q,hq,rfl⟩:=List.mem_map.1 hc;obtain ⟨hq1,_⟩:=mem_ids.1 hq;exact .inl (.inl (.inl (List.mem_map.2 ⟨q.toNat - 1,by rw[List.mem_range];omega,by rw[show ((q.toNat - 1+1:Nat):Int)=q by omega];rfl⟩)))
  · unfold zaK at hc;obtain ⟨q,hq,rfl⟩:=List.mem_map.1 hc;obtain ⟨hq1,_⟩:=mem_ids.1 hq;exact .inl (.inl (.inr (List.mem_map.2 ⟨q.toNat - 1,by rw[List.mem_range];omega,by rw[show ((q.toNat - 1+1:Nat):Int)=q by omega];rfl⟩)))
  · obtain ⟨p,hp,rfl⟩:=List.mem_map.1 hc;exact .inl (.inr (List.mem_map.2 ⟨p,hP p hp,rfl⟩))
  · rw[List.mem_singleton] at hc;subst hc;exact .inr (by simp[zoj])
theorem ztG {S S':SI}{L L' P:List Pt}{n n':Int}{G G':Gh}(hC:Con S L n G)(hC':Con S' L' n' G')(hP:P.length≤7)(h1:∀p∈L,p∈P)(h2:∀p∈L',p∈P):(mg (yz S L n) (yz S' L' n')).length≤72:=by
  have ha:=zcx hC.wr;have hb:=zcx hC'.wr;have hs:=zhd ha hb;have hn:((mg (yz S L n) (yz S' L' n')).map (·.key)).Nodup:=by
    rw[List.Nodup,List.pairwise_map];exact hs.imp fun h=>zcS h
  have hm:=zmU hn (m:=zqU P) fun q hq=>by
    obtain ⟨x,hx,rfl⟩:=List.mem_map.1 hq;rcases (zdj ha hb x).1 hx with ⟨y,hy,rfl,_⟩ | ⟨hy,_⟩
    · exact ztg h1 y hy
    · exact ztg h2 x hy
  rw[List.length_map] at hm;have:(zqU P).length=40+24+P.length+1:=(by simp[zqU];omega);omega
theorem zvf {S S':SI}{L L' P:List Pt}{n n':Int}{G G':Gh}(hC:Con S L n G)(hC':Con S' L' n' G')(hP:P.length≤7)(h1:∀p∈L,p∈P)(h2:∀p∈L',p∈P):cmV (200 - 122) (yz S L n) (mg (yz S L n) (yz S' L' n'))=0∧zaA (yz S L n) (mg (yz S L n) (yz S' L' n'))=yz S' L' n':=by
  have ha:=zcx hC.wr;have hb:=zcx hC'.wr;have hl:=ztG hC hC' hP h1 h2;have e:=zxv ha hb fun x hx=>(zpm hC' x hx).2.2.2;have hr:=zf5 (S:=S') (n:=n') hC'.v.len;refine ⟨?_,e⟩;unfold cmV;rw[if_neg (by omega),if_neg (by rw[zmi (zxq ha hb (zpm hC) (zpm hC'))];simp),e,if_neg (by omega)]
theorem zq2 {N:Nat}{D:DiskM}{h:HdM}{r0:List ChangeM}{ds:Deeds}{used:Nat}{c:List ChangeM}{e:Int}{D2:DiskM}{h2:HdM}{used2:Nat}{rows2:List ChangeM}(C:Cal N D h r0 ds used)(hep:h.ep≤900000)(hf:h.first≤800000000)(h0':cmV (N - 122) (cur r0 ds) c=0)(hc:zte D h (cur r0 ds) (N - 122) used c e D2 h2 used2 rows2):
    (e=0∧h2.ep≤h.ep+1∧h2.first≤h.first+N∧∃r2 d2,Cal N D2 h2 r2 d2 used2∧cur r2 d2=rows2∧rows2=zaA (cur r0 ds) c)∨
    (e=9∧Fell N D2 (h.ep+1) (h.first+N) (fun x=>x=cur r0 ds∨x=zaA (cur r0 ds) c)):=by
  obtain ⟨hq,I,hs⟩:=C;have hb:=I.big;rcases hc with ⟨hne,rfl,rfl,rfl,rfl,rfl⟩ | ⟨h0,e1,D1,h1,used1,hmid,hrest⟩
  · exact absurd h0' hne
  · obtain ⟨c1,c2,c3,c4⟩:=cm0 h0;have hm:(e1=0∧h1.ep≤h.ep+1∧h1.first≤h.first+N∧c.length+1≤N - 122 - used1∧∃r1 d1,Cal N D1 h1 r1 d1 used1∧cur r1 d1=cur r0 ds)∨(e1=9∧Fell N D1 (h.ep+1) (h.first+N) (fun x=>x=cur r0 ds)):=by
      rcases hmid with ⟨hroom,hrun,hck⟩ | ⟨hroom,rfl,rfl,rfl,rfl⟩
      · rcases zng hq I hs (by omega) (by omega) hrun with ⟨rfl,C1⟩ | ⟨h9,F⟩
        · rcases hck with ⟨hx,_⟩ | ⟨_,rfl,_,d',hsc⟩
          · exact absurd rfl hx
          · have hlg:=C1.2.1.good.log;rw[C1.2.1.len] at hlg;have hu:=(zgQ hsc hlg).2;subst hu;exact .inl ⟨rfl,by simp only[nxH];omega,by simp only[nxH];omega,by omega,_,_,C1,rfl⟩
        · exact .inr ⟨h9,F⟩
      · exact .inl ⟨rfl,by omega,by omega,by omega,r0,ds,⟨hq,I,hs⟩,rfl⟩
    rcases hm with ⟨rfl,m1,m2,m3,r1,d1,C1,hcur⟩ | ⟨h9,F⟩
    · rcases hrest with ⟨hx,_⟩ | ⟨_,rfl,rfl,rfl,rfl,rfl⟩
      · exact absurd rfl hx
      · have hv:zha (N - 122) used1 c=0:=(by rw[zlZ c1 m3];exact c2);rcases zxe C1 (by omega) hv (by rw[hcur];exact c3) with ⟨a1,a2⟩ | ⟨a1,a2⟩
        · exact .inl ⟨a1,m1,m2,r1,d1++ [c],a2,by rw[if_pos a1,zgc,hcur],by rw[if_pos a1]⟩
        · refine .inr (⟨a1,fun keep=>?_⟩);obtain ⟨h',r',d',u',i',p',e',f',s'⟩:=a2 keep;rw[hcur] at p';exact ⟨h',r',d',u',i',p',by omega,by omega,s'⟩
    · rcases hrest with ⟨_,rfl,rfl,rfl,rfl,rfl⟩ | ⟨hx,_⟩
      · refine .inr (⟨h9,fun keep=>?_⟩);obtain ⟨h',r',d',u',i',p',e',f'⟩:=F keep;exact ⟨h',r',d',u',i', .inl p',e',f'⟩
      · rw[h9] at hx;cases hx
structure Rep (t:Nat) (D:DiskM) (z:RpM):Prop where
  ok:okW 200 1000 D
  s80:S80 D
  cal:∃r0 ds,Cal 200 D z.h r0 ds z.used∧cur r0 ds=z.rows
  ep:z.h.ep≤1+2*t
  first:z.h.first≤1+400*t
  rows:z.rows=yz z.S z.L z.n
  rok:Rok z
theorem zmM {N i:Nat}{D:DiskM}(h:okW N i D)(c:calm D):okW N 1000 D:=⟨h.1,h.2.1,h.2.2.1,h.2.2.2.1,by rw[c.2.1];simp⟩
theorem Rep.dk {t:Nat}{D:DiskM}{z:RpM}(R:Rep t D z)(ht:t≤100000):Dk 1000 D z:=by
  obtain ⟨r0,ds,C,hc⟩:=R.cal;have:=R.ep;have:=R.first;exact ⟨R.ok,R.s80,⟨by omega,C.2.1.good.side,C.2.1.good.first.1,by omega⟩,by rw[←hc];exact C.2.1.good.lenC,by rw[←hc];exact C.2.1.good.okC,C.2.1.used_le,by rw[←hc];exact C.2.1.good.srtC⟩
def ztv (t:Nat)(D:DiskM)(φ:List ChangeM→Prop):Prop:=okW 200 2000 D∧S80 D∧Fell 200 D (1+2*t) (1+400*t) φ
theorem zj5 {t:Nat}{D D2:DiskM}{z z2:RpM}{S':SI}{L' P:List Pt}{n' e:Int}{G':Gh}(R:Rep t D z)(ht:t≤100000)(hC':Con S' L' n' G')(hP:P.length≤7)(h1:∀p∈z.L,p∈P)(h2:∀p∈L',p∈P)(k:zpX D z S' L' n' e D2 z2):
    (e=0∧Rep (t+1) D2 z2∧(upW D→upW D2)∧z2.S=S'∧z2.L=L'∧z2.n=n'∧z2.ses=z.ses∧z2.mou=z.mou∧z2.next=z.next)∨(e=9∧¬upW D∧ztv (t+1) D2 fun x=>x=yz z.S z.L z.n∨x=yz S' L' n'):=by
  obtain ⟨h2',used2,rows2,hc,rfl⟩:=k;obtain ⟨r0,ds,C,hcur⟩:=R.cal;obtain ⟨G,hC⟩:=R.rok.con;obtain ⟨hcm,hap⟩:=zvf hC hC' hP h1 h2;have hep:=R.ep;have hfi:=R.first;unfold chgR at hc;rw[←hcur] at hc;have hcr:cur r0 ds=yz z.S z.L z.n:=hcur.trans R.rows;have hok2:=ztf R.ok R.s80 C.2.1 hc;have hs2:=zuI R.ok R.s80 C.2.1 hc;have hup:upW D→e=0∧upW D2:=fun hu=>by
    obtain ⟨c1,c2,_⟩:=ztk hu R.s80 C.2.1 (by omega) (by omega) hc;rw[hcr,hcm] at c1;exact ⟨c1,c2⟩
  rcases zq2 C (by omega) (by omega) (by rw[hcr];exact hcm) hc with ⟨rfl,b1,b2,r2,d2,C2,e2,e3⟩ | ⟨h9,hF⟩
  · refine .inl ⟨rfl,?_,fun hu=>(hup hu).2,?_⟩
    · have hkz:z.kept 0 h2' used2 rows2 S' L' n'=⟨h2',used2,rows2,S',L',n',z.ses,z.mou,z.next⟩:=(by unfold RpM.kept;rw[if_pos rfl]);rw[hkz];exact ⟨zmM hok2 C2.1,hs2,⟨r2,d2,C2,e2⟩,by show h2'.ep≤_;omega,by show h2'.first≤_;omega,by show rows2=_;rw[e3,hcr,hap],⟨⟨G',hC'⟩,R.rok.next,R.rok.keyS,R.rok.keyM,R.rok.sesS⟩⟩
    · unfold RpM.kept;rw[if_pos rfl];exact ⟨rfl,rfl,rfl,rfl,rfl,rfl⟩
  · subst h9;refine .inr ⟨rfl,fun hu=>by have:=(hup hu).1;omega,zbn hok2 (by omega),hs2,?_⟩;rw[hcr,hap] at hF;exact hF.mono (by omega) (by omega) fun x hx=>hx
end Go.Proofs.YthdjckbjjfiopacGreatDoor
