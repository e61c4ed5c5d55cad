/- What keeping a snap comes to, as a function. Plain laws. No condition. -/
import Derived.Test.YthdjckbjjfiopadGreatDoorLrM
import Derived.Test.YthdjckbjjfiopadGreatDoorCrL
set_option linter.unusedSimpArgs false
set_option linter.unusedVariables false
namespace Go.Proofs.YthdjckbjjfiopadGreatDoor
open Go.Sl Go.Proofs
def zrz (V:VdM)(snap key:Int)(l:List Nat)(σ:LR):LR:=l.foldl (fun (σ:LR) (p:Nat)=>σ.putted key (p:Int) (rdS V snap (p:Int)).1) σ
def carL (V:VdM)(disk snap base:Int)(m:Nat→Bool)(page:Int)(σ:LR):LR×Int×Int:=
  if (szS V snap).2≠0 then (σ,0,(szS V snap).2)
  else if page<1 then (σ,0,1)
  else if znt σ base disk (szS V snap).1≠0 then (σ,0,znt σ base disk (szS V snap).1)
  else if (zwY (zrz V snap σ.next (zcy (mk (ofM (ltM m (szS V snap).1))) 0) (σ.begun base disk (szS V snap).1)) σ.next).2.2≠0 then ((aboL (zwY (zrz V snap σ.next (zcy (mk (ofM (ltM m (szS V snap).1))) 0) (σ.begun base disk (szS V snap).1)) σ.next).1 σ.next).1,0,(zwY (zrz V snap σ.next (zcy (mk (ofM (ltM m (szS V snap).1))) 0) (σ.begun base disk (szS V snap).1)) σ.next).2.2)
  else (zwY (zrz V snap σ.next (zcy (mk (ofM (ltM m (szS V snap).1))) 0) (σ.begun base disk (szS V snap).1)) σ.next)
theorem zxI {m:Nat→Bool}{size:Int}{p:Nat}(h:mk (ofM (ltM m size)) p=true)(hp:p<16):m p=true∧(p:Int)<size:=by
  rw[zg2 _ hp] at h;unfold ltM at h;simpa using h
theorem zvR {m:Nat→Bool}{p:Nat}:p∈zcy m 0 ↔ p<16∧m p=true:=by
  unfold zcy;rw[List.mem_filter,List.mem_range'_1];simp
theorem pos_lt {m:Nat→Bool}{size:Int}{p:Nat}:p∈zcy (mk (ofM (ltM m size))) 0 ↔ p<16∧m p=true∧(p:Int)<size:=by
  rw[zvR];constructor
  · rintro ⟨h1,h2⟩;exact ⟨h1,zxI h2 h1⟩
  · rintro ⟨h1,h2,h3⟩;refine ⟨h1,?_⟩;rw[zg2 _ h1];unfold ltM;simp[h2,h3]
theorem zwU {V:VdM}{snap:Int}(hs:(szS V snap).2=0){p:Nat}(hp:(p:Int)<(szS V snap).1):(rdS V snap p).2.2=0:=by
  unfold szS at hs hp;unfold rdS;split at hs
  · cases hs
  · rename_i hf;rw[if_neg hf] at hp ⊢;rw[if_neg (by simp only at hp;omega)]
theorem zrq {V:VdM}{snap key:Int}(hd:dlk V):∀{l:List Nat} {z z2:RpM} {e:Int} {y:SeE},fSe z.ses key=some y→(∀p∈l,(rdS V snap p).2.2=0∧(p:Int)<y.size)→zbT V snap key l z e z2→
    e=0∧z2.lr=zrz V snap key l z.lr∧∃y2,fSe z2.ses key=some y2∧y2.base=y.base∧y2.disk=y.disk∧y2.size=y.size∧∀i d,zcW y2.puts i d=if i∈l then (rdS V snap i).1 else zcW y.puts i d
  | [],z,z2,e,y,hf,hl,h=>by
    obtain ⟨rfl,rfl⟩:=h;exact ⟨rfl,rfl,y,hf,rfl,rfl,rfl,fun i d=>by simp⟩
  | p::l,z,z2,e,y,hf,hl,h=>by
    obtain ⟨h1,h2⟩:=hl p (by simp);unfold zbT at h;rw[if_neg (by omega)] at h;have h0:zcc z key p (rdS V snap p).1=0:=by
      unfold zcc;rw[hf];simp only;rw[if_neg (by omega),if_neg (by have:=zm7 hd snap p;omega)]
    rw[if_neg (by omega)] at h;obtain ⟨so,co,h⟩:=h;have hf2:=zlI (z:=z) (k:=key) (at_:=p) (d:=(rdS V snap p).1) (so:=so) (co:=co) hf;obtain ⟨a,b,y2,c1,c2,c3,c4,c5⟩:=zrq hd hf2 (fun q hq=>hl q (List.mem_cons_of_mem _ hq)) h;refine ⟨a,?_,y2,c1,c2,c3,c4,fun i d=>?_⟩
    · rw[b,zqs]
      rfl
    · rw[c5,zos];by_cases hi:i∈l
      · rw[if_pos hi,if_pos (List.mem_cons_of_mem _ hi)]
      · rw[if_neg hi];by_cases hp:i=p
        · subst hp;rw[if_pos rfl,if_pos (by simp)]
        · rw[if_neg (by omega),if_neg (by simp[hi,hp])]
theorem zn3 (z:RpM)(K:Rok z)(a:Nat)(base disk size:Int):fSe (z.begun a base disk size).ses z.next=some ⟨z.next,a,none,0,base,disk,size,[]⟩:=zuO (m:=⟨z.next,a,none,0,base,disk,size,[]⟩) fun e he=>(K.keyS e he).2
theorem zyq {t:Nat}{D D2:DiskM}{V:VdM}{z z2:RpM}{disk snap base:Int}{m:Nat→Bool}{page n e:Int}(R:Up t D z)(ht:t≤80000)(hd:dlk V)(k:zj7 D V z disk snap base m page n e D2 z2):
    Up (t+2) D2 z2∧carL V disk snap base m page z.lr=(z2.lr,n,e)∧
    ((e≠0∧z2.S=z.S∧z2.L=z.L∧z2.n=z.n)∨(e=0∧(szS V snap).2=0∧wu z base disk (szS V snap).1=0∧∃puts,zgc z.S z.L z.n base disk (szS V snap).1 puts= .ok (z2.S,z2.L,z2.n,n)∧∀i d,zcW puts i d=if i<16∧m i=true∧(i:Int)<(szS V snap).1 then (rdS V snap i).1 else d)):=by
  refine ⟨zmG R ht k,?_⟩;unfold zj7 at k;unfold carL;by_cases h1:(szS V snap).2≠0
  · rw[if_pos h1] at k ⊢;obtain ⟨rfl,rfl,rfl,rfl⟩:=k;exact ⟨rfl, .inl ⟨h1,rfl,rfl,rfl⟩⟩
  rw[if_neg h1] at k ⊢;by_cases h2:page<1
  · rw[if_pos h2] at k ⊢;obtain ⟨rfl,rfl,rfl,rfl⟩:=k;exact ⟨rfl, .inl ⟨by decide,rfl,rfl,rfl⟩⟩
  rw[if_neg h2] at k ⊢;rw[zss];by_cases h3:wu z base disk (szS V snap).1≠0
  · rw[if_pos h3] at k ⊢;obtain ⟨rfl,rfl,rfl,rfl⟩:=k;exact ⟨rfl, .inl ⟨h3,rfl,rfl,rfl⟩⟩
  rw[if_neg h3] at k ⊢;have hs0:(szS V snap).2=0:=(by omega);have hb:wu z base disk (szS V snap).1=0:=(by omega);obtain ⟨a,e1,z1,hs,k⟩:=k;have hnx:=R.next;obtain ⟨K1,S1⟩:=zeI (R.rep.rok.begin (a:=a) (by omega) hb) hs;have R1:Up (t+1) D z1:=(R.begun (by omega) hb).same S1 K1;obtain ⟨rfl,hlr,y,hy,y1,y2,y3,y4⟩:=zrq hd (zn3 z R.rep.rok a base disk (szS V snap).1) (fun p hp=>by
    have hp:=(pos_lt.1 hp).2.2;exact ⟨zwU hs0 hp,hp⟩) hs
  rw[zsu] at hlr;rw[show z.lr.next=z.next from rfl,←hlr];rcases k with ⟨h,_⟩ | ⟨_,n1,e2,w,hf,k⟩
  · exact absurd rfl h
  have hfl:=zyr R1 (by omega) hf;rw[hfl];have q1:z1.S=z.S:=S1.2.2.2.1;have q2:z1.L=z.L:=S1.2.2.2.2.1;have q3:z1.n=z.n:=S1.2.2.2.2.2.1;rcases k with ⟨h,rfl,rfl,rfl⟩ | ⟨rfl,rfl,rfl,rfl⟩
  · rw[if_pos h];rcases zk3 R1 (by omega) hf with ⟨_,_,_,rfl,_⟩ | ⟨h0,_⟩
    · refine ⟨?_, .inl ⟨h,q1,q2,q3⟩⟩;unfold aboL;rw[show w.lr.ses=w.ses.map sS from rfl,zvL,hy];simp only[Option.map_some];rw[zva,zyD]
    · exact absurd h0 h
  · rw[if_neg (by simp)];refine ⟨rfl, .inr ⟨rfl,hs0,hb,?_⟩⟩;rcases zk3 R1 (by omega) hf with ⟨_,h0,_⟩ | ⟨_,_,⟨s,hs1,hr⟩,_⟩
    · exact absurd rfl h0
    · rw[hy] at hs1;injection hs1 with hs1;subst hs1;rw[q1,q2,q3,y1,y2,y3] at hr;refine ⟨y.puts,hr,fun i d=>?_⟩;rw[y4];by_cases hi:i∈zcy (mk (ofM (ltM m (szS V snap).1))) 0
      · rw[if_pos hi,if_pos (pos_lt.1 hi)]
      · rw[if_neg hi,if_neg (fun h=>hi (pos_lt.2 h))]
        rfl
end Go.Proofs.YthdjckbjjfiopadGreatDoor
