/- Several texts in one: walks and rules used by them. No condition. -/
import Derived.Test.YthdjckbjjfiopabGreatDoorCnsF
import Derived.Test.YthdjckbjjfiopabGreatDoorCnsE
import Derived.Lib.Join
import Derived.Test.YthdjckbjjfiopabGreatDoorCnsD
import Derived.Lib.Split
set_option linter.unusedSimpArgs false
set_option linter.unusedVariables false
set_option synthInstance.maxSize 9999
set_option synthInstance.maxHeartbeats 0
set_option linter.defProp false
set_option maxHeartbeats 800000
namespace Go.Proofs.YthdjckbjjfiopabGreatDoor
open Go.Sl Go.Proofs
variable {t:Nat}{D S:DiskM}{V:VdM}{z z2:RpM}{J O base disk e n:Int}{m:Nat->Bool}
def UJ (R:Up t D z)(ht:t<=80000)(k:pV D V z disk J base m O n e S z2):Up (t+2) S z2:=by
 unfold pV at k;by_cases h1:(fy V J).2≠0
 ·rw[kaT h1] at k;obtain ⟨_,_,rfl,rfl⟩:=k;exact R.le (by omega)
 rw[kaU h1] at k;by_cases Y:O<1
 ·rw[kaT Y] at k;obtain ⟨_,_,rfl,rfl⟩:=k;exact R.le (by omega)
 rw[kaU Y] at k;by_cases Z:cr z base disk (fy V J).1≠0
 ·rw[kaT Z] at k;obtain ⟨_,_,rfl,rfl⟩:=k;exact R.le (by omega)
 rw[kaU Z] at k;have hb:cr z base disk (fy V J).1=0:=(by omega);obtain ⟨a,e1,z1,hs,k⟩:=k;have hnx:=R.next;obtain ⟨K1,S1⟩:=uT (R.rep.rok.begin (a:=a) (by omega) hb) hs;have R1:Up (t+1) D z1:=(R.begun (by omega) hb).same S1 K1;rcases k with ⟨_,_,_,rfl,rfl⟩ | ⟨_,n1,e2,y,hf,k⟩
 ·exact (R1.abort z.next).le (by omega)
 ·have X:Up (t+2) S y:=by
   rcases Dz R1 (by omega) hf with ⟨_,_,rfl,rfl,_⟩ | ⟨_,h,_⟩
   ·exact R1.le (by omega)
   ·exact h
  rcases k with ⟨_,_,_,rfl⟩ | ⟨_,_,_,rfl⟩
  ·exact X.abort z.next
  ·exact X
def xc (D:VdM):Prop:=(∀i,(D.blocks i).length<=6)/\∀s∈D.snaps,∀i,(s.blocks i).length<=6
def JW n:xc (k5 n):=⟨λi=>by simp[k5],λs hs=>by simp[k5] at hs⟩
variable {D:VdM}
theorem O1 (h:xc D)n s:xc (DK D n s):=by
 unfold DK;split
 ·rename_i he;have hs:s.length<=6:=by
   grind[F0,uL]
  refine ⟨λi=>?_,h.2⟩;show (upd D.blocks n.toNat s i).length<=6;unfold upd;split
  ·exact hs
  ·exact h.1 i
 ·exact h
def O2 (h:xc D)n:xc (HI D n):=by
 unfold HI;split
 ·refine ⟨λi=>?_,h.2⟩;show (wW D.blocks (kn D n) (my D n) i).length<=6;unfold wW;split
  ·simp
  ·exact h.1 i
 ·exact h
def O3 (h:xc D):xc (HH D):=by
 unfold HH;split
 ·refine ⟨h.1,λs hs=>?_⟩;rcases kbF.1 hs with hs | hs
  ·exact h.2 s hs
  ·rw[kcv] at hs;subst hs;exact h.1
 ·exact h
def O4 (h:xc D)id:xc (HL D id):=by
 unfold HL;split
 ·exact h
 ·generalize (dI D.snaps id).toNat=k;refine ⟨h.1,λs hs=>?_⟩;have J:=kdu hs;unfold oV at J;split at J
  ·rename_i S;rcases kbi J with O | O
   ·exact h.2 s O
   ·subst O;have R:=h.2 _ (zZ S.1);exact R
  ·exact h.2 s J
def O5 (h:xc D):xc (SP D):=h
theorem DQ (h:xc D)id n:(lm D id n).1.length<=6:=by
 unfold lm;split
 ·simp
 ·split
  ·simp
  ·unfold cI;cases hs:D.snaps[(dI D.snaps id).toNat]? with
   | none=>simp
   | some s=>exact h.2 s (kbe hs) _
def nh (V:VdM)(snap key:Int)(l:List Nat)(σ:LR):LR:=l.foldl (λ(σ:LR) (p:Nat)=>σ.putted key (p:Int) (lm V snap (p:Int)).1) σ
def qa (V:VdM)(disk snap base:Int)(m:Nat->Bool)(page:Int)(σ:LR):LR×Int×Int:=
 if (fy V snap).2≠0 then (σ,0,(fy V snap).2)
 else if page<1 then (σ,0,1)
 else if pS σ base disk (fy V snap).1≠0 then (σ,0,pS σ base disk (fy V snap).1)
 else if (nv (nh V snap σ.next (gt (mk (dr (uY m (fy V snap).1))) 0) (σ.begun base disk (fy V snap).1)) σ.next).2.2≠0 then ((zA (nv (nh V snap σ.next (gt (mk (dr (uY m (fy V snap).1))) 0) (σ.begun base disk (fy V snap).1)) σ.next).1 σ.next).1,0,(nv (nh V snap σ.next (gt (mk (dr (uY m (fy V snap).1))) 0) (σ.begun base disk (fy V snap).1)) σ.next).2.2)
 else (nv (nh V snap σ.next (gt (mk (dr (uY m (fy V snap).1))) 0) (σ.begun base disk (fy V snap).1)) σ.next)
variable {size:Int}{p:Nat}
theorem W9 (h:mk (dr (uY m size)) p=true)(hp:p<16):m p=true/\(p:Int)<size:=by
 grind[tc,uY]
theorem RR:p∈gt m 0 ↔ p<16/\m p=true:=by
 grind[gt]
theorem pos_lt:p∈gt (mk (dr (uY m size))) 0 ↔ p<16/\m p=true/\(p:Int)<size:=by
 grind[RR,tc,uY]
theorem Wv (hs:(fy V J).2=0)(hp:(p:Int)<(fy V J).1):(lm V J p).2.2=0:=by
 grind[fy,lm]
theorem JX {V J key}(hd:xc V):∀{l:List Nat} {z z2:RpM} {e:Int} {y:SeE},hJ z.ses key=some y->(∀p∈l,(lm V J p).2.2=0/\(p:Int)<y.size)->kO V J key l z e z2->
  e=0/\z2.lr=nh V J key l z.lr/\∃O,hJ z2.ses key=some O/\O.base=y.base/\O.disk=y.disk/\O.size=y.size/\∀i d,l7 O.puts i d=if i∈l then (lm V J i).1 else l7 y.puts i d
 | [],z,z2,e,y,R,hl,h=>by
  obtain ⟨rfl,rfl⟩:=h;exact ⟨rfl,rfl,y,R,rfl,rfl,rfl,λi d=>by simp⟩
 | p::l,z,z2,e,y,R,hl,h=>by
  obtain ⟨h1,X⟩:=hl p (by simp);unfold kO at h;rw[iOm] at h;have h0:ez z key p (lm V J p).1=0:=by
   unfold ez
   grind[DQ]
  rw[iOm] at h;obtain ⟨so,co,h⟩:=h;have S:=wF (z:=z) (k:=key) (at_:=p) (d:=(lm V J p).1) (so:=so) (co:=co) R;obtain ⟨a,b,O,c1,c2,c3,c4,c5⟩:=JX hd S (λq hq=>hl q (kcn _ hq)) h;refine ⟨a,?_,O,c1,c2,c3,c4,λi d=>?_⟩
  ·rw[b,vZ]
   rfl
  grind[Hx]
def z7 z(K:Rok z)a base disk size:hJ (z.begun a base disk size).ses z.next=some ⟨z.next,a,none,0,base,disk,size,[]⟩:=Rv (m:=⟨z.next,a,none,0,base,disk,size,[]⟩) λe he=>(K.keyS e he).2
variable {D:DiskM}
theorem UK {D2}(R:Up t D z)(ht:t<=80000)(hd:xc V)(k:pV D V z disk J base m O n e D2 z2):
  Up (t+2) D2 z2/\qa V disk J base m O z.lr=(z2.lr,n,e)/\
  ((e≠0/\z2.S=z.S/\z2.L=z.L/\z2.n=z.n)\/(e=0/\(fy V J).2=0/\cr z base disk (fy V J).1=0/\∃puts,gw z.S z.L z.n base disk (fy V J).1 puts= .ok (z2.S,z2.L,z2.n,n)/\∀i d,l7 puts i d=if i<16/\m i=true/\(i:Int)<(fy V J).1 then (lm V J i).1 else d)):=by
 refine ⟨UJ R ht k,?_⟩;unfold pV at k;unfold qa;by_cases h1:(fy V J).2≠0
 ·grind
 rw[kaU h1] at k ⊢;by_cases h2:O<1
 ·grind
 rw[kaU h2] at k ⊢;rw[oT];by_cases h3:cr z base disk (fy V J).1≠0
 ·grind
 rw[kaU h3] at k ⊢;have Z:(fy V J).2=0:=(by omega);have hb:cr z base disk (fy V J).1=0:=(by omega);obtain ⟨a,e1,z1,hs,k⟩:=k;have hnx:=R.next;obtain ⟨K1,S1⟩:=uT (R.rep.rok.begin (a:=a) (by omega) hb) hs;have R1:Up (t+1) D z1:=(R.begun (by omega) hb).same S1 K1;obtain ⟨rfl,Y,y,hy,y1,y2,y3,y4⟩:=JX hd (z7 z R.rep.rok a base disk (fy V J).1) (λp hp=>by
  have hp:=(pos_lt.1 hp).2.2;exact ⟨Wv Z hp,hp⟩) hs
 rw[zD] at Y;rw[show z.lr.next=z.next from rfl,<-Y];rcases k with ⟨h,_⟩ | ⟨_,n1,e2,w,hf,k⟩
 ·exact absurd rfl h
 have hfl:=Ob R1 (by omega) hf;rw[hfl];have q1:z1.S=z.S:=S1.2.2.2.1;have q2:z1.L=z.L:=S1.2.2.2.2.1;have q3:z1.n=z.n:=S1.2.2.2.2.2.1;rcases k with ⟨h,rfl,rfl,rfl⟩ | ⟨rfl,rfl,rfl,rfl⟩
 ·rw[kaT h];rcases Dz R1 (by omega) hf with ⟨_,_,_,rfl,_⟩ | ⟨h0,_⟩
  ·refine ⟨?_, .inl ⟨h,q1,q2,q3⟩⟩;unfold zA;rw[show w.lr.ses=w.ses.map sS from rfl,sg,hy]
   grind[DA,FJ]
  ·exact absurd h0 h
 ·rw[kaU (by simp)];refine ⟨rfl, .inr ⟨rfl,Z,hb,?_⟩⟩;rcases Dz R1 (by omega) hf with ⟨_,h0,_⟩ | ⟨_,_,⟨s,X,hr⟩,_⟩
  ·exact absurd rfl h0
  ·rw[hy] at X;injection X with X;subst X;rw[q1,q2,q3,y1,y2,y3] at hr;refine ⟨y.puts,hr,λi d=>?_⟩;rw[y4];by_cases hi:i∈gt (mk (dr (uY m (fy V J).1))) 0
   ·rw[kaT hi,kaT (pos_lt.1 hi)]
   ·rw[kaU hi,kaU (λh=>hi (pos_lt.2 h))]
    rfl
open _root_.Go.Proofs.Tryz
variable {d:Bytes}
theorem Lv {id at_ s}(J:hJ z.ses id=some s)(h:0<=at_/\at_<s.size)(hd:d.length<=6):ez z id at_ d=0:=by
 grind[ez]
theorem UL (h:∀s∈V.snaps,s.size<=16)J:(fy V J).1<=16:=by
 grind[fy,cI]
variable {k:Nat}{σ:LR}
theorem RS {key}(h:m k=true):nh V J key ((List.range (k+1)).filter m) σ=(nh V J key ((List.range k).filter m) σ).putted key (k:Int) (lm V J (k:Int)).1:=by
 grind[nh,List.range_succ]
def O6 {key}(h:¬m k=true):nh V J key ((List.range (k+1)).filter m) σ=nh V J key ((List.range k).filter m) σ:=by
 rw[List.range_succ,kb9,kca h,List.filter_nil,kcV]
theorem RT (h:size<=16):gt (mk (dr (uY m size))) 0=(List.range size.toNat).filter m:=by
 unfold gt;rw[show List.range' 0 (16 - 0)=List.range 16 from rfl,show 16=size.toNat+(16 - size.toNat) by omega,List.range_add,kb9];have J:(List.range size.toNat).filter (mk (dr (uY m size)))=(List.range size.toNat).filter m:=kdw λp hp=>by
  grind[tc,uY]
 have O:((List.range (16 - size.toNat)).map (size.toNat+·)).filter (mk (dr (uY m size)))=[]:=kcC.2 λp hp=>by
  grind[tc,uY]
 grind
theorem RU σ id:0<=(nv σ id).2.2:=by
 unfold nv;split
 ·grind
 ·split
  ·rename_i hr;exact Int.le_of_lt<|ud hr
  ·exact kcY 0
theorem DR {τ}(h1:(fy V J).2=0)(S:¬O<1)(X:pS σ base disk (fy V J).1=0)(R:(fy V J).1<=16)(h:nv (nh V J σ.next ((List.range (fy V J).1.toNat).filter m) (σ.begun base disk (fy V J).1)) σ.next=(τ,n,e)):
  qa V disk J base m O σ=if e≠0 then ((zA τ σ.next).1,0,e) else (τ,n,e):=by
 grind[qa,RT]
def O7 {id}(h:hJ z.ses id=none):(zA z.lr id).1=z.lr:=by
 unfold zA;rw[show z.lr.ses=z.ses.map sS from rfl,sg,h]
 rfl
def O8 {id w}(h:hJ z.ses id=some w):(zA z.lr id).1=(z.sess (nW z.ses id)).lr:=by
 unfold zA;rw[show z.lr.ses=z.ses.map sS from rfl,sg,h,DA,FJ]
 rfl
theorem O9 z base disk size:0<=cr z base disk size:=by
 grind[cr,BB]
theorem Pa (h:cr z base disk size=0):1<=size:=by
 grind[cr]
def z8 b Z z V disk J base l s cap Y(hR:RrO z)(hn:z.next<=999998)(hsl:V.snaps.length<=1000000)(hsz:∀s∈V.snaps,s.size<=16)(hd:xc V)(hl:l.length<=1000000)(hv:Cj l)F:cqq 70 [ptr b 0,ptr Z 0,I disk,I J,I base,sl s l.length cap,I Y] (e9 b z::iD Z V::roL 2 s (aV l)::F) (λv L'=>∃n e z2,qa V disk J base (mk l) Y z.lr=(z2.lr,n,e)/\RrO z2/\z2.next<=z.next+1/\v= .tuple #[I n,I e]/\L'=e9 b (z2)::iD Z V::roL 2 s (aV l)::F):=by
 have h16:=UL hsz J;have hnn:=UH V J;refine Ct.of func70 W 83 ntmps70 (by simp) λw0=>?_;refine A<|gA<|T<|A<|C<|C<|gR (vB call146 (uQ Z V J hsl))<|C<|gX (I (fy V J).1)<|gX (I (fy V J).2)<|gA<|T<|ac<|A<|C<|M aQ<|ab<|ah ?_ ?_<;>intro h32
 ·have R:¬(fy V J).2=0:=(by simp at h32;omega);refine A<|C<|gA<|T ?_;exact ar (e9 b (z)::iD Z V::roL 2 s (aV l)::F) rfl ⟨0,(fy V J).2,z,by unfold qa;rw[kaT R],hR,by omega,rfl,rfl⟩
 ·have R:(fy V J).2=0:=(by simp at h32;omega);refine ai<|ac<|A<|C<|M aG<|ab<|ah ?_ ?_<;>intro h35
  ·have O:Y<1:=(by simpa using h35);refine A<|gA<|T ?_;exact ar (e9 b (z)::iD Z V::roL 2 s (aV l)::F) rfl ⟨0,1,z,by unfold qa;rw[iOm,kaT O],hR,by omega,rfl,rfl⟩
  ·have O:¬Y<1:=(by simpa using h35);refine ai<|A<|C<|C<|C<|C<|gI (uB call53 (FT b z base disk (fy V J).1 hR)) ?_;rintro _ _ (⟨S,rfl,rfl⟩ | ⟨S,a,rfl,rfl⟩)
   ·refine C<|gX (I 0)<|gX (I (cr z base disk (fy V J).1))<|gA<|T<|ac<|A<|C<|M aQ<|ab<|ah ?_ ?_<;>intro h45
    ·refine A<|C<|gA<|T ?_;exact ar (e9 b (z)::iD Z V::roL 2 s (aV l)::F) rfl ⟨0,cr z base disk (fy V J).1,z,by unfold qa;rw[iOm,kaU O,oT,kaT S],hR,by omega,rfl,rfl⟩
    ·exact absurd (by simp at h45;have:=O9 z base disk (fy V J).1;omega) S
   ·have hbe1:1<=(fy V J).1:=Pa S;refine C<|gX (I z.next)<|gX (I 0)<|gA<|T<|ac<|A<|C<|M aQ<|ab<|ah ?_ ?_<;>intro h45
    ·simp at h45
    ·refine ai<|A<|C<|gR (vB call147 (Cl l s cap hl hv))<|gI (aO (Array.replicate 16 (Bo false)) ZZ) ?_;rintro _ _ ⟨b19,rfl,rfl⟩;refine gU (az (bA (mk l)) YG (hl:=by exact jh _) (h1:=by exact qR _) (by simp) (hcs:=by exact bG (h:=by simp[bL])))<|ab<|ac<|A<|T<|ak ?_;refine aL (α:=Nat×RpM) (λx=>(x.1:Int)<=(fy V J).1/\RrO x.2/\x.2.next=z.next+1/\(∃q,hJ x.2.ses z.next=some q/\q.size=(fy V J).1)/\x.2.lr=nh V J z.next ((List.range x.1).filter (mk l)) (z.lr.begun base disk (fy V J).1)) (λx=>U [(0,ptr b 0),(1,ptr Z 0),(3,I J),(16,I (fy V J).1),(18,I z.next),(19,ptr b19 0),(20,I x.1)]) (λx=>e9 b x.2::pcc b19 (bA (mk l)) 136::iD Z V::roL 2 s (aV l)::F) (λx=>(fy V J).1.toNat - x.1) (0,(z.begun a base disk (fy V J).1)) ⟨by simp only[];omega,hR.begun (by omega) S,rfl,⟨_,z7 z hR.rok a base disk (fy V J).1,rfl⟩,by rw[zD];rfl⟩ [0,1,3,16,18,19,20] rfl ?_;rintro ⟨k,y⟩ ⟨hks,hY,hnx,⟨q,hfs,hqz⟩,hlr⟩;simp only[] at hks hY hnx hfs hlr ⊢;refine ac<|A<|C<|C<|M aG<|ab<|ah ?_ ?_<;>intro h51
     ·have h51':(k:Int)<(fy V J).1:=(by simpa using h51);have hk:k<16:=(by omega);refine ai<|ac<|ak<|A<|C<|M (bp k Zh XL (by omega))<|M (aA Yp (hv:=⟨qQ hk⟩))<|ab<|ah ?_ ?_<;>intro h56
      ·have h56':mk l k=true:=(by simpa using h56);refine A<|C<|C<|C<|gR (vB call148 (wZ Z V J (k:Int) hsl hsz))<|C<|gX (ay (lm V J (k:Int)).1)<|gX (I (lm V J (k:Int)).2.1)<|gX (I (lm V J (k:Int)).2.2)<|gA<|gA<|T<|al<|C<|C<|C<|C<|gI (uB call54 (Lm b y z.next (k:Int) (lm V J (k:Int)).1 hY (by have:=DQ hd J (k:Int);omega))) ?_;rintro _ _ (⟨hno,_,_⟩ | ⟨hok,so,co,rfl,rfl⟩)
       ·exact absurd (Lv hfs ⟨by omega,by omega⟩ (DQ hd J (k:Int))) hno
       refine ab<|aE<|al<|C<|M (bx (r:=((k+1:Nat):Int)) (cK (by omega)))<|T ?_;exact an (k+1,y.putted z.next (k:Int) (lm V J (k:Int)).1 so co) ⟨by simp only[];omega,hY.put hok,by rw[(n4 _ _ _ _ _ _).2.2.2.2.2.2.2];exact hnx,⟨_,wF hfs,hqz⟩,by rw[vZ,hlr,RS h56']⟩ (by simp only[];omega) [0,1,3,16,18,19,20] rfl
      ·have h56':¬mk l k=true:=(by simpa using h56);refine ai<|aE<|al<|C<|M (bx (r:=((k+1:Nat):Int)) (cK (by omega)))<|T ?_;exact an (k+1,y) ⟨by simp only[];omega,hY,hnx,⟨q,hfs,hqz⟩,by rw[hlr,O6 h56']⟩ (by simp only[];omega) [0,1,3,16,18,19,20] rfl
     ·have h51':(k:Int)=(fy V J).1:=(by simp at h51;omega);refine aF ?_;refine ac ?_;have X:nv (nh V J z.lr.next ((List.range (fy V J).1.toNat).filter (mk l)) (z.lr.begun base disk (fy V J).1)) z.lr.next=nv y.lr z.next:=(by rw[hlr,show (fy V J).1.toNat=k by omega];rfl);refine al<|C<|C<|gI (uB call55 (DJ b y z.next hY)) ?_;rintro _ _ ⟨n,e,z2,hfin,hR2,hx2,rfl,rfl⟩;rw[hfin] at X;refine C<|gX (I n)<|gX (I e)<|gA<|T<|ac<|A<|C<|M aQ<|ab<|ah ?_ ?_<;>intro h77
      ·have he:e≠0:=(by simp at h77;omega);refine A<|C<|C<|gI (uB call56 (FU b z2 z.next)) ?_;rintro _ _ (⟨hno,rfl,rfl⟩ | ⟨w,hw,rfl,rfl⟩)
       ·refine ab<|A<|C<|gA<|T ?_;exact ar (e9 b (z2)::iD Z V::roL 2 s (aV l)::F) rfl ⟨0,e,z2,by rw[DR R O ((oT _ _ _ _).trans S) h16 X,kaT he,show z.lr.next=z.next from rfl,O7 hno],hR2,by omega,rfl,rfl⟩
       ·refine ab<|A<|C<|gA<|T ?_;exact ar (e9 b (z2.sess (nW z2.ses z.next))::iD Z V::roL 2 s (aV l)::F) rfl ⟨0,e,z2.sess (nW z2.ses z.next),by rw[DR R O ((oT _ _ _ _).trans S) h16 X,kaT he,show z.lr.next=z.next from rfl,O8 hw],hR2.ses _ (λq hq=>(kcd.1 hq).1),by show z2.next<=_;omega,rfl,rfl⟩
      ·have he:e=0:=(by have:=RU y.lr z.next;rw[hfin] at this;simp at h77;simp only at this;omega);refine ai<|A<|C<|gA<|T ?_;exact ar (e9 b (z2)::iD Z V::roL 2 s (aV l)::F) rfl ⟨n,0,z2,by rw[DR R O ((oT _ _ _ _).trans S) h16 X,iOm,he],hR2,by omega,rfl,rfl⟩
def xe (V:VdM)(disk snap since base page:Int)(σ:LR):LR×Int×Int:=if kT V since snap≠0 then (σ,0,kT V since snap) else qa V disk snap base (mk (iC V since snap)) page σ
def HO b bw z V disk snap page(hR:RrO z)(hn:z.next<=999998)(hsl:V.snaps.length<=1000000)(hsz:∀s∈V.snaps,s.size<=16)(hd:xc V)F:Ct Tryz.prog 21 [ptr b 0,ptr bw 0,I disk,I snap,I page] (e9 b z::iD bw V::F) (λv L'=>∃n e z2,qa V disk snap 0 (mk z6) page z.lr=(z2.lr,n,e)/\RrO z2/\z2.next<=z.next+1/\v= .tuple #[I n,I e]/\L'=e9 b (z2)::iD bw V::F):=by
 refine Ct.of func21 W 22 ntmps21 (by simp) λw0=>?_;refine A (gA (T (A (C (C (C (C (M (aS (SQ 0 16)) (gI (ap (aV z6) Ys Yt Zf (by simp[z6,aV])) ?_)))))))));rintro _ _ ⟨b17,rfl,rfl⟩;refine C ?_;refine bz (some ⟨b17,0,none⟩) ?_;refine gI (uD call70 (z8 b bw z V disk snap 0 z6 (some ⟨b17,0,none⟩) 1 page hR hn hsl hsz hd (by decide) JV)) ?_;rintro _ _ ⟨n,e,z2,hc,hR2,hx2,rfl,rfl⟩;refine gX (I n) (gX (I e) (gA (T ?_)));exact ar (e9 b (z2)::iD bw V::F) rfl ⟨n,e,z2,hc,hR2,hx2,rfl,rfl⟩
def HP b S z V disk O J base R(hR:RrO z)(hn:z.next<=999998)(hsl:V.snaps.length<=1000000)(hsz:∀s∈V.snaps,s.size<=16)(hd:xc V)(hca:(iC V J O).length<=1000000)(hvc:Cj (iC V J O))F:cqq 23 [ptr b 0,ptr S 0,I disk,I O,I J,I base,I R] (e9 b z::iD S V::F) (λv L'=>∃n e z2,xe V disk O J base R z.lr=(z2.lr,n,e)/\RrO z2/\z2.next<=z.next+1/\v= .tuple #[I n,I e]/\L'=e9 b (z2)::iD S V::F):=by
 have hnn:=UI V J O;refine Ct.of func23 W 38 ntmps23 (by simp) λw0=>?_;refine A<|gA<|T<|A<|C<|C<|C<|gI (uB call72 (ng S V J O hsl)) ?_;rintro _ _ ⟨X,Y,rfl,rfl⟩;refine bz X ?_;refine C<|gX (sl X (iC V J O).length Y)<|gX (I (kT V J O))<|gA<|T<|ac<|A<|C<|M aQ<|ab<|ah ?_ ?_<;>intro Z
 ·have hce:kT V J O≠0:=(by simp at Z;omega);refine A<|C<|gA<|T ?_;exact ar (e9 b (z)::iD S V::F) rfl ⟨0,kT V J O,z,by unfold xe;rw[kaT hce],hR,by omega,rfl,rfl⟩
 ·have hce:kT V J O=0:=(by simp at Z;omega);refine ai<|A<|C<|C<|C<|C<|C<|C<|C<|gI (uD call70 (z8 b S z V disk O base (iC V J O) X Y R hR hn hsl hsz hd hca hvc)) ?_;rintro _ _ ⟨n,e,z2,hc,hR2,hx2,rfl,rfl⟩;refine gX (I n)<|gX (I e)<|gA<|T ?_;exact ar (e9 b (z2)::iD S V::F) rfl ⟨n,e,z2,by unfold xe;rw[iOm,hc],hR2,hx2,rfl,rfl⟩
abbrev fz:Bytes:=[119,114,105,116,101]
abbrev ir:Bytes:=[111,118,101,114]
abbrev UM:Bytes:=[115,110,97,112]
abbrev Pb:Bytes:=[102,111,114,103,101,116]
abbrev Pc:Bytes:=[112,111,105,110,116,115]
abbrev Pd:Bytes:=[98,108,111,99,107,115]
abbrev UN:Bytes:=[115,97,118,101]
abbrev UO:Bytes:=[115,105,122,101]
abbrev Pe:Bytes:=[117,110,115,110,97,112]
abbrev UP:Bytes:=[115,104,111,119]
abbrev RV:Bytes:=[97,103,97,105,110]
abbrev UQ:Bytes:=[100,114,111,112]
abbrev RW:Bytes:=[109,111,117,110,116]
abbrev Lw:Bytes:=[117,110,109,111,117,110,116]
abbrev UR:Bytes:=[102,117,108,108]
abbrev SR:Bytes:=[97,114,109]
abbrev Lx:Bytes:=[114,101,115,116,97,114,116]
abbrev Ly:Bytes:=[99,104,97,110,103,101,100]
abbrev US:Bytes:=[107,101,101,112]
abbrev UT:Bytes:=[114,101,97,100]
abbrev wg:Bytes:=[109,111,114,101]
abbrev RX:Bytes:=[111,107]
abbrev UU:Bytes:=[32,100,105,115,107,32]
abbrev Xa:Bytes:=[32,115,105,122,101,32]
abbrev Ww:Bytes:=[101,114,114,111,114,32]
abbrev DT:Bytes:=[59,32]
def lK (s:Bytes):Option Int:=match mm s with
 | some v=>if 0<=v/\v<=999/\Lib.itoa v=s then some v else none
 | none=>none
def fC:List Bytes->Option (List Int)
 | []=>some []
 | s::l=>match lK s with
  | none=>none
  | some n=>(fC l).map (n::·)
def k6:Bytes->List Bytes
 | []=>[[]]
 | c::r=>if c=32 then []::k6 r else match k6 r with
  | h::t=>(c::h)::t
  | []=>[[c]]
def i8 (e:Int):Bytes:=Ww++Lib.itoa e
def oZ (e:Int):Bytes:=if e≠0 then i8 e else RX
def o0 (n e:Int):Bytes:=if e≠0 then i8 e else Lib.itoa n
def o5 (b:Bytes)(l:List Bytes):Bytes:=if l=[] then [45] else Lib.join l b
def gJ (s:Bytes):Bytes:=if s=[] then [45] else s
def qb (s:Bytes):Bytes:=if s=[45] then [] else s
def gv (p:Pt):Bytes:=Lib.itoa p.id++UU++Lib.itoa p.disk++Xa++Lib.itoa p.size
def kf (a:Area):Bytes:=Lib.itoa a.fr++ [43]++Lib.itoa a.many
def SS (σ:LR)(id:Int)(p:Pt):Bytes:=o5 [32] ((List.range p.size.toNat).map λ(k:Nat)=>gJ (j5 σ.S σ.L id (k:Int)).1)
structure CoS where
 V:VdM
 σ:LR
def kP (k:Bytes)(a b:Int)(s:Bytes):ActM:=⟨k,s,a,b,0,0,0,[],[]⟩
def xf (c:CoS)(x:ActM)(told:Bool):CoS×Bytes:=(⟨c.V,(iO c.σ x).1⟩,if told=true then o0 (iO c.σ x).2.1 (iO c.σ x).2.2.2 else oZ (iO c.σ x).2.2.2)
def Lz (c:CoS)(r:LR×Int×Int):CoS×Bytes:=(⟨c.V,r.1⟩,o0 r.2.1 r.2.2)
def Pf (c:CoS)(r:LR×List Int):CoS×Bytes:=(⟨c.V,r.1⟩,o5 [32] (r.2.map Lib.itoa))
def F9 (c:CoS)(r:Bytes×Int):CoS×Bytes:=(c,if r.2≠0 then i8 r.2 else gJ r.1)
def Aa (c:CoS)(w:Bytes):CoS×Bytes:=
 if w=UM then (⟨HH c.V,c.σ⟩,o0 (Eb c.V) (BU c.V))
 else if w=Pb then (⟨SP c.V,c.σ⟩,RX)
 else if w=Pc then (c,o5 DT (c.σ.L.map gv))
 else if w=Pd then (c,Lib.itoa (ck 40 c.σ.S.B).length++ [32]++Lib.itoa (ck 24 c.σ.S.N).length)
 else if w=UN then (c,RX)
 else (c,i8 4)
def Pg (c:CoS)(w:Bytes)(n:Int):CoS×Bytes:=
 if w=UO then (⟨HI c.V n,c.σ⟩,oZ (F3 n))
 else if w=Pe then (⟨HL c.V n,c.σ⟩,oZ (HK c.V n))
 else if w=UP then (c,match aX c.σ.L n with | none=>i8 5 | some p=>SS c.σ n p)
 else if w=RV then xf c (kP se n 0 []) true
 else if w=UQ then xf c (kP sf n 0 []) false
 else if w=RW then xf c (kP na n 0 []) true
 else if w=Lw then xf c (kP nb n 0 []) false
 else if w=UR then Lz c (qa c.V 1 n 0 (mk z6) 3 c.σ)
 else if w=Lx then (⟨c.V,⟨c.σ.S,c.σ.L,c.σ.n,[],[],1⟩⟩,RX)
 else (c,i8 4)
def Ph (c:CoS)(w:Bytes)(a b:Int):CoS×Bytes:=
 if w=Ly then (c,if kT c.V a b≠0 then i8 (kT c.V a b) else o5 [32] ((iC c.V a b).map kf))
 else if w=US then Pf c (keepL (eQ c.σ.L a b) c.σ)
 else if w=UT then F9 c (uy c.σ a b)
 else (c,i8 4)
def RY (c:CoS)(w0:Bytes)(n:List Int)(t:Bytes):CoS×Bytes:=match n with
 | [a]=>if w0=fz then (⟨DK c.V a t,c.σ⟩,oZ (F0 c.V a t)) else (c,i8 4)
 | [a,b]=>if w0=ir then xf c (kP nc a b t) false else (c,i8 4)
 | _=>(c,i8 4)
def RZ (c:CoS)(w0:Bytes)(n:List Int):CoS×Bytes:=match n with
 | []=>Aa c w0
 | [a]=>Pg c w0 a
 | [a,b]=>Ph c w0 a b
 | [a,b,d]=>if w0=wg then Lz c (xe c.V 1 a b d 3 c.σ) else (c,i8 4)
 | _=>(c,i8 4)
def mq (c:CoS)(l:Bytes):CoS×Bytes:=
 if 60<l.length then (c,i8 4)
 else if (k6 l).headD []=fz\/(k6 l).headD []=ir then
  (if (k6 l).length<=2\/(k6 l).getLastD []=[] then (c,i8 4) else match fC ((k6 l).tail.dropLast) with
   | none=>(c,i8 4)
   | some n=>RY c ((k6 l).headD []) n (qb ((k6 l).getLastD [])))
 else match fC (k6 l).tail with
  | none=>(c,i8 4)
  | some n=>RZ c ((k6 l).headD []) n
def jd:CoS->List Bytes->CoS×List Bytes
 | c,[]=>(c,[])
 | c,l::r=>((jd (mq c l).1 r).1,(mq c l).2::(jd (mq c l).1 r).2)
theorem Ab l:k6 l≠ []:=by
 cases l with
 | nil=>simp[k6]
 | cons c r=>
  grind[k6]
theorem JY {u}(h:u<1000):mm (Lib.decDigits u)=some (u:Int):=by
 have O:∀(c:Nat) (r:List UInt8),c<10->Lib.parseMag (lH c::r)=Lib.parseUint10 0 (lH c::r):=λc r R=>by
  grind[Lib.parseMag]
 have J:∀(c:Nat) (r:List UInt8) (v:Nat),c<10->v<1000->Lib.parseUint10 0 (lH c::r)= .ok v->mm (lH c::r)=some (v:Int):=λc r v R hv hp=>by
  grind[mm,Lib.atoiAll,ix]
 by_cases h1:u<10
 ·grind[p8,y8,Lib.parseUint10]
 ·rw[el h1];by_cases S:u<100
  ·grind[p8,y8,Lib.parseUint10]
  ·rw[el (by omega),p8 (by omega)]
   grind[y8,Lib.parseUint10]
variable {s:Bytes}
theorem rA (h:lK s=some n):0<=n/\n<=999/\s=Lib.itoa n:=by
 grind[lK]
theorem B2 (h0:0<=n)(h:n<=999):lK (Lib.itoa n)=some n:=by
 obtain ⟨u,rfl⟩:∃u:Nat,n=u:=⟨n.toNat,by omega⟩
 grind[lK,ic,JY]
set_option maxRecDepth 4000
def HQ {l:List Int}{id}(h:l[k]? =some id)(J:fc z id=true):keepL (l.drop k) z.lr=keepL (l.drop (k+1)) z.lr:=by
 simp_all[hG,keepL,xN]
def HR {l:List Int}{id}(h:l[k]? =some id)(J:fc z id=false)(hd:kX z.lr id=(z2.lr,e)):keepL (l.drop k) z.lr=((keepL (l.drop (k+1)) z2.lr).1,id::(keepL (l.drop (k+1)) z2.lr).2):=by
 simp_all[hG,keepL,xN]
theorem Pi {id}(X:(aX z.L id).isSome=true)(Y:fc z id=false)(hd:kX z.lr id=(z2.lr,e)):e=0/\z2.L=z.L.filter (λx=>!decide (x.id=id)):=by
 have O:fT z id=0:=by
  grind[fT,Option.isNone_iff_eq_none]
 obtain ⟨p,V,L',_,_,J⟩:=Hr O;unfold kX at hd;rw[qL,iOm] at hd;dsimp only[RpM.lr] at hd;rw[J] at hd;injection hd with h1 R;have S:=kay LR.L h1;refine ⟨R.symm,?_⟩;rw[<-(JB J).1];exact S.symm
def Ac b z id F:cqq 132 [ptr b 0,I id] (e9 b z::F) (R1 (Bo (fc z id)) (e9 b z::F)):=by
 refine Ct.of func132 W 47 ntmps132 (by simp) λw0=>?_;refine dX b z ?_;intro bs so co bv rs rm;refine gY rs<|λhnS=>?_;refine gY rm<|λhnM=>?_;refine A<|T<|A<|T<|ac<|ac ?_;refine ft rs ?_;intro es clk;refine al<|C<|M aa<|gF 2 XT W Zw<|gL (.map (some rs)) ZC<|gI (iv ZD) ?_;rintro _ _ ⟨Y,rfl,rfl⟩;refine ab<|ak ?_;refine aL (α:=MM×MM×Option (Int×Value)×Bool) (λy=>(y.2.1++y.1).Perm (fm z.ses)/\(y.2.2.2=true ↔ ∃e∈z.ses,(e.key,ptr e.a 0)∈y.2.1/\e.base=id)) (λy=>U [(0,ptr b 0),(1,I id),(5,Bo y.2.2.2),(14,ptr Y 0)]) (λy=>yc Y rs es clk y.1 y.2.2.1::tj rs es clk (fm z.ses)::pcc b #[ptr bs 0,ptr bv 0, .map (some rs), .map (some rm),I (z.next)] 46::pcc bs #[sl so (z.rows.length) co,I ((z.used:Int)),I ((260 - 122:Nat):Int)] 91::roL 3 so (bI z.rows)::oo bv z.S z.L z.n::big lU z.ses::mp rm (fo z.mou)::big nf z.mou::F) (λy=>y.1.length) (fm z.ses,[],none,false) ⟨.refl _,by simp⟩ [0,1,5,14] rfl ?_;rintro ⟨rest,done,cur,f⟩ ⟨hp,V⟩;simp only[] at hp V ⊢;refine A<|gI kz ?_;rintro _ _ (⟨hr,rfl,rfl⟩ | ⟨p,O,hq,rfl,rfl⟩)
 ·subst hr;have hS:f=(z.ses.any λe=>decide (e.base=id)):=by
   rw[Bool.eq_iff_iff,V,kbm];constructor
   ·rintro ⟨x,hx,_,J⟩;exact ⟨x,hx,by simpa using J⟩
   ·rintro ⟨x,hx,J⟩;exact ⟨x,hx,(by have:=hp.mem_iff (a:=(x.key,ptr x.a 0));rw[kcV] at this;exact this.2<|kbV.2 ⟨x,hx,rfl⟩),by simpa using J⟩
  subst hS;refine M aB<|ab<|ac ?_;refine dY ?_;refine aF ?_;refine ac<|ac ?_;refine bT rs ?_;refine ft rm ?_;intro es2 R;refine al<|C<|M aa<|gF 3 XT W ZE<|gL (.map (some rm)) ZO<|gI (iv ZP) ?_;rintro _ _ ⟨Z,rfl,rfl⟩;refine ab<|ak ?_;refine aL (α:=MM×MM×Option (Int×Value)×Bool) (λy=>(y.2.1++y.1).Perm (fo z.mou)/\(y.2.2.2=true ↔ ((z.ses.any λe=>decide (e.base=id))=true\/∃e∈z.mou,(e.key,ptr e.a 0)∈y.2.1/\e.point=id))) (λy=>U [(0,ptr b 0),(1,I id),(5,Bo y.2.2.2),(32,ptr Z 0)]) (λy=>yc Z rm es2 R y.1 y.2.2.1::tj rm es2 R (fo z.mou)::pcc b #[ptr bs 0,ptr bv 0, .map (some rs), .map (some rm),I (z.next)] 46::pcc bs #[sl so (z.rows.length) co,I ((z.used:Int)),I ((260 - 122:Nat):Int)] 91::roL 3 so (bI z.rows)::oo bv z.S z.L z.n::big lU z.ses::mp rs (fm z.ses)::big nf z.mou::F) (λy=>y.1.length) (fo z.mou,[],none,(z.ses.any λe=>decide (e.base=id))) ⟨.refl _,by simp⟩ [0,1,5,32] rfl ?_;rintro ⟨rest,done,cur,f⟩ ⟨hp,V⟩;simp only[] at hp V ⊢;refine A<|gI kz ?_;rintro _ _ (⟨hr,rfl,rfl⟩ | ⟨p,O,hq,rfl,rfl⟩)
  ·subst hr;have hM:f=fc z id:=by
    unfold fc;rw[Bool.eq_iff_iff,V,kbA,kbm (l:=z.mou)];constructor
    ·rintro (J | ⟨x,hx,_,J⟩)
     ·exact .inl J
     ·exact .inr ⟨x,hx,by simpa using J⟩
    ·rintro (J | ⟨x,hx,J⟩)
     ·exact .inl J
     ·exact .inr ⟨x,hx,(by have:=hp.mem_iff (a:=(x.key,ptr x.a 0));rw[kcV] at this;exact this.2<|kbV.2 ⟨x,hx,rfl⟩),by simpa using J⟩
   refine M aB<|ab<|ac ?_;refine dY ?_;refine aF ?_;refine A<|C<|T ?_;refine bT rm ?_;refine bY b (z) bs so co bv rs rm ?_;exact am rfl rfl (by show Bo f=_;rw[hM])
  ·obtain ⟨⟨i,e,he,rfl,hi⟩,X⟩:=NW hnM hp hq;refine M aB<|ab<|ac ?_;refine d6 ?_;refine ai<|ak<|A<|M iw<|gX (ptr e.a 0)<|T ?_;refine HD z.mou i he ?_;refine al<|C<|C<|gK ao<|gK aa<|gK (aw 0 kah W Xu)<|gK (aA (v:=I e.point) Xv)<|gK ao<|gK bE<|M cv<|T ?_;refine da (f:=nf) z.mou i e [pcc e.a #[I e.point, .map (some e.r)] 225,mp e.r (Au e.over)] hi ?_;rw[eK he];refine aE ?_;refine an (O,done++ [(e.key,ptr e.a 0)],some (e.key,ptr e.a 0),f || decide (e.point=id)) ⟨X,?_⟩ (by have:=hq.length_eq;simp at this;simp;omega) [0,1,5,32] rfl;rw[kbA,V,decide_eq_true_eq];constructor
   ·rintro ((J | ⟨x,hx,hm,J⟩) | J)
    ·exact .inl J
    ·exact .inr ⟨x,hx,kdx _ hm,J⟩
    ·exact .inr ⟨e,kbe he,by simp,J⟩
   ·rintro (J | ⟨x,hx,hm,J⟩)
    ·exact .inl<|.inl J
    ·rcases kbF.1 hm with hm | hm
     ·exact .inl<|.inr ⟨x,hx,hm,J⟩
     ·have hk:x.key=e.key:=(by simp at hm;exact hm.1);rw[Dq hnM hx (kbe he) hk] at J;exact .inr J
 ·obtain ⟨⟨i,e,he,rfl,hi⟩,X⟩:=NV hnS hp hq;refine M aB<|ab<|ac ?_;refine d6 ?_;refine ai<|ak<|A<|M iw<|gX (ptr e.a 0)<|T ?_;refine HC z.ses i he ?_;refine al<|C<|C<|gK ao<|gK aa<|gK (aw 0 Zq W Xu)<|gK (aA (v:=I e.base) Xv)<|gK ao<|gK bE<|M cv<|T ?_;refine da (f:=lU) z.ses i e [pcc e.a #[I e.base,I e.disk,I e.size,sl e.so e.puts.length e.co] 219,be 86 2 e.so e.co (dh e.puts)] hi ?_;rw[eK he];refine aE ?_;refine an (O,done++ [(e.key,ptr e.a 0)],some (e.key,ptr e.a 0),f || decide (e.base=id)) ⟨X,?_⟩ (by have:=hq.length_eq;simp at this;simp;omega) [0,1,5,14] rfl;rw[kbA,V,decide_eq_true_eq];constructor
  ·rintro (⟨x,hx,hm,J⟩ | J)
   ·exact ⟨x,hx,kdx _ hm,J⟩
   ·exact ⟨e,kbe he,by simp,J⟩
  ·rintro ⟨x,hx,hm,J⟩;rcases kbF.1 hm with hm | hm
   ·exact .inl ⟨x,hx,hm,J⟩
   ·have hk:x.key=e.key:=(by simp at hm;exact hm.1);rw[Dp hnS hx (kbe he) hk] at J;exact .inr J
def Ad b z id(Z:RrO z)F:cqq 58 [ptr b 0,I id] (e9 b z::F) (λv L'=>∃e z2,kX z.lr id=(z2.lr,e)/\RrO z2/\z2.ses=z.ses/\z2.mou=z.mou/\z2.next=z.next/\v=I e/\L'=e9 b z2::F):=by
 obtain ⟨G0,hC⟩:=Z.rok.con;have hlen:=hC.v.len;refine Ct.of func58 W 35 ntmps58 (by simp) λw0=>?_;refine A<|T<|ac ?_;refine dX b z ?_;intro bs so co bv rs rm;refine al<|C<|M aa<|gF 1 XT W YJ<|gL (ptr bv 0) YW<|C<|gR (vB call127 (iP bv z.S z.L z.n id (by omega)))<|C<|gX (.agg (aW ((aX z.L id).getD iB)).toArray)<|gX (Bo (aX z.L id).isSome)<|gI (aO #[I 0,I 0,I 0,I 0] X4) ?_;rintro _ _ ⟨b5,rfl,rfl⟩;refine gU (az (cs:=#[I 0,I 0,I 0,I 0]) (vs:=aW (((aX z.L id).getD iB))) (aW (((aX z.L id).getD iB))).toArray XE (by simp) (hcs:=by exact aH))<|T<|ac<|A<|C<|M cS<|ab<|ah ?_ ?_<;>intro O
 ·simp at O;refine A<|T ?_;refine bY b (z) bs so co bv rs rm ?_;have J:fT z id=5:=(by unfold fT;rw[O];rfl);exact ar (e9 b z::F) rfl ⟨5,z,by unfold kX;rw[qL,kaT (by omega),J],Z,rfl,rfl,rfl,rfl,rfl⟩
 ·simp at O;obtain ⟨p,hf⟩:=kcX.1 O;rw[show (aX z.L id).getD iB=p by rw[hf];rfl];refine ai<|ac ?_;refine bY b (z) bs so co bv rs rm ?_;refine al<|C<|C<|gR (vB call132 (Ac b z id))<|T<|ac<|A<|C<|ab<|ah ?_ ?_<;>intro X
  ·have V:fc z id=true:=X;refine A<|T ?_;have J:fT z id=6:=(by unfold fT;rw[hf,V];rfl);exact ar (e9 b z::F) rfl ⟨6,z,by unfold kX;rw[qL,kaT (by omega),J],Z,rfl,rfl,rfl,rfl,rfl⟩
  ·have V:fc z id=false:=(by simpa using X);have J:fT z id=0:=(by unfold fT;rw[hf,V];rfl);refine ai<|ac ?_;refine dX b z ?_;intro bs so co bv rs rm;refine al<|C<|M aa<|gF 1 XT W YJ<|gL (ptr bv 0) YW<|gI (uB call128 (ta bv z.S z.L z.n (by omega))) ?_;rintro _ _ ⟨q,rfl,rfl⟩;refine T ?_;refine bY b (z) bs so co bv rs rm ?_;refine A<|C<|C<|gI (uB call133 (HB q z.S z.L z.n id G0 hC.v)) ?_;obtain ⟨p1,S1,L1,hf1,hus1,R⟩:=Hr (z:=z) (id:=id) J;obtain ⟨G1,Y⟩:=zi hC R;rintro v L' hv;unfold Vi at hv;rw[R] at hv;obtain ⟨rfl,rfl⟩:=hv;refine ab<|A<|C<|C<|gI (uC call130 (td b q z S1 L1 z.L z.n G1 Z Y (by omega) (λp hp=>hp) (λp hp=>by rw[(JB R).1] at hp;exact (kcd.1 hp).1))) ?_;rintro _ _ ⟨u2,hu2,rfl,rfl⟩;refine T ?_;exact ar (e9 b (z.vau u2 S1 L1 z.n)::F) rfl ⟨0,(z.vau u2 S1 L1 z.n),by unfold kX;rw[qL,iOm];dsimp only[RpM.lr];rw[R];rfl,Z.vau Y hu2,rfl,rfl,rfl,rfl,rfl⟩
def HS b z0 disk many(hR0:RrO z0)(hm:many<=9223372036854775807)F:cqq 59 [ptr b 0,I disk,I many] (e9 b z0::F) (λv L'=>(many<0/\v= .tuple #[sl none 0 0,I 1]/\L'=e9 b z0::F)\/(0<=many/\∃gone z2 s c,keepL (eQ z0.L disk many) z0.lr=(z2.lr,gone)/\RrO z2/\z2.next=z0.next/\v= .tuple #[sl s gone.length c,I 0]/\L'=be 3 1 s c (bc gone)::e9 b z2::F)):=by
 obtain ⟨G0,hC⟩:=hR0.rok.con;have hlen:=hC.v.len;have hel:=ru z0.L disk many hlen;obtain ⟨hnd,hin0⟩:=Hv hC.v disk many;refine Ct.of func59 W 52 ntmps59 (by simp) λw0=>?_;refine A<|gA<|T<|ac<|A<|C<|M aG<|ab<|ah ?_ ?_<;>intro h14
 ·have hmn:many<0:=(by simpa using h14);refine A<|gA<|T ?_;exact ar (e9 b z0::F) rfl<|.inl ⟨hmn,rfl,rfl⟩
 ·have hmn:¬many<0:=(by simpa using h14);refine ai<|A<|T<|ac ?_;refine dX b z0 ?_;intro bs so co bv rs rm;refine al<|C<|M aa<|gF 1 XT W YJ<|gL (ptr bv 0) YW<|C<|C<|gI (uB call134 (DH bv z0.S z0.L z0.n disk many (by omega) hm)) ?_;rintro _ _ ⟨s21,c21,rfl,rfl⟩;refine bz s21 ?_;refine T ?_;refine bY b (z0) bs so co bv rs rm ?_;refine aY 3 1 (bc []) ?_;refine ac<|A<|T<|ak ?_;refine aL (α:=Nat×RpM×List Int×Option Addr×Nat) (λy=>y.1<=(eQ z0.L disk many).length/\y.2.2.1.length<=y.1/\RrO y.2.1/\y.2.1.next=z0.next/\(∀q∈(eQ z0.L disk many).drop y.1,(aX y.2.1.L q).isSome=true)/\keepL (eQ z0.L disk many) z0.lr=((keepL ((eQ z0.L disk many).drop y.1) y.2.1.lr).1,y.2.2.1++(keepL ((eQ z0.L disk many).drop y.1) y.2.1.lr).2)) (λy=>U [(0,ptr b 0),(8,sl y.2.2.2.1 y.2.2.1.length y.2.2.2.2),(9,sl s21 (eQ z0.L disk many).length c21),(10,I y.1)]) (λy=>be 3 1 y.2.2.2.1 y.2.2.2.2 (bc y.2.2.1)::e9 b y.2.1::roL 1 s21 (bc (eQ z0.L disk many))::F) (λy=>(eQ z0.L disk many).length - y.1) (0,z0,[],none,0) ⟨by simp,by simp,hR0,rfl,by simpa using hin0,by simp⟩ [0,8,9,10] rfl ?_;rintro ⟨k,z,gone,s8,c8⟩ ⟨hk,hgl,hR,V,R,Z⟩;simp only[] at hk hgl hR V R Z ⊢;refine ac<|A<|C<|C<|M (aP XB)<|M aG<|ab<|ah ?_ ?_<;>intro h25
  ·simp at h25;have O:k<(eQ z0.L disk many).length:=(by omega);obtain ⟨id,J⟩:∃id,(eQ z0.L disk many)[k]? =some id:=⟨_,kbN O⟩;refine ai<|ac<|ak<|A<|C<|C<|C<|M (av k XB Xu O (by rw[cw];exact O))<|M (aI (v:=I id) Xv (by exact fO J) W)<|gR (vB call132 (Ac b z id))<|T<|ac<|A<|C<|ab ?_;apply ah<;>intro h34
   ·have X:fc z id=true:=h34;refine aF ?_;refine al<|C<|M (bx (r:=((k+1:Nat):Int)) (cK (by omega)))<|T ?_;exact an (k+1,z,gone,s8,c8) ⟨by simp only[];omega,by simp only[];omega,hR,V,(λq hq=>R q (by rw[hG J];exact kcn _ hq)),by rw[Z,HQ J X]⟩ (by simp only[];omega) [0,8,9,10] rfl
   ·have X:fc z id=false:=(by simpa using h34);refine ai<|ac<|A<|C<|C<|C<|M (av k XB Xu O (by rw[cw];exact O))<|M (aI (v:=I id) Xv (by exact fO J) W)<|gI (uB call58 (Ad b z id hR)) ?_;rintro _ _ ⟨e,z2,hdr,hR2,hs2,hm2,hx2,rfl,rfl⟩;obtain ⟨rfl,hL2⟩:=Pi (R id (by rw[hG J];simp)) X hdr;refine T<|A<|C<|M aQ<|ab<|ah ?_ ?_<;>intro h42
    ·simp at h42
    ·refine ai<|al<|C<|C<|C<|M (av k XB Xu O (by rw[cw];exact O))<|M (aI (v:=I id) Xv (by exact fO J) W)<|gI (ap [[I id]] XB Xu X5 (by simp)) ?_;rintro _ _ ⟨b49,rfl,rfl⟩;refine gI (aR XB Xu X5 Tryz.typeInfo3 (hn:=by exact cw _) (by simp) (by intro r hr;simp at hr;subst hr;rfl) ⟨by omega,by decide,by decide⟩) ?_;rintro _ _ ⟨s50,c50,rfl,rfl⟩;rw[show bc gone++ [[I id]]=bc (gone++ [id]) by simp[bc],show gone.length+1=(gone++ [id]).length by simp];refine T<|aE<|al<|C<|M (bx (r:=((k+1:Nat):Int)) (cK (by omega)))<|T ?_;exact an (k+1,z2,gone++ [id],s50,c50) ⟨by simp only[];omega,by simp only[kcp,kaX,kcO];omega,hR2,hx2.trans V,(λq hq=>by
      have Y:((eQ z0.L disk many).drop k).Nodup:=hnd.sublist (List.drop_sublist _ _);rw[hG J,kb3] at Y;obtain ⟨p,hp,hpq⟩:=find_is.1 (R q (by rw[hG J];exact kcn _ hq));exact find_is.2 ⟨p,by rw[hL2];exact kcd.2 ⟨hp,by simp;intro e;exact Y.1 (by rw[<-e,hpq];exact hq)⟩,hpq⟩),by rw[Z,HR J X hdr];simp⟩ (by simp only[];omega) [0,8,9,10] rfl
  ·simp at h25;obtain rfl:k=(eQ z0.L disk many).length:=(by omega);rw[kcz] at Z;have Z:keepL (eQ z0.L disk many) z0.lr=(z.lr,gone):=(by rw[Z];show (z.lr,gone++ [])=_;rw[kcV]);refine aF ?_;refine A<|C<|gA<|T ?_;exact ar (be 3 1 s8 c8 (bc gone)::e9 b z::F) rfl<|.inr ⟨by omega,gone,z,s8,c8,Z,hR,V,rfl,rfl⟩
theorem Pj S L id at_:0<=(j5 S L id at_).2:=by
 grind[j5]
set_option maxRecDepth 4000
def Wx bs bv rs rm w:(Instr.build 46 #[(0,ptr bs 0),(1,ptr bv 0),(2, .map (some rs)),(3, .map (some rm)),(4,I 1)]).run Tryz.prog w= .ok (.agg #[ptr bs 0,ptr bv 0, .map (some rs), .map (some rm),I 1]) w:=by
 simp[Instr.build,zeroValue46,runUnderlying46,Xu,Z4,YJ,Zw,ZE,Instr.fill,bB,show ∀k:Int,(I k).cells=#[I k] from λ_=>rfl,show ∀k:Nat,(ptr k 0).cells=#[ptr k 0] from λ_=>rfl,show ∀r:Nat,(Value.map (some r)).cells=#[.map (some r)] from λ_=>rfl]
def Wy n w:(Instr.build 91 #[(2,I n)]).run Tryz.prog w= .ok (.agg #[sl none 0 0,I 0,I n]) w:=by
 simp[Instr.build,zeroValue91,runUnderlying91,Xu,Instr.fill,bB,sl,show ∀k:Int,(I k).cells=#[I k] from λ_=>rfl]
theorem Pk z id at_:0<=(cZ z id at_).2:=by
 unfold cZ;split
 ·decide
 ·split
  ·exact Pj _ _ _ _
  grind
def Ae b z id at_(hR:RrO z)F:cqq 62 [ptr b 0,I id,I at_] (e9 b z::F) (R1 (.tuple #[ay (cZ z id at_).1,I (cZ z id at_).2]) (e9 b z::F)):=by
 obtain ⟨Z,hC⟩:=hR.rok.con;have Y:=hC.v.len;refine Ct.of func62 W 53 ntmps62 (by simp) λw0=>?_;refine dX b z ?_;intro bs so co bv rs rm;refine A<|gA<|T<|A<|C<|M aa<|gF 3 XT rfl ZE<|gL (.map (some rm)) ZO<|C<|M (ed (v:= .pointer ((mw z.mou id).map λe=>⟨e.a,0,none⟩)) (bb:=(mw z.mou id).isSome) ZP XA kaq (by rw[pM];cases mw z.mou id <;> rfl) (by rw[pM,kdm]))<|C<|gX (.pointer ((mw z.mou id).map λe=>⟨e.a,0,none⟩))<|gX (Bo (mw z.mou id).isSome)<|gA<|T<|ac<|A<|C<|M cS<|ab ?_;apply ah<;>intro O
 ·have X:mw z.mou id=none:=(by simpa using O);refine A<|gA<|T ?_;refine bY b (z) bs so co bv rs rm ?_;rw[show cZ z id at_=([],5) by unfold cZ;rw[X]];exact am rfl rfl rfl
 ·simp at O;obtain ⟨e,J⟩:=kcX.1 O;obtain ⟨he,hek,hi⟩:=pO J;rw[show (Value.pointer ((mw z.mou id).map λe=>⟨e.a,0,none⟩))=ptr e.a 0 by rw[J];rfl];refine ai<|ac ?_;refine HD z.mou _ he ?_;refine cn (Lf:=[pcc b #[ptr bs 0,ptr bv 0, .map (some rs), .map (some rm),I (z.next)] 46,pcc e.a #[I e.point, .map (some e.r)] 225]) jN ?_;refine dM W<|dV W aa<|dF W 1 XT W YJ<|dL W (ptr bv 0) YW<|dM W<|dV W aa<|dF W 0 kah W Xu<|dL W (I e.point) Xv<|dM W<|cQ W (uB call135 (zN bv z.S z.L z.n e.point at_ Z hC.v)) ?_;rintro _ _ ⟨rfl,rfl⟩;refine dM W<|dV W (aB (v:=ay (j5 z.S z.L e.point at_).1))<|dV W (aB (v:=I (j5 z.S z.L e.point at_).2))<|dV W ax<|dV W ax ?_;refine aN ?_;refine ac<|A<|C<|M aQ<|ab<|ah ?_ ?_<;>intro R
  ·have hrd:(j5 z.S z.L e.point at_).2≠0:=(by simp at R;omega);refine A<|C<|gA<|T ?_;refine da (f:=nf) z.mou (Ea z.mou id) e [pcc e.a #[I e.point, .map (some e.r)] 225,mp e.r (Au e.over)] hi ?_;rw[eK he];refine bY b (z) bs so co bv rs rm ?_;rw[show cZ z id at_=([],(j5 z.S z.L e.point at_).2) by unfold cZ;rw[J];simp only;rw[kaT hrd]];exact am rfl rfl rfl
  ·have hrd:¬(j5 z.S z.L e.point at_).2≠0:=(by have:=Pj z.S z.L e.point at_;simp at R;omega);refine ai<|A<|C<|M aa<|gF 1 kah W ZV<|gL (.map (some e.r)) kae<|C<|M (ed (v:=ay ((D8 e.over at_).getD [])) (bb:=(D8 e.over at_).isSome) kaf XA X9 (Jn _ _) (SF _ _))<|C<|gX (ay ((D8 e.over at_).getD []))<|gX (Bo (D8 e.over at_).isSome)<|gA<|T<|ac<|A<|C<|ab<|ah ?_ ?_<;>intro V
   ·obtain ⟨t,ht⟩:=kcX.1 V;rw[ht];refine A<|C<|gA<|T ?_;refine da (f:=nf) z.mou (Ea z.mou id) e [pcc e.a #[I e.point, .map (some e.r)] 225,mp e.r (Au e.over)] hi ?_;rw[eK he];refine bY b (z) bs so co bv rs rm ?_;rw[show cZ z id at_=(t,0) by unfold cZ;rw[J];simp only;rw[kaU hrd,ht]];exact am rfl rfl rfl
   ·have ht:D8 e.over at_=none:=(by simpa using V);refine ai<|A<|C<|gA<|T ?_;refine da (f:=nf) z.mou (Ea z.mou id) e [pcc e.a #[I e.point, .map (some e.r)] 225,mp e.r (Au e.over)] hi ?_;rw[eK he];refine bY b (z) bs so co bv rs rm ?_;rw[show cZ z id at_=((j5 z.S z.L e.point at_).1,0) by unfold cZ;rw[J];simp only;rw[kaU hrd,ht]];exact am rfl rfl rfl
def Ga b z id at_(d:Bytes)(X:RrO z)(Y:d.length<=9223372036854775807)F:cqq 63 [ptr b 0,I id,I at_,ay d] (e9 b z::F) (λv L'=>(dE z id at_ d≠0/\v=I (dE z id at_ d)/\L'=e9 b z::F)\/(dE z id at_ d=0/\v=I 0/\L'=e9 b (z.written id at_ d)::F)):=by
 refine Ct.of func63 W 35 ntmps63 (by simp) λw0=>?_;refine A<|T<|A<|C<|C<|C<|gR (vB call62 (Ae b z id at_ X))<|C<|gX (ay (cZ z id at_).1)<|gX (I (cZ z id at_).2)<|gA<|T<|ac<|A<|C<|M aQ<|ab<|ah ?_ ?_<;>intro O
 ·have hrd:(cZ z id at_).2≠0:=(by simp at O;omega);refine A<|C<|T ?_;exact ar (e9 b z::F) rfl<|.inl ⟨by unfold dE;rw[kaT hrd];exact hrd,by unfold dE;rw[kaT hrd];rfl,rfl⟩
 ·have hrd:(cZ z id at_).2=0:=(by have:=Pk z id at_;simp at O;omega);refine ai<|ac<|A<|C<|M (cD Xz)<|M aQ<|ab<|ah ?_ ?_<;>intro R
  ·have V:6<d.length:=(by simp at R;omega);refine A<|T ?_;exact ar (e9 b z::F) rfl<|.inl ⟨by unfold dE;rw[iOm,kaT V];decide,by unfold dE;rw[iOm,kaT V];rfl,rfl⟩
  ·have V:¬6<d.length:=(by simp at R;omega);refine ai<|ac ?_;refine dX b z ?_;intro bs so co bv rs rm;obtain ⟨e,J⟩:∃e,mw z.mou id=some e:=by
    cases hq:mw z.mou id with
    | none=>exact absurd (show (cZ z id at_).2=5 by unfold cZ;rw[hq]) (by omega)
    | some e=>exact ⟨e,rfl⟩
   obtain ⟨he,Z,hi⟩:=pO J;refine HD z.mou _ he ?_;refine al<|C<|M aa<|gF 3 XT W ZE<|gL (.map (some rm)) ZO<|C<|M (cW (v:=ptr e.a 0) ZP XA kaq (by rw[pM,J];rfl))<|M aa<|gF 1 kah W ZV<|gL (.map (some e.r)) kae<|C<|C<|io (cq kaf XA) ?_;rintro _ _ rfl;rw[Jm];refine ab<|A<|T ?_;refine da (f:=nf) z.mou (Ea z.mou id) ⟨e.key,e.a,e.r,e.point,Hq e.over at_ d⟩ [pcc e.a #[I e.point, .map (some e.r)] 225,mp e.r (Au (Hq e.over at_ d))] hi ?_;rw[<-FA (e':=⟨e.key,e.a,e.r,e.point,Hq e.over at_ d⟩) he rfl rfl];refine bY b (⟨z.h,z.used,z.rows,z.S,z.L,z.n,z.ses,z.mou.set (Ea z.mou id) ⟨e.key,e.a,e.r,e.point,Hq e.over at_ d⟩,z.next⟩) bs so co bv rs rm ?_;exact ar (e9 b ⟨z.h,z.used,z.rows,z.S,z.L,z.n,z.ses,z.mou.set (Ea z.mou id) ⟨e.key,e.a,e.r,e.point,Hq e.over at_ d⟩,z.next⟩::F) rfl<|.inr ⟨by unfold dE;rw[iOm,kaU V],rfl,by rw[Hw J];rfl⟩
def B3 bs bv F:cqq 11 [ptr bs 0,ptr bv 0] (F) (λv L'=>∃b rs rm,v=ptr b 0/\L'=pcc b #[ptr bs 0,ptr bv 0, .map (some rs), .map (some rm),I 1] 46::mp rs (fm [])::big lU []::mp rm (fo [])::big nf []::F):=by
 refine Ct.of func11 W 11 ntmps11 (by simp) λw0=>?_;refine A<|T<|A<|C<|C<|gI (fH) ?_;rintro _ _ ⟨O,rfl,rfl⟩;refine gI (fH) ?_;rintro _ _ ⟨R,rfl,rfl⟩;refine M (aS (Wx bs bv O R))<|gI (dw #[ptr bs 0,ptr bv 0, .map (some O), .map (some R),I 1]) ?_;rintro _ _ ⟨J,rfl,rfl⟩;refine T ?_;refine tH lU ?_;refine tH nf ?_;exact ar (pcc J #[ptr bs 0,ptr bv 0, .map (some O), .map (some R),I 1] 46::mp O []::big lU []::mp R []::big nf []::F) rfl ⟨J,O,R,rfl,rfl⟩
set_option maxRecDepth 4000
def cm_first:xw (260 - 122) [] (bN (bH gZ) [] 1)=0/\cX [] (bN (bH gZ) [] 1)=bN (bH gZ) [] 1:=by rw[BD];decide
theorem wh:∀{l:List Int} {σ:LR},(keepL l σ).2.length<=l.length/\∀g∈(keepL l σ).2,g∈l
 | [],σ=>by simp[keepL]
 | id::l,σ=>by
  unfold keepL;split
  ·have:=wh (l:=l) (σ:=σ)
   grind
  ·have:=wh (l:=l) (σ:=(kX σ id).1)
   grind
def DU {k at_}:(z.written k at_ d).next=z.next:=by
 unfold RpM.written;split <;> rfl
theorem RrO.mounted (R:RrO z){a r id}(hn:z.next<=999999):RrO (z.mounted a r id):=R.rest (by
 have J:=R.rok.next;refine ⟨R.rok.con,by show 1<=z.next+1/\z.next+1<=1000000;omega,λe he=>by have:=R.rok.keyS e he;show 1<=e.key/\e.key<z.next+1;omega,λe he=>?_,R.rok.sesS⟩;rcases kbF.1 he with he | he
 ·have:=R.rok.keyM e he;show 1<=e.key/\e.key<z.next+1;omega
 ·rw[kcv] at he;subst he;show 1<=z.next/\z.next<z.next+1;omega) rfl rfl rfl rfl rfl
theorem RrO.written (R:RrO z)k at_ d:RrO (z.written k at_ d):=by
 unfold RpM.written;split
 ·exact R
 ·rename_i m J;obtain ⟨hy,_,_⟩:=pO J;refine R.mou _ λe he=>?_;rcases rv he with he | rfl
  ·exact R.rok.keyM e he
  ·exact R.rok.keyM m<|kbe hy
def xh F:cqq 9 [I 138] (F) (λv L'=>∃b J,J<=260 - 122/\v=ptr b 0/\L'=e9 b ⟨hd1,J,bN (bH gZ) [] 1,bH gZ,[],1,[],[],1⟩::F):=by
 refine Ct.of func9 W 20 ntmps9 (by simp) λw0=>?_;refine A<|T<|A<|C<|M (aS (Wy 138))<|gI (dw #[sl none 0 0,I 0,I 138]) ?_;rintro _ _ ⟨O,rfl,rfl⟩;refine gI (uA call38 (Aw)) ?_;rintro _ _ ⟨bv,rfl,rfl⟩;refine gI (uA call11 (B3 O bv)) ?_;rintro _ _ ⟨b,rs,rm,rfl,rfl⟩;refine T<|ac ?_;refine cn (Lf:=[pcc b #[ptr O 0,ptr bv 0, .map (some rs), .map (some rm),I 1] 46]) jT ?_;refine dM W<|dV W aa<|dF W 0 XT W Z4<|dL W (ptr O 0) kag<|dM W<|dV W aa<|dF W 1 XT W YJ<|dL W (ptr bv 0) YW<|cQ W (uB call40 (wc bv (bH gZ) [] 1 Con_z.sm)) ?_;rintro _ _ ⟨V,X,rfl,rfl⟩;refine bz V ?_;refine tt 3 (bI []) ?_;rw[show (138:Int)=((260 - 122:Nat):Int) by decide];refine cQ W (uD call39 (nP O [] (bN (bH gZ) [] 1) none V 0 X 0 (260 - 122) (by decide) .nil (by rw[BD];simp) ⟨by decide,by decide⟩)) ?_;rintro _ _ (⟨hne,_,_⟩ | ⟨_,s2,R,rfl,rfl⟩)
 ·exact absurd cm_first.1 hne
 rw[cm_first.2];have S:((if 260 - 122 - 0<(bN (bH gZ) [] 1).length+1 then 0 else 0)+(bN (bH gZ) [] 1).length+1)<=260 - 122:=(by rw[BD];decide);generalize ((if 260 - 122 - 0<(bN (bH gZ) [] 1).length+1 then 0 else 0)+(bN (bH gZ) [] 1).length+1)=J at S ⊢;refine aN ?_;refine A<|C<|T ?_;refine bY b ⟨hd1,J,bN (bH gZ) [] 1,bH gZ,[],1,[],[],1⟩ O s2 R bv rs rm ?_;exact ar (e9 b ⟨hd1,J,bN (bH gZ) [] 1,bH gZ,[],1,[],[],1⟩::F) rfl ⟨b,J,S,rfl,rfl⟩
set_option maxRecDepth 4000
def RpM.anew (z:RpM):RpM:=⟨z.h,z.used,bN z.S z.L z.n,z.S,z.L,z.n,[],[],1⟩
theorem Up.anew (R:Up t D z):Up t D z.anew:=by
 have h:=R.rep.turn (kax t) [] [] 1 (by decide) (λe he=>by cases he) (λe he=>by cases he);rw[R.rep.rows] at h;exact ⟨h,R.up,by show (1:Int)<=_;omega⟩
theorem RrO.anew (R:RrO z):RrO ⟨z.h,z.used,z.rows,z.S,z.L,z.n,[],[],1⟩:=⟨⟨R.rok.con,by grind,(λe he=>by cases he),(λe he=>by cases he),(λe he=>by cases he)⟩,R.rows,R.used⟩
def xT D x y:Cj (iC D x y):=by
 unfold iC;split
 ·exact lB _
 ·exact λa h=>by cases h
abbrev E9 (e:Int):Prop:=0<=e/\e<=9
theorem UV S root a d:E9 (dH S root a d).2:=⟨ua S root a d,by
 grind[aq,kH,br,dH]⟩
theorem Pm {z at_}(h:put1 z at_ d= .error e):E9 e:=by
 unfold put1 at h;split at h
 ·cases h
 ·injection h with h;have:=UV z.1 z.2 at_ d;grind
def Pn:∀(l:List Nat) {z:SI×Int} {e:Int},ml z l= .error e->E9 e
 | [],z,e,h=>by simp[ml] at h
 | a::l,z,e,h=>by
  unfold ml at h;cases hp:put1 z a [] with
  | ok J=>rw[hp] at h;exact Pn l h
  | error e'=>rw[hp] at h;injection h with h;subst h;exact Pm hp
theorem DV {size}:∀(l:List PutM) {z:SI×Int} {e:Int},ey size z l= .error e->E9 e
 | [],z,e,h=>by simp[ey] at h
 | p::l,z,e,h=>by
  unfold ey at h;split at h
  ·grind
  ·split at h
   ·exact DV l h
   ·cases hp:put1 z p.at_.toNat p.data with
    | ok J=>rw[hp] at h;exact DV l h
    | error e'=>rw[hp] at h;injection h with h;subst h;exact Pm hp
variable {S:SI}{L:List Pt}
theorem R3 (h:gH S L base disk size= .error e):E9 e:=by
 unfold gH at h;split at h
 ·cases h
 ·split at h
  ·grind
  ·split at h
   ·grind
   ·exact Pn _ h
theorem Po L n:E9 (fb L n):=by grind[fb]
variable {puts:List PutM}
theorem UW (h:gw S L n base disk size puts= .error e):E9 e:=by
 unfold gw at h;split at h
 ·grind
 ·cases J:gH S L base disk size with
  | error e'=>rw[J] at h;injection h with h;subst h;exact R3 J
  | ok z=>
   rw[J] at h;simp only at h;cases hp:ey size z puts with
   | error e'=>rw[hp] at h;injection h with h;subst h;exact DV _ hp
   | ok O=>
    rw[hp] at h;simp only at h;split at h
    ·injection h with h;subst h;exact Po L n
    ·cases h
theorem UX {J L' r}(h:gw S L n base disk size puts= .ok (J,L',O,r)):r=n:=by
 unfold gw at h
 grind
theorem Af σ id:E9 (nv σ id).2.2/\((nv σ id).2.1=0\/(nv σ id).2.1=σ.n):=by
 unfold nv;split
 ·grind
 ·split
  ·rename_i hr;exact ⟨UW hr, .inl rfl⟩
  grind[UX]
theorem Pp σ id:E9 (sZ σ id).2.2/\((sZ σ id).2.1=0\/(sZ σ id).2.1=σ.n):=by
 have:=Po σ.L σ.n;unfold sZ lT
 grind
theorem R4 σ id:E9 (kX σ id).2:=by
 grind[kX,zC,mY]
theorem Gb σ base disk size:E9 (pS σ base disk size):=by
 unfold pS BB
 grind
theorem Pq σ id:E9 (ol σ id):=by unfold ol;grind
theorem UY σ id:E9 (zB σ id).2:=by unfold zB;grind
theorem Wz S L id at_:E9 (j5 S L id at_).2:=by unfold j5;grind
theorem xU σ id at_:E9 (uy σ id at_).2:=by
 unfold uy;have:=λq=>Wz σ.S σ.L q at_
 grind
theorem Pr σ id at_ d:E9 (om σ id at_ d):=by
 have:=xU σ id at_;unfold om
 grind
theorem SU V:E9 (BU V):=by unfold BU;grind
theorem SV n:E9 (F3 n):=by unfold F3;grind
theorem SX V id:E9 (HK V id):=by unfold HK;grind
theorem SY V a t:E9 (F0 V a t):=by unfold F0 uL;grind
theorem Ps V a b:E9 (kT V a b):=by unfold kT;grind
theorem WA V a:E9 (fy V a).2:=by unfold fy;grind
variable {i:Nat}
theorem JZ (h:BV i V):0<=Eb V/\Eb V<=1000:=by have:=h.2.1;unfold Eb;grind
def WB (σ:LR)k a d:(σ.putted k a d).n=σ.n:=by unfold LR.putted;split <;> rfl
def J0 V J key:∀(l:List Nat) (σ:LR),(nh V J key l σ).n=σ.n
 | [],σ=>rfl
 | p::l,σ=>by
  have:=J0 V J key l (σ.putted key (p:Int) (lm V J (p:Int)).1);rw[WB] at this;exact this
theorem HT V disk J base m O σ:E9 (qa V disk J base m O σ).2.2/\((qa V disk J base m O σ).2.1=0\/(qa V disk J base m O σ).2.1=σ.n):=by
 unfold qa;split
 ·exact ⟨WA V J, .inl rfl⟩
 ·split
  ·grind
  ·split
   ·exact ⟨Gb _ _ _ _, .inl rfl⟩
   ·split
    ·exact ⟨(Af _ _).1, .inl rfl⟩
    ·refine ⟨(Af _ _).1,?_⟩;have:=(Af (nh V J σ.next (gt (mk (dr (uY m (fy V J).1))) 0) (σ.begun base disk (fy V J).1)) σ.next).2;rw[J0] at this;exact this
def Pu V disk O J base R σ:E9 (xe V disk O J base R σ).2.2/\((xe V disk O J base R σ).2.1=0\/(xe V disk O J base R σ).2.1=σ.n):=by
 unfold xe;split
 ·exact ⟨Ps V J O, .inl rfl⟩
 ·exact HT _ _ _ _ _ _ _
theorem J1 {S}(R:Up t D z)(ht:t<=80000)(hd:xc V)(k:pV D V z disk O base m J n e S z2):
  Up (t+7) S z2/\qa V disk O base m J z.lr=(z2.lr,n,e):=by
 obtain ⟨a,b,_⟩:=UK R ht hd k;exact ⟨a.le (by omega),b⟩
theorem UZ {X S}(R:Up t D z)(ht:t<=80000)(hd:xc V)(k:(kT V J O≠0/\n=0/\e=kT V J O/\X=D/\z2=z)\/(kT V J O=0/\pV D V z disk O base (mk (iC V J O)) S n e X z2)):
  Up (t+7) X z2/\xe V disk O J base S z.lr=(z2.lr,n,e):=by
 unfold xe;rcases k with ⟨h,rfl,rfl,rfl,rfl⟩ | ⟨h,k⟩
 ·rw[kaT h];exact ⟨R.le (by omega),rfl⟩
 grind[J1]
structure CoR (i:Nat) (D:DiskM) (V:VdM) (z:RpM):Prop where
 up:Up (1+7*i) D z
 v:BV i V
 d:xc V
theorem CoR.sl (R:CoR i D V z):V.snaps.length<=1000000:=by have:=R.v.2.2.2.1;omega
theorem CoR.sz (R:CoR i D V z):∀s∈V.snaps,s.size<=16:=λs hs=>(R.v.2.2.2.2 s hs).2
theorem CoR.rl (R:CoR i D V z)n p:(lm V n p).1.length<=9223372036854775807:=by have:=DQ R.d n p;omega
theorem CoR.nx (R:CoR i D V z)(hi:i<=100):z.next<=999999:=by have:=R.up.next;omega
theorem CoR.dk (R:CoR i D V z)(hi:i<=100):Dk 1000 D z:=R.up.rep.dk (by omega)
theorem CoR.nr (R:CoR i D V z)(h:n=0\/n=z.lr.n):0<=n/\n<=1000:=by
 obtain ⟨G,hC⟩:=R.up.rep.rok.con;have:=hC.v.n1;have e:z.lr.n=z.n:=rfl;omega
theorem CoR.of {O J}(R:CoR i D V z)(hi:i<=100)(h:Up (1+7*i+7) O z2)(hv:BV (i+1) J)(hd:xc J):CoR (i+1) O J z2:=⟨by grind,hv,hd⟩
theorem CoR.le (R:CoR i D V z):CoR (i+1) D V z:=⟨R.up.le (by omega),fx R.v (by omega),R.d⟩
theorem CoR.vd {J}(R:CoR i D V z)(hv:BV (i+1) J)(hd:xc J):CoR (i+1) D J z:=⟨R.up.le (by omega),hv,hd⟩
theorem xi {α:Type}{P:α->Prop}{c}[Decidable c]{a b}(h1:c->P a)(J:¬c->P b):P (if c then a else b):=by
 grind
def rQ {c}[Decidable c]{a b:LR×Int×Bytes×Int}(h1:c->E9 a.2.2.2)(J:¬c->E9 b.2.2.2):E9 (if c then a else b).2.2.2:=xi (P:=λr:LR×Int×Bytes×Int=>E9 r.2.2.2) h1 J
theorem U0 σ x:E9 (iO σ x).2.2.2:=by
 have z:E9 0:=(by decide);unfold iO;refine rQ (λ_=>rQ (λ_=>Gb _ _ _ _) λ_=>z) λ_=>?_;refine rQ (λ_=>rQ (λ_=>by grind[FK]) λ_=>z) λ_=>?_;refine rQ (λ_=>(Af _ _).1) λ_=>?_;refine rQ (λ_=>by grind[zA]) λ_=>?_;refine rQ (λ_=>(Pp _ _).1) λ_=>?_;refine rQ (λ_=>R4 _ _) λ_=>?_;refine rQ (λ_=>rQ (λ_=>(show E9 1 by decide)) λ_=>z) λ_=>?_;refine rQ (λ_=>rQ (λ_=>Pq _ _) λ_=>z) λ_=>?_;refine rQ (λ_=>UY _ _) λ_=>?_;refine rQ (λ_=>xU _ _ _) λ_=>?_;exact rQ (λ_=>rQ (λ_=>Pr _ _ _ _) λ_=>z) λ_=>z
def Xb (σ:LR)(r:LR×Int×Bytes×Int):Prop:=r.2.1=0\/r.2.1=σ.n\/r.2.1=σ.next
theorem U2 σ x(h:x.kind≠kL):Xb σ (iO σ x):=by
 have a:=(Af σ x.a).2;have b:=(Pp σ x.a).2;have z:∀(J:LR) (s:Bytes) (e:Int),Xb σ (J,0,s,e):=λ_ _ _=> .inl rfl;unfold iO;refine xi (λ_=>xi (λ_=>z _ _ _) λ_=> .inr (.inr W)) λ_=>?_;refine xi (λ_=>xi (λ_=>z _ _ _) λ_=>z _ _ _) λ_=>?_;refine xi (λ_=>a.imp id .inl) λ_=>?_;refine xi (λ_=>z _ _ _) λ_=>?_;refine xi (λ_=>b.imp id .inl) λ_=>?_;refine xi (λ_=>z _ _ _) λ_=>?_;refine xi (λk=>absurd k h) λ_=>?_;refine xi (λ_=>xi (λ_=>z _ _ _) λ_=> .inr (.inr W)) λ_=>?_
 grind
variable {x:ActM}
theorem Pv {J}V(h:iO σ x=(J,n,s,e)):E9 e/\xf ⟨V,σ⟩ x true=(⟨V,J⟩,o0 n e)/\xf ⟨V,σ⟩ x false=(⟨V,J⟩,oZ e):=by
 have O:=U0 σ x
 grind[xf]
theorem SZ {J}(h:iO σ x=(J,n,s,e))(hk:x.kind≠kL)(h1:1<=σ.n/\σ.n<=1000)(O:1<=σ.next/\σ.next<=9999):0<=n/\n<=9999:=by
 grind[U2,Xb]
variable {J:DiskM}
theorem CoR.act (R:CoR i D V z)(hi:i<=100)(hk:x.kind≠kL)(k:e7 D z x n s e J z2):
  CoR (i+1) J V z2/\E9 e/\(0<=n/\n<=9999)/\xf ⟨V,z.lr⟩ x true=(⟨V,z2.lr⟩,o0 n e)/\xf ⟨V,z.lr⟩ x false=(⟨V,z2.lr⟩,oZ e):=by
 have h:=JH R.up (by omega) k;obtain ⟨a,b,c⟩:=Pv V h;obtain ⟨G,hC⟩:=R.up.rep.rok.con;exact ⟨R.of hi (Ld R.up (by omega) k) (fx R.v (by omega)) R.d,a,SZ h hk hC.v.n1 ⟨R.up.rep.rok.next.1,by have:=R.up.next;show z.next<=_;omega⟩,b,c⟩
def WC {id}(k:pP D z id n e J z2):e7 D z (kP se id 0 []) (n) [] (e) J z2:=by
 show e7 D z ⟨se,[],_,_,_,_,_,_,_⟩ _ _ _ _ _;unfold e7;dsimp only;rw[kaU (by decide),kaU (by decide),kaU (by decide),kaU (by decide),kaT rfl];exact ⟨rfl,k⟩
def WD {id}(k:oR D z id e J z2):e7 D z (kP sf id 0 []) (0) [] (e) J z2:=by
 show e7 D z ⟨sf,[],_,_,_,_,_,_,_⟩ _ _ _ _ _;unfold e7;dsimp only;rw[kaU (by decide),kaU (by decide),kaU (by decide),kaU (by decide),kaU (by decide),kaT rfl];exact ⟨rfl,rfl,k⟩
theorem U3 {id}(k:eT z id≠0):e7 D z (kP na id 0 []) (0) [] (eT z id) D z:=by
 show e7 D z ⟨na,[],_,_,_,_,_,_,_⟩ _ _ _ _ _;unfold e7;dsimp only;rw[kaU (by decide),kaU (by decide),kaU (by decide),kaU (by decide),kaU (by decide),kaU (by decide),kaU (by decide),kaT rfl]
 grind
theorem U4 {id x r}(k:eT z id=0):e7 D z (kP na id 0 []) (z.next) [] (0) D (z.mounted x r id):=by
 show e7 D z ⟨na,[],_,_,_,_,_,_,_⟩ _ _ _ _ _;unfold e7;dsimp only;rw[kaU (by decide),kaU (by decide),kaU (by decide),kaU (by decide),kaU (by decide),kaU (by decide),kaU (by decide),kaT rfl]
 grind
theorem U5 {id}(k:mw z.mou id=none):e7 D z (kP nb id 0 []) (0) [] (5) D z:=by
 show e7 D z ⟨nb,[],_,_,_,_,_,_,_⟩ _ _ _ _ _;unfold e7;dsimp only;rw[kaU (by decide),kaU (by decide),kaU (by decide),kaU (by decide),kaU (by decide),kaU (by decide),kaU (by decide),kaU (by decide),kaT rfl]
 grind
theorem U6 {id y}(k:mw z.mou id=some y):e7 D z (kP nb id 0 []) (0) [] (0) D (z.moun (Gr z.mou id)):=by
 show e7 D z ⟨nb,[],_,_,_,_,_,_,_⟩ _ _ _ _ _;unfold e7;dsimp only;rw[kaU (by decide),kaU (by decide),kaU (by decide),kaU (by decide),kaU (by decide),kaU (by decide),kaU (by decide),kaU (by decide),kaT rfl]
 grind
theorem U7 {a b t}(k:dE z a b t≠0):e7 D z (kP nc a b t) (0) [] (dE z a b t) D z:=by
 show e7 D z ⟨nc,t,_,_,_,_,_,_,_⟩ _ _ _ _ _;unfold e7;dsimp only;rw[kaU (by decide),kaU (by decide),kaU (by decide),kaU (by decide),kaU (by decide),kaU (by decide),kaU (by decide),kaU (by decide),kaU (by decide),kaU (by decide),kaT rfl]
 grind
theorem U8 {a b t}(k:dE z a b t=0):e7 D z (kP nc a b t) (0) [] (0) D (z.written a b t):=by
 show e7 D z ⟨nc,t,_,_,_,_,_,_,_⟩ _ _ _ _ _;unfold e7;dsimp only;rw[kaU (by decide),kaU (by decide),kaU (by decide),kaU (by decide),kaU (by decide),kaU (by decide),kaU (by decide),kaU (by decide),kaU (by decide),kaU (by decide),kaT rfl]
 grind
def S0 (k:JA D z e J z2):e7 D z (kP zy 0 0 []) (0) [] (e) J z2:=by
 show e7 D z ⟨zy,[],_,_,_,_,_,_,_⟩ _ _ _ _ _;unfold e7;dsimp only;rw[kaU (by decide),kaU (by decide),kaU (by decide),kaU (by decide),kaU (by decide),kaU (by decide),kaU (by decide),kaU (by decide),kaU (by decide),kaU (by decide),kaU (by decide),kaT rfl];exact ⟨rfl,rfl,k⟩
theorem CoR.keep {many gone}(R:CoR i D V z)(hi:i<=100)(k:jg (eQ z.L disk many) D z gone e J z2):
  e=0/\CoR (i+1) J V z2/\keepL (eQ z.L disk many) z.lr=(z2.lr,gone)/\gone.length<=6/\∀g∈gone,1<=g/\g<=999:=by
 obtain ⟨G,hC⟩:=R.up.rep.rok.con;have hl:=ru z.L disk many hC.v.len;obtain ⟨h1,O⟩:=Hv hC.v disk many;have hs:=zz k;exact ⟨(qK R.up (by omega) h1 O k).1,R.of hi ((R.up.keep (by omega) k).le (by omega)) (fx R.v (by omega)) R.d,xO R.up (by omega) h1 O k,by omega,λg S=>N9 hC g (hs.2 g S)⟩
def R5 (R:Up t D z)keep:nI keep D=D:=by
 obtain ⟨_,_,bn,_⟩:=R.rep.cal;obtain ⟨⟨h1,J,O⟩,_⟩:=bn;have S:=R.up.2;obtain ⟨k,n,w,f,d⟩:=D;simp only at h1 J O S;subst h1 J O S
 rfl
theorem J2 {G}(hC:Con S L n G)id at_:(j5 S L id at_).1.length<=6:=by
 have J:∀q k,(jj S q k).length<=6:=λq k=>by
  unfold jj wQ;cases h:S.B (bZ (gN S.N (bZ (gN S.N q) (k / 4))) (k % 4)) with
  | none=>simp
  | some x=>exact (hC.z.2 _ _ h).2
 grind[j5]
theorem J3 V x y:(iC V x y).length<=16:=by
 grind[iC,qi]
theorem CoR.full {S J}(R:CoR i D V z)(hi:i<=100)(k:pV D V z disk O base m J n e S z2):
  CoR (i+1) S V z2/\qa V disk O base m J z.lr=(z2.lr,n,e)/\E9 e/\(0<=n/\n<=1000):=by
 obtain ⟨a,b⟩:=J1 R.up (by omega) R.d k;have h:=HT V disk O base m J z.lr;rw[b] at h;exact ⟨R.of hi a (fx R.v (by omega)) R.d,b,h.1,R.nr h.2⟩
def R6 {X J S}(R:CoR i D V z)(hi:i<=100)(k:(kT V J O≠0/\n=0/\e=kT V J O/\X=D/\z2=z)\/(kT V J O=0/\pV D V z disk O base (mk (iC V J O)) S n e X z2)):
  CoR (i+1) X V z2/\xe V disk O J base S z.lr=(z2.lr,n,e)/\E9 e/\(0<=n/\n<=1000):=by
 obtain ⟨a,b⟩:=UZ R.up (by omega) R.d k;have h:=Pu V disk O J base S z.lr;rw[b] at h;exact ⟨R.of hi a (fx R.v (by omega)) R.d,b,h.1,R.nr h.2⟩
theorem CoR.sav (R:CoR i D V z)(hi:i<=100)(k:JA D z e J z2):e=0/\CoR (i+1) J V z2/\z2.lr=z.lr:=by
 have h:iO z.lr (kP zy 0 0 [])=(z.lr,0,[],0):=rfl;rw[JH R.up (by omega) (S0 k)] at h;injection h with h1 h;injection h with _ h;injection h with _ h;exact ⟨h,(R.act hi (show zy≠kL by decide) (S0 k)).1,h1⟩
theorem CoR.anew (R:CoR i D V z):CoR (i+1) D V z.anew:=⟨R.up.anew.le (by omega),fx R.v (by omega),R.d⟩
theorem Pw {h u}(k:N7 D h u):Up 1 D ⟨h,u,bN (bH gZ) [] 1,bH gZ,[],1,[],[],1⟩:=
 ⟨⟨k.1,k.2.1,k.2.2.2.1,by have:=k.2.2.2.2.1;show h.ep<=_;omega,k.2.2.2.2.2,rfl,⟨⟨gZ,Con_z⟩,by grind,(λe he=>by cases he),(λe he=>by cases he),(λe he=>by cases he)⟩⟩,k.2.2.1,by grind⟩
def HU (c:UInt8):Prop:=48<=c.toNat/\c.toNat<=57
def kQ (s:Bytes):Nat:=s.foldl (λn c=>10*n+(c.toNat - 48)) 0
theorem qO s c:kQ (s++ [c])=10*kQ s+(c.toNat - 48):=by
 grind[kQ]
theorem Px {c}(h:HU c):lH (c.toNat - 48)=c:=by
 unfold lH;have:=h.1
 grind[UInt8.ofNat_toNat]
theorem tf:∀n:Nat,(∀c∈Lib.decDigits n,HU c)/\kQ (Lib.decDigits n)=n/\Lib.decDigits n≠ []/\((Lib.decDigits n).head? =some 48->n=0)
 | n=>by
  by_cases h:n<10
  ·rw[p8 h];have hd:=ix h;refine ⟨λc O=>?_,?_,by simp,λe=>?_⟩
   ·grind[HU]
   ·show 10*0+((lH n).toNat - 48)=n;rw[hd];omega
   ·have J:lH n=48:=(by simpa using e);have:=kay UInt8.toNat J
    grind
  ·have R:=tf (n / 10)
   grind[el,ix,HU,qO,Lib.decDigits]
theorem R7:∀{s:Bytes},(∀c∈s,HU c)->s≠ []->s.head?≠some 48->1<=kQ s:=by
 intro s hd hn h0;obtain ⟨n,J⟩:∃n,n=s.length:=⟨_,rfl⟩
 induction n generalizing s with
 | zero=>grind
 | succ n R=>
  obtain ⟨t,c,rfl⟩:∃t c,s=t++ [c]:=⟨s.dropLast,s.getLast hn,(kdr hn).symm⟩;rw[qO];by_cases ht:t=[]
  ·subst ht;have O:=hd c (by simp);have hne:c.toNat≠48:=λe=>h0 (by
    have:c=48:=UInt8.toNat_inj.1 e;subst this;rfl)
   have:=O.1
   grind
  ·have h1:=R (s:=t) (λx hx=>hd x (kdx _ hx)) ht (λe=>h0 (by grind)) (by simp at J;omega);omega
theorem Py:∀(n:Nat) {s:Bytes},(∀c∈s,HU c)->s.length=n->kQ s<10 ^ n
 | 0,s,hd,hn=>by
  rw[kbb.1 hn];decide
 | n+1,s,hd,hn=>by
  have hne:s≠ []:=λe=>(by subst e;cases hn);obtain ⟨t,c,rfl⟩:∃t c,s=t++ [c]:=⟨s.dropLast,s.getLast hne,(kdr hne).symm⟩;have h1:=Py n (s:=t) (λx hx=>hd x (kdx _ hx)) (by simpa using hn);have J:=hd c (by simp);have:=J.1;have:=J.2
  grind[qO]
theorem R8:∀{s:Bytes},(∀c∈s,HU c)->s≠ []->(s.head? =some 48->s.length<=1)->Lib.decDigits (kQ s)=s:=by
 intro s hd hn h0;obtain ⟨n,S⟩:∃n,n=s.length:=⟨_,rfl⟩
 induction n generalizing s with
 | zero=>grind
 | succ n Y=>
  obtain ⟨t,c,rfl⟩:∃t c,s=t++ [c]:=⟨s.dropLast,s.getLast hn,(kdr hn).symm⟩;have R:=hd c (by simp);have V:=R.1;have X:=R.2;rw[qO];by_cases ht:t=[]
  ·subst ht;show Lib.decDigits (10*0+_)=_
   grind[p8,Px]
  ·have J:∀x∈t,HU x:=λx hx=>hd x (kdx _ hx);have O:t.head?≠some 48:=λe=>by
    simp_all
   have h1:=R7 J ht O;rw[el (by omega),show (10*kQ t+(c.toNat - 48)) / 10=kQ t by omega,show (10*kQ t+(c.toNat - 48)) % 10=c.toNat - 48 by omega,Px R,Y J ht (λe=>absurd e O) (by simp at S;omega)]
theorem Gc (hd:∀c∈s,HU c)(hn:s≠ [])(h0:s.head? =some 48->s.length<=1):lK s=if 999<kQ s then none else some (kQ s:Int):=by
 have h:=R8 hd hn h0;split
 ·rename_i hv;cases hw:lK s with
  | none=>rfl
  | some n=>
   obtain ⟨a,b,c⟩:=rA hw;obtain ⟨u,rfl⟩:∃u:Nat,n=u:=⟨n.toNat,by omega⟩
   grind[ic,tf]
 grind[ic,B2]
theorem Pz {u}(h:u<1000):(Lib.decDigits u).length<=3:=by
 grind[p8,el]
theorem HV (h:lK s=some n):1<=s.length/\s.length<=3/\(∀c∈s,HU c)/\(s.head? =some 48->s.length<=1):=by
 obtain ⟨a,b,c⟩:=rA h;obtain ⟨u,rfl⟩:∃u:Nat,n=u:=⟨n.toNat,by omega⟩
 grind[ic,tf,Pz,p8]
theorem wi (h:s.length<1\/9<s.length\/(s.head? =some 48/\1<s.length)\/∃c∈s,¬HU c):lK s=none:=by
 grind[lK,HV]
def S5 (p:Bytes)(l:List Bytes):List Bytes:=match l with
 | h::t=>(p++h)::t
 | []=>[p]
theorem R9 p(r:Bytes):S5 p (k6 (32::r))=p::k6 r:=by
 grind[S5,k6]
theorem U9 p c(r:Bytes)(h:c≠32):S5 p (k6 (c::r))=S5 (p++ [c]) (k6 r):=by
 grind[S5,k6]
def J4 l:S5 [] (k6 l)=k6 l:=by
 cases hs:k6 l with
 | nil=>exact absurd hs<|Ab l
 | cons a t=>rfl
open Go.Sl Go.Proofs Go.Sort
def erR:ag:=λm=>∃g t f tp p,Tryz.prog.globalNamed "strconv.ErrRange" =some g/\m g=some (.cells #[.iface tp p] t f,true)
theorem Sa {w0 w L}(h:Sat w0 w (erR::L)):∃tp p,w.var? Tryz.prog "strconv.ErrRange" =some #[.iface tp p]:=by
 obtain ⟨m,hm,g,t,f,tp,p,h1,h2⟩:=ue h;have:=hm _ _ h2
 grind[World.var?]
def old_erR {bk w0 w L}(h:Sat w0 w (old bk::L))(h2:∃tp p,bk.var? Tryz.prog "strconv.ErrRange" =some #[.iface tp p]):Sat w0 w (erR::old bk::L):=by
 refine (h.dup (Pers.old bk)).weak λm hm=>?_;obtain ⟨tp,p,h2⟩:=h2;unfold World.var? at h2;cases hg:Tryz.prog.globalNamed "strconv.ErrRange" with
 | none=>rw[hg] at h2;cases h2
 | some g=>
  rw[hg] at h2;simp only[kc5] at h2;split at h2
  ·rename_i cs t f he;injection h2 with h2;subst h2;exact ⟨g,t,f,tp,p,(by first|exact hg|rfl),hm g _ he⟩
  ·cases h2
theorem PA {s v}(h:mm s=some v): -9223372036854775808<=v/\v<=9223372036854775807:=by
 unfold mm at h;split at h
 ·rename_i u J;injection h with h;subst h;unfold Lib.atoiAll at J
  grind
 ·cases h
def PB s(hs:s.length<=1000)F:
  cqq 219 [ay s] (tabs::erR::F) (λv L'=>L'=tabs::erR::F/\((∃n,mm s=some n/\v= .tuple #[I n, .nilIface])\/(mm s=none/\∃n t p,v= .tuple #[I n, .iface t (ptr p 0)]))):=λw0 w O=>by
 cases J:Lib.atoiAll s with
 | ok v=>
  refine (Tryz.strconv_Atoi_ok ⟨⟨s⟩⟩ (by show s.length<=_;omega) v J w).mono ?_;rintro e w' ⟨rfl,hw⟩;rcases hw with rfl | ⟨t,rfl⟩
  ·exact ⟨_,O,rfl, .inl ⟨v,by unfold mm;rw[J],rfl⟩⟩
  ·refine ⟨tabs::erR::F,?_,rfl, .inl ⟨v,by unfold mm;rw[J],rfl⟩⟩;exact ll O<|(Lib.bytesWorld_below w _ t)
 | range=>
  obtain ⟨S,p,hv⟩:=Sa (O.pick [1,0] (L':=[erR,tabs]) rfl (by decide));refine (Tryz.strconv_Atoi_range_var ⟨⟨s⟩⟩ (by show s.length<=_;omega) J S p w hv).mono ?_;rintro e w' ⟨N,rfl,_,_,R⟩;exact ⟨_,ll O R,rfl, .inr ⟨by unfold mm;rw[J],_,_,N,rfl⟩⟩
 | _=>
  obtain ⟨S,p,hv⟩:=Fk O;refine (Tryz.strconv_Atoi_syntax_var ⟨⟨s⟩⟩ (by show s.length<=_;omega) J S p w hv).mono ?_;rintro e w' ⟨N,rfl,_,_,R⟩;exact ⟨_,ll O R,rfl, .inr ⟨by unfold mm;rw[J],_,_,N,rfl⟩⟩
end Go.Proofs.YthdjckbjjfiopabGreatDoor
namespace Go.Proofs.YthdjckbjjfiopabGreatDoor
open Go.Sl Go.Proofs Go.Sort
def Sb (l:List Bytes)(b:Bytes)s cap(hl:l.length<=100)(S:l.length<=cap)(hj:(Lib.join l b).length<=140737488355328)F:
  cqq 298 [sl s l.length cap,ay b] (roL 1 s (strR l)::F) (R1 (ay (Lib.join l b)) (roL 1 s (strR l)::F)):=λw0 w V=>by
 obtain ⟨m,hm,hr⟩:=ue V;by_cases h0:l=[]
 ·subst h0;refine (Tryz.strings_Join_none s cap ⟨⟨b⟩⟩ w).mono ?_;rintro e w' ⟨rfl,rfl⟩;exact ⟨_,V,rfl,rfl⟩
 ·rcases hr with hr | ⟨X,off,o,rfl,Z,Y⟩
  ·exact absurd (by simpa [strR] using hr) h0
  ·have hw:=hm _ _ Z;have J:∀(j:Nat) x,(l.map λx=>(⟨⟨x⟩⟩:ByteArray))[j]? =some x->w.cell? ⟨X,off+j,none⟩=some (.string x):=λj x hx=>by
    rw[kbL] at hx;cases hq:l[j]? with
    | none=>rw[hq] at hx;cases hx
    | some y=>
     rw[hq] at hx;injection hx with hx;subst hx;have:=Y j [ay y] (eX hq) 0 (ay y) rfl;exact iu hw (by simpa using this)
   have O:((l.map λx=>(⟨⟨x⟩⟩:ByteArray)).map (·.data.toList))=l:=(by rw[kaN];exact List.map_id _);have h:=Tryz.strings_Join X off cap (l.map λx=>⟨⟨x⟩⟩) ⟨⟨b⟩⟩ w J (kaC.1 hw).1 (by simp;omega) (by simpa using S) (by rw[O];exact hj);rw[O,kcc] at h;refine h.mono ?_;rintro e w' ⟨rfl,R⟩;exact ⟨_,ll V R,rfl,rfl⟩
end Go.Proofs.YthdjckbjjfiopabGreatDoor
namespace Go.Proofs.YthdjckbjjfiopabGreatDoor
open _root_.Go.Proofs.Tryz
open Go.Sl Go.Proofs
variable {n:Int}
def dG (h:0<=n/\n<=1000):(Lib.itoa n).length<=4:=y7 (by omega)
variable {ee:Bool}
def j8 f(J:f≠0)(h:0<=f/\f<=9)F:cqq 154 [bQ f] (bo ee::F) (R1 (ay (i8 f)) (bo ee::F)):=by
 refine Ct.of func154 W 13 ntmps154 (by simp) λw0=>?_;refine A<|T<|A<|C<|M (AL XG W J)<|C<|gX (I f)<|gX (Bo true)<|gA<|T<|A<|C<|gR (vB (A0:=bo ee) call217 (jx (f) (by have:=h;omega) (by have:=h;omega)))<|M (cf (by have:=dG (n:=f) (by omega);simp;omega))<|T ?_;refine am W W ?_;exact rfl
def kg f(h:0<=f/\f<=9)F:cqq 221 [bQ f] (bo ee::F) (R1 (ay (oZ f)) (bo ee::F)):=by
 refine Ct.of func221 W 7 ntmps221 (by simp) λw0=>?_;refine A<|T<|ac<|A<|C<|M (bX (ec:=117) (f:=f) XF)<|ab<|ah ?_ ?_<;>intro O
 ·have J:f≠0:=(by simpa using O);refine A<|C<|gR (vB (A0:=bo ee) call154 (j8 (f) J h))<|T ?_;exact am rfl rfl (by unfold oZ;rw[kaT J];rfl)
 ·have J:f=0:=(by simpa using O);refine ai<|A<|T ?_;exact am rfl rfl (by unfold oZ;rw[iOm];rfl)
def o6 n f(h:0<=f/\f<=9)(hn:0<=n/\n<=1000000)F:cqq 161 [I n,bQ f] (bo ee::F) (R1 (ay (o0 n f)) (bo ee::F)):=by
 refine Ct.of func161 W 11 ntmps161 (by simp) λw0=>?_;refine A<|T<|ac<|A<|C<|M (bX (ec:=117) (f:=f) XF)<|ab<|ah ?_ ?_<;>intro O
 ·have J:f≠0:=(by simpa using O);refine A<|C<|gR (vB (A0:=bo ee) call154 (j8 (f) J h))<|T ?_;exact am rfl rfl (by unfold o0;rw[kaT J];rfl)
 ·have J:f=0:=(by simpa using O);refine ai<|A<|C<|gR (vB (A0:=bo ee) call217 (jx (n) (by have:=hn;omega) (by have:=hn;omega)))<|T ?_;exact am rfl rfl (by unfold o0;rw[iOm];rfl)
def B4 (s:Bytes)F:cqq 228 [ay s] (F) (R1 (ay (gJ s)) F):=by
 refine Ct.of func228 W 6 ntmps228 (by simp) λw0=>?_;refine A<|T<|ac<|A<|C<|M bV<|ab<|ah ?_ ?_<;>intro O
 ·have J:=kd0 O;refine A<|T ?_;exact am rfl rfl (by unfold gJ;rw[kaT J];rfl)
 ·have J:=kd1 O;refine ai<|A<|C<|T ?_;exact am rfl rfl (by unfold gJ;rw[kaU J];rfl)
def Gd (s:Bytes)F:cqq 220 [ay s] (F) (R1 (ay (qb s)) F):=by
 refine Ct.of func220 W 6 ntmps220 (by simp) λw0=>?_;refine A<|T<|ac<|A<|C<|M bV<|ab<|ah ?_ ?_<;>intro O
 ·have J:=kd0 O;refine A<|T ?_;exact am rfl rfl (by unfold qb;rw[kaT J];rfl)
 ·have J:=kd1 O;refine ai<|A<|C<|T ?_;exact am rfl rfl (by unfold qb;rw[kaU J];rfl)
def PC {u}(h:u<10000):(Lib.decDigits u).length<=4:=n7 h
def LL (b:Bytes):List Bytes->Bytes
 | []=>[]
 | x::r=>x++Lib.joinTail b r
def Ge b l:LL b l=Lib.join l b:=by
 cases l with
 | nil=>rfl
 | cons x r=>rw[Lib.join_cons];rfl
def PD b l x:LL b (l++ [x])=LL b l++(if l=[] then [] else b)++x:=by
 cases l with
 | nil=>simp[LL,Lib.joinTail]
 | cons y r=>simp[LL,Lib.joinTail]
theorem J5 b l m(h:∀x∈l,x.length<=m):(LL b l).length<=l.length*(m+b.length):=by
 have ht:∀r:List Bytes,(∀x∈r,x.length<=m)->(Lib.joinTail b r).length<=r.length*(m+b.length):=λr=>by
  induction r with
  | nil=>grind[Lib.joinTail]
  | cons x r J=>
   grind[Lib.joinTail,Nat.add_mul]
 cases l with
 | nil=>simp[LL]
 | cons x r=>
  grind[LL,Nat.add_mul]
def eu f(h:0<=f/\f<=9)F:cqq 83 [I f] (F) (R1 (ay (i8 f)) F):=by
 obtain ⟨u,rfl⟩:∃u:Nat,f=u:=⟨f.toNat,by omega⟩;have hl:=PC (u:=u) (by omega);unfold i8;rw[ic];refine Ct.of func83 W 6 ntmps83 (by simp) λw0=>?_;refine A<|T<|A<|C<|gR (vA call162 (rx u (by omega)))<|M (cf (by simp;omega))<|T ?_;refine am W W ?_;exact rfl
def mz f(h:0<=f/\f<=9)F:cqq 86 [I f] (F) (R1 (ay (oZ f)) F):=by
 refine Ct.of func86 W 7 ntmps86 (by simp) λw0=>?_;refine A<|T<|ac<|A<|C<|M aQ<|ab<|ah ?_ ?_<;>intro J
 ·have O:f≠0:=(by simp at J;omega);refine A<|C<|gR (vA call83 (eu f h))<|T ?_;exact am rfl rfl (by unfold oZ;rw[kaT O];rfl)
 ·have O:f=0:=(by simp at J;omega);refine ai<|A<|T ?_;exact am rfl rfl (by unfold oZ;rw[iOm];rfl)
def o7 n f(h:0<=f/\f<=9)(hn:0<=n/\n<=9999)F:cqq 91 [I n,I f] (F) (R1 (ay (o0 n f)) F):=by
 obtain ⟨u,rfl⟩:∃u:Nat,n=u:=⟨n.toNat,by omega⟩;have hl:=ic u;refine Ct.of func91 W 11 ntmps91 (by simp) λw0=>?_;refine A<|T<|ac<|A<|C<|M aQ<|ab<|ah ?_ ?_<;>intro J
 ·have O:f≠0:=(by simp at J;omega);refine A<|C<|gR (vA call83 (eu f h))<|T ?_;exact am rfl rfl (by unfold o0;rw[kaT O];rfl)
 ·have O:f=0:=(by simp at J;omega);refine ai<|A<|C<|gR (vA call162 (rx u (by omega)))<|T ?_;exact am rfl rfl (by unfold o0;rw[iOm,hl];rfl)
def B5 (s:Bytes)F:cqq 164 [ay s] (F) (R1 (ay (gJ s)) F):=by
 refine Ct.of func164 W 6 ntmps164 (by simp) λw0=>?_;refine A<|T<|ac<|A<|C<|M bV<|ab<|ah ?_ ?_<;>intro O
 ·have J:=kd0 O;refine A<|T ?_;exact am rfl rfl (by unfold gJ;rw[kaT J];rfl)
 ·have J:=kd1 O;refine ai<|A<|C<|T ?_;exact am rfl rfl (by unfold gJ;rw[kaU J];rfl)
def wI (s:Bytes)F:cqq 87 [ay s] (F) (R1 (ay (qb s)) F):=by
 refine Ct.of func87 W 6 ntmps87 (by simp) λw0=>?_;refine A<|T<|ac<|A<|C<|M bV<|ab<|ah ?_ ?_<;>intro O
 ·have J:=kd0 O;refine A<|T ?_;exact am rfl rfl (by unfold qb;rw[kaT J];rfl)
 ·have J:=kd1 O;refine ai<|A<|C<|T ?_;exact am rfl rfl (by unfold qb;rw[kaU J];rfl)
def n8 l(b:Bytes)s cap(hl:l.length<=100)(hb:b.length<=4)(hm:∀x∈l,x.length<=100)F:cqq 163 [sl s l.length cap,ay b] (roL 1 s (strR l)::F) (R1 (ay (o5 b l)) (roL 1 s (strR l)::F)):=by
 refine Ct.of func163 W 28 ntmps163 (by simp) λw0=>?_;refine A<|T<|A<|T<|ac<|A<|T<|ak ?_;refine aL (α:=Nat) (λi=>i<=l.length) (λi=>U [(0,sl s l.length cap),(1,ay b),(5,ay (LL b (l.take i))),(6,I i)]) (λi=>roL 1 s (strR l)::F) (λi=>l.length - i) 0 (by omega) [0,1,5,6] rfl ?_;intro i hi;have hpl:(LL b (l.take i)).length<=100*104:=kaB (J5 b (l.take i) 100 λx hx=>hm x (kbu hx)) (ka7 (by rw[kbq];omega) (by omega));refine ac<|A<|C<|C<|M (aP XC)<|M aG<|ab<|ah ?_ ?_<;>intro R
 ·have S:=kd0 R;have O:i<l.length:=(by omega);obtain ⟨x,hx⟩:∃x,l[i]? =some x:=⟨_,kbN O⟩;have hxl:=hm x (kbe hx);have Z:LL b (l.take (i+1))=LL b (l.take i)++(if l.take i=[] then [] else b)++x:=(by rw[<-PD,kdb,hx];rfl);refine ai<|ac<|ak<|ac<|A<|C<|M aQ<|ab<|ah ?_ ?_<;>intro V
  ·have X:=kd0 V;refine al<|C<|C<|M (cf (by omega))<|T<|al<|C<|C<|C<|M (av i XC Xx O (by rw[aZ];exact O))<|M (aI (v:=ay x) XD (by exact eX hx) rfl)<|M (cf (by first | omega | (simp only[kcp];omega)))<|T<|aE<|al<|C<|M (bx (r:=((i+1:Nat):Int)) (cK (by omega)))<|T ?_;exact an (i+1) (by omega) (by omega) [0,1,5,6] rfl (he:=by rw[Z,kaU (by intro e;have hq:=kay List.length e;rw[kbq,kcO] at hq;omega)];rfl)
  ·have X:=kd1 V;refine ai<|al<|C<|C<|C<|M (av i XC Xx O (by rw[aZ];exact O))<|M (aI (v:=ay x) XD (by exact eX hx) rfl)<|M (cf (by first | omega | (simp only[kcp];omega)))<|T<|aE<|al<|C<|M (bx (r:=((i+1:Nat):Int)) (cK (by omega)))<|T ?_;exact an (i+1) (by omega) (by omega) [0,1,5,6] rfl (he:=by rw[Z,kaT (by rw[show i=0 by omega];rfl),kcV];rfl)
 ·have S:=kd1 R;obtain rfl:i=l.length:=(by omega);rw[kbl];refine aF ?_;refine ac<|A<|C<|M (aP XC)<|M bE<|ab<|ah ?_ ?_<;>intro Y
  ·have J:l=[]:=(by have:=kd0 Y;exact kbb.1 (by omega));refine A<|T ?_;exact am rfl rfl (by unfold o5;rw[kaT J];rfl)
  ·have J:l≠ []:=(by intro e;subst e;simp at Y);refine ai<|A<|C<|T ?_;exact am rfl rfl (by unfold o5;rw[kaU J,<-Ge];rfl)
def tg (s:Bytes):Int:=(lK s).getD (-1)
def LA (s:Bytes)(R:s.length<1\/9<s.length)(hl:s.length<=1000)F:cqq 85 [ay s,I 999] (F) (R1 (I (-1)) F):=by
 have O:(decide ((s.length:Int)<1) || decide (9<(s.length:Int)))=true:=(by simp;omega);have J:u7 (Bo (decide ((s.length:Int)<1) || decide (9<(s.length:Int)))) false=true:=(by rw[O];rfl);refine Ct.of func85 W 53 ntmps85 (by simp) λw0=>?_;refine A<|T<|ac<|A<|C<|M (cD Xz)<|M aG<|C<|gK ao<|gK (cD Xz)<|gK aQ<|M cv<|C<|bi (hw:=by exact J)<|bi (hw:=by exact J)<|bi (hw:=by exact J)<|bi (hw:=by exact J)<|bi<|bi<|bi<|bi (hw:=by exact J)<|M (eV (hq:=by exact O))<|ab ?_;refine d6 ?_;refine A<|T ?_;refine am W W ?_;exact rfl
def LB (s:Bytes)c(h0:s[0]? =some c)(hbad:1<=s.length/\s.length<=9)F:cqq 85 [ay s,I 999] (F) (R1 (I (tg s)) F):=by
 have R:(decide ((s.length:Int)<1) || decide (9<(s.length:Int)))=false:=(by simp;omega);have hbh:s.head? =some c:=by cases s with
  | nil=>cases h0
  | cons a r=>exact h0
 refine Ct.of func85 W 53 ntmps85 (by simp) λw0=>?_;refine A<|T<|ac<|A<|C<|M (cD Xz)<|M aG<|C<|gK ao<|gK (cD Xz)<|gK aQ<|M cv<|C<|bh (hw:=by exact R) ao<|bh (hw:=by exact R) (bW 0 Xz (by exact h0))<|bh (hw:=by exact R) bE<|bh (hw:=by exact R) ao<|gK ao<|gK (cD Xz)<|gK aQ<|bh (hw:=by exact R) dc<|M cv<|ab<|ah ?_ ?_<;>intro O
 ·have S:tg s= -1:=by
   unfold tg;rw[wi (.inr (.inr (.inl ?_)))]
   ·rfl
   ·rw[R] at O;simp at O;have hc:c=48:=UInt8.toNat_inj.1 (by show c.toNat=48;omega);exact ⟨by rw[hbh,hc],by omega⟩
  refine A<|T ?_;rw[S];exact am rfl rfl rfl
 ·have hsh:s.head? =some 48->s.length<=1:=λe=>by
   rw[hbh] at e;injection e with e;subst e;rw[R] at O;simp at O;omega
  refine ai<|A<|T<|ac<|A<|T<|ak ?_;refine aL (α:=Nat) (λi=>i<=s.length/\∀x∈s.take i,HU x) (λi=>U [(0,ay s),(1,I 999),(5,I (kQ (s.take i):Int)),(6,I i)]) (λi=>F) (λi=>s.length - i) 0 ⟨by omega,by simp⟩ [0,1,5,6] rfl ?_;rintro i ⟨hi,J⟩;have hvl:=Nat.lt_of_lt_of_le (Py _ J rfl) (kbw (by decide) (show (s.take i).length<=9 by rw[kbq];omega));refine ac<|A<|C<|C<|M (cD Xz)<|M aG<|ab<|ah ?_ ?_<;>intro V
  ·have X:=kd0 V;obtain ⟨x,hx⟩:∃x,s[i]? =some x:=⟨_,kbN (by omega)⟩;have hsn:s.take (i+1)=s.take i++ [x]:=(by rw[kdb,hx];rfl);have hxm:=kbe hx;refine ai<|ac<|ak<|ac<|A<|C<|C<|M (bW i Xz (by exact hx))<|M aG<|C<|gK ao<|gK ao<|gK (bW i Xz (by exact hx))<|gK aQ<|M cv<|ab<|ah ?_ ?_<;>intro Y
   ·have Z:tg s= -1:=by
     unfold tg;rw[wi (.inr (.inr (.inr ⟨x,hxm,?_⟩)))]
     ·rfl
     ·unfold HU;simp at Y;omega
    refine A<|T ?_;rw[Z];exact am rfl rfl rfl
   ·have hD:HU x:=(by unfold HU;simp at Y;omega);refine ai<|al<|C<|M (lW (r:=((10*kQ (s.take i):Nat):Int)) (by rw[show (10:Int)*(kQ (s.take i):Int)=((10*kQ (s.take i):Nat):Int) by omega];exact cK (by omega)))<|C<|C<|M (bW i Xz (by exact hx))<|M (eG (r:=((x.toNat - 48:Nat):Int)) (by rw[show (x.toNat:Int) - 48=((x.toNat - 48:Nat):Int) by have:=hD.1;omega];exact w8 (by have:=hD.2;omega)))<|M (cG (r:=((x.toNat - 48:Nat):Int)) XI XA (cK (by have:=hD.2;omega)))<|M (bx (r:=(kQ (s.take (i+1)):Int)) (by rw[hsn,qO,show ((10*kQ (s.take i):Nat):Int)+((x.toNat - 48:Nat):Int)=((10*kQ (s.take i)+(x.toNat - 48):Nat):Int) by omega];exact cK (by have:=hD.2;omega)))<|T<|aE<|al<|C<|M (bx (r:=((i+1:Nat):Int)) (cK (by omega)))<|T ?_;exact an (i+1) ⟨by omega,λy hy=>by rw[kdb,hx] at hy;rcases kbF.1 hy with hy | hy;exact J y hy;simp at hy;subst hy;exact hD⟩ (by omega) [0,1,5,6] rfl
  ·have X:=kd1 V;obtain rfl:i=s.length:=(by omega);rw[kbl] at J hvl ⊢;refine aF ?_;refine ac<|A<|C<|C<|M aQ<|ab<|ah ?_ ?_<;>intro h51
   ·have h51':=kd0 h51;refine A<|T ?_;exact am rfl rfl (by unfold tg;rw[Gc J (λe=>by subst e;cases h0) hsh,kaT (by omega)];rfl)
   ·have h51':=kd1 h51;refine ai<|A<|C<|T ?_;exact am rfl rfl (by unfold tg;rw[Gc J (λe=>by subst e;cases h0) hsh,iOm];rfl)
def DW (s:Bytes)(hl:s.length<=1000)F:cqq 85 [ay s,I 999] F (R1 (I (tg s)) F):=by
 by_cases J:s.length<1\/9<s.length
 ·rw[show tg s= -1 by unfold tg;rw[wi (J.elim .inl λh=> .inr (.inl h))];rfl];exact LA s J hl F
 ·obtain ⟨c,h0⟩:∃c,s[0]? =some c:=⟨_,kbN (by omega)⟩;exact LB s c h0 (by omega) F
def HW (s:Bytes)(hl:s.length<=1000)F:cqq 84 [ay s] (F) (uX 9 1 (k6 s).length (strR (k6 s)) F):=by
 refine Ct.of func84 W 31 ntmps84 (by simp) λw0=>?_;refine A<|T<|A<|T<|A<|T<|ac<|ac ?_;refine aY 9 1 (strR []) ?_;refine al<|T<|ak ?_;refine aL (α:=List Bytes×Nat×Nat×Option Addr×Nat) (λy=>y.2.2.1<=s.length/\y.2.1<=y.2.2.1/\y.1.length<=y.2.2.1/\k6 s=y.1++S5 ((s.take y.2.2.1).drop y.2.1) (k6 (s.drop y.2.2.1))) (λy=>U [(0,ay s),(3,sl y.2.2.2.1 y.1.length y.2.2.2.2),(4,I y.2.1),(5,I y.2.2.1)]) (λy=>be 9 1 y.2.2.2.1 y.2.2.2.2 (strR y.1)::F) (λy=>s.length - y.2.2.1) ([],0,0,none,0) ⟨by simp,by simp,by simp,by simp[J4]⟩ [0,3,4,5] rfl ?_;rintro ⟨L,f,i,s3,c3⟩ ⟨hi,hfi,Z,O⟩;simp only[] at hi hfi Z O ⊢;refine ac<|A<|C<|C<|M (cD Xz)<|M aG<|ab<|ah ?_ ?_<;>intro h9
 ·have Y:=kd0 h9;obtain ⟨x,hx⟩:∃x,s[i]? =some x:=⟨_,kbN (by omega)⟩;have V:s.drop i=x::s.drop (i+1):=(by rw[kcw (by omega)];congr 1;rw[kbN (by omega)] at hx;injection hx);have htk:(s.take (i+1)).drop f=(s.take i).drop f++ [x]:=(by rw[kdb,hx,kc8 (by rw[kbq];omega)];rfl);refine ai<|ac<|ak<|A<|C<|C<|M (bW i Xz (by exact hx))<|M bE<|ab<|ah ?_ ?_<;>intro S
  ·have J:x=32:=UInt8.toNat_inj.1 (by have h32:(32:UInt8).toNat=32:=rfl;simp at S;omega);refine A<|C<|C<|C<|C<|M (fG (l:=f) (h:=i) Xz (by omega))<|gI (ap [[ay ((s.take i).drop f)]] XC Xx X9 (by simp)) ?_;rintro _ _ ⟨b21,rfl,rfl⟩;refine gI (aR XC Xx X9 Tryz.typeInfo9 (hn:=by exact aZ _) (by simp) (by intro r hr;simp at hr;subst hr;rfl) ⟨by simp;omega,by decide,by decide⟩) ?_;rintro _ _ ⟨s22,X,rfl,rfl⟩;refine T<|al<|C<|M (bx (r:=((i+1:Nat):Int)) (cK (by omega)))<|T<|aE<|al<|C<|M (bx (r:=((i+1:Nat):Int)) (cK (by omega)))<|T ?_;rw[show strR L++ [[ay ((s.take i).drop f)]]=strR (L++ [(s.take i).drop f]) by simp[strR],show L.length+1=(L++ [(s.take i).drop f]).length by simp];exact an (L++ [(s.take i).drop f],i+1,i+1,s22,X) ⟨by simp only[];omega,by simp only[];omega,by simp only[kcp,List.length_singleton];omega,by simp only[];rw[O,V,J,R9];simp[J4,List.drop_take]⟩ (by simp only[];omega) [0,3,4,5] rfl
  ·have J:x≠32:=λe=>(by subst e;simp at S);refine ai<|aE<|al<|C<|M (bx (r:=((i+1:Nat):Int)) (cK (by omega)))<|T ?_;exact an (L,f,i+1,s3,c3) ⟨by simp only[];omega,by simp only[];omega,by simp only[];omega,by simp only[];rw[O,V,U9 _ _ _ J,htk]⟩ (by simp only[];omega) [0,3,4,5] rfl
 ·have Y:=kd1 h9;obtain rfl:i=s.length:=(by omega);rw[kbl,kcz] at O;have R:k6 s=L++ [s.drop f]:=(by rw[O];simp[k6,S5]);refine aF ?_;refine A<|C<|C<|C<|M (tv (l:=f) Xz (by omega))<|gI (ap [[ay (s.drop f)]] XC Xx X9 (by simp)) ?_;rintro _ _ ⟨b29,rfl,rfl⟩;refine gI (aR XC Xx X9 Tryz.typeInfo9 (hn:=by exact aZ _) (by simp) (by intro r hr;simp at hr;subst hr;rfl) ⟨by simp;omega,by decide,by decide⟩) ?_;rintro _ _ ⟨s30,c30,rfl,rfl⟩;refine T ?_;rw[show strR L++ [[ay (s.drop f)]]=strR (k6 s) by rw[R];simp[strR],show L.length+1=(k6 s).length by rw[R];simp];exact cU rfl rfl rfl rfl
variable {s:Bytes}
theorem Gf {m}(h:lK s=some m):mm s=some m/\Lib.itoa m=s/\0<=m/\m<=999:=by
 obtain ⟨a,b,c⟩:=rA h;obtain ⟨u,rfl⟩:∃u:Nat,m=u:=⟨m.toNat,by omega⟩
 grind[ic,JY]
theorem th {l}{k:Nat}{x}(hx:l[k]? =some x)(h:lK x=none):fC l=none:=by
 induction l generalizing k with
 | nil=>cases hx
 | cons y r J=>
  grind[fC]
theorem ti:∀{l:List Bytes} {x:Bytes} {J:List Int} {n:Int},fC l=some J->lK x=some n->fC (l++ [x])=some (J++ [n])
 | [],x,J,n,h,hx=>by
  grind[fC]
 | y::r,x,J,n,h,hx=>by
  show fC (y::(r++ [x]))=_;unfold fC at h ⊢;cases hy:lK y with
  | none=>rw[hy] at h;cases h
  | some m=>
   rw[hy] at h;simp only at h ⊢;cases hr:fC r with
   | none=>rw[hr] at h;cases h
   | some t=>
    rw[hr] at h;injection h with h;subst h;rw[ti hr hx]
    rfl
def rB:∀{l:List Bytes} {J:List Int},fC l=some J->J.length=l.length
 | [],J,h=>by injection h with h;subst h;rfl
 | y::r,J,h=>by
  unfold fC at h;cases hy:lK y with
  | none=>rw[hy] at h;cases h
  | some m=>
   rw[hy] at h;simp only at h;cases hr:fC r with
   | none=>rw[hr] at h;cases h
   | some t=>
    rw[hr] at h;injection h with h;subst h;simp[rB hr]
def WE (l:List Bytes)(F:List ag):Value->List ag->Prop:=λv L'=>∃ns s c k,((k=true/\fC l=some ns)\/(k=false/\fC l=none/\ns=[]))/\v= .tuple #[sl s ns.length c,Bo k]/\L'=be 3 1 s c (bc ns)::F
def wj:∀{l:List Bytes} {J:List Int},fC l=some J->∀n∈J,0<=n/\n<=999
 | [],J,h=>by injection h with h;subst h;simp
 | y::r,J,h=>by
  unfold fC at h;cases hy:lK y with
  | none=>rw[hy] at h;cases h
  | some m=>
   rw[hy] at h;simp only at h;cases hr:fC r with
   | none=>rw[hr] at h;cases h
   | some t=>
    rw[hr] at h;injection h with h;subst h;intro n hn;rcases kbn.1 hn with rfl | hn
    ·have:=rA hy;omega
    ·exact wj hr n hn
def uU l s cap n0(hn0:n0=l.length)(hl:l.length<=100)(hm:∀x∈l,x.length<=1000)F:cqq 156 [sl s n0 cap] (tabs::erR::roL 1 s (strR l)::F) (WE l (tabs::erR::roL 1 s (strR l)::F)):=by
 subst hn0;refine Ct.of func156 W 42 ntmps156 (by simp) λw0=>?_;refine A<|gA<|T<|A<|T<|ac<|ac ?_;refine aY 3 1 (bc []) ?_;refine al<|C<|M (aP XC)<|C<|ab<|ak ?_;refine aL (α:=Nat×List Int×Option Addr×Nat) (λz=>z.1<=l.length/\fC (l.take z.1)=some z.2.1) (λz=>U [(4,sl z.2.2.1 z.2.1.length z.2.2.2),(9,sl s l.length cap),(10,I l.length),(11,I z.1)]) (λz=>be 3 1 z.2.2.1 z.2.2.2 (bc z.2.1)::tabs::erR::roL 1 s (strR l)::F) (λz=>l.length - z.1) (0,[],none,0) ⟨by simp,rfl⟩ [4,9,10,11] rfl ?_;rintro ⟨i,V,s4,c4⟩ ⟨hi,J⟩;simp only[] at hi J ⊢;have hnl:=rB J;rw[kbq] at hnl;refine A<|M aG<|ab<|ac<|ah ?_ ?_<;>intro X
 ·have Y:=kd0 X;have R:i<l.length:=(by omega);obtain ⟨x,hx⟩:∃x,l[i]? =some x:=⟨_,kbN R⟩;refine ai<|ac<|ak<|A<|M (av i XC Xx R (by rw[aZ];exact R))<|M (aI (v:=ay x) XD (by exact eX hx) W)<|T<|A<|C<|gI (uC (A0:=tabs) call219 (PB x (hm x (kbe hx)))) ?_;rintro _ _ ⟨rfl,⟨n,Z,rfl⟩ | ⟨Z,n,t0,p0,rfl⟩⟩
  ·have hr:=PA Z;refine C<|gX (I n)<|gX (fA 0 0)<|gA<|T<|ac<|A<|C<|M (bX (ec:=0) (f:=0) XF)<|C<|bh ao ?_;refine wK (dQ (Pre:=[tabs]) call217 (jx n hr.1 hr.2)) ?_;rintro _ _ ⟨rfl,rfl⟩;refine bh ao<|bh lN<|M cv<|C<|gK ao<|gK aG<|M cv<|C<|gK ao<|gK aQ<|M cv<|ab<|ah ?_ ?_<;>intro O
   ·have S:lK x=none:=by
     cases hw:lK x with
     | none=>rfl
     | some m=>
      obtain ⟨h1,h2,h3,h4⟩:=Gf hw;rw[Z] at h1;injection h1 with h1;subst h1;rw[h2] at O;simp at O;omega
    refine A<|gA<|T ?_;refine aY 3 1 (bc []) ?_;exact ar (be 3 1 none 0 (bc [])::tabs::erR::roL 1 s (strR l)::F) rfl ⟨[],none,0,false, .inr ⟨rfl,th hx S,rfl⟩,rfl,rfl⟩
   ·have hyes:lK x=some n:=by
     simp at O;obtain ⟨⟨h1,h2⟩,h3⟩:=O;rw[<-h1];exact B2 h2 h3
    refine ai<|al<|C<|C<|gI (ap [[I n]] XB Xu X5 (by simp)) ?_;rintro _ _ ⟨b38,rfl,rfl⟩;refine gI (aR XB Xu X5 Tryz.typeInfo3 (hn:=by rw[cw]) (by simp) (by intro r hr;simp at hr;subst hr;rfl) ⟨by omega,by decide,by decide⟩) ?_;rintro _ _ ⟨s39,c39,rfl,rfl⟩;rw[show bc V++ [[I n]]=bc (V++ [n]) by simp[bc],show V.length+1=(V++ [n]).length by simp];refine T<|aE<|al<|M (bx (r:=((i+1:Nat):Int)) (cK (by omega)))<|C<|ab ?_;exact an (i+1,V++ [n],s39,c39) ⟨by simp only[];omega,by simp only[];rw[kdb,hx];exact ti J hyes⟩ (by simp only[];omega) [4,9,10,11] rfl
  ·have S:lK x=none:=by
    cases hw:lK x with
    | none=>rfl
    | some m=>rw[(Gf hw).1] at Z;cases Z
   refine C<|gX (I n)<|gX (.iface t0 (ptr p0 0))<|gA<|T<|ac<|A<|C<|M (Sq XF W)<|C<|bi<|bi<|bi<|bi<|M eV<|C<|bi<|bi<|M eV<|C<|bi<|bi<|M eV<|ab ?_;refine d6 ?_;refine A<|gA<|T ?_;refine aY 3 1 (bc []) ?_;exact ar (be 3 1 none 0 (bc [])::tabs::erR::roL 1 s (strR l)::F) rfl ⟨[],none,0,false, .inr ⟨rfl,th hx S,rfl⟩,rfl,rfl⟩
 ·have Y:=kd1 X;obtain rfl:i=l.length:=(by omega);rw[kbl] at J;refine aF ?_;refine A<|C<|gA<|T ?_;exact ar (be 3 1 s4 c4 (bc V)::tabs::erR::roL 1 s (strR l)::F) rfl ⟨V,s4,c4,true, .inl ⟨rfl,J⟩,rfl,rfl⟩
set_option maxRecDepth 4000
def WF (l:List Bytes)(b:Bytes)(hl:l.length<=100)(J:b.length<=4)(hm:∀x∈l,x.length<=100):(Lib.join l b).length<=140737488355328:=by
 rw[<-Ge];exact kaB (J5 b l 100 hm)<|kaB (ka7 hl (show 100+b.length<=104 by omega)) (by decide)
def uV {S L G}(hC:Con S L n G):∀p∈L,((0<=p.id/\p.id<=1000)/\(0<=p.disk/\p.disk<=1000)/\(0<=p.size/\p.size<=1000))/\(gv p).length<=100:=λp hp=>by
 have h:=hC.v.pts p hp;have hn:=hC.v.n1;have h1:=dG (n:=p.id) (by omega);have J:=dG (n:=p.disk) (by omega);have O:=dG (n:=p.size) (by omega);refine ⟨by omega,?_⟩;unfold gv;simp;omega
def rC {l}(h:Cj l):∀a∈l,((0<=a.fr/\a.fr<=1000)/\(0<=a.many/\a.many<=1000))/\(kf a).length<=100:=λa J=>by
 have h:=h a J;have h1:=dG (n:=a.fr) (by omega);have O:=dG (n:=a.many) (by omega);refine ⟨by omega,?_⟩;unfold kf;simp;omega
def B6 (h:s.length<=6):(gJ s).length<=100:=by
 unfold gJ;split
 ·decide
 ·omega
def n9 l(b:Bytes)s cap(hl:l.length<=100)(O:l.length<=cap)(S:b.length<=4)(hm:∀x∈l,x.length<=100)F:cqq 263 [ay b,sl s l.length cap] (roL 1 s (strR l)::F) (R1 (ay (o5 b l)) (roL 1 s (strR l)::F)):=by
 refine Ct.of func263 W 11 ntmps263 (by simp) λw0=>?_;refine A<|T<|ac<|A<|C<|M (aP XC)<|M bE<|ab<|ah ?_ ?_<;>intro R
 ·have J:l=[]:=kbb.1 (by have:=kd0 R;omega);refine A<|T ?_;exact am rfl rfl (by unfold o5;rw[kaT J];rfl)
 ·have J:l≠ []:=λe=>(by subst e;simp at R);refine ai<|A<|C<|C<|gR (vB call298 (Sb l b s cap hl O (WF l b hl S hm)))<|T ?_;exact am rfl rfl (by unfold o5;rw[kaU J];rfl)
def B7 a J bv t v0 D z(R:Up t D z)F:cqq 81 [ptr a 0] (tabs::pcc a #[ptr J 0,ptr bv 0,v0] 152::cj 179 319 J (D)::F) (λv L'=>∃O,v=bQ 0/\L'=pcc a #[ptr J 0,ptr bv 0,ptr O 0] 152::dD O J z.anew::cj 179 319 J (D)::tabs::F):=by
 obtain ⟨G,hC⟩:=R.rep.rok.con;obtain ⟨r3,Z,Y,V⟩:=R.rep.cal;refine Ct.of func81 W 20 ntmps81 (by simp) λw0=>?_;refine A<|T<|A<|C<|M aa<|gF 0 Yv W YS<|gL (ptr J 0) Y2<|gI (uC (A0:=tabs) call10 (Du J D z.h r3 Z z.used z.S z.L z.n G R.up.1 Y.2.1 R.rep.s80 (V.trans R.rep.rows) hC)) ?_;rintro _ _ ⟨O,rfl,rfl⟩;change Go.Sl.G _ _ _ (dD O J z.anew::_);refine C<|gX (ptr O 0)<|gX (bQ 0)<|gA<|T<|ac<|A<|C<|M (fX XF)<|ab<|ah ?_ ?_<;>intro X
 ·refine al<|C<|C<|M aa<|gF 2 Yv W YU<|gU (aJ #[ptr J 0,ptr bv 0,ptr O 0] YU (by simp))<|ab<|A<|C<|T ?_;exact ar (pcc a #[ptr J 0,ptr bv 0,ptr O 0] 152::dD O J z.anew::cj 179 319 J (D)::tabs::F) rfl ⟨O,rfl,rfl⟩
 ·simp at X
def Gg a R bv b z G(hC:Con z.S z.L z.n G)F:cqq 222 [ptr a 0] (bo ee::pcc a #[ptr R 0,ptr bv 0,ptr b 0] 152::dD b R z::F) (R1 (ay (o5 DT (z.L.map gv))) (pcc a #[ptr R 0,ptr bv 0,ptr b 0] 152::dD b R z::bo ee::F)):=by
 have hlen:=hC.v.len;refine Ct.of func222 W 38 ntmps222 (by simp) λw0=>?_;refine A<|T<|A<|T<|ac<|ac ?_;refine aY 9 1 (strR ((z.L.take 0).map gv)) ?_;refine al<|C<|M aa<|gF 2 Yv W YU<|gL (ptr b 0) Y9<|gI (uB call16 (g9 b R (z) (by omega))) ?_;rintro _ _ ⟨q,rfl,rfl⟩;refine ge q z.S z.L z.n ?_;intro x0 s0 c0;refine M aa<|gF 1 XK W XS<|gL (sl s0 z.L.length c0) Ya<|M (aP XP)<|C<|ab<|ak ?_;refine aL (α:=Nat×Option Addr×Nat) (λJ=>J.1<=z.L.length) (λJ=>U [(3,sl J.2.1 J.1 J.2.2),(13,sl s0 z.L.length c0),(14,I z.L.length),(15,I J.1)]) (λJ=>be 9 1 J.2.1 J.2.2 (strR ((z.L.take J.1).map gv))::be 162 4 s0 c0 (gb z.L)::pcc a #[ptr R 0,ptr bv 0,ptr b 0] 152::dD b R z::bo ee::F) (λJ=>z.L.length - J.1) (0,none,0) (by simp) [3,13,14,15] rfl ?_;rintro ⟨i,so,co⟩ hi;simp only[] at hi ⊢;refine A<|M aG<|ab<|ac<|ah ?_ ?_<;>intro h16
 ·have h16':=kd0 h16;have Z:i<z.L.length:=(by omega);obtain ⟨p,hp⟩:∃p,z.L[i]? =some p:=⟨_,kbN Z⟩;have hpm:=kbe hp;obtain ⟨⟨V,X,Y⟩,hps⟩:=uV hC p hpm;have hl1:=dG V;have hl2:=dG X;have hl3:=dG Y;refine ai<|ac<|ak<|A<|M (av i XP XE Z (by rw[cR];exact Z))<|M (bO (row:=aW p) YI XE (g8 hp))<|gI (aO #[I 0,I 0,I 0,I 0] X4) ?_;rintro _ _ ⟨b5,rfl,rfl⟩;refine gU (az (cs:=#[I 0,I 0,I 0,I 0]) (vs:=aW (p)) (aW (p)).toArray XE (by simp) (hcs:=by exact aH))<|ab ?_;refine cn (Lf:=[pcc b5 (aW p).toArray 162]) jc ?_;refine dM W<|dF W 0 XQ W Xu<|dL W (I p.id) Xv<|dF W 1 XQ W Xu<|dL W (I p.disk) Xv<|dF W 2 XQ W Xu<|dL W (I p.size) Xv<|cQ W (uB (A0:=bo ee) call217 (jx (p.id) (by have:=V;omega) (by have:=V;omega))) ?_;rintro _ _ ⟨rfl,rfl⟩;refine dV W (cf (by simp;omega))<|cQ W (uB (A0:=bo ee) call217 (jx (p.disk) (by have:=X;omega) (by have:=X;omega))) ?_;rintro _ _ ⟨rfl,rfl⟩;refine dV W (cf (by simp;omega))<|dV W (cf (by simp;omega))<|cQ W (uB (A0:=bo ee) call217 (jx (p.size) (by have:=Y;omega) (by have:=Y;omega))) ?_;rintro _ _ ⟨rfl,rfl⟩;refine dV W (cf (by simp;omega))<|cQ W (ap [[ay (gv p)]] XC Xx X9 (by simp)) ?_;rintro _ _ ⟨b33,rfl,rfl⟩;refine cQ rfl (aR XC Xx X9 Tryz.typeInfo9 (hn:=by rw[aZ,kcc,kbq];omega) (by simp) (by intro r hr;simp at hr;subst hr;rfl) ⟨by simp;omega,by decide,by decide⟩) ?_;rintro _ _ ⟨s34,c34,rfl,rfl⟩;refine dV W ax ?_;refine aN ?_;refine aE<|al<|M (bx (r:=((i+1:Nat):Int)) (cK (by omega)))<|C<|ab ?_;rw[show strR ((z.L.take i).map gv)++ [[ay (gv p)]]=strR ((z.L.take (i+1)).map gv) by rw[kdb,hp];simp[strR]];exact an (i+1,s34,c34) (by simp only[];omega) (by simp only[];omega) [3,13,14,15] rfl
 ·have h16':=kd1 h16;obtain rfl:i=z.L.length:=(by omega);rw[kbl,show sl so z.L.length co=sl so (z.L.map gv).length co by simp];refine aF ?_;refine ac ?_;refine mC so<|λO=>?_;rw[aZ] at O;refine bz so ?_;refine al<|C<|gR (vB call263 (n9 (z.L.map gv) DT so co (by rw[kcc];omega) O (by decide) (λx hx=>by obtain ⟨p,hp,rfl⟩:=kbV.1 hx;exact (uV hC p hp).2)))<|T ?_;refine am W W ?_;exact rfl
def LC a O bv b z G(hC:Con z.S z.L z.n G)id F:cqq 223 [ptr a 0,I id] (bo ee::pcc a #[ptr O 0,ptr bv 0,ptr b 0] 152::dD b O z::F) (R1 (ay (match aX z.L id with | none=>i8 5 | some p=>SS z.lr id p)) (pcc a #[ptr O 0,ptr bv 0,ptr b 0] 152::dD b O z::bo ee::F)):=by
 have hlen:=hC.v.len;refine Ct.of func223 W 47 ntmps223 (by simp) λw0=>?_;refine A<|T<|A<|C<|M aa<|gF 2 Yv W YU<|gL (ptr b 0) Y9<|gI (uB call16 (g9 b O (z) (by omega))) ?_;rintro _ _ ⟨q,rfl,rfl⟩;refine T<|A<|C<|C<|gR (vB call92 (dp q z.S z.L z.n id (by omega)))<|C<|gX (.agg (aW ((aX z.L id).getD iB)).toArray)<|gX (Bo (aX z.L id).isSome)<|gI (aO #[I 0,I 0,I 0,I 0] X4) ?_;rintro _ _ ⟨b6,rfl,rfl⟩;refine gU (az (cs:=#[I 0,I 0,I 0,I 0]) (vs:=aW ((aX z.L id).getD iB)) (aW ((aX z.L id).getD iB)).toArray XE (by simp) (hcs:=by exact aH))<|T<|ac<|A<|C<|M cS<|ab<|ah ?_ ?_<;>intro R
 ·have hno:aX z.L id=none:=(by simpa using R);rw[hno];refine A<|M (ba XG)<|gR (vB (A0:=bo ee) call154 (j8 (5) (by decide) (by decide)))<|T ?_;refine am W W ?_;exact rfl
 ·obtain ⟨p,Y⟩:∃p,aX z.L id=some p:=by
   cases Y:aX z.L id with
   | none=>rw[Y] at R;simp at R
   | some p=>exact ⟨p,rfl⟩
  rw[Y];simp only[Option.getD_some];obtain ⟨⟨_,_,hsz0,hsz⟩,_⟩:=uV hC p (dq Y).1;have hsz16:=(hC.v.pts p (dq Y).1).2.2;refine ai<|ac ?_;refine aY 9 1 (strR (((List.range p.size.toNat).take 0).map (λk:Nat=>gJ (j5 z.S z.L id (k:Int)).1))) ?_;refine al<|T<|ac<|A<|gF 2 XQ W Xu<|gL (I p.size) Xv<|C<|ab<|ak ?_;refine aL (α:=Nat×Option Addr×Nat) (λy=>y.1<=p.size.toNat) (λy=>U [(1,I id),(5,ptr q 0),(8,sl y.2.1 y.1 y.2.2),(28,I p.size),(29,I y.1)]) (λy=>be 9 1 y.2.1 y.2.2 (strR (((List.range p.size.toNat).take y.1).map (λk:Nat=>gJ (j5 z.S z.L id (k:Int)).1)))::iq q z.S z.L z.n::pcc a #[ptr O 0,ptr bv 0,ptr b 0] 152::dD b O z::bo ee::F) (λy=>p.size.toNat - y.1) (0,none,0) (by simp) [1,5,8,28,29] rfl ?_;rintro ⟨i,so,co⟩ hi;simp only[] at hi ⊢;have hrl:(List.range p.size.toNat).length=p.size.toNat:=kdy;refine A<|M aG<|ab<|ac<|ah ?_ ?_<;>intro V
  ·have X:=kd0 V;have hin:i<p.size.toNat:=(by omega);have hp:(List.range p.size.toNat)[i]? =some i:=(by rw[kdz hin]);refine ai<|ac<|ak<|A<|C<|T<|A<|C<|C<|C<|gR (vB call34 (l8 q z.S z.L z.n id (i:Int) G hC.v))<|C<|gX (ay (j5 z.S z.L id (i:Int)).1)<|gX (bQ (j5 z.S z.L id (i:Int)).2)<|gA<|T<|al<|C<|C<|gR (vA call228 (B4 (j5 z.S z.L id (i:Int)).1))<|gI (ap [[ay (gJ (j5 z.S z.L id (i:Int)).1)]] XC Xx X9 (by simp)) ?_;rintro _ _ ⟨b42,rfl,rfl⟩;refine gI (aR XC Xx X9 Tryz.typeInfo9 (hn:=by rw[aZ,kcc,kbq];omega) (by simp) (by intro r hr;simp at hr;subst hr;rfl) ⟨by simp;omega,by decide,by decide⟩) ?_;rintro _ _ ⟨s43,Z,rfl,rfl⟩;refine T<|aE<|al<|M (bx (r:=((i+1:Nat):Int)) (cK (by omega)))<|C<|ab ?_;rw[show strR (((List.range p.size.toNat).take i).map (λk:Nat=>gJ (j5 z.S z.L id (k:Int)).1))++ [[ay (gJ (j5 z.S z.L id (i:Int)).1)]]=strR (((List.range p.size.toNat).take (i+1)).map (λk:Nat=>gJ (j5 z.S z.L id (k:Int)).1)) by rw[kdb,hp];simp[strR]];exact an (i+1,s43,Z) (by simp only[];omega) (by simp only[];omega) [1,5,8,28,29] rfl
  ·have X:=kd1 V;obtain rfl:i=p.size.toNat:=(by omega);rw[show (List.range p.size.toNat).take p.size.toNat=(List.range p.size.toNat) by rw[kcI (by omega)],show sl so p.size.toNat co=sl so ((List.range p.size.toNat).map (λk:Nat=>gJ (j5 z.S z.L id (k:Int)).1)).length co by simp];refine aF ?_;refine ac ?_;refine mC so<|λJ=>?_;rw[aZ] at J;refine bz so ?_;refine al<|C<|gR (vB call263 (n9 ((List.range p.size.toNat).map (λk:Nat=>gJ (j5 z.S z.L id (k:Int)).1)) [32] so co (by rw[kcc,kdy];omega) J (by decide) (λx hx=>by obtain ⟨k,hk,rfl⟩:=kbV.1 hx;exact B6 (J2 hC _ _))))<|T ?_;refine am W W ?_;exact rfl
def DX a bd bv b V x y(hsl:V.snaps.length<=1000000)F:cqq 226 [ptr a 0,I x,I y] (bo ee::pcc a #[ptr bd 0,ptr bv 0,ptr b 0] 152::gp bv V::F) (R1 (ay (if kT V x y≠0 then i8 (kT V x y) else o5 [32] ((iC V x y).map kf))) (pcc a #[ptr bd 0,ptr bv 0,ptr b 0] 152::gp bv V::bo ee::F)):=by
 have hok:=xT V x y;have hcl:=J3 V x y;refine Ct.of func226 W 46 ntmps226 (by simp) λw0=>?_;refine A<|T<|A<|C<|M aa<|gF 1 Yv W Zr<|gL (ptr bv 0) ZF<|C<|C<|gI (uB call71 (oX bv V x y hsl)) ?_;rintro _ _ ⟨Z,R,rfl,rfl⟩;refine C<|gX (sl Z (iC V x y).length R)<|gX (bQ (kT V x y))<|gA<|T<|ac<|A<|C<|M (bX (ec:=117) (f:=kT V x y) XF)<|ab<|ah ?_ ?_<;>intro h23
 ·have hf:kT V x y≠0:=(by simpa using h23);rw[kaT hf];refine A<|C<|gR (vB (A0:=bo ee) call154 (j8 (kT V x y) hf (Ps V x y)))<|T ?_;refine am W W ?_;exact rfl
 ·have hf:kT V x y=0:=(by simpa using h23);rw[iOm];refine ai<|ac ?_;refine aY 9 1 (strR (((iC V x y).take 0).map kf)) ?_;refine al<|T<|ac<|A<|C<|M (aP Ys)<|C<|ab<|ak ?_;refine aL (α:=Nat×Option Addr×Nat) (λJ=>J.1<=(iC V x y).length) (λJ=>U [(9,sl J.2.1 J.1 J.2.2),(26,sl Z (iC V x y).length R),(27,I (iC V x y).length),(28,I J.1)]) (λJ=>be 9 1 J.2.1 J.2.2 (strR (((iC V x y).take J.1).map kf))::be 142 2 Z R (aV (iC V x y))::gp bv V::pcc a #[ptr bd 0,ptr bv 0,ptr b 0] 152::bo ee::F) (λJ=>(iC V x y).length - J.1) (0,none,0) (by simp) [9,26,27,28] rfl ?_;rintro ⟨i,so,co⟩ hi;simp only[] at hi ⊢;refine A<|M aG<|ab<|ac<|ah ?_ ?_<;>intro h29
  ·have h29':=kd0 h29;have Y:i<(iC V x y).length:=(by omega);obtain ⟨p,hp⟩:∃p,(iC V x y)[i]? =some p:=⟨_,kbN Y⟩;have hpm:=kbe hp;obtain ⟨⟨S,X⟩,hps⟩:=rC hok p hpm;have hl1:=dG S;have hl2:=dG X;refine ai<|ac<|ak<|A<|M (av i Ys Yt Y (by rw[dN];exact Y))<|M (bO (row:=Ch p) isAgg142 Yt (jp hp))<|gI (aO #[I 0,I 0] Zf) ?_;rintro _ _ ⟨b11,rfl,rfl⟩;refine gU (az (cs:=#[I 0,I 0]) (vs:=Ch p) #[I p.fr,I p.many] Yt (by decide))<|ab<|gD (Lf:=[pcc b11 #[I p.fr,I p.many] 142]) (plN [0,2,4,10,12,7,8,15,16,19,21,22])<|dM W<|dF W 0 YZ W Xu<|dL W (I p.fr) Xv<|dF W 1 YZ W Xu<|dL W (I p.many) Xv<|cQ W (uB (A0:=bo ee) call217 (jx (p.fr) (by have:=S;omega) (by have:=S;omega))) ?_;rintro _ _ ⟨rfl,rfl⟩;refine dV W (cf (by simp;omega))<|cQ W (uB (A0:=bo ee) call217 (jx (p.many) (by have:=X;omega) (by have:=X;omega))) ?_;rintro _ _ ⟨rfl,rfl⟩;refine dV W (cf (by simp;omega))<|cQ W (ap [[ay (kf p)]] XC Xx X9 (by simp)) ?_;rintro _ _ ⟨b41,rfl,rfl⟩;refine cQ rfl (aR XC Xx X9 Tryz.typeInfo9 (hn:=by rw[aZ,kcc,kbq];omega) (by simp) (by intro r hr;simp at hr;subst hr;rfl) ⟨by simp;omega,by decide,by decide⟩) ?_;rintro _ _ ⟨s42,c42,rfl,rfl⟩;refine dV W ax ?_;refine aN ?_;refine aE<|al<|M (bx (r:=((i+1:Nat):Int)) (cK (by omega)))<|C<|ab ?_;rw[show strR (((iC V x y).take i).map kf)++ [[ay (kf p)]]=strR (((iC V x y).take (i+1)).map kf) by rw[kdb,hp];simp[strR]];exact an (i+1,s42,c42) (by simp only[];omega) (by simp only[];omega) [9,26,27,28] rfl
  ·have h29':=kd1 h29;obtain rfl:i=(iC V x y).length:=(by omega);rw[kbl,show sl so (iC V x y).length co=sl so ((iC V x y).map kf).length co by simp];refine aF ?_;refine ac ?_;refine mC so<|λO=>?_;rw[aZ] at O;refine bz so ?_;refine al<|C<|gR (vB call263 (n9 ((iC V x y).map kf) [32] so co (by rw[kcc];omega) O (by decide) (λx hx=>by obtain ⟨p,hp,rfl⟩:=kbV.1 hx;exact (rC hok p hp).2)))<|T ?_;refine am W W ?_;exact rfl
def LD a J bv b i V D z disk many(R:CoR i D V z)(hi:i<=100)(hm0:0<=many/\many<=1000000)F:cqq 227 [ptr a 0,I disk,I many] (bo ee::pcc a #[ptr J 0,ptr bv 0,ptr b 0] 152::dD b J z::cj 179 319 J (D)::F) (λv L'=>∃D2 z2 gone,CoR (i+1) D2 V z2/\keepL (eQ z.L disk many) z.lr=(z2.lr,gone)/\v=ay (o5 [32] (gone.map Lib.itoa))/\L'=pcc a #[ptr J 0,ptr bv 0,ptr b 0] 152::dD b J z2::cj 179 319 J (D2)::bo ee::F):=by
 refine Ct.of func227 W 40 ntmps227 (by simp) λw0=>?_;refine A<|T<|A<|C<|M aa<|gF 2 Yv W YU<|gL (ptr b 0) Y9<|C<|C<|gI (uD (A0:=bo ee) call47 (uw b J (1+7*i) z D disk many R.up.rep (by omega) (by omega))) ?_;rintro _ _ (⟨hm,_,_⟩ | ⟨hm,gone,e,D2,z2,Z,X,hk,rfl,rfl⟩)
 ·omega
 obtain ⟨rfl,R2,hkl,hgl,S⟩:=R.keep hi hk;refine C<|gX (sl Z gone.length X)<|gX (bQ 0)<|gA<|T<|ac<|A<|C<|M (bX (ec:=117) (f:=0) XF)<|ab<|ah ?_ ?_<;>intro h23
 ·simp at h23
 ·refine ai<|ac ?_;refine aY 9 1 (strR ((gone.take 0).map Lib.itoa)) ?_;refine al<|T<|ac<|A<|C<|M (aP XB)<|C<|ab<|ak ?_;refine aL (α:=Nat×Option Addr×Nat) (λy=>y.1<=gone.length) (λy=>U [(9,sl y.2.1 y.1 y.2.2),(26,sl Z gone.length X),(27,I gone.length),(28,I y.1)]) (λy=>be 9 1 y.2.1 y.2.2 (strR ((gone.take y.1).map Lib.itoa))::be 3 1 Z X (bc gone)::dD b J z2::cj 179 319 J (D2)::bo ee::pcc a #[ptr J 0,ptr bv 0,ptr b 0] 152::F) (λy=>gone.length - y.1) (0,none,0) (by simp) [9,26,27,28] rfl ?_;rintro ⟨k,so,co⟩ hk;simp only[] at hk ⊢;refine A<|M aG<|ab<|ac<|ah ?_ ?_<;>intro h29
  ·have h29':=kd0 h29;have Y:k<gone.length:=(by omega);obtain ⟨p,hp⟩:∃p,gone[k]? =some p:=⟨_,kbN Y⟩;have hpm:=kbe hp;have hi1:0<=p/\p<=1000:=(by have:=S p hpm;omega);refine ai<|ac<|ak<|A<|M (av k XB Xu Y (by rw[cw];exact Y))<|M (aI (v:=I p) Xv (by exact fO hp) W)<|T<|al<|C<|C<|gR (vB (A0:=bo ee) call217 (jx (p) (by have:=hi1;omega) (by have:=hi1;omega)))<|gI (ap [[ay (Lib.itoa p)]] XC Xx X9 (by simp)) ?_;rintro _ _ ⟨b35,rfl,rfl⟩;refine gI (aR XC Xx X9 Tryz.typeInfo9 (hn:=by rw[aZ,kcc,kbq];omega) (by simp) (by intro r hr;simp at hr;subst hr;rfl) ⟨by simp;omega,by decide,by decide⟩) ?_;rintro _ _ ⟨s36,c36,rfl,rfl⟩;refine T<|aE<|al<|M (bx (r:=((k+1:Nat):Int)) (cK (by omega)))<|C<|ab ?_;rw[show strR ((gone.take k).map Lib.itoa)++ [[ay (Lib.itoa p)]]=strR ((gone.take (k+1)).map Lib.itoa) by rw[kdb,hp];simp[strR]];exact an (k+1,s36,c36) (by simp only[];omega) (by simp only[];omega) [9,26,27,28] rfl
  ·have h29':=kd1 h29;obtain rfl:k=gone.length:=(by omega);rw[kbl,show sl so gone.length co=sl so (gone.map Lib.itoa).length co by simp];refine aF ?_;refine ac ?_;refine mC so<|λO=>?_;rw[aZ] at O;refine bz so ?_;refine al<|C<|gR (vB call263 (n9 (gone.map Lib.itoa) [32] so co (by rw[kcc];omega) O (by decide) (λx hx=>by obtain ⟨p,hp,rfl⟩:=kbV.1 hx;have:=S p hp;exact kaB (dG (by omega)) (by decide))))<|T ?_;exact ar (pcc a #[ptr J 0,ptr bv 0,ptr b 0] 152::dD b J z2::cj 179 319 J (D2)::bo ee::F) rfl ⟨D2,z2,gone,R2,hkl,rfl,rfl⟩
set_option maxRecDepth 4000
structure DkR (i:Nat) (V:VdM) (z:RpM):Prop where
 o:RrO z
 v:BV i V
 d:xc V
 nx:z.next<=2+i
variable {i:Nat}{J V:VdM}{z z2:RpM}
theorem DkR.to (R:DkR i V z)(h:RrO z2)(hv:BV (i+1) J)(hd:xc J)(hx:z2.next<=z.next+1):DkR (i+1) J z2:=⟨h,hv,hd,by have:=R.nx;omega⟩
theorem DkR.vd (R:DkR i V z)(hv:BV (i+1) J)(hd:xc J):DkR (i+1) J z:=R.to R.o hv hd (by omega)
theorem DkR.rp (R:DkR i V z)(h:RrO z2)(hx:z2.next<=z.next+1):DkR (i+1) V z2:=R.to h (fx R.v (by omega)) R.d hx
theorem DkR.le (R:DkR i V z):DkR (i+1) V z:=R.rp R.o (by omega)
theorem DkR.sl (R:DkR i V z):V.snaps.length<=1000000:=by have:=R.v.2.2.2.1;omega
theorem DkR.sz (R:DkR i V z):∀s∈V.snaps,s.size<=16:=λs hs=>(R.v.2.2.2.2 s hs).2
theorem DkR.nr (R:DkR i V z)(h:n=0\/n=z.lr.n):0<=n/\n<=1000:=by
 obtain ⟨G,hC⟩:=R.o.rok.con;have:=hC.v.n1;have e:z.lr.n=z.n:=rfl;omega
theorem DkR.act {x e}(R:DkR i V z)(hi:i<=100)(hk:x.kind≠kL)(h:iO z.lr x=(z2.lr,n,s,e))(J:RrO z2)(hx:z2.next<=z.next+1):
  DkR (i+1) V z2/\E9 e/\(0<=n/\n<=9999)/\xf ⟨V,z.lr⟩ x true=(⟨V,z2.lr⟩,o0 n e)/\xf ⟨V,z.lr⟩ x false=(⟨V,z2.lr⟩,oZ e):=by
 obtain ⟨a,b,c⟩:=Pv V h;obtain ⟨G,hC⟩:=R.o.rok.con;exact ⟨R.rp J hx,a,SZ h hk hC.v.n1 ⟨R.o.rok.next.1,by have:=R.nx;show z.next<=_;omega⟩,b,c⟩
theorem DkR.full {disk O base m J e}(R:DkR i V z)(h:qa V disk O base m J z.lr=(z2.lr,n,e))(S:RrO z2)(hx:z2.next<=z.next+1):DkR (i+1) V z2/\E9 e/\(0<=n/\n<=1000):=by
 have k:=HT V disk O base m J z.lr;rw[h] at k;exact ⟨R.rp S hx,k.1,R.nr k.2⟩
def Sc {disk S J base O e}(R:DkR i V z)(h:xe V disk S J base O z.lr=(z2.lr,n,e))(X:RrO z2)(hx:z2.next<=z.next+1):DkR (i+1) V z2/\E9 e/\(0<=n/\n<=1000):=by
 have k:=Pu V disk S J base O z.lr;rw[h] at k;exact ⟨R.rp X hx,k.1,R.nr k.2⟩
def Va {id}(k:eT z id≠0):iO z.lr (kP na id 0 [])=(z.lr,0,[],eT z id):=by
 show (if ol z.lr id≠0 then (z.lr,(0:Int),([]:Bytes),ol z.lr id) else (z.lr.mounted id,z.lr.next,[],0))=_;rw[zE,kaT k]
def Vb {id x r}(k:eT z id=0):iO z.lr (kP na id 0 [])=((z.mounted x r id).lr,z.next,[],0):=by
 show (if ol z.lr id≠0 then (z.lr,(0:Int),([]:Bytes),ol z.lr id) else (z.lr.mounted id,z.lr.next,[],0))=_;rw[zE,iOm,zF]
 rfl
def Vc {id}(k:mw z.mou id=none):iO z.lr (kP nb id 0 [])=(z.lr,0,[],5):=by
 show ((zB z.lr id).1,_,_,(zB z.lr id).2)=_;unfold zB;rw[show z.lr.mou=z.mou.map mS from rfl,FI,k]
 rfl
def Vd {id y}(k:mw z.mou id=some y):iO z.lr (kP nb id 0 [])=((z.moun (Gr z.mou id)).lr,0,[],0):=by
 show ((zB z.lr id).1,_,_,(zB z.lr id).2)=_;unfold zB;rw[show z.lr.mou=z.mou.map mS from rfl,FI,k,JF,SK]
 rfl
variable {t:Bytes}
def Ve {a b}(k:dE z a b t≠0):iO z.lr (kP nc a b t)=(z.lr,0,[],dE z a b t):=by
 show (if om z.lr a b t≠0 then (z.lr,(0:Int),([]:Bytes),om z.lr a b t) else (z.lr.written a b t,0,[],0))=_;rw[zG,kaT k]
theorem Vf {a b}(k:dE z a b t=0):iO z.lr (kP nc a b t)=((z.written a b t).lr,0,[],0):=by
 show (if om z.lr a b t≠0 then (z.lr,(0:Int),([]:Bytes),om z.lr a b t) else (z.lr.written a b t,0,[],0))=_
 grind[zG,zH]
def DY b z id(J:RrO z)(hn:z.next<=999999)F:cqq 60 [ptr b 0,I id] (e9 b z::F) (λv L'=>∃n e z2,iO z.lr (kP na id 0 [])=(z2.lr,n,[],e)/\RrO z2/\z2.next<=z.next+1/\v= .tuple #[I n,I e]/\L'=e9 b z2::F):=(Ay b z id J F).mono λv L' h=>by
 rcases h with ⟨he,rfl,rfl⟩ | ⟨he,x,r,rfl,rfl⟩
 ·exact ⟨0,_,_,Va he,J,by omega,rfl,rfl⟩
 ·exact ⟨_,_,_,Vb he,J.mounted hn,by show z.next+1<=_;omega,rfl,rfl⟩
def DZ b z id(J:RrO z)F:cqq 61 [ptr b 0,I id] (e9 b z::F) (λv L'=>∃n e z2,iO z.lr (kP nb id 0 [])=(z2.lr,n,[],e)/\RrO z2/\z2.next<=z.next+1/\v=I e/\L'=e9 b z2::F):=(Az b z id F).mono λv L' h=>by
 rcases h with ⟨he,rfl,rfl⟩ | ⟨y,he,rfl,rfl⟩
 ·exact ⟨0,_,_,Vc he,J,by omega,rfl,rfl⟩
 ·exact ⟨_,_,_,Vd he,J.mou _ λe he=>J.rok.keyM e (kcd.1 he).1,by show z.next<=_;omega,rfl,rfl⟩
def HX b z id at_(t:Bytes)(J:RrO z)(ht:t.length<=9223372036854775807)F:cqq 63 [ptr b 0,I id,I at_,ay t] (e9 b z::F) (λv L'=>∃n e z2,iO z.lr (kP nc id at_ t)=(z2.lr,n,[],e)/\RrO z2/\z2.next<=z.next+1/\v=I e/\L'=e9 b z2::F):=(Ga b z id at_ t J ht F).mono λv L' h=>by
 rcases h with ⟨he,rfl,rfl⟩ | ⟨he,rfl,rfl⟩
 ·exact ⟨0,_,_,Ve he,J,by omega,rfl,rfl⟩
 ·exact ⟨_,_,_,Vf he,J.written _ _ _,by rw[DU];omega,rfl,rfl⟩
def P8 (x bw i:Nat)(Y:CoS×Bytes)(F:List ag):Value->List ag->Prop:=λv L'=>∃V2 z2 b2 t,DkR (i+1) V2 z2/\Y=(⟨V2,z2.lr⟩,t)/\v=ay t/\L'=pcc x #[ptr bw 0,ptr b2 0] 154::iD bw (V2)::e9 b2 (z2)::F
variable {Y:CoS×Bytes}
def dC {c:Cx}{K:List KI}{E:di}{L F:List ag}{x V:Nat}(O:Nat)(Z:c.R=P8 x V i Y F)(hr:fY E c.fn.results.toList=some [ay t])(X:DkR (i+1) J z2)(hY:Y=(⟨J,z2.lr⟩,t))[S:Sub L (pcc x #[ptr V 0,ptr O 0] 154::iD V (J)::e9 O (z2)::F)](hds:c.n.ds=[]:=by rfl):G c (.code .ret::K) E L:=
 ar _ hr (by rw[Z];exact ⟨J,z2,O,t,X,hY,rfl,rfl⟩) hds
def kh n(h:0<=n/\n<=1000)F:cqq 162 [I n] F (R1 (ay (Lib.itoa n)) F):=by
 obtain ⟨u,rfl⟩:∃u:Nat,n=u:=⟨n.toNat,by omega⟩;rw[ic];exact rx u (by omega) F
def HY x Y J i V z(R:DkR i V z)(hi:i<=100)(w:Bytes)F:cqq 88 [ptr x 0,ay w] (pcc x #[ptr Y 0,ptr J 0] 154::iD Y V::e9 J z::F) (P8 x Y i (Aa ⟨V,z.lr⟩ w) F):=by
 obtain ⟨G,hC⟩:=R.o.rok.con;have hV:=R.v;have hsn:=JZ R.v;have hlen:=hC.v.len;have hok:=lh hC.v;refine Ct.of func88 W 116 ntmps88 (by simp) λw0=>?_;refine A<|T<|ac<|A<|C<|ab<|ak<|A<|M bV<|T<|ah ?_ ?_<;>intro h9
 ·obtain rfl:=kd0 h9;refine A<|C<|M aa<|gF 0 Yo W Zs<|gL (ptr Y 0) ZG<|gR (vB call78 (w5 Y V R.sl (by have:=hV.2.1;omega)))<|gX (I (Eb V))<|gX (I (BU V))<|gR (vA call91 (o7 (Eb V) (BU V) (SU V) (by omega)))<|T ?_;exact dC J rfl rfl (R.vd (fx (OG R.v) (by omega)) (O3 R.d))<|rfl
 ·refine A<|M bV<|T<|ah ?_ ?_<;>intro h19
  ·obtain rfl:=kd0 h19;refine A<|C<|M aa<|gF 0 Yo W Zs<|gL (ptr Y 0) ZG<|gR (vB call80 (uP Y V (by have:=hV.2.2.1;omega)))<|ab<|A<|T ?_;exact dC J rfl rfl (R.vd (OI R.v) (O5 R.d))<|rfl
  ·refine A<|M bV<|T<|ah ?_ ?_<;>intro h26
   ·obtain rfl:=kd0 h26;refine ac ?_;refine dX J z ?_;intro bs s9 c9 O rs rm;refine go O z.S z.L z.n ?_;intro Z s0 c0;refine aY 9 1 (strR ((z.L.take 0).map gv)) ?_;refine al<|T<|ac<|A<|T<|ak ?_;refine aL (α:=Nat×Option Addr×Nat) (λX=>X.1<=z.L.length) (λX=>U [(0,ptr x 0),(5,sl X.2.1 X.1 X.2.2),(6,I X.1)]) (λX=>be 9 1 X.2.1 X.2.2 (strR (((z.L).take X.1).map gv))::pcc x #[ptr Y 0,ptr J 0] 154::pcc J #[ptr bs 0,ptr O 0, .map (some rs), .map (some rm),I z.next] 46::pcc O #[ptr Z 0,sl s0 z.L.length c0,I z.n] 126::be 162 4 s0 c0 (gb z.L)::kY Z (xS z.S)::pcc bs #[sl s9 z.rows.length c9,I (z.used:Int),I ((260 - 122:Nat):Int)] 91::roL 3 s9 (bI z.rows)::mp rs (fm z.ses)::big lU z.ses::mp rm (fo z.mou)::big nf z.mou::iD Y V::F) (λX=>z.L.length - X.1) (0,none,0) (by simp) [0,5,6] rfl ?_;rintro ⟨j,so,co⟩ hj;simp only[] at hj ⊢;refine ac<|A<|C<|C<|M aa<|gF 1 Yo W YE<|gL (ptr J 0) YT<|M aa<|gF 1 XT W YJ<|gL (ptr O 0) YW<|M aa<|gF 1 XY W XS<|gL (sl s0 z.L.length c0) Ya<|M (aP XP)<|M aG<|ab<|ah ?_ ?_<;>intro h40
    ·have h40':=kd0 h40;have hin:j<z.L.length:=(by omega);obtain ⟨p,hp⟩:∃p,z.L[j]? =some p:=⟨_,kbN hin⟩;have hpm:=kbe hp;obtain ⟨⟨hi1,hi2,hi3⟩,hps⟩:=uV hC p hpm;have hl1:=dG hi1;have hl2:=dG hi2;have hl3:=dG hi3;refine ai<|ac<|ak<|A<|C<|M aa<|gF 1 Yo W YE<|gL (ptr J 0) YT<|M aa<|gF 1 XT W YJ<|gL (ptr O 0) YW<|M aa<|gF 1 XY W XS<|gL (sl s0 z.L.length c0) Ya<|C<|M (av j XP XE hin (by rw[cR];exact hin))<|M (bO (row:=aW p) YI XE (g8 hp))<|gI (aO #[I 0,I 0,I 0,I 0] X4) ?_;rintro _ _ ⟨b7,rfl,rfl⟩;refine gU (az (cs:=#[I 0,I 0,I 0,I 0]) (vs:=aW (p)) (aW (p)).toArray XE (by simp) (hcs:=by exact aH))<|ab ?_;refine cn (Lf:=[pcc b7 (aW p).toArray 162]) jc ?_;refine dM W<|dF W 0 XQ W Xu<|dL W (I p.id) Xv<|dF W 1 XQ W Xu<|dL W (I p.disk) Xv<|dF W 2 XQ W Xu<|dL W (I p.size) Xv<|cQ W (uA call162 (kh (p.id) hi1)) ?_;rintro _ _ ⟨rfl,rfl⟩;refine dV W (cf (by simp;omega))<|cQ W (uA call162 (kh (p.disk) hi2)) ?_;rintro _ _ ⟨rfl,rfl⟩;refine dV W (cf (by simp;omega))<|dV W (cf (by simp;omega))<|cQ W (uA call162 (kh (p.size) hi3)) ?_;rintro _ _ ⟨rfl,rfl⟩;refine dV W (cf (by simp;omega))<|cQ W (ap [[ay (gv p)]] XC Xx X9 (by simp)) ?_;rintro _ _ ⟨b70,rfl,rfl⟩;refine cQ rfl (aR XC Xx X9 Tryz.typeInfo9 (hn:=by rw[aZ,kcc,kbq];omega) (by simp) (by intro r hr;simp at hr;subst hr;rfl) ⟨by simp;omega,by decide,by decide⟩) ?_;rintro _ _ ⟨s71,c71,rfl,rfl⟩;refine dV W ax ?_;refine aN ?_;refine aE<|al<|C<|M (bx (r:=((j+1:Nat):Int)) (cK (by omega)))<|T ?_;rw[show strR ((z.L.take j).map gv)++ [[ay (gv p)]]=strR ((z.L.take (j+1)).map gv) by rw[kdb,hp];simp[strR]];exact an (j+1,s71,c71) (by simp only[];omega) (by simp only[];omega) [0,5,6] rfl
    ·have h40':=kd1 h40;obtain rfl:j=z.L.length:=(by omega);rw[kbl,show sl so z.L.length co=sl so (z.L.map gv).length co by simp];refine aF ?_;refine ac ?_;refine bz so ?_;refine al<|C<|gR (vB call163 (n8 (z.L.map gv) DT so co (by rw[kcc];omega) (by decide) (λx hx=>by obtain ⟨p,hp,rfl⟩:=kbV.1 hx;exact (uV hC p hp).2)))<|T ?_;refine dW O Z s0 c0 z.S z.L z.n ?_;refine bY J z bs s9 c9 O rs rm ?_;exact dC J rfl rfl (R.le)<|rfl
   ·refine A<|M bV<|T<|ah ?_ ?_<;>intro h74
    ·obtain rfl:=kd0 h74;refine ac ?_;refine dX J z ?_;intro bs s9 c9 O rs rm;refine go O z.S z.L z.n ?_;intro Z s0 c0;have hb0:0<=((ck 40 z.S.B).length:Int)/\((ck 40 z.S.B).length:Int)<=1000:=(by have:=eM 40 z.S.B;omega);have hn0:0<=((ck 24 z.S.N).length:Int)/\((ck 24 z.S.N).length:Int)<=1000:=(by have:=eM 24 z.S.N;omega);have hb1:=dG hb0;have hn1:=dG hn0;refine gD (Lf:=[pcc x #[ptr Y 0,ptr J 0] 154,pcc J #[ptr bs 0,ptr O 0, .map (some rs), .map (some rm),I z.next] 46,pcc O #[ptr Z 0,sl s0 z.L.length c0,I z.n] 126]) (plN [0,2,4,6,8,10,12,14,16,18,28,30,32,34,36,38,40,42,44,46,21,22,25,26,49,50,53,54,56])<|dM W<|dV W aa<|dF W 1 Yo W YE<|dL W (ptr J 0) YT<|dV W aa<|dF W 1 XT W YJ<|dL W (ptr O 0) YW<|dV W aa<|dF W 0 XY W YV<|dL W (ptr Z 0) Y4<|dM W<|dV W aa<|dF W 1 Yo W YE<|dL W (ptr J 0) YT<|dV W aa<|dF W 1 XT W YJ<|dL W (ptr O 0) YW<|dV W aa<|dF W 0 XY W YV<|dL W (ptr Z 0) Y4<|cQ W (uB call108 (wG Z (xS z.S) (λk _=>Wm hok k))) ?_;rintro _ _ ⟨s86,c86,rfl,rfl⟩;rw[FN hok];refine dV W (aP XB)<|cQ W (uA call162 (kh (((ck 40 z.S.B).length:Int)) hb0)) ?_;rintro _ _ ⟨rfl,rfl⟩;refine dV W (cf (by simp;omega))<|cQ W (uB call110 (zK Z z.S 200 hok)) ?_;rintro _ _ ⟨s100,c100,rfl,rfl⟩;refine dV W (aP XB)<|cQ W (uA call162 (kh (((ck 24 z.S.N).length:Int)) hn0)) ?_;rintro _ _ ⟨rfl,rfl⟩;refine dV W (cf (by simp;omega))<|dV W ax ?_;refine aN ?_;refine dW O Z s0 c0 z.S z.L z.n ?_;refine bY J z bs s9 c9 O rs rm ?_;exact dC J rfl rfl (R.le)<|rfl
    ·refine A<|M bV<|T<|ah ?_ ?_<;>intro h104
     ·obtain rfl:=kd0 h104;refine ac ?_;refine dX J z ?_;intro bs s9 c9 O rs rm;refine al<|C<|M aa<|gF 1 Yo W YE<|gL (ptr J 0) YT<|M aa<|gF 0 XT W Z4<|gL (ptr bs 0) kag<|M aa<|gF 1 Zk W Xu<|gU (aJ #[sl s9 z.rows.length c9,I 0,I ((260 - 122:Nat):Int)] Xu (by simp))<|ab<|A<|T ?_;refine bY J ⟨z.h,0,z.rows,z.S,z.L,z.n,z.ses,z.mou,z.next⟩ bs s9 c9 O rs rm ?_;exact dC (z2:=⟨z.h,0,z.rows,z.S,z.L,z.n,z.ses,z.mou,z.next⟩) J rfl rfl (R.rp ⟨⟨R.o.rok.con,R.o.rok.next,R.o.rok.keyS,R.o.rok.keyM,R.o.rok.sesS⟩,R.o.rows,kcS _⟩ (by show z.next<=_;omega))<|rfl
     ·refine ai<|aE<|A<|gR (vA call83 (eu (4) (by decide)))<|T ?_;exact dC J rfl rfl (R.le) (by unfold Aa;rw[kaU (kd1 h9),kaU (kd1 h19),kaU (kd1 h26),kaU (kd1 h74),kaU (kd1 h104)])
def PE x Y J i V z(R:DkR i V z)(hi:i<=100)(w:Bytes)n(hn:0<=n/\n<=999)F:cqq 89 [ptr x 0,ay w,I n] (pcc x #[ptr Y 0,ptr J 0] 154::iD Y V::e9 J z::F) (P8 x Y i (Pg ⟨V,z.lr⟩ w n) F):=by
 obtain ⟨G,hC⟩:=R.o.rok.con;have hV:=R.v;have hlen:=hC.v.len;refine Ct.of func89 W 151 ntmps89 (by simp) λw0=>?_;refine A<|T<|ac<|A<|C<|ab<|ak<|A<|M bV<|T<|ah ?_ ?_<;>intro h14
 ·obtain rfl:=kd0 h14;refine A<|C<|M aa<|gF 0 Yo W Zs<|gL (ptr Y 0) ZG<|C<|gR (vB call77 (uO Y V n hV.1))<|gR (vA call86 (mz (F3 n) (SV n)))<|T ?_;exact dC J rfl rfl (R.vd (fx (OE R.v n) (by omega)) (O2 R.d n))<|rfl
 ·refine A<|M bV<|T<|ah ?_ ?_<;>intro h23
  ·obtain rfl:=kd0 h23;refine A<|C<|M aa<|gF 0 Yo W Zs<|gL (ptr Y 0) ZG<|C<|gR (vB call79 (w6 Y V n R.sl))<|gR (vA call86 (mz (HK V n) (SX V n)))<|T ?_;exact dC J rfl rfl (R.vd (fx (OH R.v n) (by omega)) (O4 R.d n))<|rfl
  ·refine A<|M bV<|T<|ah ?_ ?_<;>intro h32
   ·obtain rfl:=kd0 h32;refine ac ?_;refine dX J z ?_;intro bs s9 c9 Z rs rm;refine al<|C<|M aa<|gF 1 Yo W YE<|gL (ptr J 0) YT<|M aa<|gF 1 XT W YJ<|gL (ptr Z 0) YW<|C<|gR (vB call127 (iP Z z.S z.L z.n n (by omega)))<|C<|gX (.agg (aW ((aX z.L n).getD iB)).toArray)<|gX (Bo (aX z.L n).isSome)<|gI (aO #[I 0,I 0,I 0,I 0] X4) ?_;rintro _ _ ⟨b7,rfl,rfl⟩;refine gU (az (cs:=#[I 0,I 0,I 0,I 0]) (vs:=aW ((aX z.L n).getD iB)) (aW ((aX z.L n).getD iB)).toArray XE (by simp) (hcs:=by exact aH))<|T<|ac<|A<|C<|M cS<|ab<|ah ?_ ?_<;>intro h47
    ·have hno:aX z.L n=none:=(by simpa using h47);rw[hno];refine A<|gR (vA call83 (eu (5) (by decide)))<|T ?_;refine bY J z bs s9 c9 Z rs rm ?_;exact dC J rfl rfl (R.le) (by show ((_:CoS),match aX z.L n with | none=>_ | some p=>_)=_;rw[hno])
    ·obtain ⟨p,hf⟩:∃p,aX z.L n=some p:=by
      cases hf:aX z.L n with
      | none=>rw[hf] at h47;simp at h47
      | some p=>exact ⟨p,rfl⟩
     rw[hf];simp only[Option.getD_some];have hsz16:=(hC.v.pts p (dq hf).1).2.2;refine ai<|ac ?_;refine aY 9 1 (strR (((List.range p.size.toNat).take 0).map (λk:Nat=>gJ (j5 z.S z.L n (k:Int)).1))) ?_;refine al<|T<|ac<|A<|T<|ak ?_;refine aL (α:=Nat×Option Addr×Nat) (λq0=>q0.1<=p.size.toNat) (λq0=>U [(0,ptr x 0),(2,I n),(7,ptr b7 0),(9,sl q0.2.1 q0.1 q0.2.2),(10,I q0.1)]) (λq0=>be 9 1 q0.2.1 q0.2.2 (strR ((((List.range p.size.toNat)).take q0.1).map (λk:Nat=>gJ (j5 z.S z.L n (k:Int)).1)))::pcc b7 (aW p).toArray 162::pcc x #[ptr Y 0,ptr J 0] 154::pcc J #[ptr bs 0,ptr Z 0, .map (some rs), .map (some rm),I z.next] 46::oo Z z.S z.L z.n::pcc bs #[sl s9 z.rows.length c9,I (z.used:Int),I ((260 - 122:Nat):Int)] 91::roL 3 s9 (bI z.rows)::mp rs (fm z.ses)::big lU z.ses::mp rm (fo z.mou)::big nf z.mou::iD Y V::F) (λq0=>p.size.toNat - q0.1) (0,none,0) (by simp) [0,2,7,9,10] rfl ?_;rintro ⟨j,so,co⟩ hj;simp only[] at hj ⊢;have hrl:(List.range p.size.toNat).length=p.size.toNat:=kdy;refine ac<|A<|C<|gF 2 XQ W Xu<|gL (I p.size) Xv<|M aG<|ab<|ah ?_ ?_<;>intro h52
     ·have h52':=kd0 h52;have hin:j<p.size.toNat:=(by omega);have hp:(List.range p.size.toNat)[j]? =some j:=(by rw[kdz hin]);refine ai<|ac<|ak<|A<|C<|M aa<|gF 1 Yo W YE<|gL (ptr J 0) YT<|M aa<|gF 1 XT W YJ<|gL (ptr Z 0) YW<|C<|C<|gR (vB call135 (zN Z z.S z.L z.n n (j:Int) G hC.v))<|C<|gX (ay (j5 z.S z.L n (j:Int)).1)<|gX (I (j5 z.S z.L n (j:Int)).2)<|gA<|T<|al<|C<|C<|gR (vA call164 (B5 (j5 z.S z.L n (j:Int)).1))<|gI (ap [[ay (gJ (j5 z.S z.L n (j:Int)).1)]] XC Xx X9 (by simp)) ?_;rintro _ _ ⟨b71,rfl,rfl⟩;refine gI (aR XC Xx X9 Tryz.typeInfo9 (hn:=by rw[aZ,kcc,kbq];omega) (by simp) (by intro r hr;simp at hr;subst hr;rfl) ⟨by simp;omega,by decide,by decide⟩) ?_;rintro _ _ ⟨s72,c72,rfl,rfl⟩;refine T<|aE<|al<|C<|M (bx (r:=((j+1:Nat):Int)) (cK (by omega)))<|T ?_;rw[show strR (((List.range p.size.toNat).take j).map (λk:Nat=>gJ (j5 z.S z.L n (k:Int)).1))++ [[ay (gJ (j5 z.S z.L n (j:Int)).1)]]=strR (((List.range p.size.toNat).take (j+1)).map (λk:Nat=>gJ (j5 z.S z.L n (k:Int)).1)) by rw[kdb,hp];simp[strR]];exact an (j+1,s72,c72) (by simp only[];omega) (by simp only[];omega) [0,2,7,9,10] rfl
     ·have h52':=kd1 h52;obtain rfl:j=p.size.toNat:=(by omega);rw[show (List.range p.size.toNat).take p.size.toNat=(List.range p.size.toNat) by rw[kcI (by simp)],show sl so p.size.toNat co=sl so ((List.range p.size.toNat).map (λk:Nat=>gJ (j5 z.S z.L n (k:Int)).1)).length co by simp];refine aF ?_;refine ac ?_;refine bz so ?_;refine al<|C<|gR (vB call163 (n8 ((List.range p.size.toNat).map (λk:Nat=>gJ (j5 z.S z.L n (k:Int)).1)) [32] so co (by rw[kcc,kdy];omega) (by decide) (λx hx=>by obtain ⟨k,hk,rfl⟩:=kbV.1 hx;exact B6 (J2 hC _ _))))<|T ?_;refine bY J z bs s9 c9 Z rs rm ?_;exact dC J rfl rfl (R.le) (by show ((_:CoS),match aX z.L n with | none=>_ | some p=>_)=_;rw[hf];rfl)
   ·refine A<|M bV<|T<|ah ?_ ?_<;>intro h75
    ·obtain rfl:=kd0 h75;refine A<|C<|M aa<|gF 1 Yo W YE<|gL (ptr J 0) YT<|C<|gI (uB call57 (FV J z n R.o)) ?_;rintro _ _ ⟨n2,e,z2,hk,h2,X,rfl,rfl⟩;obtain ⟨R2,O,hn9,hat,haf⟩:=R.act (x:=kP se n 0 []) hi (show se≠kL by decide) (by show ((sZ z.lr n).1,(sZ z.lr n).2.1,([]:Bytes),(sZ z.lr n).2.2)=_;rw[hk]) h2 (by omega);refine gX (I n2)<|gX (I e)<|gR (vA call91 (o7 (n2) (e) O (by omega)))<|T ?_;exact dC J rfl rfl (R2)<|hat
    ·refine A<|M bV<|T<|ah ?_ ?_<;>intro h86
     ·obtain rfl:=kd0 h86;refine A<|C<|M aa<|gF 1 Yo W YE<|gL (ptr J 0) YT<|C<|gI (uB call58 (Ad J z n R.o)) ?_;rintro _ _ ⟨e,z2,hk,h2,_,_,X,rfl,rfl⟩;obtain ⟨R2,O,hn9,hat,haf⟩:=R.act (x:=kP sf n 0 []) hi (show sf≠kL by decide) (by show ((kX z.lr n).1,(0:Int),([]:Bytes),(kX z.lr n).2)=_;rw[hk]) h2 (by omega);refine gR (vA call86 (mz (e) O))<|T ?_;exact dC J rfl rfl (R2)<|haf
     ·refine A<|M bV<|T<|ah ?_ ?_<;>intro h95
      ·obtain rfl:=kd0 h95;refine A<|C<|M aa<|gF 1 Yo W YE<|gL (ptr J 0) YT<|C<|gI (uB call60 (DY J z n R.o (by have:=R.nx;omega))) ?_;rintro _ _ ⟨n2,e,z2,hk,h2,X,rfl,rfl⟩;obtain ⟨R2,O,hn9,hat,haf⟩:=R.act hi (show na≠kL by decide) hk h2 X;refine gX (I n2)<|gX (I e)<|gR (vA call91 (o7 (n2) (e) O (by omega)))<|T ?_;exact dC J rfl rfl (R2)<|hat
      ·refine A<|M bV<|T<|ah ?_ ?_<;>intro h106
       ·obtain rfl:=kd0 h106;refine A<|C<|M aa<|gF 1 Yo W YE<|gL (ptr J 0) YT<|C<|gI (uB call61 (DZ J z n R.o)) ?_;rintro _ _ ⟨n2,e,z2,hk,h2,X,rfl,rfl⟩;obtain ⟨R2,O,hn9,hat,haf⟩:=R.act hi (show nb≠kL by decide) hk h2 X;refine gR (vA call86 (mz (e) O))<|T ?_;exact dC J rfl rfl (R2)<|haf
       ·refine A<|M bV<|T<|ah ?_ ?_<;>intro h115
        ·obtain rfl:=kd0 h115;refine ac<|gD (Lf:=[pcc x #[ptr Y 0,ptr J 0] 154]) (plN [0,2,4,6,8,10,12,14,16,19,20,22,25,26])<|dM W<|dV W aa<|dF W 1 Yo W YE<|dL W (ptr J 0) YT<|dM W<|dV W aa<|dF W 0 Yo W Zs<|dL W (ptr Y 0) ZG<|dM W<|cQ W (uC call21 (HO J Y z V 1 n 3 R.o (by have:=R.nx;omega) R.sl R.sz R.d)) ?_;rintro _ _ ⟨n2,e,z2,hcl,h2,X,rfl,rfl⟩;obtain ⟨R2,O,hn9⟩:=R.full hcl h2 X;refine dV W (aB (v:=I n2))<|dV W (aB (v:=I e))<|cQ W (uA call91 (o7 (n2) (e) O (by omega))) ?_;rintro _ _ ⟨rfl,rfl⟩;refine dV W ax ?_;refine aN ?_;exact dC J rfl rfl (R2)<|kay (Lz ⟨V,z.lr⟩) hcl
        ·refine A<|M bV<|T<|ah ?_ ?_<;>intro h130
         ·obtain rfl:=kd0 h130;refine ac ?_;refine dX J z ?_;intro bs s9 c9 Z rs rm;refine eE (Lf:=[pcc x #[ptr Y 0,ptr J 0] 154,pcc J #[ptr bs 0,ptr Z 0, .map (some rs), .map (some rm),I z.next] 46]) (plN [0,2,4,6,8,10,12,14,16,18,20,22,24,26,28,31,32,34]) 18 ?_;refine dM W<|dM W<|dV W aa<|dF W 1 Yo W YE<|dL W (ptr J 0) YT<|dV W aa<|dF W 0 XT W Z4<|dL W (ptr bs 0) kag<|dM W<|dV W aa<|dF W 1 Yo W YE<|dL W (ptr J 0) YT<|dV W aa<|dF W 1 XT W YJ<|dL W (ptr Z 0) YW<|cQ W (uA call11 (B3 bs Z)) ?_;rintro _ _ ⟨b2,r2,m2,rfl,rfl⟩;refine dV W aa<|dF W 1 Yo W YE ?_;refine aN ?_;refine gU (aJ #[ptr Y 0,ptr b2 0] YE (by simp))<|ab<|A<|T ?_;refine nG r2 (fm []) (.refl _) ?_;refine nG m2 (fo []) (.refl _) ?_;refine bY b2 ⟨z.h,z.used,z.rows,z.S,z.L,z.n,[],[],1⟩ bs s9 c9 Z r2 m2 ?_;exact dC b2 rfl rfl (R.rp R.o.anew (by have:=R.o.rok.next;show (1:Int)<=_;omega))<|rfl
         ·refine ai<|aE<|A<|gR (vA call83 (eu (4) (by decide)))<|T ?_;exact dC J rfl rfl (R.le) (by unfold Pg;rw[kaU (kd1 h14),kaU (kd1 h23),kaU (kd1 h32),kaU (kd1 h75),kaU (kd1 h86),kaU (kd1 h95),kaU (kd1 h106),kaU (kd1 h115),kaU (kd1 h130)])
set_option maxRecDepth 4000
def P6 (a bd bv i:Nat)(Y:CoS×Bytes)(F:List ag):Value->List ag->Prop:=λv L'=>∃D2 V2 z2 b2 t k,CoR (i+1) D2 V2 z2/\Y=(⟨V2,z2.lr⟩,if k=true then t else i8 4)/\v= .tuple #[ay t,Bo k]/\L'=pcc a #[ptr bd 0,ptr bv 0,ptr b2 0] 152::gp bv (V2)::dD b2 bd (z2)::cj 179 319 bd (D2)::tabs::F
def fh {c:Cx}{K:List KI}{E:di}{L F:List ag}{a O bv:Nat}{V:DiskM}{k:Bool}(X:Nat)(hR:c.R=P6 a O bv i Y F)(hr:fY E c.fn.results.toList=some [ay t,Bo k])(Z:CoR (i+1) V J z2)(hY:Y=(⟨J,z2.lr⟩,if k=true then t else i8 4))[S:Sub L (pcc a #[ptr O 0,ptr bv 0,ptr X 0] 152::gp bv (J)::dD X O (z2)::cj 179 319 O (V)::tabs::F)](hds:c.n.ds=[]:=by rfl):G c (.code .ret::K) E L:=
 ar _ hr (by rw[hR];exact ⟨V,J,z2,X,t,k,Z,hY,rfl,rfl⟩) hds
def PF {α:Type}(e:α->Value)(n:Nat)(B:Int->Option α)(h:n<=1000:=by decide):0<=((tb e n B).length:Int)/\((tb e n B).length:Int)<=1000:=by
 have:=eM n B;rw[fF];omega
def HZ b J z D id(O:Rok z)F:cqq 48 [ptr b 0,I id] (dD b J z::F) (λv L'=>∃n e z2,e7 D z (kP na id 0 []) n [] e D z2/\v= .tuple #[I n,bQ e]/\L'=dD b J z2::F):=(sW b J z id O F).mono λv L' h=>by
 rcases h with ⟨he,rfl,rfl⟩ | ⟨he,x,r,rfl,rfl⟩
 ·exact ⟨0,_,_,U3 he,rfl,rfl⟩
 ·exact ⟨_,_,_,U4 he,rfl,rfl⟩
def D4 b J z D id F:cqq 49 [ptr b 0,I id] (dD b J z::F) (λv L'=>∃n e z2,e7 D z (kP nb id 0 []) n [] e D z2/\v=bQ e/\L'=dD b J z2::F):=(qJ b J z id F).mono λv L' h=>by
 rcases h with ⟨he,rfl,rfl⟩ | ⟨y,he,rfl,rfl⟩
 ·exact ⟨0,_,_,U5 he,rfl,rfl⟩
 ·exact ⟨_,_,_,U6 he,rfl,rfl⟩
def H0 b J z D id at_(t:Bytes)(O:Rok z)(ht:t.length<=9223372036854775807)F:cqq 51 [ptr b 0,I id,I at_,ay t] (dD b J z::F) (λv L'=>∃n e z2,e7 D z (kP nc id at_ t) n [] e D z2/\v=bQ e/\L'=dD b J z2::F):=(sX b J z id at_ t O ht F).mono λv L' h=>by
 rcases h with ⟨he,rfl,rfl⟩ | ⟨he,rfl,rfl⟩
 ·exact ⟨0,_,_,U7 he,rfl,rfl⟩
 ·exact ⟨_,_,_,U8 he,rfl,rfl⟩
def H1 a J bv b i V D z(R:CoR i D V z)(hi:i<=100)(w:Bytes)F:cqq 158 [ptr a 0,ay w] (tabs::pcc a #[ptr J 0,ptr bv 0,ptr b 0] 152::gp bv V::dD b J z::cj 179 319 J (D)::F) (P6 a J bv i (Aa ⟨V,z.lr⟩ w) F):=by
 obtain ⟨G,hC⟩:=R.up.rep.rok.con;have hV:=R.v;have hsn:=JZ R.v;refine Ct.of func158 W 69 ntmps158 (by simp) λw0=>?_;refine A<|gA<|T<|ac<|A<|C<|ab<|ak<|A<|M bV<|T<|ah ?_ ?_<;>intro h7
 ·obtain rfl:=kd0 h7;refine A<|C<|M aa<|gF 1 Yv W Zr<|gL (ptr bv 0) ZF<|gR (vB call68 (AA bv V R.sl (by have:=hV.2.1;omega)))<|gX (I (Eb V))<|gX (bQ (BU V))<|gR (vB (A0:=tabs) call161 (o6 (Eb V) (BU V) (SU V) (by omega)))<|gA<|T ?_;exact fh b rfl rfl (R.vd (fx (OG R.v) (by omega)) (O3 R.d))<|rfl
 ·refine A<|M bV<|T<|ah ?_ ?_<;>intro h17
  ·obtain rfl:=kd0 h17;refine A<|C<|M aa<|gF 1 Yv W Zr<|gL (ptr bv 0) ZF<|gR (vB call75 (wV bv V (by have:=hV.2.2.1;omega)))<|ab<|A<|gA<|T ?_;exact fh b rfl rfl (R.vd (OI R.v) (O5 R.d))<|rfl
  ·refine A<|M bV<|T<|ah ?_ ?_<;>intro h24
   ·obtain rfl:=kd0 h24;refine A<|C<|gR (vD (A0:=tabs) call222 (Gg a J bv b z G hC))<|gA<|T ?_;exact fh b rfl rfl (R.le)<|rfl
   ·refine A<|M bV<|T<|ah ?_ ?_<;>intro h28
    ·obtain rfl:=kd0 h28;refine ac<|gD (Lf:=[pcc a #[ptr J 0,ptr bv 0,ptr b 0] 152]) (plN [0,2,4,6,34,36,38,40,9,10,12,15,16,18,21,22,24,27,29,31,32,43,44,46,49,50,52,55,57,59,60,62,64])<|dM W<|dV W aa<|dF W 2 Yv W YU<|dL W (ptr b 0) Y9<|dM W<|dV W aa<|dF W 2 Yv W YU<|dL W (ptr b 0) Y9<|cQ W (uB call16 (g9 b J (z) (by have:=hC.v.len;omega))) ?_;rintro _ _ ⟨q,rfl,rfl⟩;refine ge q z.S z.L z.n ?_;intro x0 s0 c0;refine fl x0 z.S ?_;intro p0 r0;refine kI p0 z.S.B ?_;intro m0;have X:=PF cP 40 z.S.B;have Y:=PF cl 24 z.S.N;have hb1:=dG X;have hb2:=dG Y;refine dV W aa<|dF W 0 XK W X7<|cQ W (OpL.ofV (aA (v:=ptr x0 0) Yb)) ?_;rintro _ _ ⟨rfl,rfl⟩;refine dV W aa<|dF W 0 XX W YY<|cQ W (OpL.ofV (aA (v:=ptr p0 0) Y3)) ?_;rintro _ _ ⟨rfl,rfl⟩;refine dV W aa<|dF W 0 YN W YH<|cQ W (OpL.ofV (aA (v:= .map (some m0)) YO)) ?_;rintro _ _ ⟨rfl,rfl⟩;refine cQ W (OpL.ofV (ky Yz)) ?_;rintro _ _ ⟨rfl,rfl⟩;refine cQ W (uB (A0:=tabs) call217 (jx ((tb cP 40 z.S.B).length) (by have:=X;omega) (by have:=X;omega))) ?_;rintro _ _ ⟨rfl,rfl⟩;refine dV W (cf (by simp;omega))<|cQ W (uB call16 (g9 b J (z) (by have:=hC.v.len;omega))) ?_;rintro _ _ ⟨q1,rfl,rfl⟩;refine ge q1 z.S z.L z.n ?_;intro x1 s1 c1;refine fl x1 z.S ?_;intro p1 m1;refine dV W aa<|dF W 0 XK W X7<|cQ W (OpL.ofV (aA (v:=ptr x1 0) Yb)) ?_;rintro _ _ ⟨rfl,rfl⟩;refine dV W aa<|dF W 1 XX W Yf<|cQ W (OpL.ofV (aA (v:= .map (some m1)) Yk)) ?_;rintro _ _ ⟨rfl,rfl⟩;refine cQ W (OpL.ofV (ky Yl)) ?_;rintro _ _ ⟨rfl,rfl⟩;refine cQ W (uB (A0:=tabs) call217 (jx ((tb cl 24 z.S.N).length) (by have:=Y;omega) (by have:=Y;omega))) ?_;rintro _ _ ⟨rfl,rfl⟩;refine dV W (cf (by simp;omega))<|dV W ax<|dV W ax ?_;refine aN ?_;exact fh b rfl rfl (R.le) (by rw[fF,fF];rfl)
    ·refine A<|M bV<|T<|ah ?_ ?_<;>intro h61
     ·obtain rfl:=kd0 h61;refine A<|C<|M aa<|gF 2 Yv W YU<|gL (ptr b 0) Y9<|gI (uC call52 (uv b J 1000 z D (R.dk hi) (by decide))) ?_;rintro _ _ ⟨e,D2,O,rfl,⟨hne,rfl⟩ | ⟨he0,ds,Z,hu2,hsc,rfl⟩⟩
      ·exact absurd (R.sav hi ⟨O, .inl ⟨hne,rfl⟩⟩).1 hne
      obtain ⟨rfl,R2,hlr⟩:=R.sav hi ⟨O, .inr ⟨he0,ds,Z,hu2,hsc,rfl⟩⟩;refine gR (vB (A0:=tabs) call221 (kg (0) (by decide)))<|gA<|T ?_;exact fh b rfl rfl (R2) (by rw[hlr];rfl)
     ·refine ai<|aE<|A<|gA<|T ?_;exact fh b rfl rfl (R.le)<|(by unfold Aa;rw[kaU (kd1 h7),kaU (kd1 h17),kaU (kd1 h24),kaU (kd1 h28),kaU (kd1 h61)] <;> rfl)
def PG a O bv b i V D z(R:CoR i D V z)(hi:i<=100)w n(hna:w≠SR)(hn:0<=n/\n<=999)F:cqq 159 [ptr a 0,ay w,I n] (tabs::pcc a #[ptr O 0,ptr bv 0,ptr b 0] 152::gp bv V::dD b O z::cj 179 319 O (D)::F) (P6 a O bv i (Pg ⟨V,z.lr⟩ w n) F):=by
 obtain ⟨G,hC⟩:=R.up.rep.rok.con;have hV:=R.v;obtain ⟨hq1,hq2,hq3,hq4,hq5⟩:=R.up.rep.ok;refine Ct.of func159 W 107 ntmps159 (by simp) λw0=>?_;refine A<|gA<|T<|ac<|A<|C<|ab<|ak<|A<|M bV<|T<|ah ?_ ?_<;>intro h9
 ·obtain rfl:=kd0 h9;refine A<|C<|M aa<|gF 1 Yv W Zr<|gL (ptr bv 0) ZF<|C<|gR (vB call73 (wX bv V n hV.1))<|gR (vB (A0:=tabs) call221 (kg (F3 n) (SV n)))<|gA<|T ?_;exact fh b rfl rfl (R.vd (fx (OE R.v n) (by omega)) (O2 R.d n))<|rfl
 ·refine A<|M bV<|T<|ah ?_ ?_<;>intro h18
  ·obtain rfl:=kd0 h18;refine A<|C<|M aa<|gF 1 Yv W Zr<|gL (ptr bv 0) ZF<|C<|gR (vB call74 (AD bv V n R.sl))<|gR (vB (A0:=tabs) call221 (kg (HK V n) (SX V n)))<|gA<|T ?_;exact fh b rfl rfl (R.vd (fx (OH R.v n) (by omega)) (O4 R.d n))<|rfl
  ·refine A<|M bV<|T<|ah ?_ ?_<;>intro h27
   ·obtain rfl:=kd0 h27;refine A<|C<|C<|gR (vD (A0:=tabs) call223 (LC a O bv b z G hC n))<|gA<|T ?_;exact fh b rfl rfl (R.le)<|rfl
   ·refine A<|M bV<|T<|ah ?_ ?_<;>intro h32
    ·obtain rfl:=kd0 h32;refine A<|C<|M aa<|gF 2 Yv W YU<|gL (ptr b 0) Y9<|C<|gI (uD (A0:=tabs) call45 (sY b O 1000 z n R.up.rep.rok D (R.dk hi) (by decide))) ?_;rintro _ _ ⟨n2,e,D2,z2,hk,rfl,rfl⟩;obtain ⟨Y,J,Z,X,S⟩:=R.act hi (show se≠kL by decide) (WC hk);refine gX (I n2)<|gX (bQ e)<|gR (vB (A0:=tabs) call161 (o6 (n2) (e) J (by omega)))<|gA<|T ?_;exact fh b rfl rfl (Y)<|X
    ·refine A<|M bV<|T<|ah ?_ ?_<;>intro h43
     ·obtain rfl:=kd0 h43;refine A<|C<|M aa<|gF 2 Yv W YU<|gL (ptr b 0) Y9<|C<|gI (uD (A0:=tabs) call46 (nZ b O 1000 z n R.up.rep.rok D (R.dk hi) (by decide))) ?_;rintro _ _ ⟨e,D2,z2,hk,rfl,rfl⟩;obtain ⟨Y,J,Z,X,S⟩:=R.act hi (show sf≠kL by decide) (WD hk);refine gR (vB (A0:=tabs) call221 (kg (e) J))<|gA<|T ?_;exact fh b rfl rfl (Y)<|S
     ·refine A<|M bV<|T<|ah ?_ ?_<;>intro h52
      ·obtain rfl:=kd0 h52;refine A<|C<|M aa<|gF 2 Yv W YU<|gL (ptr b 0) Y9<|C<|gI (uB call48 (HZ b O z D n R.up.rep.rok)) ?_;rintro _ _ ⟨n2,e,z2,hk,rfl,rfl⟩;obtain ⟨Y,J,Z,X,S⟩:=R.act hi (show na≠kL by decide) hk;refine gX (I n2)<|gX (bQ e)<|gR (vB (A0:=tabs) call161 (o6 (n2) (e) J (by omega)))<|gA<|T ?_;exact fh b rfl rfl (Y)<|X
      ·refine A<|M bV<|T<|ah ?_ ?_<;>intro h63
       ·obtain rfl:=kd0 h63;refine A<|C<|M aa<|gF 2 Yv W YU<|gL (ptr b 0) Y9<|C<|gI (uB call49 (D4 b O z D n)) ?_;rintro _ _ ⟨n2,e,z2,hk,rfl,rfl⟩;obtain ⟨Y,J,Z,X,S⟩:=R.act hi (show nb≠kL by decide) hk;refine gR (vB (A0:=tabs) call221 (kg (e) J))<|gA<|T ?_;exact fh b rfl rfl (Y)<|S
       ·refine A<|M bV<|T<|ah ?_ ?_<;>intro h72
        ·obtain rfl:=kd0 h72;refine ac<|gD (Lf:=[pcc a #[ptr O 0,ptr bv 0,ptr b 0] 152]) (plN [0,2,4,6,8,10,12,14,16,19,20,22,25,26,28])<|dM W<|dV W aa<|dF W 1 Yv W Zr<|dL W (ptr bv 0) ZF<|dM W<|dV W aa<|dF W 2 Yv W YU<|dL W (ptr b 0) Y9<|dM W<|cQ W (uE (A0:=tabs) call20 (w9 bv b O V z D 1 n 3 R.up.rep.rok (R.nx hi) (R.dk hi) R.sl R.sz (R.rl n))) ?_;rintro _ _ ⟨n2,e,D2,z2,hc,rfl,rfl⟩;obtain ⟨Y,hcl,J,Z⟩:=R.full hi hc;refine dV W (aB (v:=I n2))<|dV W (aB (v:=bQ e))<|cQ W (uB (A0:=tabs) call161 (o6 (n2) (e) J (by omega))) ?_;rintro _ _ ⟨rfl,rfl⟩;refine dV W ax<|dV W ax ?_;refine aN ?_;exact fh b rfl rfl (Y)<|kay (Lz ⟨V,z.lr⟩) hcl
        ·refine A<|M bV<|T<|ah ?_ ?_<;>intro h87
         ·exact absurd (kd0 h87) hna
         ·refine A<|M bV<|T<|ah ?_ ?_<;>intro h95
          ·obtain rfl:=kd0 h95;refine A<|C<|M aa<|gF 0 Yv W YS<|gL (ptr O 0) Y2<|C<|M (cG XA underlying31 (sE (by omega)))<|gR (vB call225 (wM O D n (by omega) (hq1.trans hq2.symm) (λt ht=>by have:=hq4 t ht;omega) (by omega))) ?_;rw[R5 R.up];refine ab<|A<|C<|gI (uD (A0:=tabs) call81 (B7 a O bv (1+7*i) (ptr b 0) D z R.up)) ?_;rintro _ _ ⟨b2,rfl,rfl⟩;refine gR (vB (A0:=tabs) call221 (kg (0) (by decide)))<|gA<|T ?_;exact fh b2 rfl rfl (R.anew)<|rfl
          ·refine ai<|aE<|A<|gA<|T ?_;exact fh b rfl rfl (R.le)<|(by unfold Pg;rw[kaU (kd1 h9),kaU (kd1 h18),kaU (kd1 h27),kaU (kd1 h32),kaU (kd1 h43),kaU (kd1 h52),kaU (kd1 h63),kaU (kd1 h72),kaU (kd1 h95)] <;> rfl)
def PH a J bv b i V D z(R:CoR i D V z)(hi:i<=100)(w:Bytes)x y(hx:0<=x/\x<=999)(hy:0<=y/\y<=999)F:cqq 160 [ptr a 0,ay w,I x,I y] (tabs::pcc a #[ptr J 0,ptr bv 0,ptr b 0] 152::gp bv V::dD b J z::cj 179 319 J (D)::F) (P6 a J bv i (Ph ⟨V,z.lr⟩ w x y) F):=by
 have hV:=R.v;refine Ct.of func160 W 43 ntmps160 (by simp) λw0=>?_;refine A<|gA<|T<|ac<|A<|C<|ab<|ak<|A<|M bV<|T<|ah ?_ ?_<;>intro O
 ·obtain rfl:=kd0 O;refine A<|C<|C<|C<|gR (vD (A0:=tabs) call226 (DX a J bv b V x y R.sl))<|gA<|T ?_;exact fh b rfl rfl (R.le)<|rfl
 ·refine A<|M bV<|T<|ah ?_ ?_<;>intro S
  ·obtain rfl:=kd0 S;refine A<|C<|C<|C<|gI (uE (A0:=tabs) call227 (LD a J bv b i V D z x y R hi (by omega))) ?_;rintro _ _ ⟨D2,z2,gone,R2,hkl,rfl,rfl⟩;refine gA<|T ?_;exact fh b rfl rfl (R2)<|kay (Pf ⟨V,z.lr⟩) hkl
  ·refine A<|M bV<|T<|ah ?_ ?_<;>intro X
   ·obtain rfl:=kd0 X;refine A<|C<|M aa<|gF 2 Yv W YU<|gL (ptr b 0) Y9<|C<|C<|gR (vB call50 (nY b J z x y R.up.rep.rok))<|C<|gX (ay (cZ z x y).1)<|gX (bQ (cZ z x y).2)<|gA<|T<|ac<|A<|C<|M (bX (ec:=117) (f:=(cZ z x y).2) XF)<|ab<|ah ?_ ?_<;>intro Y
    ·have Z:(cZ z x y).2≠0:=(by simpa using Y);refine A<|C<|gR (vB (A0:=tabs) call154 (j8 (cZ z x y).2 Z (by rw[<-n5];exact xU _ _ _)))<|gA<|T ?_;exact fh b rfl rfl (R.le)<|(kay (F9 ⟨V,z.lr⟩) (n5 z x y)).trans<|kay (Prod.mk _)<|kaT Z
    ·have Z:¬(cZ z x y).2≠0:=(by simpa using Y);refine ai<|A<|C<|gR (vA call228 (B4 (cZ z x y).1))<|gA<|T ?_;exact fh b rfl rfl (R.le)<|(kay (F9 ⟨V,z.lr⟩) (n5 z x y)).trans<|kay (Prod.mk _)<|kaU Z
   ·refine ai<|aE<|A<|gA<|T ?_;exact fh b rfl rfl (R.le)<|(by unfold Ph;rw[kaU (kd1 O),kaU (kd1 S),kaU (kd1 X)] <;> rfl)
open Go.Sl Go.Proofs Go.Sort
theorem Ag:∀s:Bytes,Lib.splitK [32] 0 (s.count 32) s=k6 s
 | []=>rfl
 | c::r=>by
  have O:=Ag r;by_cases J:c=32
  ·simp_all[k6,Lib.splitK,Lib.index]
  ·rw[List.count_cons_of_ne J,k6,kaU J,<-O];have hp:Lib.index (c::r) [32]=if Lib.index r [32]== -1 then -1 else Lib.index r [32]+1:=by
    grind[Lib.index]
   cases r.count 32 with
   | zero=>rfl
   | succ k=>
    have R:=Lib.index_ge r [32];unfold Lib.splitK;rw[hp];by_cases hi:Lib.index r [32]= -1
    ·simp[hi]
    ·rw[kaU (show ¬((Lib.index r [32]== -1)=true) by simpa using hi),kaU (by simp;omega),kaU (by simpa using hi),show (Lib.index r [32]+1).toNat=(Lib.index r [32]).toNat+1 by omega];simp[Nat.add_right_comm]
def Gi (s:Bytes)(hs:s.length<=1000)F:Ct Tryz.prog 218 [ay s,ay [32],I 0,I (-1)] F (uX 9 1 (k6 s).length (strR (k6 s)) F):=λw0 w hS=>by
 obtain ⟨n,hn⟩:∃n,Lib.countB ⟨⟨s⟩⟩ ⟨⟨[32]⟩⟩=n:=⟨_,rfl⟩;have hc:∀w,Calls Tryz.prog 259 #[.string ⟨⟨s⟩⟩, .string ⟨⟨[32]⟩⟩] w λe w'=>e= .returned (.int .i64 (Lib.countB ⟨⟨s⟩⟩ ⟨⟨[32]⟩⟩))/\w'=w:=λw=>
  (Tryz.strings_Count_one ⟨⟨s⟩⟩ 32 w).mono λe w' h=>⟨h.1.trans (by show _=Ending.returned (Value.int .i64 ((Lib.count s [32]:Nat):Int));rw[Lib.count_one];rfl),h.2⟩
 have hi:∀x w,Calls Tryz.prog 260 #[.string x, .string ⟨⟨[32]⟩⟩] w λe w'=>e= .returned (.int .i64 (Lib.indexB x ⟨⟨[32]⟩⟩))/\w'=w:=λx w=>
  (Tryz.strings_Index_one x 32 w).mono λe w' h=>⟨h.1.trans (by show _=Ending.returned (Value.int .i64 (Lib.index x.data.toList [32]));rw[Lib.index_one]),h.2⟩
 have hle:=Lib.countB_le ⟨⟨[32]⟩⟩ (by decide) _ ⟨⟨s⟩⟩ (kax _);have hln:=Lib.splitB_all ⟨⟨[32]⟩⟩ (by decide) 0 _ ⟨⟨s⟩⟩ hn;have hsp:(Lib.splitB ⟨⟨[32]⟩⟩ 0 n ⟨⟨s⟩⟩).map (·.data.toList)=k6 s:=by
  rw[Lib.splitB_data,<-hn,<-Ag];show Lib.splitK [32] 0 (Lib.count s [32]) s=_;rw[Lib.count_one]
 have hsz:(⟨⟨s⟩⟩:ByteArray).size=s.length:=rfl;rw[hn,hsz] at hle;refine (Any.strings_genSplit_core Tryz.lays221 (by kernel_rfl) ⟨⟨s⟩⟩ ⟨⟨[32]⟩⟩ 0 (-1) (n+1) w (by rw[hsz];omega) (by decide) (by decide) (λx c _=>hi x _) (hc w) (by decide) (by decide) (by rw[kaT (by decide),hn,hsz];omega)).mono ?_;rintro e w' ⟨rfl,rfl⟩;rw[Nat.add_sub_cancel,hln];have hrow:strR (k6 s)=(Lib.splitB ⟨⟨[32]⟩⟩ 0 n ⟨⟨s⟩⟩).map λx=>[Value.string x]:=by
  rw[<-hsp];unfold strR;rw[kaN]
  rfl
 have hl2:(k6 s).length=n+1:=(by rw[<-hsp,kcc,hln]);refine ⟨_,fu (cap:=n+1) (hS.alloc _) (Lib.cellsOf_size (by omega) |>.trans (by omega)) (by rw[aZ];omega) (λrow hr=>?_) ?_,some ⟨w.heap.size,0,none⟩,n+1,by rw[hl2];rfl,rfl⟩
 ·obtain ⟨x,_,rfl⟩:=kbV.1 hr
  rfl
 ·rw[hrow];intro j row hj f v hf;rw[kbL] at hj;cases hx:(Lib.splitB ⟨⟨[32]⟩⟩ 0 n ⟨⟨s⟩⟩)[j]? with
  | none=>rw[hx] at hj;cases hj
  | some x=>
   rw[hx] at hj;injection hj with hj;subst hj;obtain rfl:f=0:=(by have:=(kaz.1 hf).1;simp at this;omega);injection hf with hf;subst hf;show bK (.cells (Lib.cellsOf _ (n+1)) _ _) _=_;rw[<-hln,Lib.cellsOf_full];simp[bK,hx]
def PI (s:Bytes)(hs:s.length<=1000)F:cqq 155 [ay s,ay [32]] (F) (uX 9 1 (k6 s).length (strR (k6 s)) F):=by
 refine Ct.of func155 W 8 ntmps155 (by simp) λw0=>?_;refine A<|T<|A<|C<|C<|gI (uA call218 (Gi s hs)) ?_;rintro _ _ ⟨J,c9,rfl,rfl⟩;refine T ?_;exact cU rfl rfl rfl rfl
end Go.Proofs.YthdjckbjjfiopabGreatDoor
namespace Go.Proofs.YthdjckbjjfiopabGreatDoor
open _root_.Go.Proofs.Tryz
open Go.Sl Go.Proofs
set_option maxRecDepth 4000
variable {rows:List (List Value)}
theorem Gj {sz c K E L F}s cap p q(hl:rows.length<=cap)[R:Rem L (roL sz s rows) F](k:G c K E (roL sz (if cap=p then s else s.map (·.add (p*sz))) ((rows.drop p).take q)::roL sz s rows::F)):G c K E L:=λa w J S=>k a w J (by
 refine ((R.sat S).dup (Pers.roL sz s rows)).weak λm hm=>?_;rcases hm with rfl | ⟨b,off,o,rfl,V,O⟩
 ·exact .inl (by simp)
 ·by_cases X:cap=p
  ·exact .inl (by grind[List.drop_eq_nil_of_le])
  ·rw[kaU X];exact .inr ⟨b,off+p*sz,o,by simp[Addr.add],V,Rows.part O⟩)
theorem Gk c(r:Bytes):(c=32/\k6 (c::r)=[]::k6 r)\/(c≠32/\∃h t,k6 r=h::t/\k6 (c::r)=(c::h)::t):=by
 grind[k6,Ab]
theorem D5:∀w:Bytes,(k6 w).length<=w.length+1/\∀x∈k6 w,x.length<=w.length
 | []=>by simp[k6]
 | c::r=>by
  have J:=D5 r
  grind[Gk]
theorem Ah:∀(w:Bytes) {h:Bytes} {t:List Bytes},k6 w=h::t->(t=[]->h=w)/\(t≠ []->∃q,w=h++32::q)
 | [],h,t,e=>by
  injection e with J O
  grind
 | c::r,h,t,e=>by
  rcases Gk c r with ⟨rfl,J⟩ | ⟨_,R,t2,O,J⟩
  ·grind[Ab]
  ·rw[J] at e;injection e with a b;subst a b;obtain ⟨S,i2⟩:=Ah r O
   grind
abbrev B8 (w:Bytes):Prop:=3<w.length/\w.take 4=[97,114,109,32]
variable {u0 w:Bytes}{r:List Bytes}
theorem Sd (h:¬B8 w)(e:k6 w=u0::r)(hr:r≠ []):u0≠SR:=λhw=>by
 obtain ⟨q,rfl⟩:=(Ah w e).2 hr
 grind
def Ai (c:CoS)(u0:Bytes)(m:List Bytes)(t:Bytes):CoS×Bytes:=if t=[] then (c,i8 4) else match fC m with
 | none=>(c,i8 4)
 | some n=>RY c u0 n (qb t)
variable {c:CoS}{t:Bytes}{m:List Bytes}
theorem rD (h:¬60<w.length)(e:k6 w=u0::(m++ [t]))(h0:u0=fz\/u0=ir)(hm:m≠ []):mq c w=Ai c u0 m t:=by
 have hl:¬(u0::(m++ [t])).length<=2:=by simp_all
 grind[mq,Ai,List.tail_cons,List.dropLast_concat]
theorem Aj (h:¬60<w.length)(e:k6 w=u0::r)(h0:u0=fz\/u0=ir)(hl:(u0::r).length<=2):mq c w=(c,i8 4):=by
 grind[mq]
theorem je (h:¬60<w.length)(e:k6 w=u0::r)(h0:¬(u0=fz\/u0=ir)):mq c w=match fC r with
  | none=>(c,i8 4)
  | some n=>RZ c u0 n:=by
 grind[mq]
theorem PJ {J}(h1:¬(u0=fz/\J.length=1))(O:¬(u0=ir/\J.length=2)):RY c u0 J t=(c,i8 4):=by
 unfold RY
 grind
def uW {α:Type}{l:List α}(h:l.length=2):∃x y,l=[x,y]:=by
 obtain ⟨x,r,rfl⟩:=kdA h;obtain ⟨y,rfl⟩:=kdB.1 (show r.length=1 by simpa using h);exact ⟨x,y,rfl⟩
def B9 {α:Type}{l:List α}(h:l.length=3):∃x y q,l=[x,y,q]:=by
 obtain ⟨x,r,rfl⟩:=kdA h
 simp_all[uW]
theorem Gl s:(qb s).length<=s.length:=by
 grind[qb]
theorem Ak (h:t=[]\/fC m=none):Ai c u0 m t=(c,i8 4):=by
 grind[Ai]
theorem PK {J}(h0:¬(J.length:Int)=0)(h1:¬(J.length:Int)=1)(O:¬(J.length:Int)=2)(R:¬(J.length=3/\u0=wg)):RZ c u0 J=(c,i8 4):=by
 unfold RZ
 grind
def H2 a S bv b i V D z(R:CoR i D V z)(hi:i<=100)l u0 m t(J:l=u0::(m++ [t]))s cap(hl:l.length<=100)(hcap:l.length<=cap)(hm:∀x∈l,x.length<=1000)F:cqq 157 [ptr a 0,sl s l.length cap] (tabs::erR::pcc a #[ptr S 0,ptr bv 0,ptr b 0] 152::gp bv V::dD b S z::cj 179 319 S (D)::roL 1 s (strR l)::F) (P6 a S bv i (Ai ⟨V,z.lr⟩ u0 m t) (erR::roL 1 s (strR l)::F)):=by
 have hln:l.length=m.length+2:=(by rw[J];simp);have h0:l[0]? =some u0:=(by rw[J];rfl);have ht:l[m.length+1]? =some t:=(by rw[J];simp);have hmm:∀x∈m,x.length<=1000:=λx hx=>hm x (by rw[J];simp[hx]);have htl:=hm t (by rw[J];simp);refine Ct.of func157 W 80 ntmps157 (by simp) λw0=>?_;refine A<|gA<|T<|A<|C<|C<|M (aP XC)<|M (eG (r:=((m.length+1:Nat):Int)) (by rw[show (l.length:Int) - 1=((m.length+1:Nat):Int) by omega];exact cK (by omega)))<|M (x5 (l:=1) (h:=m.length+1) XC Xx rfl rfl rfl rfl rfl (by omega) (by omega)) ?_;refine Gj (sz:=1) s cap 1 m.length (by rw[aZ];exact hcap) ?_;rw[show ((strR l).drop 1).take m.length=strR m by rw[J];simp[strR]];refine gI (uD (A0:=tabs) call156 (uU m (if cap=1 then s else s.map (·.add (1*1))) (cap - 1) (m.length+1 - 1) (by omega) (by omega) hmm)) ?_;rintro _ _ ⟨O,s2,c2,k,hk,rfl,rfl⟩;refine C<|gX (sl s2 O.length c2)<|gX (Bo k)<|gA<|T<|A<|C<|C<|M (aP XC)<|M (eG (r:=((m.length+1:Nat):Int)) (by rw[show (l.length:Int) - 1=((m.length+1:Nat):Int) by omega];exact cK (by omega)))<|M (av (m.length+1) XC Xx (by omega) (by rw[aZ];exact (by omega)))<|M (aI (v:=ay t) XD (by exact eX ht) rfl)<|gR (vA call220 (Gd t))<|T<|ac<|ak<|A<|C<|M cS<|C<|gK ao<|gK ao<|gK (aP XC)<|gK (eG (r:=((m.length+1:Nat):Int)) (by rw[show (l.length:Int) - 1=((m.length+1:Nat):Int) by omega];exact cK (by omega)))<|gK (av (m.length+1) XC Xx (by omega) (by rw[aZ];exact (by omega)))<|gK (aI (v:=ay t) XD (by exact eX ht) rfl)<|gK bV<|M cv<|T ?_;apply ah<;>intro Y
 ·have hbad:t=[]\/fC m=none:=by
   rcases hk with ⟨rfl,_⟩ | ⟨_,h,_⟩
   ·exact .inl (by simpa using Y)
   ·exact .inr h
  refine A<|gA<|T ?_;exact fh b rfl rfl (R.le)<|Ak hbad
 ·obtain ⟨rfl,hne⟩:k=true/\t≠ []:=(by simpa using Y);have X:fC m=some O:=by
   rcases hk with ⟨_,h⟩ | ⟨h,_⟩
   ·exact h
   ·cases h
  refine A<|C<|M (av (0) XC Xx (by omega) (by rw[aZ];exact (by omega)))<|M (aI (v:=ay u0) XD (by exact eX h0) W)<|M bV<|C<|gK ao<|gK (aP XB)<|gK bE<|M dc<|T ?_;apply ah<;>intro Z
  ·obtain ⟨hw,hn1⟩:u0=fz/\(O.length:Int)=1:=(by simpa using Z);obtain ⟨x,rfl⟩:=kdB.1 (show O.length=1 by omega);refine ac ?_;refine cn (Lf:=[pcc a #[ptr S 0,ptr bv 0,ptr b 0] 152,be 3 1 s2 c2 (bc [x])]) jZ ?_;refine dM W<|dV W aa<|dF W 1 Yv W Zr<|dL W (ptr bv 0) ZF<|dM W<|dV W (av 0 XB Xu (by simp) (by simp[bc]))<|dV W (aI (v:=I x) Xv (by rfl) W)<|dM W<|cQ W (uB call67 (zX bv V x (qb t) R.v.1.2)) ?_;rintro _ _ ⟨rfl,rfl⟩;refine cQ W (uB (A0:=tabs) call221 (kg (F0 V x (qb t)) (SY V x (qb t)))) ?_;rintro _ _ ⟨rfl,rfl⟩;refine dV W ax<|dV W ax ?_;refine aN ?_;exact fh b rfl rfl (R.vd (fx (OD R.v x _) (by omega)) (O1 R.d x _)) (by unfold Ai;rw[kaU hne,X];exact kaT hw)
  ·have hnw:¬(u0=fz/\O.length=1):=λh=>(by simp[h.1,h.2] at Z);refine A<|C<|M (av (0) XC Xx (by omega) (by rw[aZ];exact (by omega)))<|M (aI (v:=ay u0) XD (by exact eX h0) W)<|M bV<|C<|gK ao<|gK (aP XB)<|gK bE<|M dc<|T ?_;apply ah<;>intro h57
   ·obtain ⟨hw,hn1⟩:u0=ir/\(O.length:Int)=2:=(by simpa using h57);obtain ⟨x,y,rfl⟩:=uW (show O.length=2 by omega);refine ac<|gD (Lf:=[pcc a #[ptr S 0,ptr bv 0,ptr b 0] 152,be 3 1 s2 c2 (bc [x,y])]) (plN [0,2,4,6,8,10,12,14,16,18,20,23,25,26,28])<|dM W<|dV W aa<|dF W 2 Yv W YU<|dL W (ptr b 0) Y9<|dM W<|dV W (av 0 XB Xu (by simp) (by simp[bc]))<|dV W (aI (v:=I x) Xv (by rfl) W)<|dM W<|dV W (av 1 XB Xu (by simp) (by simp[bc]))<|dV W (aI (v:=I y) Xv (by rfl) W)<|dM W<|cQ W (uB call51 (H0 b S z D x y (qb t) R.up.rep.rok (by have:=Gl t;omega))) ?_;rintro _ _ ⟨n2,e,z2,hk,rfl,rfl⟩;obtain ⟨R2,he9,hn9,hat,haf⟩:=R.act hi (show nc≠kL by decide) hk;refine cQ W (uB (A0:=tabs) call221 (kg (e) he9)) ?_;rintro _ _ ⟨rfl,rfl⟩;refine dV W ax<|dV W ax ?_;refine aN ?_;exact fh b rfl rfl (R2) (by unfold Ai;rw[kaU hne,X];exact (kaT hw).trans haf)
   ·have hno:¬(u0=ir/\O.length=2):=λh=>(by simp[h.1,h.2] at h57);refine ai<|aE<|A<|gA<|T ?_;exact fh b rfl rfl (R.le) (by unfold Ai;rw[kaU hne,X];exact PJ hnw hno)
def PL a S bv b i V D z(R:CoR i D V z)(hi:i<=100)w(hw:w.length<=1000)(hna:¬B8 w)F:cqq 82 [ptr a 0,ay w] (tabs::erR::pcc a #[ptr S 0,ptr bv 0,ptr b 0] 152::gp bv V::dD b S z::cj 179 319 S (D)::F) (λv L'=>∃Z V2 z2 b2,CoR (i+1) Z V2 z2/\(mq ⟨V,z.lr⟩ w).1=⟨V2,z2.lr⟩/\v=ay (mq ⟨V,z.lr⟩ w).2/\L'=pcc a #[ptr S 0,ptr bv 0,ptr b2 0] 152::gp bv (V2)::dD b2 S (z2)::cj 179 319 S (Z)::tabs::erR::F):=by
 refine Ct.of func82 W 125 ntmps82 (by simp) λw0=>?_;refine A<|T<|ac<|A<|C<|M (cD Xz)<|M aQ<|ab<|ah ?_ ?_<;>intro h12
 ·have J:60<w.length:=(by have:=kd0 h12;omega);refine A<|M (ba XG)<|gR (vB (A0:=tabs) call154 (j8 4 (by decide) (by decide)))<|T ?_;exact ar (pcc a #[ptr S 0,ptr bv 0,ptr b 0] 152::gp bv (V)::dD b S (z)::cj 179 319 S (D)::tabs::erR::F) rfl ⟨D,V,z,b,R.le,by unfold mq;rw[kaT J],by unfold mq;rw[kaT J];rfl,rfl⟩
 ·have J:¬60<w.length:=(by have:=kd1 h12;omega);refine ai<|A<|C<|gI (uA call155 (PI w hw)) ?_;rintro _ _ ⟨s16,c16,rfl,rfl⟩;refine mC s16<|λhcap=>?_;rw[aZ] at hcap;refine bz s16 ?_;obtain ⟨hln,hlm⟩:=D5 w;obtain ⟨u0,r,X⟩:=kbo (Ab w);rw[X] at hcap hln hlm ⊢;have hrm:∀x∈r,x.length<=1000:=λx hx=>(by have:=hlm x (kcn _ hx);omega);simp only[kaX] at hln;refine T<|A<|gA<|T<|A<|C<|M (iG (l:=1) XC Xx W W W (by simp)) ?_;refine Gj (sz:=1) s16 c16 1 r.length (by rw[aZ];exact hcap) ?_;rw[show ((strR (u0::r)).drop 1).take r.length=strR r by simp[strR,kcI]];refine gI (uD (A0:=tabs) call156 (uU r (if c16=1 then s16 else s16.map (·.add (1*1))) (c16 - 1) ((u0::r).length - 1) (by simp) (by omega) hrm)) ?_;rintro _ _ ⟨ns,s2,c2,k,hk,rfl,rfl⟩;refine C<|gX (sl s2 ns.length c2)<|gX (Bo k)<|gA<|T<|ac ?_;refine lV (α:=DiskM×VdM×RpM×Nat×Bytes×Bool) (λy=>CoR (i+1) y.1 y.2.1 y.2.2.1/\mq ⟨V,z.lr⟩ w=(⟨y.2.1,y.2.2.1.lr⟩,if y.2.2.2.2.2=true then y.2.2.2.2.1 else i8 4)) (λy=>U [(0,ptr a 0),(6,ay y.2.2.2.2.1),(7,Bo y.2.2.2.2.2)]) (λy=>pcc a #[ptr S 0,ptr bv 0,ptr y.2.2.2.1 0] 152::gp bv (y.2.1)::dD y.2.2.2.1 S (y.2.2.1)::cj 179 319 S (y.1)::tabs::erR::F) ?_ ?_
  ·refine ak<|A<|C<|M (av (0) XC Xx (by simp) (by rw[aZ];exact (by simp)))<|M (aI (v:=ay u0) XD (by rfl) W)<|M bV<|C<|gK ao<|gK (av (0) XC Xx (by simp) (by rw[aZ];exact (by simp)))<|gK (aI (v:=ay u0) XD (by rfl) W)<|gK bV<|M cv<|T ?_;apply ah<;>intro h23
   ·have O:u0=fz\/u0=ir:=(by simpa using h23);refine A<|C<|M (aP XC)<|M aQ<|ab<|ah ?_ ?_<;>intro h36
    ·have h36':=kd0 h36;simp only[kaX] at h36';obtain ⟨m,t,rfl⟩:∃m t,r=m++ [t]:=⟨r.dropLast,r.getLast (by intro e;subst e;simp at h36'),(kdr _).symm⟩;have hmn:m≠ []:=λe=>(by subst e;simp at h36');refine al<|C<|C<|gI (uH (A0:=tabs) call157 W (H2 a S bv b i V D z R hi (u0::(m++ [t])) u0 m t W s16 c16 (by simp only[kaX];omega) hcap (λx hx=>by have:=hlm x hx;omega))) ?_;rintro _ _ ⟨Z,V2,z2,b2,u,k2,R2,hY,rfl,rfl⟩;refine C<|gX (ay u)<|gX (Bo k2)<|gA<|T<|aE ?_;exact cJ (Z,V2,z2,b2,u,k2) ⟨R2,(by rw[rD J X O hmn];exact hY)⟩ [0,6,7] rfl
    ·have h36':(u0::r).length<=2:=(by have:=kd1 h36;omega);refine ai<|aE ?_;exact cJ (D,V,z,b,[],false) ⟨R.le,(Aj J X O h36')⟩ [0,6,7] rfl
   ·have O:¬(u0=fz\/u0=ir):=(by simpa using h23);refine A<|C<|M cS<|T<|ah ?_ ?_<;>intro h43
    ·have Y:fC r=none:=by
      rcases hk with ⟨rfl,_⟩ | ⟨_,h,_⟩
      ·simp at h43
      ·exact h
     refine ai<|aE ?_;exact cJ (D,V,z,b,[],false) ⟨R.le,(by rw[je J X O,Y];rfl)⟩ [0,6,7] rfl
    ·have Y:fC r=some ns:=by
      rcases hk with ⟨_,h⟩ | ⟨rfl,_⟩
      ·exact h
      ·simp at h43
     have hrg:=wj Y;have hnl:=rB Y;refine A<|C<|M (aP XB)<|M bE<|T<|ah ?_ ?_<;>intro h46
     ·obtain rfl:ns=[]:=kbb.1 (by have:=kd0 h46;omega);obtain rfl:r=[]:=kbb.1 (by rw[<-hnl];rfl);obtain rfl:=(Ah w X).1 rfl;refine al<|C<|C<|gI (uF (A0:=tabs) call158 (H1 a S bv b i V D z R hi u0)) ?_;rintro _ _ ⟨Z,V2,z2,b2,u,k2,R2,hY,rfl,rfl⟩;refine C<|gX (ay u)<|gX (Bo k2)<|gA<|T<|aE ?_;exact cJ (Z,V2,z2,b2,u,k2) ⟨R2,(by rw[je J X O,Y];exact hY)⟩ [0,6,7] rfl
     ·have hn0:=kd1 h46;have hrn:r≠ []:=λe=>(by subst e;simp at hnl;subst hnl;simp at hn0);refine A<|C<|M (aP XB)<|M bE<|T<|ah ?_ ?_<;>intro h56
      ·obtain ⟨x,rfl⟩:=kdB.1 (show ns.length=1 by have:=kd0 h56;omega);refine gD (Lf:=[roL 1 s16 (strR (u0::r)),be 3 1 s2 c2 (bc [x])]) (plN [0,2,4,6,8,10,12,15,16,18,20,22,24])<|dM W<|dM W<|dV W (av (0) XC Xx (by simp) (by rw[aZ];exact (by simp)))<|dV W (aI (v:=ay u0) XD (by rfl) W)<|dM W<|dV W (av 0 XB Xu (by simp) (by simp[bc]))<|dV W (aI (v:=I x) Xv (by rfl) W)<|cQ W (uF (A0:=tabs) call159 (PG a S bv b i V D z R hi u0 x (Sd hna X hrn) (hrg x (by simp)))) ?_;rintro _ _ ⟨Z,V2,z2,b2,u,k2,R2,hY,rfl,rfl⟩;refine dM W<|dV W (aB (v:=ay u))<|dV W (aB (v:=Bo k2))<|dV W ax<|dV W ax ?_;refine aN ?_;refine aE ?_;exact cJ (Z,V2,z2,b2,u,k2) ⟨R2,(by rw[je J X O,Y];exact hY)⟩ [0,6,7] rfl
      ·have hn1:=kd1 h56;refine A<|C<|M (aP XB)<|M bE<|T<|ah ?_ ?_<;>intro h71
       ·obtain ⟨x,y,rfl⟩:=uW (show ns.length=2 by have:=kd0 h71;omega);refine cn (Lf:=[roL 1 s16 (strR (u0::r)),be 3 1 s2 c2 (bc [x,y])]) jP ?_;refine dM W<|dM W<|dV W (av (0) XC Xx (by simp) (by rw[aZ];exact (by simp)))<|dV W (aI (v:=ay u0) XD (by rfl) W)<|dM W<|dV W (av 0 XB Xu (by simp) (by simp[bc]))<|dV W (aI (v:=I x) Xv (by rfl) W)<|dM W<|dV W (av 1 XB Xu (by simp) (by simp[bc]))<|dV W (aI (v:=I y) Xv (by rfl) W)<|cQ W (uF (A0:=tabs) call160 (PH a S bv b i V D z R hi u0 x y (hrg x (by simp)) (hrg y (by simp)))) ?_;rintro _ _ ⟨Z,V2,z2,b2,u,k2,R2,hY,rfl,rfl⟩;refine dM W<|dV W (aB (v:=ay u))<|dV W (aB (v:=Bo k2))<|dV W ax<|dV W ax ?_;refine aN ?_;refine aE ?_;exact cJ (Z,V2,z2,b2,u,k2) ⟨R2,(by rw[je J X O,Y];exact hY)⟩ [0,6,7] rfl
       ·have hn2:=kd1 h71;refine A<|C<|M (aP XB)<|M bE<|C<|gK ao<|gK (av (0) XC Xx (by simp) (by rw[aZ];exact (by simp)))<|gK (aI (v:=ay u0) XD (by rfl) W)<|gK bV<|M dc<|T ?_;apply ah<;>intro h89
        ·obtain ⟨hn3,hwm⟩:(ns.length:Int)=3/\u0=wg:=(by simpa using h89);obtain ⟨x,y,q,rfl⟩:=B9 (show ns.length=3 by omega);refine gD (Lf:=[pcc a #[ptr S 0,ptr bv 0,ptr b 0] 152,roL 1 s16 (strR (u0::r)),be 3 1 s2 c2 (bc [x,y,q])]) (plN [0,2,4,6,8,10,12,14,16,18,20,22,24,26,28,30,32,35,36,38,41,42,44])<|dM W<|dV W aa<|dF W 1 Yv W Zr<|dL W (ptr bv 0) ZF<|dM W<|dV W aa<|dF W 2 Yv W YU<|dL W (ptr b 0) Y9<|dM W<|dV W (av 0 XB Xu (by simp) (by simp[bc]))<|dV W (aI (v:=I x) Xv (by rfl) W)<|dM W<|dV W (av 1 XB Xu (by simp) (by simp[bc]))<|dV W (aI (v:=I y) Xv (by rfl) W)<|dM W<|dV W (av 2 XB Xu (by simp) (by simp[bc]))<|dV W (aI (v:=I q) Xv (by rfl) W)<|cQ W (uE (A0:=tabs) call22 (xb bv b S V z D 1 x y q 3 R.up.rep.rok (R.nx hi) (R.dk hi) R.sl R.sz (R.rl x) (Wu _ _ _) (xT _ _ _))) ?_;rintro _ _ ⟨n2,e,Z,z2,hc,rfl,rfl⟩;obtain ⟨R2,hcl,he9,hn9⟩:=R6 R hi hc;refine dV W (aB (v:=I n2))<|dV W (aB (v:=bQ e))<|cQ W (uB (A0:=tabs) call161 (o6 (n2) (e) he9 (by omega))) ?_;rintro _ _ ⟨rfl,rfl⟩;refine dV W ax<|dV W ax ?_;refine aN ?_;refine aE ?_;exact cJ (Z,V,z2,b,o0 n2 e,true) ⟨R2,(by rw[je J X O,Y];exact ((kaT hwm).trans (kay (Lz ⟨V,z.lr⟩) hcl)))⟩ [0,6,7] rfl
        ·have hn3:¬(ns.length=3/\u0=wg):=λh=>(by simp[h.1,h.2] at h89);refine ai<|aE ?_;exact cJ (D,V,z,b,[],false) ⟨R.le,(by rw[je J X O,Y];exact PK hn0 hn1 hn2 hn3)⟩ [0,6,7] rfl
  rintro ⟨Z,V2,z2,b2,u,k2⟩ ⟨R2,hY⟩;simp only[] at R2 hY ⊢;refine ac<|A<|C<|M cS<|ab<|ah ?_ ?_<;>intro h121
  ·have hk0:k2=false:=(by simpa using h121);refine A<|M (ba XG)<|gR (vB (A0:=tabs) call154 (j8 4 (by decide) (by decide)))<|T ?_;exact ar (pcc a #[ptr S 0,ptr bv 0,ptr b2 0] 152::gp bv (V2)::dD b2 S (z2)::cj 179 319 S (Z)::tabs::erR::F) rfl ⟨Z,V2,z2,b2,R2,by rw[hY],by rw[hY,hk0];rfl,rfl⟩
  ·have hk1:k2=true:=(by simpa using h121);refine ai<|A<|C<|T ?_;exact ar (pcc a #[ptr S 0,ptr bv 0,ptr b2 0] 152::gp bv (V2)::dD b2 S (z2)::cj 179 319 S (Z)::tabs::erR::F) rfl ⟨Z,V2,z2,b2,R2,by rw[hY],by rw[hY,hk1];rfl,rfl⟩
set_option maxRecDepth 4000
theorem Se {s}(h:tg s<0):lK s=none:=by
 grind[tg,lK]
theorem Sf {s}(h:¬tg s<0):∃n,lK s=some n/\tg s=n:=by
 grind[tg,lK]
def Xo (rb:Bool)(r:List Bytes)(la:Int):Prop:=(rb=true/\la=r.length)\/(rb=false/\la=(r.length:Int)+1)
variable {q:List Bytes}
theorem WG {O J}(h:Xo O r J)(hq:(if O=true then r.dropLast else r)=q)j:(((j+1:Nat):Int)<J ↔ j<q.length)/\(j<q.length->(u0::r)[j+1]? =q[j]?):=by
 subst hq;rcases h with ⟨rfl,rfl⟩ | ⟨rfl,rfl⟩
 ·grind
 grind
theorem Sg {O}(h:¬60<w.length)(e:k6 w=u0::r)(J:(decide (u0=fz) || decide (u0=ir))=O)(hq:(if O=true then r.dropLast else r)=q)(hn:fC q=none):mq c w=(c,i8 4):=by
 subst hq;cases O with
 | false=>grind[je]
 | true=>
  have h0:u0=fz\/u0=ir:=(by simpa using J);by_cases hl:(u0::r).length<=2
  ·exact Aj h e h0 hl
  ·have hr:r≠ []:=λe=>(by subst e;simp at hl);have hd:=kdr hr;rw[rD (m:=r.dropLast) (t:=r.getLast hr) h (by rw[hd];exact e) h0 (λe=>by grind)];exact Ak<|.inr hn
theorem Gm (ht:(u0::r)[r.length]? =some t)(h:r≠ []):r=r.dropLast++ [t]:=by
 grind[List.dropLast_concat_getLast]
theorem PM (h:¬60<w.length)(e:k6 w=u0::r)(h0:u0=fz\/u0=ir)(ht:(u0::r)[r.length]? =some t)(J:(r.length:Int)<2\/t=[]):mq c w=(c,i8 4):=by
 by_cases hl:(u0::r).length<=2
 ·exact Aj h e h0 hl
 ·have hr:r≠ []:=λe=>(by subst e;simp at hl);have hd:=Gm ht hr;rw[rD (m:=r.dropLast) (t:=t) h (by rw[<-hd];exact e) h0 (λe=>by grind)]
  grind[Ak]
def PN x Z Y i V z(R:DkR i V z)(hi:i<=100)(w:Bytes)J O(hp1:0<=J/\J<=999)(hp2:0<=O/\O<=999)F:cqq 90 [ptr x 0,ay w,I J,I O] (pcc x #[ptr Z 0,ptr Y 0] 154::iD Z V::e9 Y z::F) (P8 x Z i (Ph ⟨V,z.lr⟩ w J O) F):=by
 obtain ⟨G,hC⟩:=R.o.rok.con;have hV:=R.v;have hok:=xT V J O;have hcl:=J3 V J O;have hc9:=Ps V J O;have hr9:=xU z.lr J O;rw[n5] at hr9;refine Ct.of func90 W 112 ntmps90 (by simp) λw0=>?_;refine A<|T<|ac<|A<|C<|ab<|ak<|A<|M bV<|T<|ah ?_ ?_<;>intro h20
 ·obtain rfl:=kd0 h20;refine A<|C<|M aa<|gF 0 Yo W Zs<|gL (ptr Z 0) ZG<|C<|C<|gI (uB call72 (ng Z V J O R.sl)) ?_;rintro _ _ ⟨s29,c29,rfl,rfl⟩;refine C<|gX (sl s29 (iC V J O).length c29)<|gX (I (kT V J O))<|gA<|T<|ac<|A<|C<|M aQ<|ab<|ah ?_ ?_<;>intro h33
  ·have hf:kT V J O≠0:=(by simp at h33;omega);refine A<|C<|gR (vA call83 (eu (kT V J O) hc9))<|T ?_;exact dC Y rfl rfl (R.le)<|kay (Prod.mk _)<|kaT hf
  ·have hf:¬kT V J O≠0:=(by simp at h33;omega);refine ai<|ac ?_;refine aY 9 1 (strR (((iC V J O).take 0).map kf)) ?_;refine al<|T<|ac<|A<|T<|ak ?_;refine aL (α:=Nat×Option Addr×Nat) (λS=>S.1<=(iC V J O).length) (λS=>U [(9,sl s29 (iC V J O).length c29),(11,sl S.2.1 S.1 S.2.2),(12,I S.1)]) (λS=>be 9 1 S.2.1 S.2.2 (strR (((iC V J O).take S.1).map kf))::be 142 2 s29 c29 (aV (iC V J O))::pcc x #[ptr Z 0,ptr Y 0] 154::iD Z V::e9 Y z::F) (λS=>(iC V J O).length - S.1) (0,none,0) (by simp) [9,11,12] rfl ?_;rintro ⟨j,so,co⟩ hj;simp only[] at hj ⊢;refine ac<|A<|C<|C<|M (aP Ys)<|M aG<|ab<|ah ?_ ?_<;>intro h39
   ·have h39':=kd0 h39;have X:j<(iC V J O).length:=(by omega);obtain ⟨p,hp⟩:∃p,(iC V J O)[j]? =some p:=⟨_,kbN X⟩;have hpm:=kbe hp;obtain ⟨⟨hi1,hi2⟩,hps⟩:=rC hok p hpm;have hl1:=dG hi1;have hl2:=dG hi2;refine ai<|ac<|ak<|gD (Lf:=[be 142 2 s29 c29 (aV (iC V J O))]) (plN [0,2,4,6,8,10,16,18,20,22,24,13,14,27,28,31,33,34])<|dM W<|dM W<|dM W<|dV W (av j Ys Yt X (by rw[dN];exact X))<|dV W (aK (j:=j) 0 YZ W Xu (by rw[dN];exact X))<|dV W (bS (v:=I p.fr) Xv (jp hp))<|dM W<|dM W<|dV W (av j Ys Yt X (by rw[dN];exact X))<|dV W (aK (j:=j) 1 YZ W Xu (by rw[dN];exact X))<|dV W (bS (v:=I p.many) Xv (jp hp))<|cQ W (uA call162 (kh (p.fr) hi1)) ?_;rintro _ _ ⟨rfl,rfl⟩;refine dV W (cf (by simp;omega))<|cQ W (uA call162 (kh (p.many) hi2)) ?_;rintro _ _ ⟨rfl,rfl⟩;refine dV W (cf (by simp;omega))<|cQ W (ap [[ay (kf p)]] XC Xx X9 (by simp)) ?_;rintro _ _ ⟨b57,rfl,rfl⟩;refine cQ rfl (aR XC Xx X9 Tryz.typeInfo9 (hn:=by rw[aZ,kcc,kbq];omega) (by simp) (by intro r hr;simp at hr;subst hr;rfl) ⟨by simp;omega,by decide,by decide⟩) ?_;rintro _ _ ⟨s58,c58,rfl,rfl⟩;refine dV W ax ?_;refine aN ?_;refine aE<|al<|C<|M (bx (r:=((j+1:Nat):Int)) (cK (by omega)))<|T ?_;rw[show strR (((iC V J O).take j).map kf)++ [[ay (kf p)]]=strR (((iC V J O).take (j+1)).map kf) by rw[kdb,hp];simp[strR]];exact an (j+1,s58,c58) (by simp only[];omega) (by simp only[];omega) [9,11,12] rfl
   ·have h39':=kd1 h39;obtain rfl:j=(iC V J O).length:=(by omega);rw[kbl,show sl so (iC V J O).length co=sl so ((iC V J O).map kf).length co by simp];refine aF ?_;refine ac ?_;refine bz so ?_;refine al<|C<|gR (vB call163 (n8 ((iC V J O).map kf) [32] so co (by rw[kcc];omega) (by decide) (λx hx=>by obtain ⟨p,hp,rfl⟩:=kbV.1 hx;exact (rC hok p hp).2)))<|T ?_;exact dC Y rfl rfl (R.le)<|kay (Prod.mk _)<|kaU hf
 ·refine A<|M bV<|T<|ah ?_ ?_<;>intro h61
  ·obtain rfl:=kd0 h61;refine A<|C<|M aa<|gF 1 Yo W YE<|gL (ptr Y 0) YT<|C<|C<|gI (uB call59 (HS Y z J O R.o (by omega))) ?_;rintro _ _ (⟨hm,_,_⟩ | ⟨hm,gone,z2,s70,c70,hkl,h2,hx2,rfl,rfl⟩)
   ·omega
   have hel:=ru z.L J O hC.v.len;have hks:=wh (l:=eQ z.L J O) (σ:=z.lr);rw[hkl] at hks;have hgl:gone.length<=6:=(by have:=hks.1;simp only at this;omega);have hids:∀g∈gone,1<=g/\g<=999:=λg hg=>N9 hC g (hks.2 g hg);refine C<|gX (sl s70 gone.length c70)<|gX (I 0)<|gA<|T<|ac<|A<|C<|M aQ<|ab<|ah ?_ ?_<;>intro h74
   ·simp at h74
   ·refine ai<|ac ?_;refine aY 9 1 (strR ((gone.take 0).map Lib.itoa)) ?_;refine al<|T<|ac<|A<|T<|ak ?_;refine aL (α:=Nat×Option Addr×Nat) (λS=>S.1<=gone.length) (λS=>U [(13,sl s70 gone.length c70),(15,sl S.2.1 S.1 S.2.2),(16,I S.1)]) (λS=>be 9 1 S.2.1 S.2.2 (strR ((gone.take S.1).map Lib.itoa))::be 3 1 s70 c70 (bc gone)::e9 Y z2::pcc x #[ptr Z 0,ptr Y 0] 154::iD Z V::F) (λS=>gone.length - S.1) (0,none,0) (by simp) [13,15,16] rfl ?_;rintro ⟨j,so,co⟩ hj;simp only[] at hj ⊢;refine ac<|A<|C<|C<|M (aP XB)<|M aG<|ab<|ah ?_ ?_<;>intro h80
    ·have h80':=kd0 h80;have X:j<gone.length:=(by omega);obtain ⟨p,hp⟩:∃p,gone[j]? =some p:=⟨_,kbN X⟩;have hpm:=kbe hp;have hi1:0<=p/\p<=1000:=(by have:=hids p hpm;omega);refine ai<|ac<|ak<|al<|C<|C<|C<|M (av j XB Xu X (by rw[cw];exact X))<|M (aI (v:=I p) Xv (by exact fO hp) W)<|gR (vA call162 (kh (p) hi1))<|gI (ap [[ay (Lib.itoa p)]] XC Xx X9 (by simp)) ?_;rintro _ _ ⟨b89,rfl,rfl⟩;refine gI (aR XC Xx X9 Tryz.typeInfo9 (hn:=by rw[aZ,kcc,kbq];omega) (by simp) (by intro r hr;simp at hr;subst hr;rfl) ⟨by simp;omega,by decide,by decide⟩) ?_;rintro _ _ ⟨s90,c90,rfl,rfl⟩;refine T<|aE<|al<|C<|M (bx (r:=((j+1:Nat):Int)) (cK (by omega)))<|T ?_;rw[show strR ((gone.take j).map Lib.itoa)++ [[ay (Lib.itoa p)]]=strR ((gone.take (j+1)).map Lib.itoa) by rw[kdb,hp];simp[strR]];exact an (j+1,s90,c90) (by simp only[];omega) (by simp only[];omega) [13,15,16] rfl
    ·have h80':=kd1 h80;obtain rfl:j=gone.length:=(by omega);rw[kbl,show sl so gone.length co=sl so (gone.map Lib.itoa).length co by simp];refine aF ?_;refine ac ?_;refine bz so ?_;refine al<|C<|gR (vB call163 (n8 (gone.map Lib.itoa) [32] so co (by rw[kcc];omega) (by decide) (λx hx=>by obtain ⟨p,hp,rfl⟩:=kbV.1 hx;have:=hids p hp;exact kaB (dG (by omega)) (by decide))))<|T ?_;exact dC Y rfl rfl (R.rp h2 (by omega))<|kay (Pf ⟨V,z.lr⟩) hkl
  ·refine A<|M bV<|T<|ah ?_ ?_<;>intro h93
   ·obtain rfl:=kd0 h93;refine A<|C<|M aa<|gF 1 Yo W YE<|gL (ptr Y 0) YT<|C<|C<|gR (vB call62 (Ae Y z J O R.o))<|C<|gX (ay (cZ z J O).1)<|gX (I (cZ z J O).2)<|gA<|T<|ac<|A<|C<|M aQ<|ab<|ah ?_ ?_<;>intro h106
    ·have hf:(cZ z J O).2≠0:=(by simp at h106;omega);refine A<|C<|gR (vA call83 (eu ((cZ z J O).2) hr9))<|T ?_;exact dC Y rfl rfl (R.le)<|(kay (F9 ⟨V,z.lr⟩) (n5 z J O)).trans<|kay (Prod.mk _)<|kaT hf
    ·have hf:¬(cZ z J O).2≠0:=(by simp at h106;omega);refine ai<|A<|C<|gR (vA call164 (B5 (cZ z J O).1))<|T ?_;exact dC Y rfl rfl (R.le)<|(kay (F9 ⟨V,z.lr⟩) (n5 z J O)).trans<|kay (Prod.mk _)<|kaU hf
   ·refine ai<|aE<|A<|gR (vA call83 (eu (4) (by decide)))<|T ?_;exact dC Y rfl rfl (R.le) (by unfold Ph;rw[kaU (kd1 h20),kaU (kd1 h61),kaU (kd1 h93)])
def PO x bw X i V z(R:DkR i V z)(hi:i<=100)(w:Bytes)(hw:w.length<=1000)F:cqq 29 [ptr x 0,ay w] (pcc x #[ptr bw 0,ptr X 0] 154::iD bw V::e9 X z::F) (P8 x bw i (mq ⟨V,z.lr⟩ w) F):=by
 have hV:=R.v;refine Ct.of func29 W 170 ntmps29 (by simp) λw0=>?_;refine A<|T<|ac<|A<|C<|M (cD Xz)<|M aQ<|ab<|ah ?_ ?_<;>intro h13
 ·have J:60<w.length:=(by have:=kd0 h13;omega);refine A<|gR (vA call83 (eu (4) (by decide)))<|T ?_;exact dC X rfl rfl (R.le) (by unfold mq;rw[kaT J])
 ·have J:¬60<w.length:=(by have:=kd1 h13;omega);refine ai<|A<|C<|gI (uA call84 (HW w hw)) ?_;rintro _ _ ⟨s16,c16,rfl,rfl⟩;refine bz s16 ?_;obtain ⟨hln,hlm⟩:=D5 w;obtain ⟨u0,r,Y⟩:=kbo (Ab w);rw[Y] at hln hlm ⊢;have hcl:((u0::r).length:Int)=(r.length:Int)+1:=(by simp);simp only[kaX] at hln;refine T<|A<|C<|M (av (0) XC Xx (by simp) (by rw[aZ];exact (by simp)))<|M (aI (v:=ay u0) XD (by rfl) W)<|M bV<|C<|gK ao<|gK (av (0) XC Xx (by simp) (by rw[aZ];exact (by simp)))<|gK (aI (v:=ay u0) XD (by rfl) W)<|gK bV<|M cv<|T<|ac ?_;obtain ⟨rb,hrb⟩:∃rb,(decide (u0=fz) || decide (u0=ir))=rb:=⟨_,rfl⟩;rw[hrb];refine al<|C<|M (aP XC)<|T<|ac<|A<|C<|ab ?_;refine lV (α:=Int) (λla=>Xo rb r la) (λla=>U [(0,ptr x 0),(5,sl s16 (u0::r).length c16),(6,Bo rb),(7,I la)]) (λ_=>roL 1 s16 (strR (u0::r))::pcc x #[ptr bw 0,ptr X 0] 154::iD bw V::e9 X z::F) ?_ ?_
  ·apply ah<;>intro h29
   ·refine al<|C<|M (eG (cK (by omega)))<|T ?_;exact cJ (((u0::r).length:Int) - 1) (.inl ⟨h29,by omega⟩) [0,5,6,7] rfl
   ·refine ai ?_;exact cJ ((u0::r).length:Int) (.inr ⟨h29,by omega⟩) [0,5,6,7] rfl
  rintro la hla;obtain ⟨q,hq⟩:∃q,(if rb=true then r.dropLast else r)=q:=⟨_,rfl⟩;refine A<|T<|ac<|ac ?_;refine aY 3 1 (bc []) ?_;refine al<|T<|ak ?_;refine aL (α:=Nat×List Int×Option Addr×Nat) (λq0=>q0.1<=q.length/\fC (q.take q0.1)=some q0.2.1) (λq0=>U [(0,ptr x 0),(5,sl s16 (u0::r).length c16),(6,Bo rb),(7,I la),(8,sl q0.2.2.1 q0.2.1.length q0.2.2.2),(9,I ((q0.1+1:Nat):Int))]) (λq0=>be 3 1 q0.2.2.1 q0.2.2.2 (bc q0.2.1)::roL 1 s16 (strR (u0::r))::pcc x #[ptr bw 0,ptr X 0] 154::iD bw V::e9 X z::F) (λq0=>q.length - q0.1) (0,[],none,0) ⟨by simp,rfl⟩ [0,5,6,7,8,9] rfl ?_;rintro ⟨j,ns,so,co⟩ ⟨hj,S⟩;simp only[] at hj S ⊢;have hqj:=WG (u0:=u0) hla hq j;have hnl:=rB S;rw[kbq] at hnl;have hql:q.length<=r.length:=(by rw[<-hq];split <;> simp);refine ac<|A<|C<|C<|M aG<|ab<|ah ?_ ?_<;>intro h34
  ·have hjl:=hqj.1.1 (kd0 h34);obtain ⟨y,hy⟩:∃y,q[j]? =some y:=⟨_,kbN hjl⟩;have hy2:(u0::r)[j+1]? =some y:=(hqj.2 hjl).trans hy;have hlt:=(kaz.1 hy2).1;have hyl:y.length<=1000:=(by have:=hlm y (kbe hy2);omega);refine ai<|ac<|ak<|A<|C<|C<|M (av (j+1) XC Xx hlt (by rw[aZ];exact hlt))<|M (aI (v:=ay y) XD (by exact eX hy2) W)<|gR (vA call85 (DW y hyl))<|T<|ac<|A<|C<|M aG<|ab ?_;apply ah<;>intro h43
   ·have hno:fC q=none:=th hy (Se (kd0 h43));refine A<|gR (vA call83 (eu (4) (by decide)))<|T ?_;exact dC X rfl rfl (R.le) (by exact Sg J Y hrb hq hno)
   ·obtain ⟨n,hyn,hni⟩:=Sf (kd1 h43);rw[hni];refine ai<|al<|C<|C<|gI (ap [[I n]] XB Xu X5 (by simp)) ?_;rintro _ _ ⟨b47,rfl,rfl⟩;refine gI (aR XB Xu X5 Tryz.typeInfo3 (hn:=by rw[cw]) (by simp) (by intro r hr;simp at hr;subst hr;rfl) ⟨by omega,by decide,by decide⟩) ?_;rintro _ _ ⟨s48,c48,rfl,rfl⟩;rw[show bc ns++ [[I n]]=bc (ns++ [n]) by simp[bc],show ns.length+1=(ns++ [n]).length by simp];refine T<|aE<|al<|C<|M (bx (r:=((j+1+1:Nat):Int)) (cK (by omega)))<|T ?_;exact an (j+1,ns++ [n],s48,c48) ⟨by simp only[];omega,by simp only[];rw[kdb,hy];exact ti S hyn⟩ (by simp only[];omega) [0,5,6,7,8,9] rfl
  ·have hjl:¬j<q.length:=λh=>kd1 h34 (hqj.1.2 h);obtain rfl:j=q.length:=(by omega);rw[kbl] at S;have hrg:=wj S;refine aF ?_;refine ac<|A<|C<|ab<|ah ?_ ?_<;>intro h49
   ·have O:u0=fz\/u0=ir:=(by rw[<-hrb] at h49;simpa using h49);have Z:la=(r.length:Int):=by
     rcases hla with ⟨_,h⟩ | ⟨h,_⟩
     ·exact h
     ·rw[h49] at h;cases h
    have hqr:r.dropLast=q:=(by rw[<-hq,kaT h49]);obtain ⟨t,ht⟩:∃t,(u0::r)[r.length]? =some t:=⟨_,kbN (by simp)⟩;have htl:=hlm t (kbe ht);refine ac<|A<|C<|M aG<|C<|gK ao<|gK ao<|gK (av r.length XC Xx (hj:=by exact Z) (by simp) (by rw[aZ];simp))<|gK (aI (v:=ay t) XD (by exact eX ht) W)<|gK bV<|M cv<|ab ?_;apply ah<;>intro h58
    ·have hbad:(r.length:Int)<2\/t=[]:=(by rw[<-Z];simpa using h58);refine A<|gR (vA call83 (eu (4) (by decide)))<|T ?_;exact dC X rfl rfl (R.le) (by exact PM J Y O ht hbad)
    ·obtain ⟨hl2,hne⟩:¬la<2/\t≠ []:=(by simpa using h58);have hrn:r≠ []:=λe=>(by subst e;simp at Z;omega);have hrq:r=q++ [t]:=(by rw[<-hqr];exact Gm ht hrn);have hqn:q≠ []:=λe=>(by rw[e] at hrq;rw[hrq] at Z;simp at Z;omega);refine ai<|ac<|A<|C<|M (av (0) XC Xx (by simp) (by rw[aZ];exact (by simp)))<|M (aI (v:=ay u0) XD (by rfl) W)<|M bV<|C<|gK ao<|gK (aP XB)<|gK bE<|M dc<|ab ?_;apply ah<;>intro h68
     ·obtain ⟨hwd,hn1⟩:u0=fz/\(ns.length:Int)=1:=(by simpa using h68);obtain ⟨n1,rfl⟩:=kdB.1 (show ns.length=1 by omega);refine ac<|gD (Lf:=[pcc x #[ptr bw 0,ptr X 0] 154,roL 1 s16 (strR (u0::r)),be 3 1 so co (bc [n1])]) (plN [0,2,4,6,8,10,12,14,16,18,20,23,25,27,28])<|dM W<|dV W aa<|dF W 0 Yo W Zs<|dL W (ptr bw 0) ZG<|dM W<|dV W (av 0 XB Xu (by simp) (by simp[bc]))<|dV W (aI (v:=I n1) Xv (by rfl) W)<|dM W<|dM W<|dV W (av r.length XC Xx (hj:=by exact Z) (by simp) (by rw[aZ];simp))<|dV W (aI (v:=ay t) XD (by exact eX ht) W)<|cQ W (uA call87 (wI t)) ?_;rintro _ _ ⟨rfl,rfl⟩;refine cQ W (uB call76 (we bw V n1 (qb t) hV.1.2)) ?_;rintro _ _ ⟨rfl,rfl⟩;refine cQ W (uA call86 (mz (F0 V n1 (qb t)) (SY V n1 (qb t)))) ?_;rintro _ _ ⟨rfl,rfl⟩;refine dV W ax ?_;refine aN ?_;exact dC X rfl rfl (R.vd (fx (OD R.v n1 _) (by omega)) (O1 R.d n1 _)) (by rw[rD J (Y.trans (by rw[<-hrq])) O hqn];unfold Ai;rw[kaU hne,S];exact kaT hwd)
     ·have hnw:¬(u0=fz/\ns.length=1):=λh=>(by simp[h.1,h.2] at h68);refine ai<|ac<|A<|C<|M (av (0) XC Xx (by simp) (by rw[aZ];exact (by simp)))<|M (aI (v:=ay u0) XD (by rfl) W)<|M bV<|C<|gK ao<|gK (aP XB)<|gK bE<|M dc<|ab ?_;apply ah<;>intro h91
      ·obtain ⟨hwd,hn1⟩:u0=ir/\(ns.length:Int)=2:=(by simpa using h91);obtain ⟨n1,n2,rfl⟩:=uW (show ns.length=2 by omega);refine ac<|gD (Lf:=[pcc x #[ptr bw 0,ptr X 0] 154,roL 1 s16 (strR (u0::r)),be 3 1 so co (bc [n1,n2])]) (plN [0,2,4,6,8,10,12,14,16,18,20,22,24,26,29,31,33,34])<|dM W<|dV W aa<|dF W 1 Yo W YE<|dL W (ptr X 0) YT<|dM W<|dV W (av 0 XB Xu (by simp) (by simp[bc]))<|dV W (aI (v:=I n1) Xv (by rfl) W)<|dM W<|dV W (av 1 XB Xu (by simp) (by simp[bc]))<|dV W (aI (v:=I n2) Xv (by rfl) W)<|dM W<|dM W<|dV W (av r.length XC Xx (hj:=by exact Z) (by simp) (by rw[aZ];simp))<|dV W (aI (v:=ay t) XD (by exact eX ht) W)<|cQ W (uA call87 (wI t)) ?_;rintro _ _ ⟨rfl,rfl⟩;refine cQ W (uB call63 (HX X z n1 n2 (qb t) R.o (by have:=Gl t;omega))) ?_;rintro _ _ ⟨n2,e,z2,hk,h2,hx2,rfl,rfl⟩;obtain ⟨R2,he9,hn9,hat,haf⟩:=R.act hi (show nc≠kL by decide) hk h2 hx2;refine cQ W (uA call86 (mz (e) he9)) ?_;rintro _ _ ⟨rfl,rfl⟩;refine dV W ax ?_;refine aN ?_;exact dC X rfl rfl (R2) (by rw[rD J (Y.trans (by rw[<-hrq])) O hqn];unfold Ai;rw[kaU hne,S];exact (kaT hwd).trans haf)
      ·have hno:¬(u0=ir/\ns.length=2):=λh=>(by simp[h.1,h.2] at h91);refine ai<|A<|gR (vA call83 (eu (4) (by decide)))<|T ?_;exact dC X rfl rfl (R.le) (by rw[rD J (Y.trans (by rw[<-hrq])) O hqn];unfold Ai;rw[kaU hne,S];exact PJ hnw hno)
   ·have O:¬(u0=fz\/u0=ir):=(by rw[<-hrb] at h49;simpa using h49);obtain rfl:r=q:=(by rw[<-hq,kaU (by simp[h49])]);refine ai<|ac<|A<|C<|M (aP XB)<|ab<|ak<|A<|M bE<|T<|ah ?_ ?_<;>intro h112
    ·obtain rfl:ns=[]:=kbb.1 (by have:=kd0 h112;omega);refine A<|C<|C<|M (av (0) XC Xx (by simp) (by rw[aZ];exact (by simp)))<|M (aI (v:=ay u0) XD (by rfl) W)<|gI (uD call88 (HY x bw X i V z R hi u0)) ?_;rintro _ _ ⟨V2,z2,b2,t,R2,hY,rfl,rfl⟩;refine T ?_;exact dC b2 rfl rfl (R2) (by rw[je J Y O,S];exact hY)
    ·have hn0:=kd1 h112;refine A<|M bE<|T<|ah ?_ ?_<;>intro h119
     ·obtain ⟨n1,rfl⟩:=kdB.1 (show ns.length=1 by have:=kd0 h119;omega);refine ac ?_;refine cn (Lf:=[roL 1 s16 (strR (u0::r)),be 3 1 so co (bc [n1])]) jX ?_;refine dM W<|dM W<|dV W (av (0) XC Xx (by simp) (by rw[aZ];exact (by simp)))<|dV W (aI (v:=ay u0) XD (by rfl) W)<|dM W<|dV W (av 0 XB Xu (by simp) (by simp[bc]))<|dV W (aI (v:=I n1) Xv (by rfl) W)<|cQ W (uD call89 (PE x bw X i V z R hi u0 n1 (hrg n1 (by simp)))) ?_;rintro _ _ ⟨V2,z2,b2,t,R2,hY,rfl,rfl⟩;refine dV W ax ?_;refine aN ?_;exact dC b2 rfl rfl (R2) (by rw[je J Y O,S];exact hY)
     ·have hn1:=kd1 h119;refine A<|M bE<|T<|ah ?_ ?_<;>intro h129
      ·obtain ⟨n1,n2,rfl⟩:=uW (show ns.length=2 by have:=kd0 h129;omega);refine ac ?_;refine cn (Lf:=[roL 1 s16 (strR (u0::r)),be 3 1 so co (bc [n1,n2])]) jQ ?_;refine dM W<|dM W<|dV W (av (0) XC Xx (by simp) (by rw[aZ];exact (by simp)))<|dV W (aI (v:=ay u0) XD (by rfl) W)<|dM W<|dV W (av 0 XB Xu (by simp) (by simp[bc]))<|dV W (aI (v:=I n1) Xv (by rfl) W)<|dM W<|dV W (av 1 XB Xu (by simp) (by simp[bc]))<|dV W (aI (v:=I n2) Xv (by rfl) W)<|cQ W (uD call90 (PN x bw X i V z R hi u0 n1 n2 (hrg n1 (by simp)) (hrg n2 (by simp)))) ?_;rintro _ _ ⟨V2,z2,b2,t,R2,hY,rfl,rfl⟩;refine dV W ax ?_;refine aN ?_;exact dC b2 rfl rfl (R2) (by rw[je J Y O,S];exact hY)
      ·have hn2:=kd1 h129;refine A<|M bE<|T<|ah ?_ ?_<;>intro h142
       ·obtain ⟨n1,n2,n3,rfl⟩:=B9 (show ns.length=3 by have:=kd0 h142;omega);refine A<|C<|M (av (0) XC Xx (by simp) (by rw[aZ];exact (by simp)))<|M (aI (v:=ay u0) XD (by rfl) W)<|M bV<|ab ?_;apply ah<;>intro h147
        ·have hwm:u0=wg:=kd0 h147;refine ac<|gD (Lf:=[pcc x #[ptr bw 0,ptr X 0] 154,be 3 1 so co (bc [n1,n2,n3])]) (plN [0,2,4,6,8,10,12,14,16,18,20,22,24,26,28,30,32,35,36,38,41,42])<|dM W<|dV W aa<|dF W 1 Yo W YE<|dL W (ptr X 0) YT<|dM W<|dV W aa<|dF W 0 Yo W Zs<|dL W (ptr bw 0) ZG<|dM W<|dV W (av 0 XB Xu (by simp) (by simp[bc]))<|dV W (aI (v:=I n1) Xv (by rfl) W)<|dM W<|dV W (av 1 XB Xu (by simp) (by simp[bc]))<|dV W (aI (v:=I n2) Xv (by rfl) W)<|dM W<|dV W (av 2 XB Xu (by simp) (by simp[bc]))<|dV W (aI (v:=I n3) Xv (by rfl) W)<|cQ W (uC call23 (HP X bw z V 1 n1 n2 n3 3 R.o (by have:=R.nx;omega) R.sl R.sz R.d (Wu _ _ _) (xT _ _ _))) ?_;rintro _ _ ⟨v1,e,z2,hcl2,h2,hx2,rfl,rfl⟩;obtain ⟨R2,he9,hn9⟩:=Sc R hcl2 h2 hx2;refine dV W (aB (v:=I v1))<|dV W (aB (v:=I e))<|cQ W (uA call91 (o7 (v1) (e) he9 (by omega))) ?_;rintro _ _ ⟨rfl,rfl⟩;refine dV W ax ?_;refine aN ?_;exact dC X rfl rfl (R2) (by rw[je J Y O,S];exact ((kaT hwm).trans (kay (Lz ⟨V,z.lr⟩) hcl2)))
        ·have hwm:¬u0=wg:=kd1 h147;refine ai<|aE<|A<|gR (vA call83 (eu (4) (by decide)))<|T ?_;exact dC X rfl rfl (R.le) (by rw[je J Y O,S];exact kaU hwm)
       ·have hn3:=kd1 h142;refine ai<|aE<|A<|gR (vA call83 (eu (4) (by decide)))<|T ?_;exact dC X rfl rfl (R.le) (by rw[je J Y O,S];exact PK hn0 hn1 hn2<|λh=>hn3 (by omega))
def PP F:cqq 28 [] (F) (λv L'=>∃x J O z,DkR 0 (k5 8) z/\z.lr=Xl/\v=ptr x 0/\L'=pcc x #[ptr J 0,ptr O 0] 154::iD J (k5 8)::e9 O z::F):=by
 refine Ct.of func28 W 11 ntmps28 (by simp) λw0=>?_;refine A<|T<|A<|gI (uA call19 (AE 8)) ?_;rintro _ _ (⟨S,_,_⟩ | ⟨_,J,rfl,rfl⟩)
 ·exact absurd (by decide) S
 refine C<|gX (ptr J 0)<|gX (I 0)<|gA<|T<|A<|C<|gI (uA call9 (xh)) ?_;rintro _ _ ⟨O,X,V,rfl,rfl⟩;refine M (aS (GA _ W _ W))<|gI (dw #[ptr J 0,ptr O 0]) ?_;rintro _ _ ⟨R,rfl,rfl⟩;refine T ?_;exact ar (pcc R #[ptr J 0,ptr O 0] 154::iD J (k5 8)::e9 O ⟨hd1,X,bN (bH gZ) [] 1,bH gZ,[],1,[],[],1⟩::F) rfl ⟨R,J,O,_,⟨⟨⟨⟨gZ,Con_z⟩,by show (1:Int)<=1/\(1:Int)<=1000000;omega,(λe he=>by cases he),(λe he=>by cases he),(λe he=>by cases he)⟩,rfl,V⟩,JP (by decide),JW 8,by show (1:Int)<=_;omega⟩,rfl,rfl,rfl⟩
set_option maxRecDepth 4000
def o8:∀(l:List Bytes) (c:CoS),(jd c l).2.length=l.length
 | [],c=>rfl
 | x::r,c=>by
  unfold jd;simp only[kaX];rw[o8 r]
theorem Ca x:∀(l:List Bytes) (c:CoS),jd c (l++ [x])=((mq (jd c l).1 x).1,(jd c l).2++ [(mq (jd c l).1 x).2])
 | [],c=>rfl
 | y::r,c=>by
  show jd c (y::(r++ [x]))=_;simp only[jd];rw[Ca x r]
  rfl
variable {l:List Bytes}
theorem Cb {i x}(h:l[i]? =some x):jd c (l.take (i+1))=((mq (jd c (l.take i)).1 x).1,(jd c (l.take i)).2++ [(mq (jd c (l.take i)).1 x).2]):=by
 grind[List.take_add_one,Ca]
def c0:CoS:=⟨k5 8,Xl⟩
def AG:List Bytes:=[[119,114,105,116,101,32,50,32,104,97,121],[115,110,97,112],[102,117,108,108,32,49],[119,114,105,116,101,32,51,32,111,97,116,115],[115,110,97,112],[99,104,97,110,103,101,100,32,49,32,50],[109,111,114,101,32,50,32,49,32,49],[115,104,111,119,32,50],[98,108,111,99,107,115],[102,108,121]]
def hloW:List Bytes:=[[111,107],[49],[49],[111,107],[50],[51,43,49],[50],[45,32,45,32,104,97,121,32,111,97,116,115,32,45,32,45,32,45,32,45],[50,32,52],[101,114,114,111,114,32,52]]
def Sh:(jd c0 AG).2=hloW:=by decide+kernel
def Vg:∀x∈AG,x.length<=1000/\¬B8 x:=by decide
theorem PQ {sz c K E L F}s q[R:Rem L (roL sz s rows) F](k:G c K E (roL sz s (rows.take q)::F)):G c K E L:=λa w J S=>k a w J (by
 refine (R.sat S).weak λm hm=>?_;rcases hm with rfl | ⟨b,off,o,rfl,V,O⟩
 ·exact .inl (by simp)
 ·exact .inr ⟨b,off,o,rfl,V,λj row hj=>O j row (by grind)⟩)
def strR_row:(∀r∈strR l,r.length=1)/\∀r∈strR l,ones r=true:=by
 constructor <;> intro r hr <;> obtain ⟨x,_,rfl⟩:=kbV.1 hr <;> rfl
def PR l s cap(hl:l.length<=100)(hm:∀x∈l,x.length<=1000/\¬B8 x)F:cqq 27 [sl s l.length cap] (tabs::erR::roL 1 s (strR l)::F) (λv L'=>(80<l.length/\v= .tuple #[sl none 0 0,bQ 2]/\L'=tabs::erR::roL 1 s (strR l)::F)\/(¬80<l.length/\∃s2 c2,v= .tuple #[sl s2 l.length c2,bQ 0]/\L'=be 9 1 s2 c2 (strR (jd c0 l).2)::tabs::erR::roL 1 s (strR l)::F)):=by
 refine Ct.of func27 W 57 ntmps27 (by simp) λw0=>?_;refine A<|gA<|T<|ac<|A<|C<|M (aP XC)<|M aQ<|ab<|ah ?_ ?_<;>intro h13
 ·have X:80<l.length:=(by have:=kd0 h13;omega);refine A<|M (ba XG)<|gA<|T ?_;exact ar (tabs::erR::roL 1 s (strR l)::F) rfl<|.inl ⟨X,rfl,rfl⟩
 ·have X:¬80<l.length:=(by have:=kd1 h13;omega);refine ai<|A<|gI (uA call36 (EA 260)) ?_;rintro _ _ (⟨Z,_,_⟩ | ⟨_,S,rfl,rfl⟩)
  ·exact absurd (by omega) Z
  rw[show ((260:Int)).toNat=260 from rfl];refine C<|gX (ptr S 0)<|gX (bQ 0)<|gA<|T<|ac<|A<|C<|M (bX (ec:=117) (f:=0) XF)<|ab<|ah ?_ ?_<;>intro h20
  ·simp at h20
  ·refine ai<|A<|C<|gI (uC (A0:=tabs) call37 (zx S)) ?_;rintro _ _ ⟨D2,h2,used2,hok,rfl,rfl⟩;refine T<|ac<|A<|C<|M (bX (ec:=117) (f:=0) XF)<|ab<|ah ?_ ?_<;>intro h25
   ·simp at h25
   ·refine ai<|A<|gI (uA call18 (DL 8)) ?_;rintro _ _ (⟨Z,_,_⟩ | ⟨_,bv,rfl,rfl⟩)
    ·exact absurd (by decide) Z
    refine C<|gX (ptr bv 0)<|gX (bQ 0)<|gA<|T<|ac<|A<|C<|M (bX (ec:=117) (f:=0) XF)<|ab<|ah ?_ ?_<;>intro h32
    ·simp at h32
    ·refine ai<|A<|C<|C<|M (aS (Gz _ W _ W))<|gI (dw #[ptr S 0,ptr bv 0, .pointer none]) ?_;rintro _ _ ⟨O,rfl,rfl⟩;refine T<|A<|C<|gI (uD (A0:=tabs) call81 (B7 O S bv 1 (.pointer none) D2 _ (Pw hok))) ?_;rintro _ _ ⟨b2,rfl,rfl⟩;refine T<|ac<|A<|C<|M (bX (ec:=117) (f:=0) XF)<|ab<|ah ?_ ?_<;>intro h41
     ·simp at h41
     ·refine ai<|ac ?_;refine aY 9 1 (strR (jd c0 (l.take 0)).2) ?_;refine al<|T<|ac<|A<|C<|M (aP XC)<|C<|ab<|ak ?_;refine aL (α:=Nat×DiskM×VdM×RpM×Nat×Option Addr×Nat) (λJ=>J.1<=l.length/\CoR J.1 J.2.1 J.2.2.1 J.2.2.2.1/\(jd c0 (l.take J.1)).1=⟨J.2.2.1,J.2.2.2.1.lr⟩) (λJ=>U [(7,ptr O 0),(8,sl J.2.2.2.2.2.1 J.1 J.2.2.2.2.2.2),(43,sl s l.length cap),(44,I l.length),(45,I J.1)]) (λJ=>be 9 1 J.2.2.2.2.2.1 J.2.2.2.2.2.2 (strR (jd c0 (l.take J.1)).2)::pcc O #[ptr S 0,ptr bv 0,ptr J.2.2.2.2.1 0] 152::gp bv J.2.2.1::dD J.2.2.2.2.1 S J.2.2.2.1::cj 179 319 S (J.2.1)::tabs::erR::roL 1 s (strR l)::F) (λJ=>l.length - J.1) (0,D2,k5 8,(RpM.anew ⟨h2,used2,bN (bH gZ) [] 1,bH gZ,[],1,[],[],1⟩),b2,none,0) ⟨by simp,⟨(Pw hok).anew,JP (by decide),JW 8⟩,rfl⟩ [7,8,43,44,45] rfl ?_;rintro ⟨i,D,V,z,b,so,co⟩ ⟨hi,R,hrc⟩;simp only[] at hi R hrc ⊢;refine A<|M aG<|ab<|ac<|ah ?_ ?_<;>intro h46
      ·have Y:i<l.length:=(by have:=kd0 h46;omega);obtain ⟨x,hx⟩:∃x,l[i]? =some x:=⟨_,kbN Y⟩;have hxm:=kbe hx;refine ai<|ac<|ak<|A<|M (av i XC Xx Y (by rw[aZ];exact Y))<|M (aI (v:=ay x) XD (by exact eX hx) W)<|T<|al<|C<|C<|C<|gI (uG (A0:=tabs) call82 W (PL O S bv b i V D z R (by omega) x (hm x hxm).1 (hm x hxm).2)) ?_;rintro _ _ ⟨D3,V2,z2,b3,R2,hY,rfl,rfl⟩;have hrn:=Cb (c:=c0) hx;rw[hrc] at hrn;refine gI (ap [[ay (mq ⟨V,z.lr⟩ x).2]] XC Xx X9 (by simp)) ?_;rintro _ _ ⟨b53,rfl,rfl⟩;refine gI (aR XC Xx X9 Tryz.typeInfo9 (hn:=by rw[aZ,o8,kbq];omega) (by simp) (by intro r hr;simp at hr;subst hr;rfl) ⟨by omega,by decide,by decide⟩) ?_;rintro _ _ ⟨s54,c54,rfl,rfl⟩;refine T<|aE<|al<|M (bx (r:=((i+1:Nat):Int)) (cK (by omega)))<|C<|ab ?_;rw[show strR (jd c0 (l.take i)).2++ [[ay (mq ⟨V,z.lr⟩ x).2]]=strR (jd c0 (l.take (i+1))).2 by rw[hrn];simp[strR]];exact an (i+1,D3,V2,z2,b3,s54,c54) ⟨by simp only[];omega,R2,by simp only[];rw[hrn];exact hY⟩ (by simp only[];omega) [7,8,43,44,45] rfl
      ·obtain rfl:i=l.length:=(by have:=kd1 h46;omega);rw[kbl];refine aF ?_;refine A<|C<|gA<|T ?_;exact ar (be 9 1 so co (strR (jd c0 l).2)::tabs::erR::roL 1 s (strR l)::F) rfl<|.inr ⟨X,so,co,rfl,rfl⟩
def H3 F:cqq 26 [] (tabs::erR::F) (R1 (Bo true) (tabs::erR::F)):=by
 refine Ct.of func26 W 15 ntmps26 (by simp) λw0=>?_;refine A<|T<|A<|gI (ap (strR AG) XC Xx X9 (by simp[strR,AG])) ?_;rintro _ _ ⟨S,rfl,rfl⟩;refine bz (some ⟨S,0,none⟩) ?_;refine gI (uD (A0:=tabs) call27 (PR AG (some ⟨S,0,none⟩) 10 (by decide) Vg)) ?_;rintro _ _ (⟨R,_,_⟩ | ⟨_,O,c5,rfl,rfl⟩)
 ·exact absurd R (by decide)
 rw[Sh];refine bz O ?_;refine C<|gX (sl O hloW.length c5)<|gX (bQ 0)<|gA<|T<|A<|C<|gR (vA call14 (u6 (0) (0) (by decide)))<|C<|bh (hw:=by simp) ao ?_;refine wK (hw:=by simp) (ap (strR hloW) XC Xx X9 (by simp[strR,hloW])) ?_;rintro _ _ ⟨J,rfl,rfl⟩;refine bz (some ⟨J,0,none⟩) ?_;refine wK (hw:=by simp) (dQ (Pre:=[roL 1 O (strR hloW),roL 1 (some ⟨J,0,none⟩) (strR hloW)]) call30 (m7 hloW hloW O (some ⟨J,0,none⟩) c5 10 (by decide))) ?_;rintro _ _ ⟨rfl,rfl⟩;refine M dc<|T ?_;exact am rfl rfl (by show Bo _=Bo true;simp)
def ct_L_ConsoleSays l s cap(hl:l.length<=9223372036854775807)(hlm:∀x∈l,x.length<=9223372036854775807)F:cqq 5 [sl s l.length cap] (tabs::erR::roL 1 s (strR l)::F) (R1 (Bo true) (tabs::erR::roL 1 s (strR l)::F)):=by
 refine Ct.of func5 W 100 ntmps5 (by simp) λw0=>?_;refine A<|T<|A<|gR (vC (A0:=tabs) call26 (H3))<|T<|ac<|A<|C<|M cS<|C<|bh ao<|bh (aP XC)<|bh aQ<|M cv<|ab<|ah ?_ ?_<;>intro h19
 ·refine A<|C<|T ?_;exact am rfl rfl (by show Bo _=Bo true;first | rfl | simp)
 ·have hll:l.length<=90:=(by simp at h19;omega);refine ai<|ac<|A<|T<|ak ?_;refine aL (α:=Nat) (λi=>i<=l.length/\∀x∈l.take i,x.length<=1000/\¬B8 x) (λi=>U [(0,sl s l.length cap),(4,I i)]) (λi=>tabs::erR::roL 1 s (strR l)::F) (λi=>l.length - i) 0 ⟨by simp,by simp⟩ [0,4] rfl ?_;rintro i ⟨hi,hok⟩;refine ac<|A<|C<|C<|M (aP XC)<|M aG<|ab<|ah ?_ ?_<;>intro h24
  ·have J:i<l.length:=(by have:=kd0 h24;omega);obtain ⟨x,hx⟩:∃x,l[i]? =some x:=⟨_,kbN J⟩;have hxl:=hlm x (kbe hx);refine ai<|ac<|ak<|A<|C<|C<|M (av i XC Xx J (by rw[aZ];exact J))<|M (aI (v:=ay x) XD (by exact eX hx) W)<|M (cD Xz)<|M aQ ?_;rcases ka3 100 x.length with h100 | h100
   ·have Z:(decide (100<(x.length:Int)))=true:=(by simp;omega);have S:u7 (Bo (decide (100<(x.length:Int)))) false=true:=(by rw[Z];rfl);refine C<|bi (hw:=by exact S)<|bi (hw:=by exact S)<|bi (hw:=by exact S)<|bi (hw:=by exact S)<|bi (hw:=by exact S)<|bi (hw:=by exact S)<|bi (hw:=by exact S)<|bi<|bi<|bi<|bi<|bi<|bi<|bi (hw:=by exact S)<|M (eV (hq:=by exact Z))<|ab ?_;refine d6 ?_;refine A<|T ?_;exact am rfl rfl rfl
   ·have Z:(decide (100<(x.length:Int)))=false:=(by simp;omega);refine C<|bh (hw:=by exact Z) ao<|bh (hw:=by exact Z) ao<|bh (hw:=by exact Z) (av i XC Xx J (by rw[aZ];exact J))<|bh (hw:=by exact Z) (aI (v:=ay x) XD (by exact eX hx) W)<|bh (hw:=by exact Z) (cD Xz)<|bh (hw:=by exact Z) aQ<|bh (hw:=by exact Z) ao<|gK ao<|gK ao<|gK (av i XC Xx J (by rw[aZ];exact J))<|gK (aI (v:=ay x) XD (by exact eX hx) W)<|Gv (λhg=>Ia (h:=4) Xz W W W (by simp at hg;omega))<|gK bV<|bh (hw:=by exact Z) dc<|M cv<|ab ?_;apply ah<;>intro h48
    ·refine A<|T ?_;exact am rfl rfl (by show Bo _=Bo true;first | rfl | simp)
    ·have hna:¬B8 x:=λh=>by
      rw[Z] at h48;have:=h.1;simp[h.2] at h48;omega
     refine ai<|aE<|al<|C<|M (bx (r:=((i+1:Nat):Int)) (cK (by omega)))<|T ?_;exact an (i+1) ⟨by omega,λy hy=>by rw[kdb,hx] at hy;rcases kbF.1 hy with hy | hy;exact hok y hy;simp at hy;subst hy;exact ⟨by omega,hna⟩⟩ (by omega) [0,4] rfl
  ·obtain rfl:i=l.length:=(by have:=kd1 h24;omega);rw[kbl] at hok;refine aF ?_;refine ac ?_;refine aY 9 1 (strR []) ?_;refine al<|C<|gI (aR XC Xx X9 Tryz.typeInfo9 (hm:=by exact aZ l) strR_row.1 strR_row.2 ⟨by omega,by decide,by decide⟩) ?_;rintro _ _ ⟨s50,c50,rfl,rfl⟩;rw[show strR []++strR l=strR l from rfl,ka9];refine gI (ap [[ay [109,97,114,107]]] XC Xx X9 (by simp)) ?_;rintro _ _ ⟨b51,rfl,rfl⟩;refine gI (aR XC Xx X9 Tryz.typeInfo9 (hn:=by exact aZ l) (by simp) (by intro r hr;simp at hr;subst hr;rfl) ⟨by omega,by decide,by decide⟩) ?_;rintro _ _ ⟨X,c52,rfl,rfl⟩;refine mC X<|λhcap=>?_;rw[kcp,aZ] at hcap;refine C<|M (aP XC)<|M (lO (h:=l.length) XC Xx W W W (by omega))<|T<|ac ?_;refine bz X ?_;refine PQ (sz:=1) (rows:=strR l++ [[ay [109,97,114,107]]]) X l.length ?_;rw[show (strR l++ [[ay [109,97,114,107]]]).take l.length=strR l by rw[kbI (by rw[aZ];exact kax _),kcI (by rw[aZ];exact kax _)]];refine al<|C<|gI (uD (A0:=tabs) call27 (PR l X c52 (by omega) hok)) ?_;rintro _ _ (⟨h80,rfl,rfl⟩ | ⟨h80,Y,c58,rfl,rfl⟩)
   ·refine C<|gX (sl none 0 0)<|gX (bQ 2)<|gA<|T<|ac<|A<|C<|M (aP XC)<|M aQ<|ab<|ah ?_ ?_<;>intro h63
    ·refine A<|C<|gR (vA call14 (u6 (2) (2) (by decide)))<|C<|bh (hw:=by simp) ao<|bh (hw:=by simp) (aP XC)<|bh (hw:=by simp) bE<|M dc<|T ?_;exact am rfl rfl (by show Bo _=Bo true;first | rfl | simp)
    ·exact absurd (by omega)<|kd1 h63
   ·refine C<|gX (sl Y l.length c58)<|gX (bQ 0)<|gA<|T<|ac<|A<|C<|M (aP XC)<|M aQ<|ab<|ah ?_ ?_<;>intro h63
    ·exact absurd (kd0 h63) (by omega)
    ·refine bz Y ?_;refine aY 9 1 (strR (jd c0 (l.take 0)).2) ?_;refine ai<|A<|gI (uA call28 (PP)) ?_;rintro _ _ ⟨xd,bw,bm0,z0,R0,hlr,rfl,rfl⟩;refine T<|A<|T<|ac<|A<|T<|ak ?_;refine aL (α:=Nat×VdM×RpM×Nat×Option Addr×Nat) (λO=>O.1<=l.length/\DkR O.1 O.2.1 O.2.2.1/\(jd c0 (l.take O.1)).1=⟨O.2.1,O.2.2.1.lr⟩) (λO=>U [(0,sl s l.length cap),(5,sl X l.length c52),(6,sl Y l.length c58),(7,bQ 0),(8,ptr xd 0),(9,sl O.2.2.2.2.1 O.1 O.2.2.2.2.2),(10,I O.1)]) (λO=>be 9 1 O.2.2.2.2.1 O.2.2.2.2.2 (strR (jd c0 (l.take O.1)).2)::pcc xd #[ptr bw 0,ptr O.2.2.2.1 0] 154::iD bw O.2.1::e9 O.2.2.2.1 O.2.2.1::roL 1 Y (strR (jd c0 l).2)::roL 1 X (strR l)::tabs::erR::roL 1 s (strR l)::F) (λO=>l.length - O.1) (0,k5 8,z0,bm0,none,0) ⟨by simp,R0,by simp only[];rw[hlr];rfl⟩ [0,5,6,7,8,9,10] rfl ?_;rintro ⟨i,V,z,bm,so,co⟩ ⟨hi,R,hrc⟩;simp only[] at hi R hrc ⊢;refine ac<|A<|C<|C<|M (aP XC)<|M aG<|ab<|ah ?_ ?_<;>intro h75
     ·have J:i<l.length:=(by have:=kd0 h75;omega);obtain ⟨x,hx⟩:∃x,l[i]? =some x:=⟨_,kbN J⟩;have hxm:=kbe hx;refine ai<|ac<|ak<|A<|C<|C<|C<|M (av i XC Xx J (by rw[aZ];exact J))<|M (aI (v:=ay x) XD (by exact eX hx) W)<|gI (uD call29 (PO xd bw bm i V z R (by omega) x (hok x hxm).1)) ?_;rintro _ _ ⟨V2,z2,b2,t,R2,hY,rfl,rfl⟩;have hrn:=Cb (c:=c0) hx;rw[hrc,hY] at hrn;refine T<|al<|C<|C<|gI (ap [[ay t]] XC Xx X9 (by simp)) ?_;rintro _ _ ⟨b86,rfl,rfl⟩;refine gI (aR XC Xx X9 Tryz.typeInfo9 (hn:=by rw[aZ,o8,kbq];omega) (by simp) (by intro r hr;simp at hr;subst hr;rfl) ⟨by omega,by decide,by decide⟩) ?_;rintro _ _ ⟨s87,c87,rfl,rfl⟩;refine T<|aE<|al<|C<|M (bx (r:=((i+1:Nat):Int)) (cK (by omega)))<|T ?_;rw[show strR (jd c0 (l.take i)).2++ [[ay t]]=strR (jd c0 (l.take (i+1))).2 by rw[hrn];simp[strR]];exact an (i+1,V2,z2,b2,s87,c87) ⟨by simp only[];omega,R2,by simp only[];rw[hrn]⟩ (by simp only[];omega) [0,5,6,7,8,9,10] rfl
     ·obtain rfl:i=l.length:=(by have:=kd1 h75;omega);rw[kbl,show sl Y l.length c58=sl Y (jd c0 l).2.length c58 by rw[o8],show sl so l.length co=sl so (jd c0 l).2.length co by rw[o8]];refine bz so ?_;refine aF ?_;refine A<|C<|gR (vA call14 (u6 (0) (0) (by decide)))<|C<|bh (hw:=by simp) ao<|bh (hw:=by simp) ao ?_;refine wK (hw:=by simp) (dQ (Pre:=[roL 1 Y (strR (jd c0 l).2),roL 1 so (strR (jd c0 l).2)]) call30 (m7 (jd c0 l).2 (jd c0 l).2 Y so c58 co (by rw[o8];omega))) ?_;rintro _ _ ⟨rfl,rfl⟩;refine M dc<|C<|bh (hw:=by simp) ao<|bh (hw:=by simp) ao ?_;refine wK (hw:=by simp) (dQ (Pre:=[roL 1 X (strR l),roL 1 s (strR l)]) call30 (m7 l l X s c52 cap (by omega))) ?_;rintro _ _ ⟨rfl,rfl⟩;refine M dc<|T ?_;exact am rfl rfl (by show Bo _=Bo true;first | rfl | simp)
end Go.Proofs.YthdjckbjjfiopabGreatDoor