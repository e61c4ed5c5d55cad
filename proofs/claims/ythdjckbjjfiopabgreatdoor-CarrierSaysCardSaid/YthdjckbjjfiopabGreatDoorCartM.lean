/- Several texts in one: walks and rules used by them. No condition. -/
import Derived.Test.YthdjckbjjfiopabGreatDoorCartL
import Derived.Test.YthdjckbjjfiopabGreatDoorCartI
import Derived.Test.YthdjckbjjfiopabGreatDoorCartK
set_option linter.unusedSimpArgs false
set_option linter.unusedVariables false
set_option synthInstance.maxSize 9999
set_option synthInstance.maxHeartbeats 0
set_option linter.defProp false
set_option maxHeartbeats 800000
namespace Go.Proofs.YthdjckbjjfiopabGreatDoor
open Go.Sl Go.Proofs
def N5 {t:Nat}{D S:DiskM}{V:VdM}{z z2:RpM}{disk J base:Int}{m:Nat->Bool}{O n e:Int}(R:Up t D z)(ht:t<=80000)(k:po D V z disk J base m O n e S z2):Up (t+2) S z2:=by
 unfold po at k;by_cases h1:(ft V J).2≠0
 ·rw[YB h1] at k;obtain ⟨_,_,rfl,rfl⟩:=k;exact R.le (by omega)
 rw[YC h1] at k;by_cases Y:O<1
 ·rw[YB Y] at k;obtain ⟨_,_,rfl,rfl⟩:=k;exact R.le (by omega)
 rw[YC Y] at k;by_cases Z:ce z base disk (ft V J).1≠0
 ·rw[YB Z] at k;obtain ⟨_,_,rfl,rfl⟩:=k;exact R.le (by omega)
 rw[YC Z] at k;have hb:ce z base disk (ft V J).1=0:=(by omega);obtain ⟨a,e1,z1,hs,k⟩:=k;have hnx:=R.next;obtain ⟨K1,S1⟩:=qy (R.rep.rok.begin (a:=a) (by omega) hb) hs;have R1:Up (t+1) D z1:=(R.begun (by omega) hb).same S1 K1;rcases k with ⟨_,_,_,rfl,rfl⟩ | ⟨_,n1,e2,y,hf,k⟩
 ·exact (R1.abort z.next).le (by omega)
 ·have X:Up (t+2) S y:=by
   rcases zB R1 (by omega) hf with ⟨_,_,rfl,rfl,_⟩ | ⟨_,h,_⟩
   ·exact R1.le (by omega)
   ·exact h
  rcases k with ⟨_,_,_,rfl⟩ | ⟨_,_,_,rfl⟩
  ·exact X.abort z.next
  ·exact X
def xE (D:VdM):Prop:=(∀i,(D.blocks i).length<=6)/\∀s∈D.snaps,∀i,(s.blocks i).length<=6
def I9 (n:Int):xE (kB n):=⟨λi=>by simp[kB],λs hs=>by simp[kB] at hs⟩
theorem N6 {D:VdM}(h:xE D)(n:Int)(s:ak):xE (zX D n s):=by
 unfold zX;split
 ·rename_i he;have hs:s.length<=6:=by
   grind[FG,un]
  refine ⟨λi=>?_,h.2⟩;show (upd D.blocks n.toNat s i).length<=6;unfold upd;split
  ·exact hs
  ·exact h.1 i
 ·exact h
theorem SN {D:VdM}(h:xE D)(n:Int):xE (FH D n):=by
 unfold FH;split
 ·refine ⟨λi=>?_,h.2⟩;show (wJ D.blocks (j2 D n) (lT D n) i).length<=6;unfold wJ;split
  ·simp
  ·exact h.1 i
 ·exact h
theorem N7 {D:VdM}(h:xE D):xE (Dz D):=by
 unfold Dz;split
 ·refine ⟨h.1,λs hs=>?_⟩;rcases Zn.1 hs with hs | hs
  ·exact h.2 s hs
  ·rw[kad] at hs;subst hs;exact h.1
 ·exact h
theorem SO {D:VdM}(h:xE D)(id:Int):xE (FI D id):=by
 unfold FI;split
 ·exact h
 ·generalize (dE D.snaps id).toNat=k;refine ⟨h.1,λs hs=>?_⟩;have J:=kbe hs;unfold ov at J;split at J
  ·rename_i S;rcases Y0 J with O | O
   ·exact h.2 s O
   ·subst O;have R:=h.2 _ (z7 S.1);exact R
  ·exact h.2 s J
theorem SP {D:VdM}(h:xE D):xE (Oh D):=h
def Qm {D:VdM}(h:xE D)(x:ActM):xE (js D x):=by
 grind[js,N6,SN,N7,SO,SP]
theorem vQ {D:VdM}(h:xE D)(id n:Int):(jy D id n).1.length<=6:=by
 unfold jy;split
 ·simp
 ·split
  ·simp
  ·unfold cH;cases hs:D.snaps[(dE D.snaps id).toNat]? with
   | none=>simp
   | some s=>exact h.2 s (YW hs) _
def oy (V:VdM)(snap key:Int)(l:List Nat)(σ:LR):LR:=l.foldl (λ(σ:LR) (p:Nat)=>σ.putted key (p:Int) (jy V snap (p:Int)).1) σ
def vS (V:VdM)(disk snap base:Int)(m:Nat->Bool)(page:Int)(σ:LR):LR×Int×Int:=
 if (ft V snap).2≠0 then (σ,0,(ft V snap).2)
 else if page<1 then (σ,0,1)
 else if ny σ base disk (ft V snap).1≠0 then (σ,0,ny σ base disk (ft V snap).1)
 else if (ot (oy V snap σ.next (gj (mk (dp (uI m (ft V snap).1))) 0) (σ.begun base disk (ft V snap).1)) σ.next).2.2≠0 then ((vx (ot (oy V snap σ.next (gj (mk (dp (uI m (ft V snap).1))) 0) (σ.begun base disk (ft V snap).1)) σ.next).1 σ.next).1,0,(ot (oy V snap σ.next (gj (mk (dp (uI m (ft V snap).1))) 0) (σ.begun base disk (ft V snap).1)) σ.next).2.2)
 else (ot (oy V snap σ.next (gj (mk (dp (uI m (ft V snap).1))) 0) (σ.begun base disk (ft V snap).1)) σ.next)
def UQ {m:Nat->Bool}{size:Int}{p:Nat}(h:mk (dp (uI m size)) p=true)(hp:p<16):m p=true/\(p:Int)<size:=by
 grind[sx,uI]
theorem Qn {m:Nat->Bool}{p:Nat}:p∈gj m 0 ↔ p<16/\m p=true:=by
 grind[gj]
def pos_lt {m:Nat->Bool}{size:Int}{p:Nat}:p∈gj (mk (dp (uI m size))) 0 ↔ p<16/\m p=true/\(p:Int)<size:=by
 grind[Qn,sx,uI]
def Ul {V:VdM}{J:Int}(hs:(ft V J).2=0){p:Nat}(hp:(p:Int)<(ft V J).1):(jy V J p).2.2=0:=by
 grind[ft,jy]
def Ja {V:VdM}{J key:Int}(hd:xE V):∀{l:List Nat} {z z2:RpM} {e:Int} {y:SeE},gk z.ses key=some y->(∀p∈l,(jy V J p).2.2=0/\(p:Int)<y.size)->iG V J key l z e z2->
  e=0/\z2.lr=oy V J key l z.lr/\∃O,gk z2.ses key=some O/\O.base=y.base/\O.disk=y.disk/\O.size=y.size/\∀i d,lz O.puts i d=if i∈l then (jy V J i).1 else lz y.puts i d
 | [],z,z2,e,y,R,hl,h=>by
  obtain ⟨rfl,rfl⟩:=h;exact ⟨rfl,rfl,y,R,rfl,rfl,rfl,λi d=>by simp⟩
 | p::l,z,z2,e,y,R,hl,h=>by
  obtain ⟨h1,X⟩:=hl p (by simp);unfold iG at h;rw[YC (by omega)] at h;have h0:dQ z key p (jy V J p).1=0:=by
   unfold dQ
   grind[vQ]
  rw[YC (by omega)] at h;obtain ⟨so,co,h⟩:=h;have S:=wo (z:=z) (k:=key) (at_:=p) (d:=(jy V J p).1) (so:=so) (co:=co) R;obtain ⟨a,b,O,c1,c2,c3,c4,c5⟩:=Ja hd S (λq hq=>hl q (kac _ hq)) h;refine ⟨a,?_,O,c1,c2,c3,c4,λi d=>?_⟩
  ·rw[b,q9]
   rfl
  grind[GZ]
def z8 (z:RpM)(K:Rok z)(a:Nat)(base disk size:Int):gk (z.begun a base disk size).ses z.next=some ⟨z.next,a,none,0,base,disk,size,[]⟩:=PV (m:=⟨z.next,a,none,0,base,disk,size,[]⟩) λe he=>(K.keyS e he).2
def SQ {t:Nat}{D D2:DiskM}{V:VdM}{z z2:RpM}{disk J base:Int}{m:Nat->Bool}{O n e:Int}(R:Up t D z)(ht:t<=80000)(hd:xE V)(k:po D V z disk J base m O n e D2 z2):
  Up (t+2) D2 z2/\vS V disk J base m O z.lr=(z2.lr,n,e)/\
  ((e≠0/\z2.S=z.S/\z2.L=z.L/\z2.n=z.n)\/(e=0/\(ft V J).2=0/\ce z base disk (ft V J).1=0/\∃puts,ig z.S z.L z.n base disk (ft V J).1 puts= .ok (z2.S,z2.L,z2.n,n)/\∀i d,lz puts i d=if i<16/\m i=true/\(i:Int)<(ft V J).1 then (jy V J i).1 else d)):=by
 refine ⟨N5 R ht k,?_⟩;unfold po at k;unfold vS;by_cases h1:(ft V J).2≠0
 ·grind
 rw[YC h1] at k ⊢;by_cases h2:O<1
 ·grind
 rw[YC h2] at k ⊢;rw[ku];by_cases h3:ce z base disk (ft V J).1≠0
 ·grind
 rw[YC h3] at k ⊢;have Z:(ft V J).2=0:=(by omega);have hb:ce z base disk (ft V J).1=0:=(by omega);obtain ⟨a,e1,z1,hs,k⟩:=k;have hnx:=R.next;obtain ⟨K1,S1⟩:=qy (R.rep.rok.begin (a:=a) (by omega) hb) hs;have R1:Up (t+1) D z1:=(R.begun (by omega) hb).same S1 K1;obtain ⟨rfl,Y,y,hy,y1,y2,y3,y4⟩:=Ja hd (z8 z R.rep.rok a base disk (ft V J).1) (λp hp=>by
  have hp:=(pos_lt.1 hp).2.2;exact ⟨Ul Z hp,hp⟩) hs
 rw[uh] at Y;rw[show z.lr.next=z.next from rfl,<-Y];rcases k with ⟨h,_⟩ | ⟨_,n1,e2,w,hf,k⟩
 ·exact absurd rfl h
 have hfl:=Nc R1 (by omega) hf;rw[hfl];have q1:z1.S=z.S:=S1.2.2.2.1;have q2:z1.L=z.L:=S1.2.2.2.2.1;have q3:z1.n=z.n:=S1.2.2.2.2.2.1;rcases k with ⟨h,rfl,rfl,rfl⟩ | ⟨rfl,rfl,rfl,rfl⟩
 ·rw[YB h];rcases zB R1 (by omega) hf with ⟨_,_,_,rfl,_⟩ | ⟨h0,_⟩
  ·refine ⟨?_, .inl ⟨h,q1,q2,q3⟩⟩;unfold vx;rw[show w.lr.ses=w.ses.map sS from rfl,pG,hy]
   grind[xy,Bv]
  ·exact absurd h0 h
 ·rw[YC (by simp)];refine ⟨rfl, .inr ⟨rfl,Z,hb,?_⟩⟩;rcases zB R1 (by omega) hf with ⟨_,h0,_⟩ | ⟨_,_,⟨s,X,hr⟩,_⟩
  ·exact absurd rfl h0
  ·rw[hy] at X;injection X with X;subst X;rw[q1,q2,q3,y1,y2,y3] at hr;refine ⟨y.puts,hr,λi d=>?_⟩;rw[y4];by_cases hi:i∈gj (mk (dp (uI m (ft V J).1))) 0
   ·rw[YB hi,YB (pos_lt.1 hi)]
   ·rw[YC hi,YC (λh=>hi (pos_lt.2 h))]
    rfl
open _root_.Go.Proofs.Tryz
def KB {z:RpM}{id at_:Int}{d:ak}{s:SeE}(J:gk z.ses id=some s)(h:0<=at_/\at_<s.size)(hd:d.length<=6):dQ z id at_ d=0:=by
 grind[dQ]
def SR {V:VdM}(h:∀s∈V.snaps,s.size<=16)(J:Int):(ft V J).1<=16:=by
 grind[ft,cH]
def Qo {V:VdM}{J key:Int}{m:Nat->Bool}{k:Nat}{σ:LR}(h:m k=true):oy V J key ((List.range (k+1)).filter m) σ=(oy V J key ((List.range k).filter m) σ).putted key (k:Int) (jy V J (k:Int)).1:=by
 grind[oy,List.range_succ]
def N8 {V:VdM}{J key:Int}{m:Nat->Bool}{k:Nat}{σ:LR}(h:¬m k=true):oy V J key ((List.range (k+1)).filter m) σ=oy V J key ((List.range k).filter m) σ:=by
 rw[List.range_succ,ZR,ZS h,List.filter_nil,kaE]
theorem Qp {m:Nat->Bool}{size:Int}(h:size<=16):gj (mk (dp (uI m size))) 0=(List.range size.toNat).filter m:=by
 unfold gj;rw[show List.range' 0 (16 - 0)=List.range 16 from rfl,show 16=size.toNat+(16 - size.toNat) by omega,List.range_add,ZR];have J:(List.range size.toNat).filter (mk (dp (uI m size)))=(List.range size.toNat).filter m:=kbg λp hp=>by
  grind[sx,uI]
 have O:((List.range (16 - size.toNat)).map (size.toNat+·)).filter (mk (dp (uI m size)))=[]:=kak.2 λp hp=>by
  grind[sx,uI]
 grind
def DF (σ:LR)(id:Int):0<=(ot σ id).2.2:=by
 unfold ot;split
 ·grind
 ·split
  ·rename_i hr;exact kbd (qg hr)
  ·exact kaH 0
def DG {V:VdM}{disk J base O:Int}{m:Nat->Bool}{σ τ:LR}{n e:Int}(h1:(ft V J).2=0)(S:¬O<1)(X:ny σ base disk (ft V J).1=0)(R:(ft V J).1<=16)(h:ot (oy V J σ.next ((List.range (ft V J).1.toNat).filter m) (σ.begun base disk (ft V J).1)) σ.next=(τ,n,e)):
  vS V disk J base m O σ=if e≠0 then ((vx τ σ.next).1,0,e) else (τ,n,e):=by
 grind[vS,Qp]
def N9 {z:RpM}{id:Int}(h:gk z.ses id=none):(vx z.lr id).1=z.lr:=by
 unfold vx;rw[show z.lr.ses=z.ses.map sS from rfl,pG,h]
 rfl
def Oa {z:RpM}{id:Int}{w:SeE}(h:gk z.ses id=some w):(vx z.lr id).1=(z.sess (lR z.ses id)).lr:=by
 unfold vx;rw[show z.lr.ses=z.ses.map sS from rfl,pG,h,xy,Bv]
 rfl
def FO (z:RpM)(base disk size:Int):0<=ce z base disk size:=by
 grind[ce,Ad]
def Ob {z:RpM}{base disk size:Int}(h:ce z base disk size=0):1<=size:=by
 grind[ce]
def Aa (b Z:Nat)(z:RpM)(V:VdM)(disk J base:Int)(l:List Area)(s:Option Addr)(cap:Nat)(Y:Int)(hR:RrO z)(hn:z.next<=999998)(hsl:V.snaps.length<=1000000)(hsz:∀s∈V.snaps,s.size<=16)(hd:xE V)(hl:l.length<=1000000)(hv:DH l)(F:List ag):Ct Tryz.prog 70 [ptr b 0,ptr Z 0,I disk,I J,I base,sl s l.length cap,I Y] (ez b z::iq Z V::roL 2 s (aS l)::F) (λv L'=>∃n e z2,vS V disk J base (mk l) Y z.lr=(z2.lr,n,e)/\RrO z2/\z2.next<=z.next+1/\v= .tuple #[I n,I e]/\L'=ez b (z2)::iq Z V::roL 2 s (aS l)::F):=by
 have h16:=SR hsz J;have hnn:=N0 V J;refine Ct.of func70 rR 83 ntmps70 (by simp) λw0=>?_;refine gS (gA (gQ (gS (gM (gM (gR (vB call146 (ux Z V J hsl)) (gM (gX (I (ft V J).1) (gX (I (ft V J).2) (gA (gQ (ac (gS (gM (gV aT (ab ?_))))))))))))))));apply ah<;>intro h32
 ·have R:¬(ft V J).2=0:=(by simp at h32;omega);refine gS (gM (gA (gQ ?_)));exact an (ez b (z)::iq Z V::roL 2 s (aS l)::F) rfl ⟨0,(ft V J).2,z,by unfold vS;rw[YB R],hR,by omega,rfl,rfl⟩
 ·have R:(ft V J).2=0:=(by simp at h32;omega);refine ai (ac (gS (gM (gV aI (ab ?_)))));apply ah<;>intro h35
  ·have O:Y<1:=(by simpa using h35);refine gS (gA (gQ ?_));exact an (ez b (z)::iq Z V::roL 2 s (aS l)::F) rfl ⟨0,1,z,by unfold vS;rw[YC (by omega),YB O],hR,by omega,rfl,rfl⟩
  ·have O:¬Y<1:=(by simpa using h35);refine ai (gS (gM (gM (gM (gM (gI (uB call53 (ws b z base disk (ft V J).1 hR)) ?_))))));rintro _ _ (⟨S,rfl,rfl⟩ | ⟨S,a,rfl,rfl⟩)
   ·refine gM (gX (I 0) (gX (I (ce z base disk (ft V J).1)) (gA (gQ (ac (gS (gM (gV aT (ab ?_)))))))));apply ah<;>intro h45
    ·refine gS (gM (gA (gQ ?_)));exact an (ez b (z)::iq Z V::roL 2 s (aS l)::F) rfl ⟨0,ce z base disk (ft V J).1,z,by unfold vS;rw[YC (by omega),YC O,ku,YB S],hR,by omega,rfl,rfl⟩
    ·exact absurd (by simp at h45;have:=FO z base disk (ft V J).1;omega) S
   ·have hbe1:1<=(ft V J).1:=Ob S;refine gM (gX (I z.next) (gX (I 0) (gA (gQ (ac (gS (gM (gV aT (ab ?_)))))))));apply ah<;>intro h45
    ·simp at h45
    ·refine ai (gS (gM (gR (vB call147 (B0 l s cap hl hv)) (gI (aO (Array.replicate 16 (Bo false)) XF) ?_))));rintro _ _ ⟨b19,rfl,rfl⟩;refine gU (ax (bA (mk l)) Wj (hl:=by exact iT _) (h1:=by exact qB _) (by simp) (hcs:=by exact bk (h:=by simp[bL]))) (ab (ac (gS (gQ (al ?_)))));refine aM (α:=Nat×RpM) (λx=>(x.1:Int)<=(ft V J).1/\RrO x.2/\x.2.next=z.next+1/\(∃q,gk x.2.ses z.next=some q/\q.size=(ft V J).1)/\x.2.lr=oy V J z.next ((List.range x.1).filter (mk l)) (z.lr.begun base disk (ft V J).1)) (λx=>U [(0,ptr b 0),(1,ptr Z 0),(3,I J),(16,I (ft V J).1),(18,I z.next),(19,ptr b19 0),(20,I x.1)]) (λx=>ez b x.2::pt b19 (.cells (bA (mk l)) 136 (0,0))::iq Z V::roL 2 s (aS l)::F) (λx=>(ft V J).1.toNat - x.1) (0,(z.begun a base disk (ft V J).1)) ⟨by simp only[];omega,hR.begun (by omega) S,rfl,⟨_,z8 z hR.rok a base disk (ft V J).1,rfl⟩,by rw[uh];rfl⟩ [0,1,3,16,18,19,20] rfl ?_;rintro ⟨k,y⟩ ⟨hks,hY,hnx,⟨q,hfs,hqz⟩,hlr⟩;simp only[] at hks hY hnx hfs hlr ⊢;refine ac (gS (gM (gM (gV aI (ab ?_)))));apply ah<;>intro h51
     ·have h51':(k:Int)<(ft V J).1:=(by simpa using h51);have hk:k<16:=(by omega);refine ai (ac (al (gS (gM (gV (ba k WT Vt (by omega)) (gV (az V6 (hv:=⟨qA hk⟩)) (ab ?_)))))));apply ah<;>intro h56
      ·have h56':mk l k=true:=(by simpa using h56);refine gS (gM (gM (gM (gR (vB call148 (wM Z V J (k:Int) hsl hsz)) (gM (gX (aC (jy V J (k:Int)).1) (gX (I (jy V J (k:Int)).2.1) (gX (I (jy V J (k:Int)).2.2) (gA (gA (gQ (am (gM (gM (gM (gM (gI (uB call54 (BJ b y z.next (k:Int) (jy V J (k:Int)).1 hY (by have:=vQ hd J (k:Int);omega))) ?_)))))))))))))))));rintro _ _ (⟨hno,_,_⟩ | ⟨hok,so,co,rfl,rfl⟩)
       ·exact absurd (KB hfs ⟨by omega,by omega⟩ (vQ hd J (k:Int))) hno
       refine ab (aG (am (gM (gV (bO (r:=((k+1:Nat):Int)) (da (by omega))) (gQ ?_)))));exact ap (k+1,y.putted z.next (k:Int) (jy V J (k:Int)).1 so co) ⟨by simp only[];omega,hY.put hok,by rw[(ld _ _ _ _ _ _).2.2.2.2.2.2.2];exact hnx,⟨_,wo hfs,hqz⟩,by rw[q9,hlr,Qo h56']⟩ (by simp only[];omega) [0,1,3,16,18,19,20] rfl
      ·have h56':¬mk l k=true:=(by simpa using h56);refine ai (aG (am (gM (gV (bO (r:=((k+1:Nat):Int)) (da (by omega))) (gQ ?_)))));exact ap (k+1,y) ⟨by simp only[];omega,hY,hnx,⟨q,hfs,hqz⟩,by rw[hlr,N8 h56']⟩ (by simp only[];omega) [0,1,3,16,18,19,20] rfl
     ·have h51':(k:Int)=(ft V J).1:=(by simp at h51;omega);refine aF ?_;refine ac ?_;have X:ot (oy V J z.lr.next ((List.range (ft V J).1.toNat).filter (mk l)) (z.lr.begun base disk (ft V J).1)) z.lr.next=ot y.lr z.next:=(by rw[hlr,show (ft V J).1.toNat=k by omega];rfl);refine am (gM (gM (gI (uB call55 (um b y z.next hY)) ?_)));rintro _ _ ⟨n,e,z2,hfin,hR2,hx2,rfl,rfl⟩;rw[hfin] at X;refine gM (gX (I n) (gX (I e) (gA (gQ (ac (gS (gM (gV aT (ab ?_)))))))));apply ah<;>intro h77
      ·have he:e≠0:=(by simp at h77;omega);refine gS (gM (gM (gI (uB call56 (wt b z2 z.next)) ?_)));rintro _ _ (⟨hno,rfl,rfl⟩ | ⟨w,hw,rfl,rfl⟩)
       ·refine ab (gS (gM (gA (gQ ?_))));exact an (ez b (z2)::iq Z V::roL 2 s (aS l)::F) rfl ⟨0,e,z2,by rw[DG R O ((ku _ _ _ _).trans S) h16 X,YB he,show z.lr.next=z.next from rfl,N9 hno],hR2,by omega,rfl,rfl⟩
       ·refine ab (gS (gM (gA (gQ ?_))));exact an (ez b (z2.sess (lR z2.ses z.next))::iq Z V::roL 2 s (aS l)::F) rfl ⟨0,e,z2.sess (lR z2.ses z.next),by rw[DG R O ((ku _ _ _ _).trans S) h16 X,YB he,show z.lr.next=z.next from rfl,Oa hw],hR2.ses _ (λq hq=>(ZV.1 hq).1),by show z2.next<=_;omega,rfl,rfl⟩
      ·have he:e=0:=(by have:=DF y.lr z.next;rw[hfin] at this;simp at h77;simp only at this;omega);refine ai (gS (gM (gA (gQ ?_))));exact an (ez b (z2)::iq Z V::roL 2 s (aS l)::F) rfl ⟨n,0,z2,by rw[DG R O ((ku _ _ _ _).trans S) h16 X,YC (by omega),he],hR2,by omega,rfl,rfl⟩
def Oc (V:VdM)(disk snap since base page:Int)(σ:LR):LR×Int×Int:=if pm V since snap≠0 then (σ,0,pm V since snap) else vS V disk snap base (mk (qx V since snap)) page σ
def Hn (b bw:Nat)(z:RpM)(V:VdM)(disk snap page:Int)(hR:RrO z)(hn:z.next<=999998)(hsl:V.snaps.length<=1000000)(hsz:∀s∈V.snaps,s.size<=16)(hd:xE V)(F:List ag):Ct Tryz.prog 21 [ptr b 0,ptr bw 0,I disk,I snap,I page] (ez b z::iq bw V::F) (λv L'=>∃n e z2,vS V disk snap 0 (mk wR) page z.lr=(z2.lr,n,e)/\RrO z2/\z2.next<=z.next+1/\v= .tuple #[I n,I e]/\L'=ez b (z2)::iq bw V::F):=by
 refine Ct.of func21 rR 22 ntmps21 (by simp) λw0=>?_;refine gS (gA (gQ (gS (gM (gM (gM (gM (gV (aR (QU 0 16)) (gI (av (aS wR) Wn Wo WX (by simp[wR,aS])) ?_)))))))));rintro _ _ ⟨b17,rfl,rfl⟩;refine gM ?_;refine bR (some ⟨b17,0,none⟩) ?_;refine gI (uD call70 (Aa b bw z V disk snap 0 wR (some ⟨b17,0,none⟩) 1 page hR hn hsl hsz hd (by decide) I8)) ?_;rintro _ _ ⟨n,e,z2,hc,hR2,hx2,rfl,rfl⟩;refine gX (I n) (gX (I e) (gA (gQ ?_)));exact an (ez b (z2)::iq bw V::F) rfl ⟨n,e,z2,hc,hR2,hx2,rfl,rfl⟩
def Ho (b S:Nat)(z:RpM)(V:VdM)(disk O J base R:Int)(hR:RrO z)(hn:z.next<=999998)(hsl:V.snaps.length<=1000000)(hsz:∀s∈V.snaps,s.size<=16)(hd:xE V)(hca:(qx V J O).length<=1000000)(hvc:DH (qx V J O))(F:List ag):Ct Tryz.prog 23 [ptr b 0,ptr S 0,I disk,I O,I J,I base,I R] (ez b z::iq S V::F) (λv L'=>∃n e z2,Oc V disk O J base R z.lr=(z2.lr,n,e)/\RrO z2/\z2.next<=z.next+1/\v= .tuple #[I n,I e]/\L'=ez b (z2)::iq S V::F):=by
 have hnn:=N1 V J O;refine Ct.of func23 rR 38 ntmps23 (by simp) λw0=>?_;refine gS (gA (gQ (gS (gM (gM (gM (gI (uB call72 (sG S V J O hsl)) ?_)))))));rintro _ _ ⟨X,Y,rfl,rfl⟩;refine bR X ?_;refine gM (gX (sl X (qx V J O).length Y) (gX (I (pm V J O)) (gA (gQ (ac (gS (gM (gV aT (ab ?_)))))))));apply ah<;>intro Z
 ·have hce:pm V J O≠0:=(by simp at Z;omega);refine gS (gM (gA (gQ ?_)));exact an (ez b (z)::iq S V::F) rfl ⟨0,pm V J O,z,by unfold Oc;rw[YB hce],hR,by omega,rfl,rfl⟩
 ·have hce:pm V J O=0:=(by simp at Z;omega);refine ai (gS (gM (gM (gM (gM (gM (gM (gM (gI (uD call70 (Aa b S z V disk O base (qx V J O) X Y R hR hn hsl hsz hd hca hvc)) ?_)))))))));rintro _ _ ⟨n,e,z2,hc,hR2,hx2,rfl,rfl⟩;refine gX (I n) (gX (I e) (gA (gQ ?_)));exact an (ez b (z2)::iq S V::F) rfl ⟨n,e,z2,by unfold Oc;rw[YC (by omega),hc],hR2,hx2,rfl,rfl⟩
def Va:(match ig (bu gZ) [] 1 0 1 3 [⟨0,[]⟩,⟨1,[120]⟩,⟨2,[]⟩] with | .ok z=>decide (z.2.2.2=1) && decide (py z.1 z.2.1 1 1=([120],0)) | .error _=>false)=true:=by decide+kernel
def KC:VdM:=zX (kB 3) 1 [120]
def KJ:VdM:=Dz KC
def Um:FG (kB 3) 1 [120]=0:=by decide+kernel
def wk_sn:FU KC=1/\BM KC=0:=by decide+kernel
def Un:ft KJ 1=(3,0):=by decide+kernel
def Uo:(jy KJ 1 0).1=[]/\(jy KJ 1 0).2.2=0/\(jy KJ 1 1).1=[120]/\(jy KJ 1 1).2.2=0/\(jy KJ 1 2).1=[]/\(jy KJ 1 2).2.2=0:=by decide+kernel
def SS:gj (mk (dp (uI (mk wR) 3))) 0=[0,1,2]:=by decide+kernel
theorem Qq {z:RpM}{y:SeE}(J:z.ses=[y]){at_:Int}{d:ak}(h0:0<=at_/\at_<y.size)(hd:d.length<=6):dQ z y.key at_ d=0/\∀so co,(z.putted y.key at_ d so co).ses=[⟨y.key,y.a,so,co,y.base,y.disk,y.size,iP y.puts at_ d⟩]:=by
 grind[gk,wF,dQ,RpM.putted,RpM.sess]
def Ab {V:VdM}{J:Int}{p:Nat}{l:List Nat}{z z2:RpM}{y:SeE}{e:Int}(R:z.ses=[y])(hr:(jy V J p).2.2=0)(h0:(p:Int)<y.size)(hd:(jy V J p).1.length<=6)(h:iG V J y.key (p::l) z e z2):
  ∃O so co,O.ses=[⟨y.key,y.a,so,co,y.base,y.disk,y.size,iP y.puts p (jy V J p).1⟩]/\iG V J y.key l O e z2:=by
 grind[Qq,iG]
def Qr {z O:RpM}{y:SeE}{J:Int}(V:z.ses=[y])(hs:y.size=3)(hp:y.puts=[])(h:iG KJ 1 y.key [0,1,2] z J O):J=0/\∃so co,O.ses=[⟨y.key,y.a,so,co,y.base,y.disk,y.size,[⟨0,[]⟩,⟨1,[120]⟩,⟨2,[]⟩]⟩]:=by
 obtain ⟨r1,r2,r3,Y,r5,Z⟩:=Uo;obtain ⟨z2,s2,c2,R,k2⟩:=Ab V r2 (by grind) (by grind) h;obtain ⟨z3,s3,c3,S,k3⟩:=Ab R Y (by grind) (by grind) k2;obtain ⟨z4,s4,c4,h4,X⟩:=Ab S Z (by grind) (by grind) k3;obtain ⟨rfl,rfl⟩:=X
 grind[iP]
def SU {t:Nat}{D Z:DiskM}{z z2:RpM}{n e:Int}(R:Up t D z)(ht:t<=80000)(hS:z.S=bu gZ)(hL:z.L=[])(hn:z.n=1)(hs:z.ses=[])(k:po D KJ z 1 1 0 (mk wR) 2 n e Z z2):n=1/\e=0/\py z2.S z2.L 1 1=([120],0)/\Up (t+2) Z z2:=by
 have U:=N5 R ht k;unfold po at k;rw[Un] at k;simp only[] at k;rw[YC (by decide),YC (by decide)] at k;have hb:ce z 0 1 3=0:=by
  grind[ce,Ad]
 rw[YC (by omega)] at k;obtain ⟨a,e1,V,J,k⟩:=k;rw[SS] at J;have hnx:=R.next;have Y:(z.begun a 0 1 3).ses=[⟨z.next,a,none,0,0,1,3,[]⟩]:=by
  grind[RpM.begun]
 obtain ⟨K1,X⟩:=qy (R.rep.rok.begin (a:=a) (by omega) hb) J;have R1:Up (t+1) D V:=(R.begun (by omega) hb).same X K1;obtain ⟨rfl,so,co,hz1⟩:=Qr Y rfl rfl J;rcases k with ⟨h,_⟩ | ⟨_,n1,e2,y,hf,k⟩
 ·exact absurd rfl h
 have O:gk V.ses z.next=some ⟨z.next,a,so,co,0,1,3,[⟨0,[]⟩,⟨1,[120]⟩,⟨2,[]⟩]⟩:=by
  grind[gk]
 have q1:V.S=bu gZ:=X.2.2.2.1.trans hS;have q2:V.L=[]:=X.2.2.2.2.1.trans hL;have q3:V.n=1:=X.2.2.2.2.2.1.trans hn;have w:=Va;rcases zB R1 (by omega) hf with ⟨_,_,rfl,rfl,⟨hh,_⟩ | ⟨s,hh,hr⟩⟩ | ⟨rfl,_,⟨s,hh,hr⟩,_⟩
 ·rw[hh] at O;cases O
 ·grind
 grind
def SV:zX (kB 3) 1 [120]=KC:=rfl
def SX:Dz KC=KJ:=rfl
def SY:xE KJ:=N7 (N6 (I9 3) 1 [120])
def Jb (D:VdM)(x y:Int):DH (qx D x y):=by
 unfold qx;split
 ·exact k6 _
 ·exact λa h=>by cases h
def Qs (V:VdM)(disk J base:Int)(m:Nat->Bool)(O:Int)(z:RpM):0<=(vS V disk J base m O z.lr).2.2:=by
 unfold vS;split
 ·exact N0 V J
 ·split
  ·grind
  ·split
   ·show 0<=ny z.lr base disk (ft V J).1
    simp_all[ku,FO]
   ·split
    ·exact DF _ _
    ·exact DF _ _
theorem Jc {t:Nat}{D S:DiskM}{V:VdM}{z z2:RpM}{disk O base:Int}{m:Nat->Bool}{J n e:Int}(R:Up t D z)(ht:t<=80000)(hd:xE V)(k:po D V z disk O base m J n e S z2):
  Up (t+7) S z2/\vS V disk O base m J z.lr=(z2.lr,n,e)/\0<=e:=by
 obtain ⟨a,b,_⟩:=SQ R ht hd k;refine ⟨a.le (by omega),b,?_⟩;have:=Qs V disk O base m J z
 grind
def SZ {t:Nat}{D X:DiskM}{V:VdM}{z z2:RpM}{disk O J base S n e:Int}(R:Up t D z)(ht:t<=80000)(hd:xE V)(k:(pm V J O≠0/\n=0/\e=pm V J O/\X=D/\z2=z)\/(pm V J O=0/\po D V z disk O base (mk (qx V J O)) S n e X z2)):
  Up (t+7) X z2/\Oc V disk O J base S z.lr=(z2.lr,n,e)/\0<=e:=by
 unfold Oc;rcases k with ⟨h,rfl,rfl,rfl,rfl⟩ | ⟨h,k⟩
 ·rw[YB h];exact ⟨R.le (by omega),rfl,N1 V J O⟩
 grind[Jc]
def Az (F:List ag):Ct Tryz.prog 17 [] (tabs::F) (R1 (Bo true) (tabs::F)):=by
 refine Ct.of func17 rR 65 ntmps17 (by simp) λw0=>?_;refine gS (gQ (gS (gI (uB (A0:=tabs) call8 (wn)) ?_)));rintro _ _ ⟨V,b,D0,z0,rfl,R,Z,J,rfl⟩;have U0:Up 1 D0 z0:=⟨R,Z,by rw[J];show (1:Int)<=1+((1:Nat):Int);omega⟩;refine gM (gX (ptr V 0) (gX (ptr b 0) (gX (Bo true) (gA (gA (gQ (gS (gI (uA call18 (uo 3)) ?_))))))));rintro _ _ (⟨Y,_,_⟩ | ⟨_,bv,rfl,rfl⟩)
 ·exact absurd (by decide) Y
 refine gM (gX (ptr bv 0) (gX (bM 0) (gA (gQ (ac (gS (gM (gV cE (gM (bc (hw:=by simp) aq (bc (hw:=by simp) (ck (T:=117) (f:=0) Vl) (gV cu (gM (bc (hw:=by simp) aq ?_))))))))))))));refine rQ (hw:=by simp) (cX (Pre:=[fV bv (kB 3)]) call67 (qw bv (kB 3) 1 [120] (by decide))) ?_;rintro _ _ ⟨rfl,rfl⟩;rw[Um,SV];refine bc (hw:=by simp) (ck (T:=117) (f:=0) Vl) (gV cu (ab ?_));apply ah<;>intro X
 ·simp at X
 ·refine ai (gS (gM (gR (vB call68 (rJ bv KC (by decide+kernel) (by decide+kernel))) ?_)));rw[wk_sn.1,wk_sn.2,SX];refine gM (gX (I 1) (gX (bM 0) (gA (gQ (gS (gM (gM (gM (gI (uE (A0:=tabs) call20 (pI bv b V KJ z0 D0 1 1 2 R.rok (by have:=U0.next;omega) (R.dk (by omega)) (by decide+kernel) (by decide+kernel) (λp=>by have:=vQ SY 1 p;omega))) ?_)))))))));rintro _ _ ⟨n,e,D2,z2,hc,rfl,rfl⟩;obtain ⟨rfl,rfl,hrd,U2⟩:=SU U0 (by decide) (by rw[J]) (by rw[J]) (by rw[J]) (by rw[J]) hc;obtain ⟨G2,O⟩:=U2.rep.rok.con;refine gM (gX (I 1) (gX (bM 0) (gA (gQ (gS (gM (gI (uB call16 (mC b V z2 (by have:=O.v.len;omega))) ?_)))))));rintro _ _ ⟨q,rfl,rfl⟩;refine gM (gR (vB call34 (lA q z2.S z2.L z2.n 1 1 G2 O.v)) ?_);rw[hrd];refine gM (gX (aC [120]) (gX (bM 0) (gA (gQ (gS (gM (gR (vA call14 (qD (0) (0) (by decide))) (gM (bc (hw:=by simp) aq ?_)))))))));refine rQ (hw:=by simp) (cX (Pre:=[]) call14 (qD (0) (0) (by decide))) ?_;rintro _ _ ⟨rfl,rfl⟩;refine gV dD (gM (bc (hw:=by simp) aq ?_));refine rQ (hw:=by simp) (cX (Pre:=[]) call14 (qD (0) (0) (by decide))) ?_;rintro _ _ ⟨rfl,rfl⟩;refine gV dD (gM (bc (hw:=by simp) aq (bc (hw:=by simp) cj (gV dD (gQ ?_)))));exact ao rfl rfl (by show Bo _=Bo true;first | rfl | simp)
def ct_L_CarrierSays (size:Int)(l:List ActM)(f:Nat->ActZ)(s:Option Addr)(cap:Nat)(hl:l.length<=9223372036854775807)(hla:∀x∈l,x.puts.length<=9223372036854775807/\x.changes.length<=9223372036854775807)(hab:∀x∈l,x.b<=9223372036854775807)(F:List ag):Ct Tryz.prog 4 [I size,sl s l.length cap] (tabs::acts s l f::F) (R1 (Bo true) (tabs::acts s l f::F)):=by
 refine Ct.of func4 rR 179 ntmps4 (by simp) λw0=>?_;refine gS (gQ (gS (gR (vB (A0:=tabs) call17 (Az)) (gQ (ac (gS (gM (gV cE (gM (bc (hw:=by simp) aq ?_))))))))));refine rQ (hw:=by simp) (cX (Pre:=[acts s l f]) call7 (yK l f s cap 60 hl hla)) ?_;rintro _ _ ⟨rfl,rfl⟩;refine bc (hw:=by simp) cE (gV cu (gM (gK aq (gK aI (gV cu (gM (gK aq (gK aT (gV cu (ab ?_))))))))));apply ah<;>intro h34
 ·refine gS (gM (gQ ?_));exact ao rfl rfl (by show Bo _=Bo true;first | rfl | simp)
 ·simp at h34;obtain ⟨⟨hyes,hs1⟩,hs2⟩:=h34;have hll:=RU hyes;have hsz:1<=size/\size<=16:=(by omega);refine ai (gS (gM (gI (uA call18 (uo size)) ?_)));rintro _ _ (⟨hno,_,_⟩ | ⟨_,bv,rfl,rfl⟩)
  ·exact absurd hsz hno
  refine gM (gX (ptr bv 0) (gX (bM 0) (gA (gQ (gS (gM (gI (uA call19 (Ax size)) ?_)))))));rintro _ _ (⟨hno,_,_⟩ | ⟨_,bw,rfl,rfl⟩)
  ·exact absurd hsz hno
  refine gM (gX (ptr bw 0) (gX (I 0) (gA (gQ (gS (gI (uB (A0:=tabs) call8 (wn)) ?_))))));rintro _ _ ⟨bd,b,D0,z0,rfl,R0,hu0,hz0,rfl⟩;have U0:Up (1+7*0) D0 z0:=⟨R0,hu0,by rw[hz0];show (1:Int)<=1+((1+7*0:Nat):Int);omega⟩;refine gM (gX (ptr bd 0) (gX (ptr b 0) (gX (Bo true) (gA (gA (gQ (ac (gS (gM (gV cE (gM (bc (hw:=by simp) aq (bc (hw:=by simp) (ck (T:=117) (f:=0) Vl) (gV cu (ab ?_)))))))))))))));apply ah<;>intro h56
  ·simp at h56
  ·refine ai (gS (gI (uA call9 (wH)) ?_));rintro _ _ ⟨bm,u2,hu2,rfl,rfl⟩;obtain ⟨zm0,hzm⟩:∃w:RpM,w=⟨hd1,u2,bD (bu gZ) [] 1,bu gZ,[],1,[],[],1⟩:=⟨_,rfl⟩;rw[<-hzm];have hM0:RrO zm0:=(by rw[hzm];exact ⟨⟨⟨gZ,Con_z⟩,by show (1:Int)<=1/\(1:Int)<=1000000;omega,(λe he=>by cases he),(λe he=>by cases he),(λe he=>by cases he)⟩,rfl,hu2⟩);have hl0:zm0.lr=z0.lr:=(by rw[hzm,hz0];rfl);refine gQ (ac (gS (gQ (al ?_))));refine aM (α:=Nat×DiskM×RpM×RpM×VdM) (λy=>y.1<=l.length/\Up (1+7*y.1) y.2.1 y.2.2.1/\DA y.1 y.2.2.2.2/\xE y.2.2.2.2/\RrO y.2.2.2.1/\y.2.2.2.1.lr=y.2.2.1.lr) (λy=>U [(1,sl s l.length cap),(6,ptr bv 0),(8,ptr bw 0),(11,ptr b 0),(12,ptr bm 0),(13,I y.1)]) (λy=>fV bv y.2.2.2.2::iq bw y.2.2.2.2::dB b bd y.2.2.1::cf 179 319 bd (y.2.1)::ez bm y.2.2.2.1::tabs::acts s l f::F) (λy=>l.length - y.1) (0,D0,z0,zm0,kB size) ⟨by simp,U0,P9 hsz,I9 size,hM0,hl0⟩ [1,6,8,11,12,13] rfl ?_;rintro ⟨i,D,z,zm,V⟩ ⟨hin,R,hV,hd,hM,Z⟩;simp only[] at hin R hV hd hM Z ⊢;refine ac (gS (gM (gM (gV (aX W4) (gV aI (ab ?_))))));apply ah<;>intro h61
   ·simp at h61;have hkn:i<l.length:=(by omega);obtain ⟨x,hx⟩:∃x,l[i]? =some x:=⟨_,Zu hkn⟩;have hkr:i<(wy l f).length:=(by rw[Ea];exact hkn);have hxs:x.s.length<=9223372036854775807:=(by have:=PU hyes (YW hx);omega);obtain ⟨G,hC⟩:=R.rep.rok.con;refine ai (ac (al (gS (gM (gM (gV (ay i W4 WW hkn hkr) (gV (bJ (row:=fP x (f i)) XK WW (qF hx)) (gI (aO #[aC [],aC [],I 0,I 0,I 0,I 0, .int .u64 0,sl none 0 0,sl none 0 0] zeroValue35) ?_))))))));rintro _ _ ⟨b14,rfl,rfl⟩;refine gU (ax (cs:=#[aC [],aC [],I 0,I 0,I 0,I 0, .int .u64 0,sl none 0 0,sl none 0 0]) (vs:=fP x (f i)) (fP x (f i)).toArray WW (by simp) (hcs:=by exact bk)) (ab (gS (gQ (gS (gQ (gS (gQ (gS (gQ (ac (gS (gF 0 Vm rR Vh (gL (aC x.kind) Vj (ab ?_))))))))))))));refine ls (α:=VdM×RpM×DiskM×RpM×Int×Int) (λy=>Up (1+7*(i+1)) y.2.2.1 y.2.1/\DA (i+1) y.1/\xE y.1/\RrO y.2.2.2.1/\y.2.2.2.1.lr=y.2.1.lr/\0<=y.2.2.2.2.2) (λy=>U [(1,sl s l.length cap),(6,ptr bv 0),(8,ptr bw 0),(11,ptr b 0),(12,ptr bm 0),(13,I i),(15,I y.2.2.2.2.1),(16,I y.2.2.2.2.1),(17,I y.2.2.2.2.2),(18,bM y.2.2.2.2.2)]) (λy=>fV bv y.1::iq bw y.1::dB b bd y.2.1::cf 179 319 bd (y.2.2.1)::ez bm y.2.2.2.1::tabs::acts s l f::F) ?_ ?_
    ·refine al (gS (gV cj (gQ ?_)));apply ah<;>intro h82
     ·refine gS (gM (gM (gF 2 Vm rR Vb (gL (I x.a) Vc (gF 3 Vm rR Vb (gL (I x.b) Vc (gF 4 Vm rR Vb (gL (I x.c) Vc (gI (uE (A0:=tabs) call20 (pI bv b bd V z D x.a x.b x.c R.rep.rok (by have:=R.next;omega) (R.rep.dk (by omega)) (by have:=hV.2.2.2.1;omega) (λs hs=>(hV.2.2.2.2 s hs).2) (λp=>by have:=vQ hd x.b p;omega))) ?_)))))))));rintro _ _ ⟨n,e,D2,z2,hc,rfl,rfl⟩;obtain ⟨R2,hcl,hnn⟩:=Jc R (by omega) hd hc;refine gM (gX (I n) (gX (bM e) (gA (gQ (am (gM (gM (gF 2 Vm rR Vb (gL (I x.a) Vc (gF 3 Vm rR Vb (gL (I x.b) Vc (gF 4 Vm rR Vb (gL (I x.c) Vc (gI (uC call21 (Hn bm bw zm V x.a x.b x.c hM (by have:=R.next;have:=(xD Z).2.2.2;omega) (by have:=hV.2.2.2.1;omega) (λs hs=>(hV.2.2.2.2 s hs).2) hd)) ?_))))))))))))));rintro _ _ ⟨n',e',X,hm,Y,hx2,rfl,rfl⟩;rw[Z,hcl] at hm;injection hm with O hm;injection hm with w1 w2;subst w1 w2;refine gM (gX (I n) (gX (I e) (gA (gQ (aG ?_)))));exact cF (V,z2,D2,X,n,e) ⟨by rw[show 1+7*(i+1)=1+7*i+7 by omega];exact R2,ur hV (by omega),hd,Y,O.symm,hnn⟩ [1,6,8,11,12,13,15,16,17,18] rfl
     ·refine gS (gV cj (gQ ?_));apply ah<;>intro h108
      ·refine gS (gM (gM (gF 2 Vm rR Vb (gL (I x.a) Vc (gF 3 Vm rR Vb (gL (I x.b) Vc (gF 4 Vm rR Vb (gL (I x.c) Vc (gF 5 Vm rR Vb (gL (I x.d) Vc (gI (uE (A0:=tabs) call22 (wS bv b bd V z D x.a x.b x.c x.d 3 R.rep.rok (by have:=R.next;omega) (R.rep.dk (by omega)) (by have:=hV.2.2.2.1;omega) (λs hs=>(hV.2.2.2.2 s hs).2) (λp=>by have:=vQ hd x.b p;omega) (Uk _ _ _) (Jb _ _ _))) ?_)))))))))));rintro _ _ ⟨n,e,D2,z2,hc,rfl,rfl⟩;obtain ⟨R2,hcl,hnn⟩:=SZ R (by omega) hd hc;refine gM (gX (I n) (gX (bM e) (gA (gQ (am (gM (gM (gF 2 Vm rR Vb (gL (I x.a) Vc (gF 3 Vm rR Vb (gL (I x.b) Vc (gF 4 Vm rR Vb (gL (I x.c) Vc (gF 5 Vm rR Vb (gL (I x.d) Vc (gI (uC call23 (Ho bm bw zm V x.a x.b x.c x.d 3 hM (by have:=R.next;have:=(xD Z).2.2.2;omega) (by have:=hV.2.2.2.1;omega) (λs hs=>(hV.2.2.2.2 s hs).2) hd (Uk _ _ _) (Jb _ _ _))) ?_))))))))))))))));rintro _ _ ⟨n',e',X,hm,Y,hx2,rfl,rfl⟩;rw[Z,hcl] at hm;injection hm with O hm;injection hm with w1 w2;subst w1 w2;refine gM (gX (I n) (gX (I e) (gA (gQ (aG ?_)))));exact cF (V,z2,D2,X,n,e) ⟨by rw[show 1+7*(i+1)=1+7*i+7 by omega];exact R2,ur hV (by omega),hd,Y,O.symm,hnn⟩ [1,6,8,11,12,13,15,16,17,18] rfl
      ·refine ac (gS (gV cj (gQ ?_)));refine ls (α:=Bool) (λ_=>True) (λkb=>U [(1,sl s l.length cap),(6,ptr bv 0),(8,ptr bw 0),(11,ptr b 0),(12,ptr bm 0),(13,I i),(14,ptr b14 0),(138,Bo kb)]) (λ_=>pt b14 (.cells (fP x (f i)).toArray 35 (0,0))::fV bv V::iq bw V::dB b bd z::cf 179 319 bd (D)::ez bm zm::tabs::acts s l f::F) ?_ ?_
       ·apply ah<;>intro J
        ·refine ai ?_;exact cF (true) trivial [1,6,8,11,12,13,14,138] rfl (he:=by simp only[J];rfl)
        ·refine gS (gV cj (gQ ?_));apply ah<;>intro J
         ·refine ai ?_;exact cF (true) trivial [1,6,8,11,12,13,14,138] rfl (he:=by simp only[J];rfl)
         ·refine gS (gV cj (gQ ?_));apply ah<;>intro J
          ·refine ai ?_;exact cF (true) trivial [1,6,8,11,12,13,14,138] rfl (he:=by simp only[J];rfl)
          ·refine gS (gV cj (gQ ?_));apply ah<;>intro J
           ·refine ai ?_;exact cF (true) trivial [1,6,8,11,12,13,14,138] rfl (he:=by simp only[J];rfl)
           ·refine gS (gV cj (gQ ?_));apply ah<;>intro J
            ·refine ai ?_;exact cF (true) trivial [1,6,8,11,12,13,14,138] rfl (he:=by simp only[J];rfl)
            ·refine gS (gV cj (gQ ?_));apply ah<;>intro J
             ·refine ai ?_;exact cF (true) trivial [1,6,8,11,12,13,14,138] rfl (he:=by simp only[J];rfl)
             ·refine am (gV cj (gQ ?_));exact cF (decide (x.kind=[109,111,117,110,116])) trivial [1,6,8,11,12,13,14,138] rfl (he:=rfl)
       rintro kb -;apply ah<;>intro J
       ·refine gS (gM (gV (aU (vs:=fP x (f i)) XK WW bp) (gI (uD (A0:=tabs) call12 (Ki b bd (1+7*i) z D x (f i) R.rep (by omega) hxs (hab x (YW hx)))) ?_)));rintro _ _ ⟨n,st,e,D2,z2,hd2,rfl,rfl⟩;have R2:=Kj R (by omega) hd2;have hs2:=PW R (by omega) hd2;have hnn:0<=e:=(by have:=P3 z.lr x;rw[hs2] at this;exact this);refine gM (gX (I n) (gX (aC st) (gX (bM e) (gA (gQ (am (gM (gV (aU (vs:=fP x (f i)) XK WW bp) (gI (uB call13 (Dy bm zm x (f i) hM (by have:=R.next;have:=(xD Z).2.2.2;omega) hxs (hab x (YW hx)))) ?_)))))))));rintro _ _ ⟨n',st',e',X,hsm,Y,hx2,rfl,rfl⟩;rw[Z,hs2] at hsm;injection hsm with O hsm;injection hsm with w1 hsm;injection hsm with w2 w3;subst w1 w2 w3;refine gM (gX (I n) (gX (aC st) (gX (I e) (gA (gQ (aG ?_))))));exact cF (V,z2,D2,X,n,e) ⟨by rw[show 1+7*(i+1)=1+7*i+7 by omega];exact R2,ur hV (by omega),hd,Y,O.symm,hnn⟩ [1,6,8,11,12,13,15,16,17,18] rfl
       ·refine gS (gM (gV (aU (vs:=fP x (f i)) XK WW bp) (gR (vB call24 (DD bv V x (f i) i hV (by omega))) (gM (gX (I (kx V x)) (gX (bM (jt V x)) (gA (gQ (am (gM (gV (aU (vs:=fP x (f i)) XK WW bp) (gR (vB call25 (wP bw V x (f i) i hV (by omega))) (gM (gX (I (kx V x)) (gX (I (jt V x)) (gA (gQ (aG ?_))))))))))))))))));exact cF (js V x,z,D,zm,kx V x,jt V x) ⟨R.le (by omega),Qa hV x,Qm hd x,hM,Z,Qi V x⟩ [1,6,8,11,12,13,15,16,17,18] rfl
    rintro ⟨V2,z2,D2,X,n2,e2⟩ ⟨R2,hV2,hd2,Y,O,hnn⟩;simp only[] at R2 hV2 hd2 Y O hnn ⊢;obtain ⟨G2,hC2⟩:=R2.rep.rok.con;obtain ⟨e1,ee2,e3,_⟩:=xD O;refine ac ?_;refine eQ bm X ?_;intro bs so co bq rs rm;rw[e1,ee2,e3];refine gD (Lf:=[pt bm (.cells #[ptr bs 0,ptr bq 0, .map (some rs), .map (some rm),I (X.next)] 46 (0,0))]) [(0,false),(1,false),(2,false),(3,false),(4,false),(5,false),(6,true),(7,false),(8,false),(9,false),(10,false),(12,false),(13,false),(14,false),(15,false),(11,true),(16,true),(17,false),(18,false)] (dM rR (dM rR (dV rR fZ (dM rR (aN rR (hw:=by simp) aq (aN rR (hw:=by simp) aq ?_))))));refine Gc rR (hw:=by simp) (cX (Pre:=[]) call14 (qD (e2) (e2) (hnn))) ?_;rintro _ _ ⟨rfl,rfl⟩;refine aN rR (hw:=by simp) cE (dV rR cu (dM rR (aN rR (hw:=by simp) aq (aN rR (hw:=by simp) aq (aN rR (hw:=by simp) aa (aN rR (hw:=by simp) (aw 1 VG rR WM) (aN rR (hw:=by simp) (az (v:=ptr bq 0) W0) ?_)))))));refine Gc rR (hw:=by simp) (cX (Pre:=[dB b bd (z2)]) call16 (mC b bd (z2) (by have:=hC2.v.len;omega))) ?_;rintro _ _ ⟨q,rfl,rfl⟩;refine Gc rR (hw:=by simp) (cX (Pre:=[gO q z2.S z2.L z2.n,mO bq z2.S z2.L z2.n]) call15 (Dw q bq z2.S z2.L z2.n G2 hC2.v)) ?_;rintro _ _ ⟨rfl,rfl⟩;rw[<-e1,<-ee2,<-e3];refine aN rR (hw:=by simp) cE (dV rR cu ?_);refine aP ?_;refine cq bm X bs so co bq rs rm ?_;apply ah<;>intro h178
    ·simp at h178
    ·refine ai (aG (am (gM (gV (bO (r:=((i+1:Nat):Int)) (da (by omega))) (gQ ?_)))));exact ap (i+1,D2,z2,X,V2) ⟨by simp only[];omega,R2,hV2,hd2,Y,O⟩ (by simp only[];omega) [1,6,8,11,12,13] rfl
   ·refine aF ?_;refine gS (gQ ?_);exact ao rfl rfl (by show Bo _=Bo true;first | rfl | simp)
end Go.Proofs.YthdjckbjjfiopabGreatDoor