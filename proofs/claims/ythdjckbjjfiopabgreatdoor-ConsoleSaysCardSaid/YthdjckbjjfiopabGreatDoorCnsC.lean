/- Several texts in one: walks and rules used by them. No condition. -/
import Derived.Test.YthdjckbjjfiopabGreatDoorCnsB
import Derived.Test.YthdjckbjjfiopabGreatDoorCnsA
import Derived.Test.YthdjckbjjfiopabGreatDoorProg
import Derived.KernelRfl
set_option linter.unusedSimpArgs false
set_option linter.unusedVariables false
set_option synthInstance.maxSize 9999
set_option synthInstance.maxHeartbeats 0
set_option linter.defProp false
set_option maxHeartbeats 800000
namespace Go.Proofs.YthdjckbjjfiopabGreatDoor
open Go.Sl Go.Proofs
def yL {N}:∀(l:List ni) {D:DiskM},D.now.length=N->D.kept.length=N->(ct D l).2.now.length=N/\(ct D l).2.kept.length=N
 | [],D,h1,J=>⟨h1,J⟩
 | x::l,D,h1,J=>by
  have hs:(GW D x).now.length=N/\(GW D x).kept.length=N:=by
   cases x with
   | none=>
    show (cL D).now.length=N/\(cL D).kept.length=N
    grind[cL,iH,fq,eb]
   | some z=>
    show (cH D z.1 z.2).now.length=N/\(cH D z.1 z.2).kept.length=N
    grind[cH,eA,fq,eb]
  by_cases h0:GV D x=0
  ·rw[lQ h0];exact yL l hs.1 hs.2
  grind[lz]
variable {D:DiskM}
theorem Bn {l J}(ho:∀x∈l,ka D.now.length x)(h:ct D (l++ [none])=(0,J)):calm J/\J.now=eh D.now l:=by
 cases h1:ct D l with
 | mk R D1=>
  by_cases he:R=0
  ·subst he;rw[kE h1] at h;injection h with S V;have O:=lc (D:=D1) S;rw[<-V];exact ⟨O.1,O.2.trans (xy l ho h1)⟩
  grind[kF]
def PW (N:Nat)(D:DiskM)(h:HdM)(r0:List ChangeM)(ds:cY)(used:Nat):Prop:=calm D/\Inv N D h r0 ds used/\pw 122 (N - 122) h.first D.now ds used
def Fell (N:Nat)(D:DiskM)(E Fi:Nat)(φ:List ChangeM->Prop):Prop:=∀keep,∃h r0 ds used,Inv N (nI keep D) h r0 ds used/\φ (cur r0 ds)/\h.ep<=E/\h.first<=Fi/\pw 122 (N - 122) h.first (fv keep D) ds used
def MV {B j first s}(h:vr B s)(h1:B<=first+j)(J:first+j<4294967296):¬wv first j s:=λ⟨t,ht⟩=>by rw[h _ h1 J] at ht;cases ht
variable {N used:Nat}{D1:DiskM}{h:HdM}{J:List ChangeM}{ds:cY}
theorem E0 (I:Inv N D h J ds used)(X:h.first<=900000000)(hn:D1.now=eh D.now (wC (eO h (cur J ds) (N - 122)) (bP (cur J ds))))(R:Inv N D1 (eO h (cur J ds) (N - 122)) (cur J ds) [] 0):pw 122 (N - 122) (eO h (cur J ds) (N - 122)).first D1.now [] 0:=by
 have O:=R.good.log;rw[R.len] at O;have V:=I.big;have S:=ld I.good.lenC I.good.okC;refine ⟨O,λj _ hj=>?_⟩;have e:mK D1.now 122 j=D.now.getD (122+j) []:=by
  show List.getD _ _ _=_
  grind[xz,hZ,eO,IA]
 rw[e];exact MV (I.num (122+j) (by omega) (by omega)) (by simp only[eO];omega) (by simp only[eO];omega)
theorem E2 (hq:calm D)(I:Inv N D h J ds used)(hsf:pw 122 (N - 122) h.first D.now ds used)(hep:h.ep<=1000000)(hf:h.first<=900000000){e}(hr:ct D (wC (eO h (cur J ds) (N - 122)) (bP (cur J ds)))=(e,D1)):
  (e=0/\PW N D1 (eO h (cur J ds) (N - 122)) (cur J ds) [] 0)\/(e=9/\Fell N D1 (h.ep+1) (h.first+N) (λx=>x=cur J ds)):=by
 have hb:=I.big;have hl:=I.len;have hs:=I.good.side;have hc60:=ld I.good.lenC I.good.okC;have hokA:∀x∈wC (eO h (cur J ds) (N - 122)) (bP (cur J ds)),ka D.now.length x:=(by rw[hl];exact EU (h:=h) I.good.lenC I.good.okC hb.1);have hall:AllP (λm s=>(m<2+(1 - h.side)*60\/2+(1 - h.side)*60+60<=m)->s=D.now.getD m []) D:=AllP.calm hq.1 hq.2.1 λm _=>rfl;have invH:∀S:DiskM,S.now.length=N->(∀m,(m<2+(1 - h.side)*60\/2+(1 - h.side)*60+60<=m)->S.now.getD m []=D.now.getD m [])->Inv N S h J ds used:=λS hl' hP=>
  ⟨hl',hb,KQ I.good (by rw[hl',hl]) (by rw[hl];omega) hP,λm h1 h2=>by rw[hP m (by omega)];exact I.num m h1 h2⟩
 have e0:wC (eO h (cur J ds) (N - 122)) (bP (cur J ds))=(np (1 - h.side) (bP (cur J ds)) 0 (ci (bP (cur J ds)))++ [none])++ [some ((h.ep+1) % 2,dt (eO h (cur J ds) (N - 122))),none]:=(by rw[kbx];rfl);have hokW:∀x∈np (1 - h.side) (bP (cur J ds)) 0 (ci (bP (cur J ds))),ka D.now.length x:=λx hx=>hokA x (by rw[e0];simp[hx]);have fell:∀S:DiskM,(∀keep,∃h' r0' ds' X,Inv N (nI keep S) h' r0' ds' X/\cur r0' ds'=cur J ds/\h'.ep<=h.ep+1/\h'.first<=h.first+N/\pw 122 (N - 122) h'.first (fv keep S) ds' X)->Fell N S (h.ep+1) (h.first+N) (λx=>x=cur J ds):=λS H=>H;have sOld:∀K:List Bytes,(∀m,(m<2+(1 - h.side)*60\/2+(1 - h.side)*60+60<=m)->K.getD m []=D.now.getD m [])->pw 122 (N - 122) h.first K ds used:=λK hK=>
  CG hsf (λj _=>hK (122+j) (by omega)) (λj _ _=> .inl (hK (122+j) (by omega)))
 have old:∀S:DiskM,(∀keep,(fv keep S).length=N/\∀m,(m<2+(1 - h.side)*60\/2+(1 - h.side)*60+60<=m)->(fv keep S).getD m []=D.now.getD m [])->Fell N S (h.ep+1) (h.first+N) (λx=>x=cur J ds):=λS H=>
  fell S λkeep=>⟨h,J,ds,used,invH (nI keep S) (H keep).1 (H keep).2,rfl,by omega,by omega,sOld _ (H keep).2⟩
 rw[e0] at hr;cases hr1:ct D (np (1 - h.side) (bP (cur J ds)) 0 (ci (bP (cur J ds)))++ [none]) with
 | mk e1 O=>
  have V:=hall.run (np (1 - h.side) (bP (cur J ds)) 0 (ci (bP (cur J ds)))++ [none]) (λx hx=>by
   rcases kbF.1 hx with hx | hx
   ·exact QE hc60 x hx
   ·rw[kcv] at hx;subst hx;trivial)
  have Y:=yL (np (1 - h.side) (bP (cur J ds)) 0 (ci (bP (cur J ds)))++ [none]) hl (by rw[hq.1];exact hl);have he9:=Sv (np (1 - h.side) (bP (cur J ds)) 0 (ci (bP (cur J ds)))++ [none]) D (λx hx=>hokA x (by grind));rw[hr1] at V Y he9;simp only at V Y he9;by_cases he:e1=0
  ·subst he;obtain ⟨Z,hn2⟩:=Bn hokW hr1;rw[MH hr1] at hr;have hbad:¬ox O (((h.ep+1) % 2:Nat):Int) (dt (eO h (cur J ds) (N - 122))):=(by grind[ox,vq]);by_cases h0:dm O=0
   ·have hwe:du O (((h.ep+1) % 2:Nat):Int) (dt (eO h (cur J ds) (N - 122)))=0:=(by grind[du]);have hwd:cH O (((h.ep+1) % 2:Nat):Int) (dt (eO h (cur J ds) (N - 122)))=eA (dx O) (((h.ep+1) % 2:Nat):Int) (dt (eO h (cur J ds) (N - 122))):=(by grind[cH]);rw[q6 hwe,hwd] at hr;generalize hD3:eA (dx O) (((h.ep+1) % 2:Nat):Int) (dt (eO h (cur J ds) (N - 122)))=D3 at hr;have k3:D3.kept=O.now:=(by rw[<-hD3,<-Z.1];exact eb O);have n3:D3.now=eh D.now (wC (eO h (cur J ds) (N - 122)) (bP (cur J ds))):=by
     rw[<-hD3,xz];show (dx O).now.set ((((h.ep+1) % 2:Nat):Int)).toNat _=_;rw[fq,kcy,hn2]
     rfl
    have w3:D3.wait=[((h.ep+1) % 2,ca (dt (eO h (cur J ds) (N - 122))))]:=by
     rw[<-hD3];show (dx O).wait++_=_;rw[fe,Z.2.1,kcy]
     rfl
    have hkn:O.now.set ((h.ep+1) % 2) (ca (dt (eO h (cur J ds) (N - 122))))=eh D.now (wC (eO h (cur J ds) (N - 122)) (bP (cur J ds))):=(by rw[xz,hn2];rfl);by_cases h3:dm D3=0
    ·rw[nM h3,q8] at hr;injection hr with q1 q2;have hfc:=lc h3;left;rw[<-q2];have I1:=I.new (D1:=cL D3) hep hf (hfc.2.trans n3);exact ⟨q1.symm,hfc.1,I1,E0 I hf (hfc.2.trans n3) I1⟩
    ·rw[mJ h3] at hr;injection hr with q1 q2;have h9:dm D3=9:=(gC D3).resolve_left h3;right;refine ⟨by rw[<-q1,h9],fell D1 λkeep=>?_⟩;have k4:D1.kept=O.now:=(by grind[cL,eb]);have w4:D1.wait=[((h.ep+1) % 2,ca (dt (eO h (cur J ds) (N - 122))))]:=(by grind[cL,fe]);have R:fv keep D1=if kb keep 0=true then O.now.set ((h.ep+1) % 2) (ca (dt (eO h (cur J ds) (N - 122)))) else O.now:=by
      unfold fv;rw[k4,w4]
      rfl
     by_cases hk:kb keep 0=true
     ·rw[kaT hk,hkn] at R;exact ⟨_,_,_,_,I.new (D1:=nI keep D1) hep hf R,rfl,by simp only[eO];omega,by simp only[eO];omega,E0 (D1:=nI keep D1) I hf R (I.new (D1:=nI keep D1) hep hf R)⟩
     ·rw[kaU hk] at R;exact ⟨h,J,ds,used,invH (nI keep D1) (by show (fv keep D1).length=N;rw[R];exact Y.1) (λm hm=>by show (fv keep D1).getD m []=_;rw[R];exact V.now m hm),rfl,by omega,by omega,sOld _ (λm hm=>by rw[R];exact V.now m hm)⟩
   ·have hwe:du O (((h.ep+1) % 2:Nat):Int) (dt (eO h (cur J ds) (N - 122)))=dm O:=(by grind[du]);have hwd:cH O (((h.ep+1) % 2:Nat):Int) (dt (eO h (cur J ds) (N - 122)))=dx O:=(by grind[cH]);rw[oF (by rw[hwe];exact h0),hwe,hwd] at hr;injection hr with q1 q2;have h9:dm O=9:=(gC O).resolve_left h0;right;refine ⟨by rw[<-q1,h9],old D1 λkeep=>?_⟩;have R:fv keep D1=O.now:=by
     rw[<-q2];unfold fv;rw[eb,fe,Z.2.1,Z.1]
     rfl
    rw[R];exact ⟨Y.1,V.now⟩
  ·rw[kF hr1 he] at hr;injection hr with q1 q2;right;refine ⟨by grind,old D1 λkeep=>?_⟩;rw[<-q2];exact ⟨by grind[vt],V.rest keep⟩
variable {c:List ChangeM}
theorem TR {R}(bn:PW N D h R ds used)(hf:h.first<=900000000)(hv:nk (N - 122) used c=0)(O:(cX (cur R ds) c).length<=80):
  (pq 122 (N - 122) h.first used c D=0/\PW N (iY 122 (N - 122) h.first used c D) h R (ds++ [c]) (nm 122 (N - 122) h.first used c D))\/
  (pq 122 (N - 122) h.first used c D=9/\Fell N (iY 122 (N - 122) h.first used c D) h.ep h.first (λx=>x=cur R ds\/x=cX (cur R ds) c)):=by
 obtain ⟨hq,I,hs⟩:=bn;obtain ⟨v1,v2,v3⟩:=pr hv;have hb:=I.big;have hl:=I.len;cases hr:ct D (k9 122 (N - 122) h.first used c) with
 | mk e S=>
  have hE:pq 122 (N - 122) h.first used c D=e:=(by grind[pq]);have hD:iY 122 (N - 122) h.first used c D=S:=(by grind[iY]);have X:AllP (λm s=>(m<122->s=D.now.getD m [])/\(122<=m->m<N->vr (h.first+(N - 122)) s)) D:=AllP.calm hq.1 hq.2.1 λm=>⟨λ_=>rfl,λh1 Z=>I.num m h1 Z⟩;have V:=X.run (k9 122 (N - 122) h.first used c) (VB I hf hv);have J:=yL (k9 122 (N - 122) h.first used c) hl (by rw[hq.1];exact hl);rw[hr] at V J;simp only at V J;rw[hE,hD];rcases Kz hq (by rw[hl];omega) hv hs hr with ⟨h0,h1,Z⟩ | ⟨h0,h1⟩
  ·left;refine ⟨h0,h1,?_,?_⟩
   ·rw[show nm 122 (N - 122) h.first used c D=used+c.length+1 by grind[nm]];exact I.add J.1 V.now Z.1 (oH I.good.lens v1) (oH I.good.chk v3)<|vu I.good.fits O
   grind[nm]
  ·right;refine ⟨h0,λkeep=>?_⟩;obtain ⟨u,Y | Y⟩:=h1 keep
   ·exact ⟨h,R,ds,u,I.add (D1:=nI keep S) ((vt keep S).trans J.2) (V.rest keep) Y.1 I.good.lens I.good.chk I.good.fits, .inl rfl,kax _,kax _,Y⟩
   ·exact ⟨h,R,ds++ [c],u,I.add (D1:=nI keep S) ((vt keep S).trans J.2) (V.rest keep) Y.1 (oH I.good.lens v1) (oH I.good.chk v3) (vu I.good.fits O), .inr (yH R ds c),kax _,kax _,Y⟩
theorem Fell.mono {E O R J φ ψ}(h:Fell N D E R φ)(h1:E<=O)(Y:R<=J)(Z:∀x,φ x->ψ x):Fell N D O J ψ:=λkeep=>by
 obtain ⟨X,r',S,u',i',p',e',V,s'⟩:=h keep
 grind
def QG {i Y e V Z O}(hok:oE N i D)(X:tQ D)(I:Inv N D h Y ds used)(hc:ET D h (cur Y ds) (N - 122) used c e V Z O J):tQ V:=by
 have hb:=I.big;rcases hc with ⟨_,_,rfl,_⟩ | ⟨_,e1,D1,h1,S,R,hr⟩
 ·exact X
 ·have hm:=(Hb R hok X I.good.lenC I.good.okC I.big.1 I.used_le).2.1;rcases hr with ⟨_,_,rfl,_⟩ | ⟨_,_,rfl,_⟩
  ·exact hm
  ·exact Ir hm (N:=N) (by omega)
theorem TS {i e}(hok:oE N i D)(O:tQ D)(I:Inv N D h J ds used)(hr:ct D (wC (eO h (cur J ds) (N - 122)) (bP (cur J ds)))=(e,D1)):oE N (i+63) D1/\tQ D1:=by
 have h1:=iX (wC (eO h (cur J ds) (N - 122)) (bP (cur J ds))) i D hok;have R:=pB _ D O (EU (h:=h) I.good.lenC I.good.okC I.big.1);have S:=ld I.good.lenC I.good.okC
 grind[Iu,j3]
theorem QH (R:196<=N/\N<=260)(hl:D.now.length=N)(hr:ct D (Bj N)=(0,D1)):PW N D1 hd1 [] [] 0:=by
 have e:Bj N=(u3 (N - 122)++ [none,some (1,dt hd1)])++ [none]:=(by grind[Bj,WJ]);have hok:=yK R.1;have O:=hr;rw[e] at O;have V:=Bn (D:=D) (λx hx=>by grind) O;have hn:=xy (Bj N) (D:=D) (by rw[hl];exact hok) hr;have I:=ID R hl hn;have J:=I.good.log;rw[I.len] at J;refine ⟨V.1,I,J,λj _ hj=>?_⟩;have X:eh D.now (Bj N)=(eh D.now (u3 (N - 122))).set 1 (ca (dt hd1)):=(by unfold Bj;rw[jr];rfl);have S:mK D1.now 122 j=ca []:=by
  show List.getD _ _ _=_
  grind[hZ,CO]
 rw[S];rintro ⟨t,ht⟩
 grind[mH]
def bc (l:List Int):List (List Value):=l.map λn=>[I n]
def cw l:(bc l).length=l.length:=by simp[bc]
def fO {l}{k:Nat}{n}(h:l[k]? =some n):(bc l)[k]? =some [I n]:=by simp[bc,h]
theorem QI {α:Type}{a b:List α}{k x y}(h:a.take k=b.take k)(J:a[k]? =some x)(O:b[k]? =some y)(e:x=y):a.take (k+1)=b.take (k+1):=by
 grind[List.take_succ_eq_append_getElem]
end Go.Proofs.YthdjckbjjfiopabGreatDoor