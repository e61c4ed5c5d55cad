/- Several texts in one: walks and rules used by them. No condition. -/
import Derived.Test.YthdjckbjjfiopabGreatDoorCartD
import Derived.Test.YthdjckbjjfiopabGreatDoorCartB
import Derived.Test.YthdjckbjjfiopabGreatDoorProg
import Derived.KernelRfl
set_option linter.unusedSimpArgs false
set_option linter.unusedVariables false
set_option synthInstance.maxSize 9999
set_option synthInstance.maxHeartbeats 0
set_option linter.defProp false
set_option maxHeartbeats 800000
namespace Go.Proofs.YthdjckbjjfiopabGreatDoor
open _root_.Go.Proofs.Tryz
open Go Go.Sl Go.Proofs
def wB (O N i:Nat)(D:DiskM)(hok:nO N i D)(hi:i<=100000)(hN0:N<=260)(F:List ag):Ct Tryz.prog 102 [ptr O 0] (cf 179 319 O (D)::F) (λv L'=>(N<196/\v=bM 8/\L'=cf 179 319 O (D)::F)\/(196<=N/\∃e D1,cv D (Ba N)=(e,D1)/\v=bM e/\L'=cf 179 319 O (D1)::F)):=by
 refine Ct.of func102 rR 39 ntmps102 (by simp) λw0=>?_;refine gS (gQ (ac (gS (gM (gI (uB (R:=λF=>R1 (I ((D).now.length:Int)) (cf 179 319 O (D)::F)) call112 (eo O D)) ?_)))));rintro _ _ ⟨rfl,rfl⟩;refine gV aI (ab ?_);apply ah<;>intro h7
 ·simp at h7;have h7':N<196:=(by have:=hok.2.1;omega);refine gS (gV (aZ Vn) (gQ ?_));exact an (cf 179 319 O (D)::F) rfl (.inl ⟨h7',rfl,rfl⟩)
 ·simp at h7;have h7':196<=N:=(by have:=hok.2.1;omega);refine ai (gS (gM (gR (vB call175 (ff O D ((0:Nat):Int) [] hok.2.2.1 (by have:=hok.2.2.2.2;omega))) (gQ (ac (gS (gQ (al ?_))))))));refine aM (α:=Nat×Int×DiskM) (λz=>z.1<=N - 122/\cv D (uL z.1)=(z.2.1,z.2.2)) (λz=>U [(0,ptr O 0),(3,bM z.2.1),(4,I ((122+z.1:Nat):Int))]) (λz=>cf 179 319 O (z.2.2)::F) (λz=>N - z.1) (0,dt D ((0:Nat):Int) [],cG D ((0:Nat):Int) []) ⟨kaB _,kg (l:=[]) rfl⟩ [0,3,4] rfl ?_;rintro ⟨k,e,X⟩ ⟨hk,Y⟩;simp only[] at hk Y ⊢;have J:=iK (uL k) i D hok;rw[Y,tz] at J;simp only at J;refine ac (gS (gM (gM (gI (uB (R:=λF=>R1 (I ((X).now.length:Int)) (cf 179 319 O (X)::F)) call112 (eo O X)) ?_))));rintro _ _ ⟨rfl,rfl⟩;refine gV aI (gM (gK aq (gK (fO Vl) (gV dD (ab ?_)))));apply ah<;>intro Z
  ·simp at Z;have he0:e=0:=Z.2;have hkn:122+k<N:=(by have:=J.2.1;omega);refine ai (ac (al (am (gM (gM (gR (vB call175 (ff O X ((122+k:Nat):Int) [] J.2.2.1 (by have:=J.2.2.2.2;omega))) (gQ (aG (am (gM (gV (bO (r:=((122+(k+1):Nat):Int)) (by rw[show ((122+k:Nat):Int)+1=((122+(k+1):Nat):Int) by omega];exact da (by omega))) (gQ ?_))))))))))));exact ap (k+1,dt X ((122+k:Nat):Int) [],cG X ((122+k:Nat):Int) []) ⟨by simp only[];omega,by simp only[];rw[uL,kg (by rw[Y,he0])];rfl⟩ (by simp only[];omega) [0,3,4] rfl
  ·simp at Z;have hst:k=N - 122\/e≠0:=by
    have:=J.2.1;by_cases he:e=0
    ·left;by_cases hx:122+k<N
     ·exact absurd he (Z (by omega))
     ·omega
    ·exact .inr he
   have hf:=LH Y hst hk;refine aF ?_;refine ac (gS (gM (gV (fO Vl) (ab ?_))));refine ls (α:=Int×DiskM) (λz=>cv D (uL (N - 122)++ [none])=z) (λz=>U [(0,ptr O 0),(3,bM z.1)]) (λz=>cf 179 319 O (z.2)::F) ?_ ?_
   ·apply ah<;>intro h25
    ·have he:e=0:=(by simpa using h25);subst he;refine am (gM (gR (vB call176 (hG O X J.2.2.1 (by rw[J.1,J.2.1]) (by rw[J.2.1];omega))) (gQ ?_)));exact cF (dm X,cJ X) (kg (x:=none) hf) [0,3] rfl
    ·have he:¬e=0:=(by simpa using h25);refine ai ?_;exact cF (e,X) (kh hf he) [0,3] rfl
   rintro ⟨e1,X1⟩ h1;simp only at h1 ⊢;have V:=iK (uL (N - 122)++ [none]) i D hok;rw[h1,Z1,tz] at V;simp only[YF,kay] at V;refine ac (gS (gM (gV (fO Vl) (ab ?_))));refine ls (α:=Int×DiskM) (λz=>cv D (uL (N - 122)++ [none]++ [some (1,dq hd1)])=z) (λz=>U [(0,ptr O 0),(3,bM z.1)]) (λz=>cf 179 319 O (z.2)::F) ?_ ?_
   ·apply ah<;>intro h29
    ·have he1:e1=0:=(by simpa using h29);subst he1;refine am (gM (gV (aR (eM _ rR _ rR _ rR _ rR)) (gR (vA call177 (ry hd1)) (gR (vB call175 (ff O X1 ((1:Nat):Int) (dq hd1) V.2.2.1 (by have:=V.2.2.2.2;omega))) (gQ ?_)))));exact cF (dt X1 ((1:Nat):Int) (dq hd1),cG X1 ((1:Nat):Int) (dq hd1)) (kg h1) [0,3] rfl
    ·have he1:¬e1=0:=(by simpa using h29);refine ai ?_;exact cF (e1,X1) (kh h1 he1) [0,3] rfl
   rintro ⟨e2,X2⟩ h2;simp only at h2 ⊢;have S:=iK (uL (N - 122)++ [none]++ [some (1,dq hd1)]) i D hok;rw[h2,Z1,Z1,tz] at S;simp only[YF,kay] at S;refine ac (gS (gM (gV (fO Vl) (ab ?_))));refine ls (α:=Int×DiskM) (λz=>cv D (Ba N)=z) (λz=>U [(0,ptr O 0),(3,bM z.1)]) (λz=>cf 179 319 O (z.2)::F) ?_ ?_
   ·apply ah<;>intro h35
    ·have he2:e2=0:=(by simpa using h35);subst he2;refine am (gM (gR (vB call176 (hG O X2 S.2.2.1 (by rw[S.1,S.2.1]) (by rw[S.2.1];omega))) (gQ ?_)));exact cF (dm X2,cJ X2) (by have:=kg (x:=none) h2;rw[Zf,Zf] at this;exact this) [0,3] rfl
    ·have he2:¬e2=0:=(by simpa using h35);refine ai ?_;exact cF (e2,X2) (by have:=kh (r:=[none]) h2 he2;rw[Zf,Zf] at this;exact this) [0,3] rfl
   rintro ⟨e3,X3⟩ h3;simp only at h3 ⊢;refine gS (gM (gQ ?_));exact an (cf 179 319 O (X3)::F) rfl (.inr ⟨h7',e3,X3,h3,rfl,rfl⟩)
end Go.Proofs.YthdjckbjjfiopabGreatDoor
namespace Go.Proofs.YthdjckbjjfiopabGreatDoor
open Go.Sl Go.Proofs
def RE {l:List ChangeM}{c:ChangeM}(h:∀r∈l,Cq r)(J:dX c=0):∀r∈FQ l c,Cq r:=by
 intro r hr;unfold FQ at hr;simp only[Zn] at hr;rcases hr with (hr | hr) | hr
 grind
 ·split at hr
  ·cases hr
  ·rename_i O;rw[kad] at hr;subst hr;exact ⟨J,by simpa using O⟩
 ·exact h r (ZV.1 hr).1
def HO:∀(c:List ChangeM) {l:List ChangeM},(∀r∈l,Cq r)->(∀x∈c,dX x=0)->∀r∈cU l c,Cq r
 | [],l,h,_=>h
 | x::c,l,h,J=>HO c (RE h (J x (by simp))) λy hy=>J y (kac _ hy)
def HP:∀(ds:dc) {l:List ChangeM},(∀r∈l,Cq r)->(∀d∈ds,∀x∈d,dX x=0)->∀r∈cur l ds,Cq r
 | [],l,h,_=>h
 | d::ds,l,h,J=>HP ds (HO d h (J d (by simp))) λe he=>J e (kac _ he)
theorem yF (J:List ChangeM)(ds:dc)(c:List ChangeM):cur J (ds++ [c])=cU (cur J ds) c:=by grind[cur]
theorem Good.srtC {L:List ak}{h:HdM}{J:List ChangeM}{ds:dc}{used:Nat}(g:Good L h J ds used):srt (cur J ds):=yE ds g.hsrt
theorem Good.okC {L:List ak}{h:HdM}{J:List ChangeM}{ds:dc}{used:Nat}(g:Good L h J ds used):∀r∈cur J ds,Cq r:=HP ds g.hok g.chk
theorem Good.lenC {L:List ak}{h:HdM}{J:List ChangeM}{ds:dc}{used:Nat}(g:Good L h J ds used):(cur J ds).length<=80:=by
 have:=g.fits ds.length;rw[Y3] at this;exact this
def rA (a b:HdM):HdM:=if (if HdM.no.ep<a.ep then a else HdM.no).ep<b.ep then b else if HdM.no.ep<a.ep then a else HdM.no
theorem Cu (L:List ak):nQ L=rA (dU (L.getD 0 [])) (dU (L.getD 1 [])):=rfl
def EF {L L':List ak}(h0:L'.getD 0 []=L.getD 0 [])(h1:L'.getD 1 []=L.getD 1 []):nQ L'=nQ L:=by grind[Cu]
def US:HdM.no.ep=0:=rfl
def Tq (a b:HdM):a.ep<=(rA a b).ep/\b.ep<=(rA a b).ep:=by
 grind[rA]
theorem O0 {a b h:HdM}(hh:(rA a b).ep<h.ep):rA h b=h:=by
 grind[rA]
theorem O1 {a b h:HdM}(hh:(rA a b).ep<h.ep):rA a h=h:=by
 grind[rA]
def HQ {L L':List ak}{side:Nat}(hl:L'.length=L.length):∀k,2+side*60+k<=L.length->(∀m,2+side*60<=m->m<2+side*60+k->L'.getD m []=L.getD m [])->DJ L' side k=DJ L side k
 | 0,_,_=>rfl
 | k+1,hk,h=>by
  rw[<-yD (by omega),<-yD (L:=L) (by omega),HQ hl k (by omega) (λm a b=>h m a (by omega)),h _ (by omega) (by omega)]
def EG {L L':List ak}{h:HdM}{X:List ChangeM}{ds J:dc}{used O:Nat}(g:Good L h X ds used)(hl:L'.length=L.length)(Y:122<=L.length)(R:∀m,m<2->L'.getD m []=L.getD m [])(V:∀m,2+h.side*60<=m->m<2+h.side*60+60->L'.getD m []=L.getD m [])
  (S:dh h.first (me L' 122) (L.length - 122) 0 [] [] 0=(J,O)) (h1:∀d∈J,d.length<=72) (Z:∀d∈J,∀x∈d,dX x=0) (h3:∀k,((J.take k).foldl cU X).length<=80):Good L' h X J O:=by
 have hs:=g.side;have ht:DJ L' h.side 60=DJ L h.side 60:=HQ hl 60 (by omega) V;exact ⟨(EF (R 0 (by decide)) (R 1 (by decide))).trans g.best,g.ep,g.side,g.first,g.size,by
  have:=g.text;show (DJ L' h.side 60).take h.size=_;rw[ht];exact this,g.hsrt,g.hok,g.len,by rw[hl];exact S,h1,Z,h3⟩
theorem JV {L L':List ak}{h:HdM}{V:List ChangeM}{ds:dc}{used:Nat}(g:Good L h V ds used)(hl:L'.length=L.length)(J:122<=L.length)(O:∀m,m<2->L'.getD m []=L.getD m [])(S:∀m,2+h.side*60<=m->m<2+h.side*60+60->L'.getD m []=L.getD m [])(R:∀m,122<=m->L'.getD m []=L.getD m []):Good L' h V ds used:=
 EG g hl J O S (by
  have:me L' 122=me L 122:=funext λi=>R _ (by omega);rw[this];exact g.log) g.lens g.chk g.fits
def u9 (B:Nat)(s:ak):Prop:=∀n,B<=n->n<4294967296->fC n s=none
def JW {B J:Nat}{s:ak}(h:u9 B s)(R:B<=J):u9 J s:=λn h1 O=>h n (by omega) O
theorem yG (B:Nat):u9 B (bV []):=λn _ _=>mc n
def LL {m n:Nat}(hm:m<4294967296)(hn:n<4294967296)(h:bj m=bj n):m=n:=by grind[Ez]
def Bc {B m:Nat}{k:UInt8}{s:ak}(hm:m<B)(O:B<=4294967296):u9 B (bV (dY k m s)):=λn h1 J=>by
 unfold fC;rw[YC];intro h;have e:((bV (dY k m s)).take 5).drop 1=bj m:=by
  grind[bV,dY,bj]
 rw[e] at h;have:=LL (by omega) J h.1;omega
structure AllP (P:Nat->ak->Prop) (D:DiskM):Prop where
 now:∀m,P m (D.now.getD m [])
 kept:∀m,P m (D.kept.getD m [])
 wait:∀t∈D.wait,P t.1 t.2
def RF (P:Nat->ak->Prop):mG->Prop
 | some x=>P x.1 (bV x.2)
 | none=>True
theorem AllP.step {P:Nat->ak->Prop}{D:DiskM}(h:AllP P D):AllP P (du D):=⟨by rw[fk];exact h.now,by rw[eb];exact h.kept,by rw[eY];exact h.wait⟩
theorem AllP.st {P:Nat->ak->Prop}{D:DiskM}{x:mG}(h:AllP P D)(hx:RF P x):AllP P (Gw D x):=by
 cases x with
 | none=>
  show AllP P (cJ D);unfold cJ;split
  ·exact ⟨h.step.now,h.step.now,λt ht=>by cases ht⟩
  ·exact h.step
 | some y=>
  show AllP P (cG D y.1 y.2);unfold cG;split
  ·exact h
  ·split
   ·refine ⟨λm=>?_,h.step.kept,λt ht=>?_⟩
    ·show P m (((du D).now.set ((y.1:Int)).toNat (bV y.2)).getD m []);rw[gH];split
     ·rename_i J;rw[<-J.1,kag];exact hx
     ·exact h.step.now m
    ·simp only[eu,Zn,kad] at ht;rcases ht with ht | rfl
     ·exact h.step.wait t ht
     ·simp only[kag];exact hx
   ·exact h.step
theorem AllP.run {P:Nat->ak->Prop}:∀(l:List mG) {D:DiskM},AllP P D->(∀x∈l,RF P x)->AllP P (cv D l).2
 | [],D,h,_=>h
 | x::l,D,h,ho=>by
  have h1:=h.st (ho x (Z2 ..));by_cases h0:Gv D x=0
  ·rw[lm h0];exact AllP.run l h1 λy hy=>ho y (kac _ hy)
  grind[kY]
theorem AllP.rest {P:Nat->ak->Prop}{D:DiskM}(h:AllP P D)(keep:Int)(m:Nat):P m ((iz keep D).getD m []):=by
 rcases qQ (keep:=keep) (w:=D.wait) (K:=D.kept) D.wait.length m with e | ⟨t,ht,J,O⟩
 ·show P m ((pr keep D.wait D.kept D.wait.length).getD m []);rw[e];exact h.kept m
 ·show P m ((pr keep D.wait D.kept D.wait.length).getD m []);rw[O,<-J];exact h.wait t ht
theorem AllP.calm {P:Nat->ak->Prop}{D:DiskM}(hk:D.kept=D.now)(hw:D.wait=[])(h:∀m,P m (D.now.getD m [])):AllP P D:=⟨h,by rw[hk];exact h,by grind⟩
theorem va (keep:Int)(D:DiskM):(iz keep D).length=D.kept.length:=qL ..
def xi:∀(l:List mG) {D J:DiskM},(∀x∈l,jv D.now.length x)->cv D l=(0,J)->J.now=ed D.now l
 | [],D,J,_,h=>by injection h with _ h;rw[<-h];rfl
 | none::l,D,J,ho,h=>by
  by_cases h0:dm D=0
  ·rw[mZ h0] at h;have hn:=(kH h0).2;have:=xi l (D:=cJ D) (λx hx=>by grind) h;rw[this,hn];rfl
  grind[md]
 | some y::l,D,J,ho,h=>by
  obtain ⟨n,s⟩:=y;have hy:=ho _ (Z2 ..);have R:¬nK D (n:Int) s:=(by unfold nK;have h1:=hy.1;have O:=hy.2;simp only at h1 O;omega);by_cases h0:dt D (n:Int) s=0
  ·rw[qN h0] at h;have hs:dm D=0:=(by grind[dt]);have hn:(cG D (n:Int) s).now=D.now.set n (bV s):=by
    unfold cG;rw[YC R,YB hs];show (du D).now.set ((n:Int)).toNat _=_;rw[fk,kag]
   have:=xi l (D:=cG D (n:Int) s) (λx hx=>by grind) h;rw[this,hn];rfl
  grind[nP]
theorem HR {side:Nat}{t:ak}:∀(f k:Nat) (L:List ak) (m:Nat),(ed L (mJ side t k f)).getD m []=if 2+side*60+k<=m/\m<2+side*60+k+f/\m<L.length then bV (dZ t (m - (2+side*60))) else L.getD m []
 | 0,k,L,m=>by rw[YC (by omega)];rfl
 | f+1,k,L,m=>by
  rw[mJ,ed,HR f (k+1),Z8,gH]
  grind
def EH {t:ak}{k:Nat}(h:80*(k+1)<=t.length):bV (dZ t k)=dZ t k:=by
 have:(dZ t k).length=80:=by grind[lK]
 simp_all[bV,i8]
theorem yH {t:ak}{k:Nat}:t.take (80*k)++dZ t k=t.take (80*(k+1)):=by
 grind[dZ]
theorem Cv {L:List ak}{side:Nat}{t:ak}(O:2+side*60+60<=L.length)(hs:∀k,k<ci t->L.getD (2+side*60+k) []=bV (dZ t k))(J:ci t<=60):∀k,80*k<=t.length->DJ L side k=t.take (80*k)
 | 0,_=>rfl
 | k+1,h=>by
  have hk:k<ci t:=chunks_lt.2 (by omega);rw[<-yD (by omega),Cv O hs J k (by omega),hs k hk,EH h,yH]
def HS {L:List ak}{side:Nat}(J:2+side*60+60<=L.length):∀(g k:Nat),k+g<=60->∃r,DJ L side (k+g)=DJ L side k++r
 | 0,k,_=>⟨[],by simp⟩
 | g+1,k,h=>by
  obtain ⟨r,hr⟩:=HS J g k (by omega)
  grind[yD]
theorem RG {L:List ak}{side:Nat}{t:ak}(O:2+side*60+60<=L.length)(hs:∀k,k<ci t->L.getD (2+side*60+k) []=bV (dZ t k))(J:ci t<=60):(DJ L side 60).take t.length=t:=by
 have hq:∃r,DJ L side (ci t)=t++r:=by
  by_cases he:80*ci t=t.length
  ·exact ⟨[],by grind[Cv,List.take_length]⟩
  ·obtain ⟨q,hq⟩:∃q,ci t=q+1:=⟨ci t - 1,by unfold ci at*;omega⟩;have h1:80*q<t.length:=chunks_lt.1 (by omega);refine ⟨i8 (80 - (dZ t q).length),?_⟩;rw[hq,<-yD (by omega),Cv O hs J q (by omega),hs q (by omega)]
   grind[bV,yH,List.take_of_length_le,ci]
 obtain ⟨r,hr⟩:=hq;obtain ⟨r2,R⟩:=HS O (60 - ci t) (ci t) (by omega)
 grind
def LM {L:List ak}{h:HdM}{i:Nat}(hi:i<2)(J:2<=L.length)(O:(nQ L).ep<h.ep)(ho:dU (bV (dq h))=h):nQ (L.set i (bV (dq h)))=h:=by
 grind[Cu,O0,O1]
def LN {L:List ak}{h:HdM}{J:List ChangeM}{ds:dc}{used:Nat}(g:Good L h J ds used)(hL:196<=L.length/\L.length<=260)(hep:h.ep<=1000000)(hfi:h.first<=900000000)(X:∀m,122<=m->m<L.length->u9 (h.first+(L.length - 122)) (L.getD m [])):
  Good ((ed L (mJ (1 - h.side) (bK (cur J ds)) 0 (ci (bK (cur J ds))))).set ((h.ep+1) % 2) (bV (dq (eE h (cur J ds) (L.length - 122))))) (eE h (cur J ds) (L.length - 122)) (cur J ds) [] 0:=by
 have Y:=kI g.lenC g.okC;have hal:=mj g.okC;have hlc:=g.lenC;have hs:=g.side;generalize O:ed L (mJ (1 - h.side) (bK (cur J ds)) 0 (ci (bK (cur J ds))))=L2;have V:L2.length=L.length:=(by rw[<-O,iA]);have hat:∀m,L2.getD m []=if 2+(1 - h.side)*60<=m/\m<2+(1 - h.side)*60+ci (bK (cur J ds))/\m<L.length then bV (dZ (bK (cur J ds)) (m - (2+(1 - h.side)*60))) else L.getD m []:=λm=>by rw[<-O,HR];rfl
 have S:dU (bV (dq (eE h (cur J ds) (L.length - 122))))=eE h (cur J ds) (L.length - 122):=yz (by simp only[eE];omega) (by simp only[eE];omega) (by simp only[eE];omega) (by grind[eE]);have Z:∀m,2<=m->(L2.set ((h.ep+1) % 2) (bV (dq (eE h (cur J ds) (L.length - 122))))).getD m []=L2.getD m []:=λm hm=>(by grind);have R:nQ L2=h:=(EF (by grind) (by grind)).trans g.best;refine ⟨LM (by omega) (by omega) (by grind[eE]) S,by simp only[eE];omega,by simp only[eE];omega,by grind[eE],rfl,?_,g.srtC,g.okC,g.lenC,?_,(λd hd=>by cases hd),(λd hd=>by cases hd),λk=>by grind⟩
 ·show (DJ _ (1 - h.side) 60).take (bK (cur J ds)).length=_
  grind[RG]
 ·rw[Z8,V];have h0:me (L2.set ((h.ep+1) % 2) (bV (dq (eE h (cur J ds) (L.length - 122))))) 122 0=L.getD 122 []:=by
   show List.getD _ _ _=_
   grind
  obtain ⟨m,hm⟩:∃m,L.length - 122=m+1:=⟨L.length - 123,by omega⟩;rw[show L.length - 122=m+1 from hm];refine u4 ?_;show fC (h.first+(m+1)+0) (me _ 122 0)=none;rw[<-hm,h0];exact X 122 (Yf _) (by omega) _ (by omega) (by omega)
def O2 {h:HdM}{t:ak}{L:List ak}(J:ci t<=60):∀x∈mJ (1 - h.side) t 0 (ci t),RF (λm s=>(m<2+(1 - h.side)*60\/2+(1 - h.side)*60+60<=m)->s=L.getD m []) x:=by
 have:∀(f k:Nat),k+f<=60->∀x∈mJ (1 - h.side) t k f,RF (λm s=>(m<2+(1 - h.side)*60\/2+(1 - h.side)*60+60<=m)->s=L.getD m []) x:=by
  intro f
  induction f with
  | zero=>grind[mJ]
  | succ f O=>
   intro k hk x hx;rw[mJ] at hx;rcases Y5.1 hx with rfl | hx
   ·intro hm;simp only at hm;omega
   grind
 exact this _ 0 (by omega)
def JX {L L':List ak}{h:HdM}{O:List ChangeM}{ds:dc}{used:Nat}(g:Good L h O ds used)(hl:L'.length=L.length)(J:122<=L.length)(R:∀m,(m<2+(1 - h.side)*60\/2+(1 - h.side)*60+60<=m)->L'.getD m []=L.getD m []):Good L' h O ds used:=by
 grind[JV]
def HT {many first used:Nat}:∀(c:List ChangeM) (k:Nat),used+k+c.length<=many->first+many<=4294967296->∀x∈k8 122 first used k c,RF (λm s=>122<=m/\u9 (first+many) s) x
 | [],k,_,_,x,h=>by simp[k8] at h
 | y::c,k,hk,J,x,h=>by
  rw[k8] at h;simp only[YF] at hk;rcases Y5.1 h with rfl | h
  ·exact ⟨by simp only;omega,Bc (by omega) J⟩
  ·exact HT c (k+1) (by omega) J x h
def O3 {many first used:Nat}{c:List ChangeM}(O:used+c.length+1<=many)(J:first+many<=4294967296):∀x∈kF 122 many first used c,RF (λm s=>122<=m/\u9 (first+many) s) x:=by
 intro x hx;unfold kF ns at hx;simp only[Zn,Y5,kaf,or_false] at hx;rcases hx with (hx | hx) | rfl | rfl | rfl
 ·exact HT c 0 (by omega) J x hx
 ·unfold oM at hx;split at hx
  ·simp only[kad] at hx;subst hx;exact ⟨by simp only;omega,yG _⟩
  ·simp at hx
 ·trivial
 ·exact ⟨by simp only;omega,Bc (by omega) J⟩
 ·trivial
def vb {J:List ChangeM}{ds:dc}{c:List ChangeM}(h:∀k,((ds.take k).foldl cU J).length<=80)(O:(cU (cur J ds) c).length<=80):∀k,(((ds++ [c]).take k).foldl cU J).length<=80:=λk=>by
 grind[List.take_of_length_le,cur]
def nS {α:Type}{p:α->Prop}{l:List α}{c:α}(h:∀d∈l,p d)(J:p c):∀d∈l++ [c],p d:=λd hd=>by
 grind
structure Inv (N:Nat) (D:DiskM) (h:HdM) (r0:List ChangeM) (ds:dc) (used:Nat):Prop where
 len:D.now.length=N
 big:196<=N/\N<=260
 good:Good D.now h r0 ds used
 num:∀m,122<=m->m<N->u9 (h.first+(N - 122)) (D.now.getD m [])
theorem Inv.used_le {N:Nat}{D:DiskM}{h:HdM}{J:List ChangeM}{ds:dc}{used:Nat}(I:Inv N D h J ds used):used<=N - 122:=by
 have:=AW I.good.log;rw[I.len] at this;exact this
theorem Inv.now {N:Nat}{D J:DiskM}{h:HdM}{O:List ChangeM}{ds:dc}{used:Nat}(I:Inv N D h O ds used)(hn:J.now=D.now):Inv N J h O ds used:=⟨by rw[hn];exact I.len,I.big,by rw[hn];exact I.good,by rw[hn];exact I.num⟩
theorem xj (h:HdM)(t:ak)(L:List ak):ed L (wk h t)=(ed L (mJ h.side t 0 (ci t))).set (h.ep % 2) (bV (dq h)):=by unfold wk;rw[ja];rfl
theorem Inv.new {N:Nat}{D D1:DiskM}{h:HdM}{J:List ChangeM}{ds:dc}{used:Nat}(I:Inv N D h J ds used)(O:h.ep<=1000000)(V:h.first<=900000000)(hn:D1.now=ed D.now (wk (eE h (cur J ds) (N - 122)) (bK (cur J ds)))):
  Inv N D1 (eE h (cur J ds) (N - 122)) (cur J ds) [] 0:=by
 have hl:=I.len;have g:=LN I.good (by rw[hl];exact I.big) O V (by rw[hl];exact I.num);rw[hl] at g;rw[xj] at hn;have R:=kI I.good.lenC I.good.okC;refine ⟨by rw[hn,Z8,iA,hl],I.big,by rw[hn];exact g,λm h1 S=>?_⟩;rw[hn,gH,YC (by simp only[eE];omega),HR,YC (by simp only[eE];omega)];exact JW (I.num m h1 S) (by simp only[eE];omega)
def LO {N:Nat}{D:DiskM}{h:HdM}{J:List ChangeM}{ds:dc}{used:Nat}(S:u1 D)(I:Inv N D h J ds used)(O:h.ep<=1000000)(R:h.first<=900000000):
  ∃D1,cv D (wk (eE h (cur J ds) (N - 122)) (bK (cur J ds)))=(0,D1)/\u1 D1/\Inv N D1 (eE h (cur J ds) (N - 122)) (cur J ds) [] 0:=by
 obtain ⟨r1,r2,V⟩:=oP _ D S (by rw[I.len];exact EE (h:=h) I.good.lenC I.good.okC I.big.1);exact ⟨_,Prod.ext r1 rfl,r2,I.new O R V⟩
def vc {first many:Nat}{J:Nat->ak}{a b:dc}{u v:Nat}(h1:dh first J many 0 [] [] 0=(a,u))(O:dh first J many 0 [] [] 0=(b,v)):a=b/\u=v:=by
 grind
theorem Inv.add {N:Nat}{D D1:DiskM}{h:HdM}{V:List ChangeM}{ds J:dc}{used O:Nat}(I:Inv N D h V ds used)(hl:D1.now.length=N)(S:∀m,(m<122->D1.now.getD m []=D.now.getD m [])/\(122<=m->m<N->u9 (h.first+(N - 122)) (D1.now.getD m [])))
  (R:dh h.first (me D1.now 122) (N - 122) 0 [] [] 0=(J,O)) (h1:∀d∈J,d.length<=72) (X:∀d∈J,∀x∈d,dX x=0) (Y:∀k,((J.take k).foldl cU V).length<=80):Inv N D1 h V J O:=by
 have Z:=I.big;have hs:=I.good.side;exact ⟨hl,I.big,EG I.good (by rw[hl,I.len]) (by rw[I.len];omega) (λm hm=>(S m).1 (by omega)) (λm a b=>(S m).1 (by omega)) (by rw[I.len];exact R) h1 X Y,λm a b=>(S m).2 a b⟩
def Ts {N:Nat}{D:DiskM}{h:HdM}{J:List ChangeM}{ds:dc}{used:Nat}{c:List ChangeM}(I:Inv N D h J ds used)(R:h.first<=900000000)(hv:mH (N - 122) used c=0):∀x∈kF 122 (N - 122) h.first used c,RF (λm s=>(m<122->s=D.now.getD m [])/\(122<=m->m<N->u9 (h.first+(N - 122)) s)) x:=by
 obtain ⟨v1,v2,v3⟩:=oO hv;have O:=I.big;intro x hx;have:=O3 (many:=N - 122) (first:=h.first) (used:=used) (c:=c) (by omega) (by omega) x hx;cases x with
 | none=>trivial
 | some y=>exact ⟨λhm=>absurd this.1 (by omega),λ_ _=>this.2⟩
def RH {N:Nat}{D:DiskM}{h:HdM}{r0:List ChangeM}{ds:dc}{used:Nat}{c:List ChangeM}(Z:u1 D)(V:∀x∈D.now,x.length=80)(I:Inv N D h r0 ds used)(hf:h.first<=900000000)(hv:mH (N - 122) used c=0)(R:(cU (cur r0 ds) c).length<=80):
  oN 122 (N - 122) h.first used c D=0/\u1 (iL 122 (N - 122) h.first used c D)/\mI 122 (N - 122) h.first used c D=used+c.length+1/\Inv N (iL 122 (N - 122) h.first used c D) h r0 (ds++ [c]) (used+c.length+1):=by
 obtain ⟨v1,v2,v3⟩:=oO hv;have hb:=I.big;have J:=I.good.log;rw[I.len] at J;obtain ⟨a1,a2,a3,a4,a5⟩:=Rn Z V (by rw[I.len];omega) hv J;refine ⟨a1,a2,by grind[mI],?_⟩;have O:AllP (λm s=>(m<122->s=D.now.getD m [])/\(122<=m->m<N->u9 (h.first+(N - 122)) s)) {D with kept:=D.now,wait:=[]}:=AllP.calm rfl rfl λm=>⟨λ_=>rfl,λh1 h2=>I.num m h1 h2⟩;have hD:iL 122 (N - 122) h.first used c D=(cv D (kF 122 (N - 122) h.first used c)).2:=(by grind[iL]);have hok:∀x∈kF 122 (N - 122) h.first used c,jv D.now.length x:=(by rw[I.len];exact w9 (by omega) hv);have Y:=(oP _ D Z hok).2.2;have S:=(oP _ ({D with kept:=D.now,wait:=[]}:DiskM) Z hok).2.2;have X:=(O.run (kF 122 (N - 122) h.first used c) (Ts I hf hv)).now;rw[S] at X;rw[<-Y,<-hD] at X;exact I.add (by rw[a4,I.len]) X a5 (nS I.good.lens v1) (nS I.good.chk v3) (vb I.good.fits R)
def UT {many:Nat}{rows c:List ChangeM}(h:xf many rows c=0):c.length<=72/\kG c=0/\(cU rows c).length<=80/\c.length+1<=many:=by
 grind[xf]
def LP {N:Nat}{D:DiskM}{h:HdM}{Y:List ChangeM}{ds:dc}{used:Nat}{c:List ChangeM}{e:Int}{D2:DiskM}{h2:HdM}{R:Nat}{J:List ChangeM}(hu:u1 D)(hS:tw D)(I:Inv N D h Y ds used)(hep:h.ep<=1000000)(hf:h.first<=800000000)(hc:ED D h (cur Y ds) (N - 122) used c e D2 h2 R J):
  e=xf (N - 122) (cur Y ds) c/\u1 D2/\tw D2/\h2.ep<=h.ep+1/\h2.first<=h.first+N/\J=(if xf (N - 122) (cur Y ds) c=0 then cU (cur Y ds) c else cur Y ds)/\
   R=(if xf (N - 122) (cur Y ds) c=0 then (if N - 122 - used<c.length+1 then 0 else used)+c.length+1 else used)/\∃r0' ds',Inv N D2 h2 r0' ds' R/\cur r0' ds'=J:=by
 have hb:=I.big;rcases hc with ⟨hne,rfl,rfl,rfl,rfl,rfl⟩ | ⟨h0,e1,D1,h1,O,hmid,Z⟩
 ·grind
 ·obtain ⟨c1,c2,c3,c4⟩:=UT h0;have hm:e1=0/\u1 D1/\tw D1/\h1.ep<=h.ep+1/\h1.first<=h.first+N/\O=(if N - 122 - used<c.length+1 then 0 else used)/\∃r1 d1,Inv N D1 h1 r1 d1 O/\cur r1 d1=cur Y ds:=by
   rcases hmid with ⟨S,X,hck⟩ | ⟨S,rfl,rfl,rfl,rfl⟩
   ·obtain ⟨D1',hr1,hu1,I1⟩:=LO hu I hep (by omega);rw[hr1] at X;injection X with q1 q2;subst q1 q2;have h80:=oV _ D hS (EE (h:=h) I.good.lenC I.good.okC I.big.1);rw[hr1] at h80;rcases hck with ⟨hx,_⟩ | ⟨_,rfl,hu1',d',hsc⟩
    ·exact absurd rfl hx
    ·have V:=I1.good.log;rw[I1.len] at V;have:=(vc hsc V).2;subst this;exact ⟨rfl,hu1,h80,by simp only[eE];omega,by simp only[eE];omega,by rw[YB S],_,_,I1,rfl⟩
   grind
  obtain ⟨rfl,hu1,hS1,m1,m2,m3,r1,d1,I1,hcur⟩:=hm;rcases Z with ⟨hx,_⟩ | ⟨_,rfl,rfl,rfl,rfl,rfl⟩
  ·exact absurd rfl hx
  ·have hv:mH (N - 122) O c=0:=(by grind[Cl]);obtain ⟨a1,a2,a3,a4⟩:=RH (c:=c) hu1 hS1.2.1 I1 (by omega) hv (by rw[hcur];exact c3);refine ⟨by rw[a1,h0],a2,HI hS1 (N:=N) (by omega),m1,m2,by rw[YB a1,YB h0],by rw[a3,YB h0,m3],r1,d1++ [c],by rw[a3];exact a4,?_⟩
   grind[yF]
theorem LQ {N i:Nat}{D:DiskM}(h:nO N i D)(from_ many first used:Nat)(c:List ChangeM):nO N (i+200) (iL from_ many first used c D):=by
 unfold iL;split
 ·rename_i hv;obtain ⟨h1,_,_⟩:=oO hv;refine jm (iK _ _ _ h) ?_
  grind[Ep,kF]
 grind[jm]
def LS {N i:Nat}{D:DiskM}{h:HdM}{X:List ChangeM}{ds:dc}{used:Nat}{c:List ChangeM}{e:Int}{V:DiskM}{Y:HdM}{O:Nat}{J:List ChangeM}(hok:nO N i D)(Z:tw D)(I:Inv N D h X ds used)(hc:ED D h (cur X ds) (N - 122) used c e V Y O J):nO N (i+263) V:=by
 rcases hc with ⟨_,_,rfl,_⟩ | ⟨_,e1,D1,h1,S,R,hr⟩
 ·exact jm hok (by omega)
 ·have hm:=(GF R hok Z I.good.lenC I.good.okC I.big.1 I.used_le).1
  grind[jm,LQ]
theorem Cw:∀(k:Nat) (L:List ak) (m:Nat),(ed L (uL k)).getD m []=if (m=0\/(122<=m/\m<122+k))/\m<L.length then bV [] else L.getD m []
 | 0,L,m=>by
  show (L.set 0 (bV [])).getD m []=_
  grind
 | k+1,L,m=>by
  rw[uL,ja];show ((ed L (uL k)).set (122+k) (bV [])).getD m []=_;rw[gH,iA,Cw k L m]
  grind
def LU {N:Nat}(J:196<=N):∀k,122+k<=N->∀x∈uL k,jv N x
 | 0,_,x,h=>by
  rw[uL,kad] at h;subst h;exact ⟨by simp only;omega,by simp⟩
 | k+1,hk,x,h=>by
  rw[uL] at h;rcases Zn.1 h with h | h
  ·exact LU J k (by omega) x h
  ·rw[kad] at h;subst h;exact ⟨by simp only;omega,by simp⟩
theorem yI {N:Nat}(J:196<=N):∀x∈Ba N,jv N x:=λx hx=>by
 unfold Ba Us at hx;simp only[Zn,Y5,kaf,or_false] at hx;rcases hx with hx | rfl | rfl | rfl
 ·exact LU J _ (by omega) x hx
 ·trivial
 ·exact ⟨by simp only;omega,by rw[u7];decide⟩
 ·trivial
def EI:dU (bV [])=HdM.no:=by
 unfold dU;rw[YB];left;decide
def LV {L:List ak}(R:196<=L.length):Good (ed L (Ba L.length)) hd1 [] [] 0:=by
 have e:ed L (Ba L.length)=(ed L (uL (L.length - 122))).set 1 (bV (dq hd1)):=(by unfold Ba;rw[ja];rfl);rw[e];have J:=Cw (L.length - 122) L;have hl:(ed L (uL (L.length - 122))).length=L.length:=iA ..;generalize ed L (uL (L.length - 122))=M at J hl ⊢;have hh:dU (bV (dq hd1))=hd1:=yz (by decide) (by decide) (by decide) (by decide);refine ⟨?_,by decide,by decide,by decide,rfl,?_,List.Pairwise.nil,(λr hr=>by cases hr),by decide,?_,(λd hd=>by cases hd),(λd hd=>by cases hd),λk=>by grind⟩
 ·rw[Cu,gH,gH,YC (λO=>absurd O.1 (by decide)),YB ⟨rfl,by omega⟩,J,YB ⟨.inl rfl,by omega⟩,EI,hh]
  rfl
 ·show List.take 0 _=_
  rfl
 ·rw[Z8,hl];obtain ⟨m,hm⟩:∃m,L.length - 122=m+1:=⟨L.length - 123,by omega⟩
  grind[u4,gH,mc]
def HU {N:Nat}{D D1:DiskM}(J:196<=N/\N<=260)(hl:D.now.length=N)(hn:D1.now=ed D.now (Ba N)):Inv N D1 hd1 [] [] 0:=by
 have e:ed D.now (Ba N)=(ed D.now (uL (N - 122))).set 1 (bV (dq hd1)):=(by unfold Ba;rw[ja];rfl);have g:=LV (L:=D.now) (by rw[hl];exact J.1);rw[hl] at g;refine ⟨by rw[hn,iA,hl],J,by rw[hn];exact g,λm h1 O=>?_⟩
 grind[gH,Cw,yG]
def yJ {N:Nat}:∀(l:List mG) {D:DiskM},D.now.length=N->D.kept.length=N->(cv D l).2.now.length=N/\(cv D l).2.kept.length=N
 | [],D,h1,J=>⟨h1,J⟩
 | x::l,D,h1,J=>by
  have hs:(Gw D x).now.length=N/\(Gw D x).kept.length=N:=by
   cases x with
   | none=>
    show (cJ D).now.length=N/\(cJ D).kept.length=N
    grind[cJ,iy,fk,eb]
   | some z=>
    show (cG D z.1 z.2).now.length=N/\(cG D z.1 z.2).kept.length=N
    grind[cG,eu,fk,eb]
  by_cases h0:Gv D x=0
  ·rw[lm h0];exact yJ l hs.1 hs.2
  grind[kY]
def Bd {l:List mG}{D J:DiskM}(ho:∀x∈l,jv D.now.length x)(h:cv D (l++ [none])=(0,J)):calm J/\J.now=ed D.now l:=by
 cases h1:cv D l with
 | mk R D1=>
  by_cases he:R=0
  ·subst he;rw[kg h1] at h;injection h with S V;have O:=kH (D:=D1) S;rw[<-V];exact ⟨O.1,O.2.trans (xi l ho h1)⟩
  grind[kh]
def Of (N:Nat)(D:DiskM)(h:HdM)(r0:List ChangeM)(ds:dc)(used:Nat):Prop:=calm D/\Inv N D h r0 ds used/\oQ 122 (N - 122) h.first D.now ds used
def Fell (N:Nat)(D:DiskM)(E Fi:Nat)(φ:List ChangeM->Prop):Prop:=∀keep,∃h r0 ds used,Inv N (tl keep D) h r0 ds used/\φ (cur r0 ds)/\h.ep<=E/\h.first<=Fi/\oQ 122 (N - 122) h.first (iz keep D) ds used
def LW {B j first:Nat}{s:ak}(h:u9 B s)(h1:B<=first+j)(J:first+j<4294967296):¬wc first j s:=λ⟨t,ht⟩=>by rw[h _ h1 J] at ht;cases ht
def EJ {N:Nat}{D D1:DiskM}{h:HdM}{J:List ChangeM}{ds:dc}{used:Nat}(I:Inv N D h J ds used)(X:h.first<=900000000)(hn:D1.now=ed D.now (wk (eE h (cur J ds) (N - 122)) (bK (cur J ds))))(R:Inv N D1 (eE h (cur J ds) (N - 122)) (cur J ds) [] 0):oQ 122 (N - 122) (eE h (cur J ds) (N - 122)).first D1.now [] 0:=by
 have O:=R.good.log;rw[R.len] at O;have V:=I.big;have S:=kI I.good.lenC I.good.okC;refine ⟨O,λj _ hj=>?_⟩;have e:me D1.now 122 j=D.now.getD (122+j) []:=by
  show List.getD _ _ _=_
  grind[xj,gH,eE,HR]
 rw[e];exact LW (I.num (122+j) (by omega) (by omega)) (by simp only[eE];omega) (by simp only[eE];omega)
def EK {N:Nat}{D:DiskM}{h:HdM}{J:List ChangeM}{ds:dc}{used:Nat}(hq:calm D)(I:Inv N D h J ds used)(hsf:oQ 122 (N - 122) h.first D.now ds used)(hep:h.ep<=1000000)(hf:h.first<=900000000){e:Int}{D1:DiskM}(hr:cv D (wk (eE h (cur J ds) (N - 122)) (bK (cur J ds)))=(e,D1)):
  (e=0/\Of N D1 (eE h (cur J ds) (N - 122)) (cur J ds) [] 0)\/(e=9/\Fell N D1 (h.ep+1) (h.first+N) (λx=>x=cur J ds)):=by
 have hb:=I.big;have hl:=I.len;have hs:=I.good.side;have hc60:=kI I.good.lenC I.good.okC;have hokA:∀x∈wk (eE h (cur J ds) (N - 122)) (bK (cur J ds)),jv D.now.length x:=(by rw[hl];exact EE (h:=h) I.good.lenC I.good.okC hb.1);have hall:AllP (λm s=>(m<2+(1 - h.side)*60\/2+(1 - h.side)*60+60<=m)->s=D.now.getD m []) D:=AllP.calm hq.1 hq.2.1 λm _=>rfl;have invH:∀S:DiskM,S.now.length=N->(∀m,(m<2+(1 - h.side)*60\/2+(1 - h.side)*60+60<=m)->S.now.getD m []=D.now.getD m [])->Inv N S h J ds used:=λS hl' hP=>
  ⟨hl',hb,JX I.good (by rw[hl',hl]) (by rw[hl];omega) hP,λm h1 h2=>by rw[hP m (by omega)];exact I.num m h1 h2⟩
 have e0:wk (eE h (cur J ds) (N - 122)) (bK (cur J ds))=(mJ (1 - h.side) (bK (cur J ds)) 0 (ci (bK (cur J ds)))++ [none])++ [some ((h.ep+1) % 2,dq (eE h (cur J ds) (N - 122))),none]:=(by rw[Zf];rfl);have hokW:∀x∈mJ (1 - h.side) (bK (cur J ds)) 0 (ci (bK (cur J ds))),jv D.now.length x:=λx hx=>hokA x (by rw[e0];simp[hx]);have fell:∀S:DiskM,(∀keep,∃h' r0' ds' X,Inv N (tl keep S) h' r0' ds' X/\cur r0' ds'=cur J ds/\h'.ep<=h.ep+1/\h'.first<=h.first+N/\oQ 122 (N - 122) h'.first (iz keep S) ds' X)->Fell N S (h.ep+1) (h.first+N) (λx=>x=cur J ds):=λS H=>H;have sOld:∀K:List ak,(∀m,(m<2+(1 - h.side)*60\/2+(1 - h.side)*60+60<=m)->K.getD m []=D.now.getD m [])->oQ 122 (N - 122) h.first K ds used:=λK hK=>
  Cn hsf (λj _=>hK (122+j) (by omega)) (λj _ _=> .inl (hK (122+j) (by omega)))
 have old:∀S:DiskM,(∀keep,(iz keep S).length=N/\∀m,(m<2+(1 - h.side)*60\/2+(1 - h.side)*60+60<=m)->(iz keep S).getD m []=D.now.getD m [])->Fell N S (h.ep+1) (h.first+N) (λx=>x=cur J ds):=λS H=>
  fell S λkeep=>⟨h,J,ds,used,invH (tl keep S) (H keep).1 (H keep).2,rfl,by omega,by omega,sOld _ (H keep).2⟩
 rw[e0] at hr;cases hr1:cv D (mJ (1 - h.side) (bK (cur J ds)) 0 (ci (bK (cur J ds)))++ [none]) with
 | mk e1 O=>
  have V:=hall.run (mJ (1 - h.side) (bK (cur J ds)) 0 (ci (bK (cur J ds)))++ [none]) (λx hx=>by
   rcases Zn.1 hx with hx | hx
   ·exact O2 hc60 x hx
   ·rw[kad] at hx;subst hx;trivial)
  have Y:=yJ (mJ (1 - h.side) (bK (cur J ds)) 0 (ci (bK (cur J ds)))++ [none]) hl (by rw[hq.1];exact hl);have he9:=QA (mJ (1 - h.side) (bK (cur J ds)) 0 (ci (bK (cur J ds)))++ [none]) D (λx hx=>hokA x (by grind));rw[hr1] at V Y he9;simp only at V Y he9;by_cases he:e1=0
  ·subst he;obtain ⟨Z,hn2⟩:=Bd hokW hr1;rw[LG hr1] at hr;have hbad:¬nK O (((h.ep+1) % 2:Nat):Int) (dq (eE h (cur J ds) (N - 122))):=(by grind[nK,u7]);by_cases h0:dm O=0
   ·have hwe:dt O (((h.ep+1) % 2:Nat):Int) (dq (eE h (cur J ds) (N - 122)))=0:=(by grind[dt]);have hwd:cG O (((h.ep+1) % 2:Nat):Int) (dq (eE h (cur J ds) (N - 122)))=eu (du O) (((h.ep+1) % 2:Nat):Int) (dq (eE h (cur J ds) (N - 122))):=(by grind[cG]);rw[qN hwe,hwd] at hr;generalize hD3:eu (du O) (((h.ep+1) % 2:Nat):Int) (dq (eE h (cur J ds) (N - 122)))=D3 at hr;have k3:D3.kept=O.now:=(by rw[<-hD3,<-Z.1];exact eb O);have n3:D3.now=ed D.now (wk (eE h (cur J ds) (N - 122)) (bK (cur J ds))):=by
     rw[<-hD3,xj];show (du O).now.set ((((h.ep+1) % 2:Nat):Int)).toNat _=_;rw[fk,kag,hn2]
     rfl
    have w3:D3.wait=[((h.ep+1) % 2,bV (dq (eE h (cur J ds) (N - 122))))]:=by
     rw[<-hD3];show (du O).wait++_=_;rw[eY,Z.2.1,kag]
     rfl
    have hkn:O.now.set ((h.ep+1) % 2) (bV (dq (eE h (cur J ds) (N - 122))))=ed D.now (wk (eE h (cur J ds) (N - 122)) (bK (cur J ds))):=(by rw[xj,hn2];rfl);by_cases h3:dm D3=0
    ·rw[mZ h3,qO] at hr;injection hr with q1 q2;have hfc:=kH h3;left;rw[<-q2];have I1:=I.new (D1:=cJ D3) hep hf (hfc.2.trans n3);exact ⟨q1.symm,hfc.1,I1,EJ I hf (hfc.2.trans n3) I1⟩
    ·rw[md h3] at hr;injection hr with q1 q2;have h9:dm D3=9:=(go D3).resolve_left h3;right;refine ⟨by rw[<-q1,h9],fell D1 λkeep=>?_⟩;have k4:D1.kept=O.now:=(by grind[cJ,eb]);have w4:D1.wait=[((h.ep+1) % 2,bV (dq (eE h (cur J ds) (N - 122))))]:=(by grind[cJ,eY]);have R:iz keep D1=if kb keep 0=true then O.now.set ((h.ep+1) % 2) (bV (dq (eE h (cur J ds) (N - 122)))) else O.now:=by
      unfold iz;rw[k4,w4]
      rfl
     by_cases hk:kb keep 0=true
     ·rw[YB hk,hkn] at R;exact ⟨_,_,_,_,I.new (D1:=tl keep D1) hep hf R,rfl,by simp only[eE];omega,by simp only[eE];omega,EJ (D1:=tl keep D1) I hf R (I.new (D1:=tl keep D1) hep hf R)⟩
     ·rw[YC hk] at R;exact ⟨h,J,ds,used,invH (tl keep D1) (by show (iz keep D1).length=N;rw[R];exact Y.1) (λm hm=>by show (iz keep D1).getD m []=_;rw[R];exact V.now m hm),rfl,by omega,by omega,sOld _ (λm hm=>by rw[R];exact V.now m hm)⟩
   ·have hwe:dt O (((h.ep+1) % 2:Nat):Int) (dq (eE h (cur J ds) (N - 122)))=dm O:=(by grind[dt]);have hwd:cG O (((h.ep+1) % 2:Nat):Int) (dq (eE h (cur J ds) (N - 122)))=du O:=(by grind[cG]);rw[nP (by rw[hwe];exact h0),hwe,hwd] at hr;injection hr with q1 q2;have h9:dm O=9:=(go O).resolve_left h0;right;refine ⟨by rw[<-q1,h9],old D1 λkeep=>?_⟩;have R:iz keep D1=O.now:=by
     rw[<-q2];unfold iz;rw[eb,eY,Z.2.1,Z.1]
     rfl
    rw[R];exact ⟨Y.1,V.now⟩
  ·rw[kh hr1 he] at hr;injection hr with q1 q2;right;refine ⟨by grind,old D1 λkeep=>?_⟩;rw[<-q2];exact ⟨by grind[va],V.rest keep⟩
def RI {N:Nat}{D:DiskM}{h:HdM}{R:List ChangeM}{ds:dc}{used:Nat}{c:List ChangeM}(C:Of N D h R ds used)(hf:h.first<=900000000)(hv:mH (N - 122) used c=0)(O:(cU (cur R ds) c).length<=80):
  (oN 122 (N - 122) h.first used c D=0/\Of N (iL 122 (N - 122) h.first used c D) h R (ds++ [c]) (mI 122 (N - 122) h.first used c D))\/
  (oN 122 (N - 122) h.first used c D=9/\Fell N (iL 122 (N - 122) h.first used c D) h.ep h.first (λx=>x=cur R ds\/x=cU (cur R ds) c)):=by
 obtain ⟨hq,I,hs⟩:=C;obtain ⟨v1,v2,v3⟩:=oO hv;have hb:=I.big;have hl:=I.len;cases hr:cv D (kF 122 (N - 122) h.first used c) with
 | mk e S=>
  have hE:oN 122 (N - 122) h.first used c D=e:=(by grind[oN]);have hD:iL 122 (N - 122) h.first used c D=S:=(by grind[iL]);have X:AllP (λm s=>(m<122->s=D.now.getD m [])/\(122<=m->m<N->u9 (h.first+(N - 122)) s)) D:=AllP.calm hq.1 hq.2.1 λm=>⟨λ_=>rfl,λh1 Z=>I.num m h1 Z⟩;have V:=X.run (kF 122 (N - 122) h.first used c) (Ts I hf hv);have J:=yJ (kF 122 (N - 122) h.first used c) hl (by rw[hq.1];exact hl);rw[hr] at V J;simp only at V J;rw[hE,hD];rcases JI hq (by rw[hl];omega) hv hs hr with ⟨h0,h1,Z⟩ | ⟨h0,h1⟩
  ·left;refine ⟨h0,h1,?_,?_⟩
   ·rw[show mI 122 (N - 122) h.first used c D=used+c.length+1 by grind[mI]];exact I.add J.1 V.now Z.1 (nS I.good.lens v1) (nS I.good.chk v3) (vb I.good.fits O)
   grind[mI]
  ·right;refine ⟨h0,λkeep=>?_⟩;obtain ⟨u,Y | Y⟩:=h1 keep
   ·exact ⟨h,R,ds,u,I.add (D1:=tl keep S) ((va keep S).trans J.2) (V.rest keep) Y.1 I.good.lens I.good.chk I.good.fits, .inl rfl,Yf _,Yf _,Y⟩
   ·exact ⟨h,R,ds++ [c],u,I.add (D1:=tl keep S) ((va keep S).trans J.2) (V.rest keep) Y.1 (nS I.good.lens v1) (nS I.good.chk v3) (vb I.good.fits O), .inr (yF R ds c),Yf _,Yf _,Y⟩
theorem Fell.mono {N:Nat}{D:DiskM}{E O R J:Nat}{φ ψ:List ChangeM->Prop}(h:Fell N D E R φ)(h1:E<=O)(Y:R<=J)(Z:∀x,φ x->ψ x):Fell N D O J ψ:=λkeep=>by
 obtain ⟨X,r',S,u',i',p',e',V,s'⟩:=h keep
 grind
def O4 {N i:Nat}{D:DiskM}{h:HdM}{Y:List ChangeM}{ds:dc}{used:Nat}{c:List ChangeM}{e:Int}{V:DiskM}{Z:HdM}{O:Nat}{J:List ChangeM}(hok:nO N i D)(X:tw D)(I:Inv N D h Y ds used)(hc:ED D h (cur Y ds) (N - 122) used c e V Z O J):tw V:=by
 have hb:=I.big;rcases hc with ⟨_,_,rfl,_⟩ | ⟨_,e1,D1,h1,S,R,hr⟩
 ·exact X
 ·have hm:=(GF R hok X I.good.lenC I.good.okC I.big.1 I.used_le).2.1;rcases hr with ⟨_,_,rfl,_⟩ | ⟨_,_,rfl,_⟩
  ·exact hm
  ·exact HI hm (N:=N) (by omega)
def RJ {N i:Nat}{D:DiskM}{h:HdM}{J:List ChangeM}{ds:dc}{used:Nat}{e:Int}{D1:DiskM}(hok:nO N i D)(O:tw D)(I:Inv N D h J ds used)(hr:cv D (wk (eE h (cur J ds) (N - 122)) (bK (cur J ds)))=(e,D1)):nO N (i+63) D1/\tw D1:=by
 have h1:=iK (wk (eE h (cur J ds) (N - 122)) (bK (cur J ds))) i D hok;have R:=oV _ D O (EE (h:=h) I.good.lenC I.good.okC I.big.1);have S:=kI I.good.lenC I.good.okC
 grind[HL,jm]
def O5 {N:Nat}{D D1:DiskM}(R:196<=N/\N<=260)(hl:D.now.length=N)(hr:cv D (Ba N)=(0,D1)):Of N D1 hd1 [] [] 0:=by
 have e:Ba N=(uL (N - 122)++ [none,some (1,dq hd1)])++ [none]:=(by grind[Ba,Us]);have hok:=yI R.1;have O:=hr;rw[e] at O;have V:=Bd (D:=D) (λx hx=>by grind) O;have hn:=xi (Ba N) (D:=D) (by rw[hl];exact hok) hr;have I:=HU R hl hn;have J:=I.good.log;rw[I.len] at J;refine ⟨V.1,I,J,λj _ hj=>?_⟩;have X:ed D.now (Ba N)=(ed D.now (uL (N - 122))).set 1 (bV (dq hd1)):=(by unfold Ba;rw[ja];rfl);have S:me D1.now 122 j=bV []:=by
  show List.getD _ _ _=_
  grind[gH,Cw]
 rw[S];rintro ⟨t,ht⟩
 grind[mc]
open _root_.Go.Proofs.Tryz
def Cy (p:PutM):Bool:=decide (p.data.length<=20)
def qT (x:ActM):Bool:=(decide (x.s.length<=100) && decide (x.puts.length<=24) && lZ x.changes 90) && x.puts.all Cy
def kJ (l:List ActM)(most:Int):Bool:=decide ((l.length:Int)<=most) && l.all qT
def yK (l:List ActM)(f:Nat->ActZ)(s:Option Addr)(cap:Nat)(O:Int)(hl:l.length<=9223372036854775807)(hls:∀x∈l,x.puts.length<=9223372036854775807/\x.changes.length<=9223372036854775807)(F:List ag):Ct Tryz.prog 7 [sl s l.length cap,I O] (acts s l f::F) (R1 (Bo (kJ l O)) (acts s l f::F)):=by
 refine Ct.of func7 rR 63 ntmps7 (by simp) λw0=>?_;refine gS (gQ (ac (gS (gM (gV (aX W4) (gM (gV aT (ab ?_))))))));apply ah<;>intro h10
 ·simp at h10;refine gS (gQ ?_);refine ao rR rR ?_;show Bo false=_;rw[show kJ l O=false by unfold kJ;rw[Zt (by omega)];rfl]
 ·simp at h10;refine ai (ac (gS (gQ (al ?_))));refine aM (α:=Nat) (λk=>k<=l.length/\(l.take k).all qT=true) (λk=>U [(0,sl s l.length cap),(5,I k)]) (λ_=>acts s l f::F) (λk=>l.length - k) 0 (by simp) [0,5] rfl ?_;rintro k ⟨hk,X⟩;refine ac (gS (gM (gM (gV (aX W4) (gV aI (ab ?_))))));apply ah<;>intro h14
  ·simp at h14;have S:k<l.length:=(by omega);obtain ⟨x,hx⟩:∃x,l[k]? =some x:=⟨_,Zu S⟩;have J:k<(wy l f).length:=(by rw[Ea];exact S);have hb:=hls x (YW hx);refine ai (ac (al (ac (ac ?_))));refine B9 s l f k hx ?_;refine am (gM (gM (gV (ay k W4 WW S J) (gV (aE (j:=k) 1 Vm rR Vh J) (gV (bC (v:=aC x.s) Vj (qF hx)) (gV (cW Vg) (gV aT (gM (gK aq (gK aq (gK (ay k W4 WW S J) (gK (aE (j:=k) 7 Vm rR WB J) (gK (bC (v:=sl (f k).1.1 x.puts.length (f k).1.2) W5 (qF hx)) (gK (aX VQ) (gK aT (gV cu (gM (gK aq (gK aq (gK (ay k W4 WW S J) (gK (aE (j:=k) 8 Vm rR Wl J) (gK (bC (v:=sl (f k).2.1 x.changes.length (f k).2.2) WP (qF hx)) ?_))))))))))))))))))))));refine Ol (λhg=>cX (Pre:=[roL 3 (f k).2.1 (bx x.changes)]) (R:=λF=>R1 (Bo (lZ x.changes 90)) (roL 3 (f k).2.1 (bx x.changes)::F)) call35 (sZ x.changes (f k).2.1 (f k).2.2 90 hb.2)) rR ?_;refine gK cE (gV cu (ab ?_));apply ah<;>intro Y
   ·simp at Y;refine gS (gQ ?_);refine ao rR rR ?_;show Bo false=_;rw[show kJ l O=false by unfold kJ;rw[sY hx (by unfold qT;by_cases hq:lZ x.changes 90=true <;> simp[hq] at Y ⊢;intro h1 h2;omega)];simp]
   ·simp at Y;have hlc:lZ x.changes 90=true:=Y.2;refine ai (ac ?_);refine Jn s l f k hx ?_;refine am (gQ (al ?_));refine aM (α:=Nat) (λj=>j<=x.puts.length/\(x.puts.take j).all Cy=true) (λj=>U [(0,sl s l.length cap),(5,I k),(6,I j)]) (λ_=>roL 2 (f k).1.1 (cZ x.puts)::acts s l f::F) (λj=>x.puts.length - j) 0 (by simp) [0,5,6] rfl ?_;rintro j ⟨hj,V⟩;refine ac (gS (gM (gM (gM (gV (ay k W4 WW S J) (gV (aE (j:=k) 7 Vm rR WB J) (gV (bC (v:=sl (f k).1.1 x.puts.length (f k).1.2) W5 (qF hx)) (gV (aX VQ) (gV aI (ab ?_))))))))));apply ah<;>intro h49
    ·simp at h49;have Z:j<x.puts.length:=(by omega);obtain ⟨p,hp⟩:∃p,x.puts[j]? =some p:=⟨_,Zu Z⟩;have hjr:j<(cZ x.puts).length:=(by rw[db];exact Z);refine ai (ac (al (gS (gM (gM (gV (ay k W4 WW S J) (gV (aE (j:=k) 7 Vm rR WB J) (gV (bC (v:=sl (f k).1.1 x.puts.length (f k).1.2) W5 (qF hx)) (gM (gV (ay j VQ VT Z hjr) (gV (aE (j:=j) 1 WA rR Vh hjr) (gV (bC (v:=aC p.data) Vj (ji hp)) (gV (cW Vg) (gV aT (ab ?_)))))))))))))));apply ah<;>intro h62
     ·simp at h62;refine gS (gQ ?_);refine ao rR rR ?_;show Bo false=_;rw[show kJ l O=false by unfold kJ;rw[sY hx (by unfold qT;rw[sY hp (by simp[Cy];omega)];simp)];simp]
     ·simp at h62;refine ai (aG (am (gM (gP (gQ ?_)))));exact ap (j+1) ⟨by omega,xT V hp (by simp[Cy];omega)⟩ (by omega) [0,5,6] rfl
    ·simp at h49;obtain rfl:j=x.puts.length:=(by omega);rw[Y3] at V;refine aF ?_;refine aG (am (gM (gP (gQ ?_))));exact ap (k+1) ⟨by omega,xT X hx (by unfold qT;rw[hlc,V];simp;omega)⟩ (by omega) [0,5] rfl
  ·simp at h14;obtain rfl:k=l.length:=(by omega);rw[Y3] at X;refine aF ?_;refine gS (gQ ?_);refine ao rR rR ?_;show Bo true=_;rw[show kJ l O=true by unfold kJ;rw[X,Zv (by omega)];rfl]
def bz (l:List Int):List (List Value):=l.map λn=>[I n]
def bW (l:List Int):(bz l).length=l.length:=by simp[bz]
def dN {l:List Int}{k:Nat}{n:Int}(h:l[k]? =some n):(bz l)[k]? =some [I n]:=by simp[bz,h]
def HV {α:Type}{a b:List α}{k:Nat}{x y:α}(h:a.take k=b.take k)(J:a[k]? =some x)(O:b[k]? =some y)(e:x=y):a.take (k+1)=b.take (k+1):=by
 grind[List.take_succ_eq_append_getElem]
def nT (a b:List Int)(s X:Option Addr)(cap O:Nat)(Z:a.length<=9223372036854775807)(F:List ag):Ct Tryz.prog 136 [sl s a.length cap,sl X b.length O] (roL 1 s (bz a)::roL 1 X (bz b)::F) (R1 (Bo (decide (a=b))) (roL 1 s (bz a)::roL 1 X (bz b)::F)):=by
 refine Ct.of func136 rR 26 ntmps136 (by simp) λw0=>?_;refine gS (gQ (ac (gS (gM (gV (aX Vi) (gM (gV (aX Vi) (gV fZ (ab ?_)))))))));apply ah<;>intro R
 ·simp at R;refine gS (gQ ?_);refine ao rR rR ?_;show Bo false=_;rw[Zt (λe=>R (by rw[e]))]
 ·simp at R;refine ai (ac (gS (gQ (al ?_))));refine aM (α:=Nat) (λk=>k<=a.length/\a.take k=b.take k) (λk=>U [(0,sl s a.length cap),(1,sl X b.length O),(5,I k)]) (λ_=>roL 1 s (bz a)::roL 1 X (bz b)::F) (λk=>a.length - k) 0 ⟨by simp,by simp⟩ [0,1,5] rfl ?_;rintro k ⟨hk,S⟩;refine ac (gS (gM (gM (gV (aX Vi) (gV aI (ab ?_))))));apply ah<;>intro V
  ·simp at V;have Y:k<a.length:=(by omega);obtain ⟨x,hx⟩:∃x,a[k]? =some x:=⟨a[k],by simp⟩;obtain ⟨y,hy⟩:∃y,b[k]? =some y:=⟨b[k]'(by omega),by simp⟩;refine ai (ac (al (ac ?_)));refine cV jB ?_;refine dM rR (dM rR (dV rR (ay k Vi Vb (by omega) (by rw[bW];omega)) (dV rR (bI Vc (by exact dN hx) rR) (dM rR (dM rR (dV rR (ay k Vi Vb (by omega) (by rw[bW];omega)) (dV rR (bI Vc (by exact dN hy) rR) (dV rR fZ ?_))))))));refine aP ?_;apply ah<;>intro J
   ·simp at J;refine gS (gQ ?_);refine ao rR rR ?_;show Bo false=_;rw[Zt (λe=>J (by subst e;rw[hx] at hy;injection hy))]
   ·simp at J;refine ai (aG (am (gM (gP (gQ ?_)))));exact ap (k+1) ⟨by omega,HV S hx hy J⟩ (by omega) [0,1,5] rfl
  ·simp at V;obtain rfl:k=a.length:=(by omega);refine aF ?_;refine gS (gQ ?_);refine ao rR rR ?_;show Bo true=_;rw[Y3,show a.length=b.length by omega,Y3] at S;rw[Zv S]
end Go.Proofs.YthdjckbjjfiopabGreatDoor