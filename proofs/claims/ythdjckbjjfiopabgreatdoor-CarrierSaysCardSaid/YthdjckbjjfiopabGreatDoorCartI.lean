/- Several texts in one: walks and rules used by them. No condition. -/
import Derived.Test.YthdjckbjjfiopabGreatDoorCartH
import Derived.Test.YthdjckbjjfiopabGreatDoorCartD
import Derived.Test.YthdjckbjjfiopabGreatDoorCartE
import Derived.Test.YthdjckbjjfiopabGreatDoorCartB
import Derived.Test.YthdjckbjjfiopabGreatDoorCartC
set_option linter.unusedSimpArgs false
set_option linter.unusedVariables false
set_option synthInstance.maxSize 9999
set_option synthInstance.maxHeartbeats 0
set_option linter.defProp false
set_option maxHeartbeats 800000
namespace Go.Proofs.YthdjckbjjfiopabGreatDoor
open _root_.Go.Proofs.Tryz
open Go.Sl Go.Proofs
def Fk (D:DiskM)(z:RpM)(S':SI)(L':List Pt)(n':Int)(e:Int)(D2:DiskM)(z2:RpM):Prop:=∃h2 used2 rows2,ED D z.h z.rows (200 - 122) z.used (Si z S' L' n') e D2 h2 used2 rows2/\z2=z.kept e h2 used2 rows2 S' L' n'
def IB (l:List (Int×ak))(q:Int):(lk (Al l) q).getD (aC [])=aC ((DK l q).getD []):=by simp_all[Iz]
def QJ (l:List (Int×ak))(q:Int):(lk (Al l) q).isSome=(DK l q).isSome:=by rw[Iz,ka5]
def qq (D:DiskM)(z:RpM)(id n e:Int)(D2:DiskM)(z2:RpM):Prop:=match lM z.S z.L z.n id with
 | .error f=>n=0/\e=f/\D2=D/\z2=z
 | .ok (S',L',n',r)=>Fk D z S' L' n' e D2 z2/\n=if e=0 then r else 0
def fI (z:RpM)(id:Int):Int:=if (bg z.L id).isNone then 5 else if eW z id=true then 6 else 0
def pB (D:DiskM)(z:RpM)(id:Int)(e:Int)(D2:DiskM)(z2:RpM):Prop:=if fI z id≠0 then e=fI z id/\D2=D/\z2=z else ∃S' L',mz z.S z.L z.n id= .ok (S',L',z.n,0)/\Fk D z S' L' z.n e D2 z2
def GU {z:RpM}{id:Int}(h:fI z id=0):∃p J L',bg z.L id=some p/\eW z id=false/\mz z.S z.L z.n id= .ok (J,L',z.n,0):=by
 unfold fI at h;cases O:bg z.L id with
 | none=>rw[O] at h;simp at h
 | some p=>
  simp_all[mz]
def ni (b O:Nat)(z:RpM)(id at_:Int)(Z:Rok z)(F:List ag):Ct Tryz.prog 50 [ptr b 0,I id,I at_] (dB b O z::F) (R1 (.tuple #[aC (dw z id at_).1,bM (dw z id at_).2]) (dB b O z::F)):=by
 obtain ⟨G0,hC⟩:=Z.con;have hlen:=hC.v.len;have hnx:=Z.next;refine Ct.of func50 rR 50 ntmps50 (by simp) λw0=>?_;refine fH b O z ?_;intro bs bl so co bv rs rm;refine gS (gA (gQ (gS (gM (gV aa (gF 3 VO rfl Xi (gL (.map (some rm)) Xq (gM (gV (cI (v:= .pointer ((ng z.mou id).map λe=>⟨e.a,0,none⟩)) Xr Vf X7 (by rw[pd];cases ng z.mou id <;> rfl)) (gQ (ac (gS (gM (gV (rX underlying212) (ab ?_)))))))))))))));apply ah<;>intro R
 ·have Y:ng z.mou id=none:=(by simpa using R);refine gS (gV (aZ Vn) (gA (gQ ?_)));refine cw b O (z) bs bl so co bv rs rm ?_;rw[show dw z id at_=([],5) by unfold dw;rw[Y]];exact ao rfl rfl rfl
 ·obtain ⟨e,J⟩:∃e,ng z.mou id=some e:=kaG.1 (by cases hq:ng z.mou id with
   | none=>rw[hq] at R;cases R
   | some _=>rfl)
  obtain ⟨he,hek,hi⟩:=ph J;rw[J];refine ai (ac ?_);refine MW z.mou _ he ?_;refine cO (Lf:=[pt b (.cells #[ptr bs 0,ptr bv 0, .map (some rs), .map (some rm),I (z.next)] 103 (0,0)),pt e.a (.cells #[I e.point, .map (some e.r)] 215 (0,0))]) jO ?_;refine dM rR (dV rR aa (dF rR 1 VO rR WQ (dL rR (ptr bv 0) WI (dM rR (dV rR aa (dF rR 0 XS rR Vb (dL rR (I e.point) Vc (dM rR (d7 rR (uB call34 (lA bv z.S z.L z.n e.point at_ G0 hC.v)) ?_)))))))));rintro _ _ ⟨rfl,rfl⟩;refine dM rR (dV rR (aH (v:=aC (py z.S z.L e.point at_).1)) (dV rR (aH (v:=bM (py z.S z.L e.point at_).2)) (dV rR aD (dV rR aD ?_))));refine aP ?_;refine ac (gS (gM (gV (ck Vl) (ab ?_))));apply ah<;>intro V
  ·have hrd:(py z.S z.L e.point at_).2≠0:=(by simpa using V);refine gS (gM (gA (gQ ?_)));refine de (f:=DM) z.mou (DO z.mou id) e [pt e.a (.cells #[I e.point, .map (some e.r)] 215 (0,0)),mp e.r (Al e.over)] hi ?_;rw[eG he];refine cw b O (z) bs bl so co bv rs rm ?_;rw[show dw z id at_=([],(py z.S z.L e.point at_).2) by unfold dw;rw[J];simp only;rw[YB hrd]];exact ao rfl rfl rfl
  ·have hrd:¬(py z.S z.L e.point at_).2≠0:=(by simpa using V);refine ai (gS (gM (gV aa (gF 1 XS rR XB (gL (.map (some e.r)) XT (gM (gV (d8 (v:=aC ((DK e.over at_).getD [])) (bb:=(DK e.over at_).isSome) XU Vf XG (IB _ _) (QJ _ _)) (gM (gX (aC ((DK e.over at_).getD [])) (gX (Bo (DK e.over at_).isSome) (gA (gQ (ac (gS (gM (ab ?_))))))))))))))));apply ah<;>intro X
   ·obtain ⟨t,ht⟩:=kaG.1 X;rw[ht];refine gS (gM (gA (gQ ?_)));refine de (f:=DM) z.mou (DO z.mou id) e [pt e.a (.cells #[I e.point, .map (some e.r)] 215 (0,0)),mp e.r (Al e.over)] hi ?_;rw[eG he];refine cw b O (z) bs bl so co bv rs rm ?_;rw[show dw z id at_=(t,0) by unfold dw;rw[J];simp only;rw[YC hrd,ht]];exact ao rfl rfl rfl
   ·have ht:DK e.over at_=none:=(by simpa using X);refine ai (gS (gM (gA (gQ ?_))));refine de (f:=DM) z.mou (DO z.mou id) e [pt e.a (.cells #[I e.point, .map (some e.r)] 215 (0,0)),mp e.r (Al e.over)] hi ?_;rw[eG he];refine cw b O (z) bs bl so co bv rs rm ?_;rw[show dw z id at_=((py z.S z.L e.point at_).1,0) by unfold dw;rw[J];simp only;rw[YC hrd,ht]];exact ao rfl rfl rfl
def sr (b J:Nat)(z:RpM)(id at_:Int)(d:ak)(Y:Rok z)(Z:d.length<=9223372036854775807)(F:List ag):Ct Tryz.prog 51 [ptr b 0,I id,I at_,aC d] (dB b J z::F) (λv L'=>(ei z id at_ d≠0/\v=bM (ei z id at_ d)/\L'=dB b J z::F)\/(ei z id at_ d=0/\v=bM 0/\L'=dB b J (z.written id at_ d)::F)):=by
 refine Ct.of func51 rR 36 ntmps51 (by simp) λw0=>?_;refine gS (gQ (gS (gM (gM (gM (gR (vB call50 (ni b J z id at_ Y)) (gM (gX (aC (dw z id at_).1) (gX (bM (dw z id at_).2) (gA (gQ (ac (gS (gM (gV (ck Vl) (ab ?_))))))))))))))));apply ah<;>intro R
 ·have hrd:(dw z id at_).2≠0:=(by simpa using R);refine gS (gM (gQ ?_));exact an (dB b J z::F) rfl (.inl ⟨by unfold ei;rw[YB hrd];exact hrd,by unfold ei;rw[YB hrd];rfl,rfl⟩)
 ·have hrd:(dw z id at_).2=0:=(by simpa using R);refine ai (ac (gS (gM (gV (cW Vg) (gV aT (ab ?_))))));apply ah<;>intro V
  ·have X:6<d.length:=(by simp at V;omega);refine gS (gV (aZ Vn) (gQ ?_));exact an (dB b J z::F) rfl (.inl ⟨by unfold ei;rw[YC (by omega),YB X];decide,by unfold ei;rw[YC (by omega),YB X];rfl,rfl⟩)
  ·have X:¬6<d.length:=(by simp at V;omega);refine ai (ac ?_);refine fH b J z ?_;intro bs bl so co bv rs rm;obtain ⟨e,O⟩:∃e,ng z.mou id=some e:=by
    cases hq:ng z.mou id with
    | none=>exact absurd (show (dw z id at_).2=5 by unfold dw;rw[hq]) (by omega)
    | some e=>exact ⟨e,rfl⟩
   obtain ⟨he,hek,hi⟩:=ph O;refine MW z.mou _ he ?_;refine am (gM (gV aa (gF 3 VO rR Xi (gL (.map (some rm)) Xq (gM (gV (cI (v:=ptr e.a 0) Xr Vf X7 (by rw[pd,O];rfl)) (gV aa (gF 1 XS rR XB (gL (.map (some e.r)) XT (gM (gM (ir (cn XU Vf) ?_))))))))))));rintro _ _ rfl;rw[IA];refine ab (gS (gQ ?_));refine de (f:=DM) z.mou (DO z.mou id) ⟨e.key,e.a,e.r,e.point,GT e.over at_ d⟩ [pt e.a (.cells #[I e.point, .map (some e.r)] 215 (0,0)),mp e.r (Al (GT e.over at_ d))] hi ?_;rw[<-Fj (e':=⟨e.key,e.a,e.r,e.point,GT e.over at_ d⟩) he rfl rfl];refine cw b J (⟨z.h,z.used,z.rows,z.S,z.L,z.n,z.ses,z.mou.set (DO z.mou id) ⟨e.key,e.a,e.r,e.point,GT e.over at_ d⟩,z.next⟩) bs bl so co bv rs rm ?_;exact an (dB b J ⟨z.h,z.used,z.rows,z.S,z.L,z.n,z.ses,z.mou.set (DO z.mou id) ⟨e.key,e.a,e.r,e.point,GT e.over at_ d⟩,z.next⟩::F) rfl (.inr ⟨by unfold ei;rw[YC (by omega),YC X],rfl,by unfold RpM.written RpM.moun;rw[O]⟩)
def su {ee:Bool}(b R i:Nat)(z:RpM)(id:Int)(hR:Rok z)(D:DiskM)(hD:Dk i D z)(hi:i<=100000)(F:List ag):Ct Tryz.prog 45 [ptr b 0,I id] (bh ee::dB b R z::cf 179 319 R (D)::F) (λv L'=>∃n e Y z2,qq D z id n e Y z2/\v= .tuple #[I n,bM e]/\L'=dB b R z2::cf 179 319 R (Y)::bh ee::F):=by
 obtain ⟨G0,hC⟩:=hR.con;have hlen:=hC.v.len;have hnx:=hR.next;refine Ct.of func45 rR 29 ntmps45 (by simp) λw0=>?_;refine gS (gA (gQ (ac ?_)));refine fH b R z ?_;intro bs bl so co bv rs rm;refine am (gM (gV aa (gF 1 VO rR WQ (gL (ptr bv 0) WI (gI (uB call66 (fX bv z.S z.L z.n (by omega))) ?_)))));rintro _ _ ⟨q,rfl,rfl⟩;refine gQ ?_;refine cw b R (z) bs bl so co bv rs rm ?_;refine gS (gM (gM (gI (uB call122 (qj q z.S z.L z.n id G0 hC.v)) ?_)));rintro v L' hv;unfold vR at hv;rcases hr:lM z.S z.L z.n id with e0 | ⟨S1,L1,n1,r1⟩ <;> rw[hr] at hv <;> obtain ⟨rfl,rfl⟩:=hv
 ·have he0:=zh hr;refine gM (gX (I 0) (gX (bM e0) (gA (gQ (ac (gS (gM (gV (fO (T:=117) (f:=e0) Vl) (ab ?_)))))))));apply ah<;>intro Z
  ·simp at Z;omega
  ·refine ai (ac (gS (gM (gV (ck Vl) (ab ?_)))));apply ah<;>intro V
   ·refine gS (gM (gA (gQ ?_)));exact an (dB b R z::cf 179 319 R (D)::bh ee::F) rfl ⟨0,e0,D,z,by unfold qq;rw[hr];exact ⟨rfl,rfl,rfl,rfl⟩,rfl,rfl⟩
   ·simp at V;omega
 ·obtain ⟨G1,hC1⟩:=ql hC hr;refine gM (gX (I r1) (gX (bM 0) (gA (gQ (ac (gS (gM (gV (fO (T:=117) (f:=0) Vl) (ab ?_)))))))));apply ah<;>intro Z
  ·refine am (gM (gM (gI (uE (A0:=bh ee) call97 (kp b R q i D z (S1) (L1) (n1) G0 G1 hC hC1 hD hi)) ?_)));rintro _ _ ⟨e,Y,h2,O,J,X,rfl,rfl⟩;refine gQ (ac (gS (gM (gV (ck Vl) (ab ?_)))));apply ah<;>intro V
   ·have he:¬e=0:=(by simpa using V);refine gS (gM (gA (gQ ?_)));exact an (dB b R (z.kept e h2 O J S1 L1 n1)::cf 179 319 R (Y)::bh ee::F) rfl ⟨0,e,Y,_,by unfold qq;rw[hr];exact ⟨⟨h2,O,J,X,rfl⟩,by rw[YC he]⟩,rfl,rfl⟩
   ·have he:e=0:=(by simpa using V);refine ai (gS (gM (gA (gQ ?_))));exact an (dB b R (z.kept e h2 O J S1 L1 n1)::cf 179 319 R (Y)::bh ee::F) rfl ⟨r1,e,Y,_,by unfold qq;rw[hr];exact ⟨⟨h2,O,J,X,rfl⟩,by rw[YB he]⟩,by rw[he];rfl,rfl⟩
  ·simp at Z
def nj {ee:Bool}(b J i:Nat)(z:RpM)(id:Int)(hR:Rok z)(D:DiskM)(hD:Dk i D z)(hi:i<=100000)(F:List ag):Ct Tryz.prog 46 [ptr b 0,I id] (bh ee::dB b J z::cf 179 319 J (D)::F) (λv L'=>∃e D2 z2,pB D z id e D2 z2/\v=bM e/\L'=dB b J z2::cf 179 319 J (D2)::bh ee::F):=by
 obtain ⟨G0,hC⟩:=hR.con;have hlen:=hC.v.len;have hnx:=hR.next;refine Ct.of func46 rR 39 ntmps46 (by simp) λw0=>?_;refine gS (gQ (ac ?_));refine fH b J z ?_;intro bs bl so co bv rs rm;refine am (gM (gV aa (gF 1 VO rR WQ (gL (ptr bv 0) WI (gM (gR (vB call92 (dC bv z.S z.L z.n id (by omega))) (gM (gX (.agg (aY ((bg z.L id).getD i6)).toArray) (gX (Bo (bg z.L id).isSome) (gI (aO #[I 0,I 0,I 0,I 0] VJ) ?_))))))))));rintro _ _ ⟨b5,rfl,rfl⟩;refine gU (ax (cs:=#[I 0,I 0,I 0,I 0]) (vs:=aY (((bg z.L id).getD i6))) (aY (((bg z.L id).getD i6))).toArray Vk (by simp) (hcs:=by exact aJ)) (gQ (ac (gS (gM (gV cE (ab ?_))))));apply ah<;>intro X
 ·simp at X;refine gS (gV (aZ Vn) (gQ ?_));refine cw b J (z) bs bl so co bv rs rm ?_;have O:fI z id=5:=(by unfold fI;rw[X];rfl);exact an (dB b J z::cf 179 319 J (D)::bh ee::F) rfl ⟨5,D,z,by unfold pB;rw[YB (by omega),O];exact ⟨rfl,rfl,rfl⟩,rfl,rfl⟩
 ·simp at X;obtain ⟨p,hf⟩:=kaG.1 X;rw[show (bg z.L id).getD i6=p by rw[hf];rfl];refine ai (ac (ac ?_));refine cw b J (z) bs bl so co bv rs rm ?_;refine am (gM (gM (gR (vB call123 (nh b J z id)) (ab ?_))));apply ah<;>intro h23
  ·have Z:eW z id=true:=h23;refine gS (gV (aZ Vn) (gQ ?_));have O:fI z id=6:=(by unfold fI;rw[hf,Z];rfl);exact an (dB b J z::cf 179 319 J (D)::bh ee::F) rfl ⟨6,D,z,by unfold pB;rw[YB (by omega),O];exact ⟨rfl,rfl,rfl⟩,rfl,rfl⟩
  ·have Z:eW z id=false:=(by simpa using h23);have O:fI z id=0:=(by unfold fI;rw[hf,Z];rfl);refine ai (ac ?_);refine fH b J z ?_;intro bs bl so co bv rs rm;refine am (gM (gV aa (gF 1 VO rR WQ (gL (ptr bv 0) WI (gI (uB call66 (fX bv z.S z.L z.n (by omega))) ?_)))));rintro _ _ ⟨q,rfl,rfl⟩;refine gQ ?_;refine cw b J (z) bs bl so co bv rs rm ?_;refine gS (gM (gM (gI (uB call124 (rp q z.S z.L z.n id G0 hC.v)) ?_)));obtain ⟨p1,S1,L1,hf1,hus1,Y⟩:=GU (z:=z) (id:=id) O;obtain ⟨G1,hC1⟩:=zj hC Y;rintro v L' hv;unfold S0 at hv;rw[Y] at hv;obtain ⟨rfl,rfl⟩:=hv;refine gQ (ac (gS (gM (gV (fO (T:=117) (f:=0) Vl) (ab ?_)))));apply ah<;>intro h34
   ·refine am (gM (gM (gI (uE (A0:=bh ee) call97 (kp b J q i D z (S1) (L1) (z.n) G0 G1 hC hC1 hD hi)) ?_)));rintro _ _ ⟨e,D2,h2,V,R,hcom,rfl,rfl⟩;refine gQ (gS (gM (gQ ?_)));exact an (dB b J (z.kept e h2 V R S1 L1 z.n)::cf 179 319 J (D2)::bh ee::F) rfl ⟨e,D2,_,by unfold pB;rw[YC (by omega)];exact ⟨S1,L1,Y,h2,V,R,hcom,rfl⟩,rfl,rfl⟩
   ·simp at h34
def QK (l:List PutM)(id:Int):Option PutM:=l.find? λp=>decide (p.at_=id)
def GV (l:List PutM)(id:Int):Nat:=l.findIdx λp=>decide (p.at_=id)
def KH (l:List PutM)(id:Int):Int:=if GV l id<l.length then (GV l id:Int) else -1
def PN {l:List PutM}{id:Int}{k:Nat}{s:PutM}(J:∀j,j<k->∀t,l[j]? =some t->t.at_≠id)(hs:l[k]? =some s)(he:s.at_=id):KH l id=k:=by
 grind[GV,List.findIdx_eq,KH]
def Fl {l:List PutM}{id:Int}(J:∀j,j<l.length->∀t,l[j]? =some t->t.at_≠id):KH l id= -1:=by
 unfold KH;rw[YC];intro h;have:=kaJ (w:=h);simp at this;exact J _ h _ (Zu h) this
def PO {l:List PutM}{id:Int}(h:¬KH l id<0):∃i s,KH l id=((i:Nat):Int)/\l[i]? =some s/\s.at_=id/\i<l.length/\QK l id=some s/\∀j,j<i->∀t,l[j]? =some t->t.at_≠id:=by
 unfold KH at h ⊢;split at h
 ·rename_i hl;have J:l[GV l id].at_=id:=of_decide_eq_true (kaJ (p:=λp:PutM=>decide (p.at_=id)) (w:=hl));have O:∀j,j<GV l id->∀t,l[j]? =some t->t.at_≠id:=λj hj t ht=>by
   have h1:=kaK hj
   grind
  refine ⟨GV l id,l[GV l id],by rw[YB hl],Zu hl,J,hl,?_,O⟩
  grind[QK,List.find?_eq_some_iff_getElem]
 ·omega
structure DlU (l R:List PutM) (id:Int) (w j:Nat):Prop where
 len:R.length=l.length
 lj:j<=l.length
 lw:w<=j
 pre:R.take w=(l.take j).filter λx=>!decide (x.at_=id)
 suf:R.drop j=l.drop j
def MZ {l R:List PutM}{id:Int}{w j:Nat}(h:DlU l R id w j){x:PutM}(hx:R[j]? =some x):l[j]? =some x:=by
 have h1:(R.drop j)[0]? =some x:=(by simpa using hx);rw[h.suf] at h1;simpa using h1
def M0 {l R:List PutM}{id:Int}{w j:Nat}(h:DlU l R id w j){x:PutM}(hx:R[j]? =some x)(J:x.at_=id):DlU l R id w (j+1):=by
 have hl:=MZ h hx;have hj:=(Yh.1 hl).1;refine ⟨h.len,hj,by have:=h.lw;omega,?_,?_⟩
 ·rw[kaU,hl,ZR,h.pre];simp[J]
 ·rw[<-kaQ,<-kaQ,h.suf]
def M1 {l R:List PutM}{id:Int}{w j:Nat}(h:DlU l R id w j)(S:w<j){x:PutM}(hx:R[j]? =some x)(O:x.at_≠id):DlU l (R.set w x) id (w+1) (j+1):=by
 have hl:=MZ h hx;have hj:=(Yh.1 hl).1;have J:=h.len;refine ⟨by simp[J],hj,by omega,?_,?_⟩
 ·rw[kaU (l:=l),hl,ZR,<-h.pre,kaU,kaX (Yf _),Ys (by omega)];simp[O]
 ·rw[kaY (by omega),<-kaQ,<-kaQ,h.suf]
def IC {l R:List PutM}{id:Int}{w:Nat}(h:DlU l R id w l.length):R.take w=l.filter λx=>!decide (x.at_=id):=by rw[h.pre,Y3]
def C8 {l:List PutM}{id:Int}(O:∀j,j<l.length->∀t,l[j]? =some t->t.at_≠id):l.filter (λx=>!decide (x.at_=id))=l:=ZM.2 λa J=>by
 obtain ⟨j,hj,rfl⟩:=kaW.1 J
 simp_all
def ID {l:List PutM}{id:Int}(h:KH l id<0):∀j,j<l.length->∀t,l[j]? =some t->t.at_≠id:=λj hj t ht he=>by
 unfold KH at h;split at h
 ·omega
 ·rename_i hl;exact hl (kaM ⟨t,YW ht,by simpa using he⟩)
def M2 {l:List PutM}{id:Int}(h:KH l id<0):KH l id= -1:=Fl (ID h)
def PP (l:List PutM)(id:Int){i:Nat}(O:∀j,j<i->∀t,l[j]? =some t->t.at_≠id){s:PutM}(hs:l[i]? =some s)(he:s.at_=id):(l.take (i+1)).filter (λx=>!decide (x.at_=id))=l.take i:=by
 have hi:=(Yh.1 hs).1;rw[kaU,hs,ZR];have h1:(l.take i).filter (λx=>!decide (x.at_=id))=l.take i:=ZM.2 λa J=>by
  obtain ⟨j,hj,rfl⟩:=kaW.1 J
  grind
 rw[h1];simp[he]
def Kf {l:List PutM}{id:Int}{i:Nat}(J:∀j,j<i->∀t,l[j]? =some t->t.at_≠id){s:PutM}(hs:l[i]? =some s)(he:s.at_=id):DlU l l id i (i+1):=
 ⟨rfl,(Yh.1 hs).1,by omega,(PP l id J hs he).symm,rfl⟩
def M3 (l:List PutM)(w:Nat)(x:PutM):(cZ l).set w (iV x)=cZ (l.set w x):=by simp[cZ,Y1]
def Kg (l:List PutM)(w:Nat):(cZ l).take w=cZ (l.take w):=by simp[cZ,kaZ]
def IE (n:Int)(s:ak)(w:World):(Instr.build 86 #[(0,I n),(1,aC s)]).run Tryz.prog w= .ok (.agg (iV ⟨n,s⟩).toArray) w:=by
 simp[Instr.build,W7,runUnderlying86,Vb,Vh,Instr.fill,bB,iV,show ∀k:Int,(I k).cells=#[I k] from λ_=>rfl,show (aC s).cells=#[aC s] from rfl]
def dQ (z:RpM)(id at_:Int)(d:ak):Int:=match gk z.ses id with
 | none=>5
 | some e=>if at_<0\/e.size<=at_ then 1 else if 6<d.length then 2 else 0
def iP (l:List PutM)(at_:Int)(d:ak):List PutM:=l.filter (λx=>!decide (x.at_=at_))++ [⟨at_,d⟩]
def RpM.putted (z:RpM)(id at_:Int)(d:ak)(so:Option Addr)(co:Nat):RpM:=match gk z.ses id with
 | none=>z
 | some e=>z.sess (z.ses.set (wF z.ses id) ⟨e.key,e.a,so,co,e.base,e.disk,e.size,iP e.puts at_ d⟩)
def zy (D:DiskM)(z:RpM)(id n e:Int)(D2:DiskM)(z2:RpM):Prop:=match gk z.ses id with
 | none=>n=0/\e=5/\D2=D/\z2=z
 | some s=>match ig z.S z.L z.n s.base s.disk s.size s.puts with
  | .error f=>n=0/\e=f/\D2=D/\z2=z
  | .ok (S',L',n',r)=>∃y,Fk D z S' L' n' e D2 y/\n=(if e=0 then r else 0)/\z2=if e=0 then y.sess (lR y.ses id) else y
def ua (x:PutM)(q:Nat)(id:Int)(F:List ag):Ct Tryz.prog 95 [.agg (iV x).toArray,ptr q 0] (pt q (.cells #[I id] 3 (0,0))::F) (R1 (Bo (decide (x.at_=id))) (pt q (.cells #[I id] 3 (0,0))::F)):=by
 refine Ct.of func95 rR 8 ntmps95 (by simp) λw0=>?_;refine gS (gI (di (iV x).toArray) ?_);rintro _ _ ⟨J,rfl,rfl⟩;refine gQ (gS (gF 0 WA rR Vb (gL (I x.at_) Vc (gL (I id) Vc (gV bT (gQ ?_))))));refine ao rR rR ?_;exact rfl
def vw (l:List PutM)(s:Option Addr)(c q:Nat)(id:Int)(hl:l.length<=1000000)(F:List ag):Ct Tryz.prog 167 [sl s l.length c, .func (.func 95) #[] #[ptr q 0]] (bi 86 2 s c (cZ (l))::pt q (.cells #[I id] 3 (0,0))::F) (R1 (I (KH l id)) (bi 86 2 s c (cZ (l))::pt q (.cells #[I id] 3 (0,0))::F)):=by
 refine Ct.of func167 rR 19 ntmps167 (by simp) λw0=>?_;refine gS (gQ (ac (gS (gM (gV (aX VQ) (gM (ab (al ?_))))))));refine aM (α:=Nat) (λk=>k<=l.length/\∀j,j<k->∀t,l[j]? =some t->t.at_≠id) (λk=>U [(0,sl s l.length c),(1, .func (.func 95) #[] #[ptr q 0]),(7,I l.length),(8,I k)]) (λ_=>bi 86 2 s c (cZ (l))::pt q (.cells #[I id] 3 (0,0))::F) (λk=>l.length - k) 0 ⟨by simp,λj hj=>absurd hj (by omega)⟩ [0,1,7,8] rfl ?_;rintro k ⟨hk,R⟩;refine gS (gV aI (ab (ac ?_)));apply ah<;>intro S
 ·simp at S;have O:k<l.length:=(by omega);obtain ⟨x,hx⟩:∃x,l[k]? =some x:=⟨_,Zu O⟩;refine ai (ac (al (gS (gM (gQ (gS (gM (gM (gM (gV (ay (k) VQ VT O (by rw[db];exact O)) (gV (bJ (row:=iV x) XC VT (ji hx)) ?_)))))))))));refine gI (fW (fi:=[]) (cap:=[ptr q 0]) (Pre:=[pt q (.cells #[I id] 3 (0,0))]) call95 rR rR (ua x q id)) ?_;rintro _ _ ⟨rfl,rfl⟩;refine ab ?_;apply ah<;>intro J
  ·simp at J;refine gS (gM (gQ ?_));refine ao rR rR ?_;show I _=I _;rw[PN R hx J]
  ·simp at J;refine ai (aG (am (gP (gM (ab ?_)))));exact ap (k+1) ⟨by omega,λj hj t ht=>by
    rcases YL j k with h | h
    ·exact R j h t ht
    ·obtain rfl:j=k:=(by omega);rw[hx] at ht;injection ht with ht;rw[<-ht];exact J⟩ (by omega) [0,1,7,8] rfl
 ·simp at S;obtain rfl:k=l.length:=(by omega);refine aF ?_;refine gS (gQ ?_);refine ao rR rR ?_;show I _=I _;rw[Fl R]
def ub (L:List PutM)(s:Option Addr)(c q:Nat)(id:Int)(hl:L.length<=1000000)(F:List ag):Ct Tryz.prog 94 [sl s L.length c, .func (.func 95) #[] #[ptr q 0]] (bi 86 2 s c (cZ (L))::pt q (.cells #[I id] 3 (0,0))::F) (R1 (sl s (L.filter λx=>!decide (x.at_=id)).length c) (bi 86 2 s c (cZ ((L.filter λx=>!decide (x.at_=id))))::pt q (.cells #[I id] 3 (0,0))::F)):=by
 refine Ct.of func94 rR 42 ntmps94 (by simp) λw0=>?_;refine ta s (λY=>?_);rw[db] at Y;refine gS (gQ (gS (gM (gM (gR (vC call167 (vw L s c q id hl)) (gQ (ac (gS (gM (gV bT (ab ?_)))))))))));apply ah<;>intro S
 ·simp at S;rw[show (L.filter λx=>!decide (x.at_=id))=L from C8 (ID (by omega))];refine gS (gM (gQ ?_));exact ao rfl rfl rfl
 ·simp at S;obtain ⟨i,p,hi,hp,hid,hil,hf,hno⟩:=PO (l:=L) (id:=id) (λh=>S (M2 h));rw[hi];refine ai (ac (gS (gM (gP (gQ ?_)))));rw[show ((i:Nat):Int)+1=((i+1:Nat):Int) by omega];refine al ?_;refine aM (α:=Nat×Nat×List PutM) (λz=>DlU L z.2.2 id z.2.1 z.1/\z.2.1<z.1) (λz=>U [(0,sl s L.length c),(1, .func (.func 95) #[] #[ptr q 0]),(5,I z.2.1),(6,I z.1)]) (λz=>bi 86 2 s c (cZ z.2.2)::pt q (.cells #[I id] 3 (0,0))::F) (λz=>L.length - z.1) (i+1,i,L) ⟨Kf hno hp hid,by simp only[];omega⟩ [0,1,5,6] rfl ?_;rintro ⟨j,w,R⟩ ⟨J,Z⟩;simp only[] at J Z ⊢;have hjl0:=J.lj;refine ac (gS (gM (gM (gV (aX VQ) (gV aI (ab ?_))))));apply ah<;>intro X
  ·simp at X;have V:j<L.length:=(by omega);have hwl:w<L.length:=(by omega);obtain ⟨x,hx⟩:∃x,R[j]? =some x:=⟨_,Zu (by rw[J.len];exact V)⟩;refine ai (ac (al (gS (gM (gM (gV (ay (j) VQ VT V (by rw[db,J.len];exact V)) (gV (bJ (row:=iV x) XC VT (ji hx)) (gI (aO #[I 0,aC []] W7) ?_))))))));rintro _ _ ⟨b7,rfl,rfl⟩;refine gU (ax (cs:=#[I 0,aC []]) (vs:=iV (x)) (iV (x)).toArray VT (by simp[iV]) (hcs:=by exact aJ)) (ab (gS (gM (gV (aU (vs:=iV x) XC VT bp) ?_))));refine gI (fW (fi:=[]) (cap:=[ptr q 0]) (Pre:=[pt q (.cells #[I id] 3 (0,0))]) call95 rR rR (ua x q id)) ?_;rintro _ _ ⟨rfl,rfl⟩;refine gV cE (ab ?_);apply ah<;>intro O
   ·simp at O;refine gS (gM (gM (gV (aU (vs:=iV x) XC VT bp) (gV (ay (w) VQ VT hwl (by rw[db,J.len];exact hwl)) (ir (uS (j:=w) (vs:=iV x) VT rR rR rR rR (by rw[db,J.len];omega) (by decide)) ?_)))));rintro _ _ rfl;rw[M3];refine ab (am (gM (gP (gQ (aG (am (gM (gP (gQ ?_)))))))));exact ap (j+1,w+1,R.set w x) ⟨M1 J Z hx O,by simp only[];omega⟩ (by simp only[];omega) [0,1,5,6] rfl
   ·simp at O;refine ai (aG (am (gM (gP (gQ ?_)))));exact ap (j+1,w,R) ⟨M0 J hx O,by simp only[];omega⟩ (by simp only[];omega) [0,1,5,6] rfl
  ·simp at X;obtain rfl:j=L.length:=(by omega);refine aF ?_;refine ac ?_;refine n0 s w ?_;rw[Kg,IC J];have hfl:(L.filter λx=>!decide (x.at_=id)).length=w:=(by rw[<-IC J,Y8];have:=J.len;omega);refine am (gM (gM (gV (iU (l:=w) VQ VT rR rR rR (by omega)) (ir (mU (sz:=2) (l:=w) s VQ W7 rR rR (by unfold At;split;exact .inr (.inr (by omega));exact .inr (.inl rR)) (by rw[db];omega) (by omega)) ?_))));rintro _ _ ⟨rfl,rfl⟩;refine ab (gS (gM (gM (gV (lX (h:=w) VQ VT rR rR rR (by omega)) (gQ ?_)))));exact ao rfl rfl (by rw[hfl];rfl)
def pi (b:Nat)(S:SI)(L:List Pt)(n:Int)(base disk size:Int)(puts:List PutM)(sp:Option Addr)(cp:Nat)(G0:Gh)(hV:Vok S L n G0)(hpl:puts.length<=1000000)(hpd:∀p∈puts,p.data.length<=9223372036854775807)(F:List ag):Ct Tryz.prog 96 [ptr b 0,I base,I disk,I size,sl sp puts.length cp] (gO b S L n::bi 86 2 sp cp (cZ puts)::F) (vR gO (fv 117) b (bi 86 2 sp cp (cZ puts)::F) (ig S L n base disk size puts)):=by
 have hok:=kM hV;have hll:=hV.len;have hn1:=hV.n1;have hrl:(L.map (·.root)).length<=8:=(by simp;omega);refine Ct.of func96 rR 102 ntmps96 (by simp) λw0=>?_;refine gS (gA (gQ (ac (gS (gM (gV aI (gM (gK aq (gK aT (gV cu (gM (gK aq (gK aI (gV cu (gM (gK aq (gK aT (gV cu (ab ?_)))))))))))))))))));apply ah<;>intro h31
 ·simp at h31;have O:disk<1\/999<disk\/size<1\/16<size:=(by omega);refine gS (gV (aZ Vn) (gA (gQ ?_)));exact ey rfl (by unfold ig;rw[YB O]) rfl rfl
 ·simp at h31;have O:¬(disk<1\/999<disk\/size<1\/16<size):=(by omega);refine ai (gS (gM (gM (gM (gM (gI (uB call168 (rn b S L n base disk size G0 hV (by omega))) ?_))))));rintro v L' hv;unfold vR y5 at hv;rcases hb:iC S L base disk size with e0 | ⟨z1,z2⟩ <;> rw[hb] at hv <;> obtain ⟨rfl,rfl⟩:=hv
  ·have he0:=Bh hb;refine gM (gX (I 0) (gX (fv 117 e0) (gA (gQ (ac (gS (gM (gV (ck Vl) (ab ?_)))))))));apply ah<;>intro Z
   ·refine gS (gM (gA (gQ ?_)));exact ey rfl (by unfold ig;rw[YC O,hb]) rfl rfl
   ·simp at Z;omega
  ·obtain ⟨G2,hz,hR2,_,_⟩:=y0 hV (by omega) hb;simp only at hz hR2;subst hz;refine ik b (bu G2) L n ?_;intro x s c;refine gM (gX (I z2) (gX (fv 117 0) (gA (gQ (ac (gS (gM (gV (ck Vl) (ab ?_)))))))));apply ah<;>intro Z
   ·simp at Z
   ·refine ai (ac (gS (gM (gV (aX VQ) (gM (ab (al ?_)))))));refine aM (α:=Nat×Gh×Int) (λz=>z.1<=puts.length/\Rt z.2.1 (z.2.2::L.map (·.root))/\eV size (bu z.2.1,z.2.2) (puts.drop z.1)=eV size (bu G2,z2) puts) (λz=>U [(0,ptr b 0),(2,I disk),(3,I size),(12,I z.2.2),(44,sl sp puts.length cp),(45,I puts.length),(46,I z.1)]) (λz=>pt b (.cells #[ptr x 0,sl s (L).length c,I (n)] 123 (0,0))::kK x (bu z.2.1)::bi 162 4 s c (fE (L))::bi 86 2 sp cp (cZ puts)::F) (λz=>puts.length - z.1) (0,G2,z2) ⟨by simp,hR2,by simp⟩ [0,2,3,12,44,45,46] rfl ?_;rintro ⟨k,G,root⟩ ⟨hk,hR,J⟩;simp only[] at hk hR J ⊢;have Y:=J0 hR (m:=200) (by simp;omega);refine gS (gV aI (ab (ac ?_)));apply ah<;>intro h47
    ·simp at h47;have hkn:k<puts.length:=(by omega);obtain ⟨p,hp⟩:∃p,puts[k]? =some p:=⟨_,Zu hkn⟩;have hpd1:=hpd p (YW hp);refine ai (ac (al (gS (gV (ay k VQ VT hkn (by rw[db];exact hkn)) (gV (bJ (row:=iV p) XC VT (ji hp)) (gI (aO #[I 0,aC []] W7) ?_))))));rintro _ _ ⟨b15,rfl,rfl⟩;refine gU (ax (cs:=#[I 0,aC []]) (vs:=iV p) (iV p).toArray VT (by simp[iV]) (hcs:=by exact aJ)) (ab (ac (gS (gF 0 WA rR Vb (gL (I p.at_) Vc (gV aI (gM (gK (aw 0 WA rR Vb) (gK (az (v:=I p.at_) Vc) (gK aq (gK j6 (gV cu (ab ?_)))))))))))));apply ah<;>intro h58
     ·simp at h58;refine gS (gV (aZ Vn) (gA (gQ ?_)));exact ey rfl (by
       unfold ig;rw[YC O,hb];simp only;rw[<-J,iO hp];simp only[eV];rw[YB (by omega)]) rfl rfl
     ·simp at h58;have han:(p.at_.toNat:Int)=p.at_:=(by omega);refine ai (ac (ac (gD (Lf:=[pt b (.cells #[ptr x 0,sl s (L).length c,I (n)] 123 (0,0)),pt b15 (.cells (iV p).toArray 86 (0,0))]) [(0,false),(1,false),(2,false),(3,false),(4,false),(5,false),(6,false),(8,false),(9,false),(7,true),(10,false)] (dM rR (dV rR aa (dF rR 0 Vr rR VK (dL rR (ptr x 0) VN (dM rR (dF rR 0 WA rR Vb (dV rR (az (v:=I (p.at_.toNat:Int)) Vc (hv:=⟨by rw[han];rfl⟩)) (dF rR 1 WA rR Vh (dL rR (aC p.data) Vj (d7 rR (uB call98 (jo x (bu G) root p.at_.toNat 200 Y (by decide) (by omega))) ?_)))))))))))));rintro _ _ ⟨rfl,rfl⟩;refine dV rR cj ?_;refine aP ?_;apply ah<;>intro R
      ·simp at R;refine aF ?_;refine am (gP (gM (ab ?_)));exact ap (k+1,G,root) ⟨by simp only[];omega,hR,by
        rw[<-J,iO hp];simp only[eV];rw[YC (by omega),YB R]⟩ (by simp only[];omega) [0,2,3,12,44,45,46] rfl
      ·simp at R;refine ai (ac ?_);refine cO (Lf:=[pt b (.cells #[ptr x 0,sl s (L).length c,I (n)] 123 (0,0)),pt b15 (.cells (iV p).toArray 86 (0,0))]) jO ?_;refine dM rR (dV rR aa (dF rR 0 Vr rR VK (dL rR (ptr x 0) VN (dM rR (dF rR 0 WA rR Vb (dV rR (az (v:=I (p.at_.toNat:Int)) Vc (hv:=⟨by rw[han];rfl⟩)) (dF rR 1 WA rR Vh (dL rR (aC p.data) Vj (d7 rR (uB call169 (mr x (bu G) root p.at_.toNat p.data 200 Y (by decide) (by omega) hpd1 (xo hR.V (mK hR (by simp))))) ?_)))))))));rintro _ _ ⟨rfl,rfl⟩;refine dM rR (dV rR (aH (v:=I (dH (bu G) root p.at_.toNat p.data).1)) (dV rR (aH (v:=fv 117 (dH (bu G) root p.at_.toNat p.data).2)) (dV rR aD (dV rR aD ?_))));refine aP ?_;refine ac (gS (gM (gV (ck Vl) (ab ?_))));apply ah<;>intro X
       ·simp at X;refine gS (gM (gA (gQ ?_)));exact ey rfl (by
         unfold ig;rw[YC O,hb];simp only;rw[<-J,iO hp];simp only[eV,put1];rw[YC (by omega),YC R,YC X]) rfl rfl
       ·simp at X;obtain ⟨G1,G3,hu1,o1,r1,v1,hu2,hR3,_,_⟩:=nb hR hrl (by omega) X;rw[hu1];refine ai (gS (gM (gV aa (gF 0 Vr rR VK (gL (ptr x 0) VN (gM (gR (vB call170 (iZ x (bu G1) root 200 o1 (by decide))) ?_)))))));rw[hu2];refine ab (am (gM (gQ (aG (am (gP (gM (ab ?_))))))));exact ap (k+1,G3,(dH (bu G) root p.at_.toNat p.data).1) ⟨by simp only[];omega,hR3,by
         rw[<-J,iO hp];simp only[eV,put1];rw[YC (by omega),YC R,YB X,hu1,hu2]⟩ (by simp only[];omega) [0,2,3,12,44,45,46] rfl
    ·simp at h47;obtain rfl:k=puts.length:=(by omega);rw[kah] at J;refine aF ?_;refine ac ?_;refine cC b x s c (bu G) (L) (n) ?_;refine am (gM (gM (gM (gM (gR (vB call171 (mA b (bu G) L n disk size root (by omega) (by omega))) (gX (I (jp L n)) (gX (fv 117 (fg L n)) (gA (gQ ?_)))))))));by_cases ha:fg L n=0
     ·rw[show jp L n=n by unfold jp;rw[YB ha],show jw L n disk size root=L++ [⟨n,disk,size,root⟩] by unfold jw;rw[YB ha],show nZ L n=n+1 by unfold nZ;rw[YB ha],ha];exact nc (S:=bu G) (P:=L++ [⟨n,disk,size,root⟩]) (n:=n+1) rfl (by
       unfold ig;rw[YC O,hb];simp only;rw[<-J];simp only[eV];rw[YC (by omega)]) rfl rfl
     ·rw[show jp L n=0 by unfold jp;rw[YC ha]];exact ey rfl (by
       unfold ig;rw[YC O,hb];simp only;rw[<-J];simp only[eV];rw[YB ha]) rfl rfl
def n8 (b V:Nat)(z:RpM)(id at_:Int)(d:ak)(hR:Rok z)(hdl:d.length<=9223372036854775807)(F:List ag):Ct Tryz.prog 32 [ptr b 0,I id,I at_,aC d] (dB b V z::F) (λv L'=>(dQ z id at_ d≠0/\v=bM (dQ z id at_ d)/\L'=dB b V z::F)\/(dQ z id at_ d=0/\∃so co,v=bM 0/\L'=dB b V (z.putted id at_ d so co)::F)):=by
 refine Ct.of func32 rR 58 ntmps32 (by simp) λw0=>?_;refine fH b V z ?_;intro bs bl so co bv rs rm;refine gS (gI (di #[I at_]) ?_);rintro _ _ ⟨b6,rfl,rfl⟩;refine gQ (gS (gM (gV aa (gF 2 VO rfl Xb (gL (.map (some rs)) Xg (gM (gV (cI (v:= .pointer ((gk z.ses id).map λe=>⟨e.a,0,none⟩)) Xh Vf X5 (by rw[nw];cases gk z.ses id <;> rfl)) (gQ (ac (al (gS (gM (gV (rX X6) (gQ ?_))))))))))))));apply ah<;>intro Y
 ·have hno:gk z.ses id=none:=(by simpa using Y);refine gS (gV (aZ Vn) (gQ ?_));refine cw b V (z) bs bl so co bv rs rm ?_;exact an (dB b V (z)::F) rfl (have ho:dQ z id at_ d=5:=by unfold dQ;rw[hno]
   .inl ⟨by rw[ho];decide,by rw[ho];rfl,rfl⟩)
 ·obtain ⟨e,R⟩:∃e,gk z.ses id=some e:=kaG.1 (by cases hq:gk z.ses id with
   | none=>rw[hq] at Y;cases Y
   | some _=>rfl)
  obtain ⟨he,hek,hi⟩:=pf R;rw[R];refine ac ?_;refine MV z.ses _ he ?_;refine cO (Lf:=[pt e.a (.cells #[I e.base,I e.disk,I e.size,sl e.so (e.puts.length) e.co] 168 (0,0)),pt b6 (.cells #[I at_] 3 (0,0))]) jF ?_;refine dL rR (I at_) Vc (dV rR aI (dM rR (dJ rR (az (v:=I at_) Vc) (dJ rR aq (dJ rR aa (dJ rR (aw 2 W6 rR Vb) (dJ rR (az (v:=I e.size) Vc) (dJ rR j6 (dV rR cu (dV rR aD ?_))))))))));refine aP ?_;apply ah<;>intro Z
  ·have X:at_<0\/e.size<=at_:=(by simp at Z;omega);refine gS (gV (aZ Vn) (gQ ?_));refine de (f:=Bq) z.ses (wF z.ses id) e [pt e.a (.cells #[I e.base,I e.disk,I e.size,sl e.so e.puts.length e.co] 168 (0,0)),bi 86 2 e.so e.co (cZ e.puts)] hi ?_;rw[eG he];refine cw b V (z) bs bl so co bv rs rm ?_;have ho:dQ z id at_ d=1:=(by unfold dQ;rw[R];simp only;rw[YB X]);exact an (dB b V z::F) rfl (.inl ⟨by rw[ho];decide,by rw[ho];rfl,rfl⟩)
  ·have X:¬(at_<0\/e.size<=at_):=(by simp at Z;omega);refine gS (gM (gV (cW Vg) (gV aT (gQ ?_))));apply ah<;>intro h32
   ·have h6:6<d.length:=(by simp at h32;omega);refine gS (gV (aZ Vn) (gQ ?_));refine de (f:=Bq) z.ses (wF z.ses id) e [pt e.a (.cells #[I e.base,I e.disk,I e.size,sl e.so e.puts.length e.co] 168 (0,0)),bi 86 2 e.so e.co (cZ e.puts)] hi ?_;rw[eG he];refine cw b V (z) bs bl so co bv rs rm ?_;have ho:dQ z id at_ d=2:=(by unfold dQ;rw[R];simp only;rw[YC X,YB h6]);exact an (dB b V z::F) rfl (.inl ⟨by rw[ho];decide,by rw[ho];rfl,rfl⟩)
   ·have h6:¬6<d.length:=(by simp at h32;omega);have hps:=(hR.putS e (YW he)).1;have hfl:=kam (λx:PutM=>!decide (x.at_=at_)) e.puts;refine ai (aG (gS (gM (gM (gV aa (gF 3 W6 rR WB (gL (sl e.so e.puts.length e.co) W5 (gV fK (gR (vC call94 (ub e.puts e.so e.co b6 at_ (by omega))) (gV aa (gF 3 W6 rR WB (gU (aK #[I e.base,I e.disk,I e.size,sl e.so (e.puts.filter λx=>!decide (x.at_=at_)).length e.co] WB (by simp)) (ab (ac ?_))))))))))))));refine eU (Lf:=[pt e.a (.cells #[I e.base,I e.disk,I e.size,sl e.so ((e.puts.filter λx=>!decide (x.at_=at_)).length) e.co] 168 (0,0)),pt b6 (.cells #[I at_] 3 (0,0))]) [(0,false),(1,false),(2,false),(3,false),(4,false),(5,false),(6,false),(7,false),(8,true),(9,true),(10,false),(11,false)] 12 ?_;refine dM rR (dM rR (dV rR aa (dF rR 3 W6 rR WB (dL rR (sl e.so (e.puts.filter λx=>!decide (x.at_=at_)).length e.co) W5 (dL rR (I at_) Vc (dM rR (dV rR (aR (IE at_ d)) (d7 rR (av (cZ [⟨at_,d⟩]) VQ VT W7 (by simp[cZ,iV])) ?_))))))));rintro _ _ ⟨b54,rfl,rfl⟩;refine d7 rR (bo VQ VT W7 Tryz.typeInfo86 (hn:=by exact db _) (by simp[cZ,iV]) (by simp[cZ,iV,Go.Sl.ones,Go.Sl.one]) ⟨by omega,by decide,by decide⟩) ?_;rintro _ _ ⟨O,J,rfl,rfl⟩;refine dV rR aa (dF rR 3 W6 rR WB ?_);refine aP ?_;refine gU (aK #[I e.base,I e.disk,I e.size,sl O ((e.puts.filter λx=>!decide (x.at_=at_)).length+1) J] WB (by simp)) (ab (gS (gQ ?_)));rw[show cZ (e.puts.filter λx=>!decide (x.at_=at_))++cZ [⟨at_,d⟩]=cZ (iP e.puts at_ d) by simp[cZ,iP],show (e.puts.filter λx=>!decide (x.at_=at_)).length+1=(iP e.puts at_ d).length by simp[iP]];refine de (f:=Bq) z.ses (wF z.ses id) (⟨e.key,e.a,O,J,e.base,e.disk,e.size,iP e.puts at_ d⟩:SeE) [pt e.a (.cells #[I e.base,I e.disk,I e.size,sl O (iP e.puts at_ d).length J] 168 (0,0)),bi 86 2 O J (cZ (iP e.puts at_ d))] hi ?_;rw[<-Fh (e':=(⟨e.key,e.a,O,J,e.base,e.disk,e.size,iP e.puts at_ d⟩:SeE)) he rfl rfl];refine cw b V (⟨z.h,z.used,z.rows,z.S,z.L,z.n,z.ses.set (wF z.ses id) ⟨e.key,e.a,O,J,e.base,e.disk,e.size,iP e.puts at_ d⟩,z.mou,z.next⟩) bs bl so co bv rs rm ?_;exact an (dB b V ⟨z.h,z.used,z.rows,z.S,z.L,z.n,z.ses.set (wF z.ses id) ⟨e.key,e.a,O,J,e.base,e.disk,e.size,iP e.puts at_ d⟩,z.mou,z.next⟩::F) rfl (.inr ⟨by unfold dQ;rw[R];simp only;rw[YC X,YC h6],O,J,rfl,by unfold RpM.putted RpM.sess;rw[R]⟩)
def GW {S:SI}{L:List Pt}{n:Int}{G:Gh}(h:Con S L n G):∀c∈bD S L n,c.key≠ []/\c.key.length<=8/\c.val.length<=48/\c.gone=false:=λc J=>by
 have w:=h.wr;unfold bD at J;rcases Zn.1 J with J | J
 ·rcases Zn.1 J with J | J
  ·rcases Zn.1 J with J | J
   ·unfold dI at J;obtain ⟨q,hq,rfl⟩:=Zz.1 J;obtain ⟨V,O⟩:=mem_ids.1 hq;obtain ⟨x,hx⟩:=kaG.1 O;have R:=w.b q x hx
    grind[iN,gB,J6]
   ·unfold d6 at J;obtain ⟨q,hq,rfl⟩:=Zz.1 J;obtain ⟨V,O⟩:=mem_ids.1 hq;have R:=It h.sm q;have h1:=iN (n:=q) (by omega);have X:=tT (n:=gN S.N q) (by omega) (λk hk=>by have:=R.2 k hk;omega) 4 (by omega)
    grind[GP,J7]
  ·obtain ⟨p,hp,rfl⟩:=Zz.1 J;have R:=w.p p hp
   grind[iN,mM]
 ·rw[kad] at J;subst J;have h1:=bY (n:=n) (by have:=w.n1;omega)
  grind[vq]
def PQ {l:List ChangeM}{c x:ChangeM}:x∈FQ l c ↔ (x=c/\c.gone=false)\/(x∈l/\x.key≠c.key):=by
 grind[FQ,mf,sc]
def Fm:∀{c l:List ChangeM} {x:ChangeM},srt c->(x∈cU l c ↔ (x∈c/\x.gone=false)\/(x∈l/\∀y∈c,y.key≠x.key))
 | [],l,x,_=>by simp[cU]
 | d::c,l,x,h=>by
  have J:=kaj.1 h;show x∈cU (FQ l d) c ↔ _;rw[Fm J.2,PQ]
  grind[mf]
theorem C9:∀{l:List ChangeM},srt l->∀{x y:ChangeM},x∈l->y∈l->x.key=y.key->x=y
 | a::l,h,x,y,hx,hy,e=>by
  have O:=kaj.1 h;rcases Y5.1 hx with rfl | J
  ·grind[mf]
  ·rcases Y5.1 hy with rfl | R
   ·exact absurd e.symm (mf (O.1 x J))
   ·exact C9 O.2 J R e
def Sj {a b:List ChangeM}(J:srt a)(O:srt b)(V:∀x∈b,x.gone=false):cU a (mg a b)=b:=by
 refine C4 (qR J _).1 O λx=>?_;rw[Fm (sn J O),mB J O];constructor
 ·rintro (⟨h1,R⟩ | ⟨h1,R⟩)
  ·rcases h1 with ⟨y,hy,rfl,_⟩ | ⟨h1,_⟩
   ·cases R
   ·exact h1
  ·refine Decidable.byContradiction λhx=>?_;by_cases hk:∃y∈b,y.key=x.key
   ·grind[C9,mB]
   ·exact R (jx x) ((mB J O _).2 (.inl ⟨x,h1,rfl,λy hy e=>hk ⟨y,hy,e⟩⟩)) rfl
 ·intro hx;by_cases S:x∈a
  ·refine .inr ⟨S,λy hy e=>?_⟩;rcases (mB J O y).1 hy with ⟨z,X,rfl,hn⟩ | ⟨h1,R⟩
   ·exact hn x hx e.symm
   grind[C9]
  grind
def Fo:∀{c:List ChangeM},(∀x∈c,dX x=0)->kG c=0
 | [],_=>rfl
 | x::c,h=>by
  unfold kG;rw[YB (h x (by simp))];exact Fo λy hy=>h y (kac _ hy)
def Sk {a b:List ChangeM}(J:srt a)(O:srt b)(R:∀c∈a,c.key≠ []/\c.key.length<=8/\c.val.length<=48/\c.gone=false)(S:∀c∈b,c.key≠ []/\c.key.length<=8/\c.val.length<=48/\c.gone=false):∀x∈mg a b,dX x=0:=λx hx=>by
 grind[dX,mB,jx]
def Fp:∀{l m:List ak},l.Nodup->(∀q∈l,q∈m)->l.length<=m.length
 | [],_,_,_=>by simp
 | a::l,m,hl,h=>by
  rw[ZL] at hl;have h1:=Fp (l:=l) (m:=m.erase a) hl.2 λq hq=>by
   grind
  grind
def IF (P:List Pt):List ak:=((List.range 40).map λk=>98::jd ((k+1:Nat):Int))++((List.range 24).map λk=>110::jd ((k+1:Nat):Int))++P.map (λp=>112::jd p.id)++ [[120]]
def M4 {S:SI}{L:List Pt}{n:Int}{P:List Pt}(R:∀p∈L,p∈P):∀c∈bD S L n,c.key∈IF P:=λc J=>by
 unfold bD at J;unfold IF;simp only[Zn] at J ⊢;rcases J with ((J | J) | J) | J
 ·unfold dI at J;obtain ⟨q,hq,rfl⟩:=Zz.1 J;obtain ⟨O,_⟩:=mem_ids.1 hq;exact .inl (.inl (.inl (Zz.2 ⟨q.toNat - 1,by grind,by rw[show ((q.toNat - 1+1:Nat):Int)=q by omega];rfl⟩)))
 ·unfold d6 at J;obtain ⟨q,hq,rfl⟩:=Zz.1 J;obtain ⟨O,_⟩:=mem_ids.1 hq;exact .inl (.inl (.inr (Zz.2 ⟨q.toNat - 1,by grind,by rw[show ((q.toNat - 1+1:Nat):Int)=q by omega];rfl⟩)))
 ·obtain ⟨p,hp,rfl⟩:=Zz.1 J;exact .inl (.inr (Zz.2 ⟨p,R p hp,rfl⟩))
 grind[vq]
def IG {S J:SI}{L L' P:List Pt}{n R:Int}{G Y:Gh}(hC:Con S L n G)(O:Con J L' R Y)(hP:P.length<=7)(h1:∀p∈L,p∈P)(Z:∀p∈L',p∈P):(mg (bD S L n) (bD J L' R)).length<=72:=by
 have V:=lc hC.wr;have X:=lc O.wr;have hs:=sn V X;have hn:((mg (bD S L n) (bD J L' R)).map (·.key)).Nodup:=by
  rw[List.Nodup,kaS];exact hs.imp λh=>mf h
 have hm:=Fp hn (m:=IF P) λq hq=>by
  obtain ⟨x,hx,rfl⟩:=Zz.1 hq;rcases (mB V X x).1 hx with ⟨y,hy,rfl,_⟩ | ⟨hy,_⟩
  ·exact M4 h1 y hy
  ·exact M4 Z x hy
 grind[IF]
def IH {S O:SI}{L L' P:List Pt}{n R:Int}{G Y:Gh}(hC:Con S L n G)(J:Con O L' R Y)(hP:P.length<=7)(h1:∀p∈L,p∈P)(Z:∀p∈L',p∈P):xf (200 - 122) (bD S L n) (mg (bD S L n) (bD O L' R))=0/\cU (bD S L n) (mg (bD S L n) (bD O L' R))=bD O L' R:=by
 have V:=lc hC.wr;have X:=lc J.wr;have hl:=IG hC J hP h1 Z;have e:=Sj V X λx hx=>(GW J x hx).2.2.2;have hr:=n4 (S:=O) (n:=R) J.v.len;refine ⟨?_,e⟩;unfold xf;rw[YC (by omega),YC (by rw[Fo (Sk V X (GW hC) (GW J))];simp),e,YC (by omega)]
def II {N:Nat}{D:DiskM}{h:HdM}{V:List ChangeM}{ds:dc}{used:Nat}{c:List ChangeM}{e:Int}{D2:DiskM}{h2:HdM}{S:Nat}{J:List ChangeM}(C:Of N D h V ds used)(hep:h.ep<=900000)(hf:h.first<=800000000)(h0':xf (N - 122) (cur V ds) c=0)(hc:ED D h (cur V ds) (N - 122) used c e D2 h2 S J):
  (e=0/\h2.ep<=h.ep+1/\h2.first<=h.first+N/\∃r2 d2,Of N D2 h2 r2 d2 S/\cur r2 d2=J/\J=cU (cur V ds) c)\/
  (e=9/\Fell N D2 (h.ep+1) (h.first+N) (λx=>x=cur V ds\/x=cU (cur V ds) c)):=by
 obtain ⟨hq,I,hs⟩:=C;have hb:=I.big;rcases hc with ⟨hne,rfl,rfl,rfl,rfl,rfl⟩ | ⟨h0,e1,D1,h1,O,hmid,R⟩
 ·exact absurd h0' hne
 ·obtain ⟨c1,c2,c3,c4⟩:=UT h0;have hm:(e1=0/\h1.ep<=h.ep+1/\h1.first<=h.first+N/\c.length+1<=N - 122 - O/\∃r1 d1,Of N D1 h1 r1 d1 O/\cur r1 d1=cur V ds)\/(e1=9/\Fell N D1 (h.ep+1) (h.first+N) (λx=>x=cur V ds)):=by
   rcases hmid with ⟨X,hrun,hck⟩ | ⟨X,rfl,rfl,rfl,rfl⟩
   ·rcases EK hq I hs (by omega) (by omega) hrun with ⟨rfl,Y⟩ | ⟨h9,F⟩
    ·rcases hck with ⟨hx,_⟩ | ⟨_,rfl,_,d',hsc⟩
     ·exact absurd rfl hx
     ·have hlg:=Y.2.1.good.log;rw[Y.2.1.len] at hlg;have hu:=(vc hsc hlg).2;subst hu;exact .inl ⟨rfl,by simp only[eE];omega,by simp only[eE];omega,by omega,_,_,Y,rfl⟩
    ·exact .inr ⟨h9,F⟩
   ·exact .inl ⟨rfl,by omega,by omega,by omega,V,ds,⟨hq,I,hs⟩,rfl⟩
  rcases hm with ⟨rfl,m1,m2,m3,r1,d1,Y,Z⟩ | ⟨h9,F⟩
  ·rcases R with ⟨hx,_⟩ | ⟨_,rfl,rfl,rfl,rfl,rfl⟩
   ·exact absurd rfl hx
   ·have hv:mH (N - 122) O c=0:=(by grind[Cl]);rcases RI Y (by omega) hv (by rw[Z];exact c3) with ⟨a1,a2⟩ | ⟨a1,a2⟩
    ·grind[yF]
    ·refine .inr (⟨a1,λkeep=>?_⟩);obtain ⟨h',r',d',u',i',p',e',f',s'⟩:=a2 keep
     grind
  ·rcases R with ⟨_,rfl,rfl,rfl,rfl,rfl⟩ | ⟨hx,_⟩
   ·refine .inr (⟨h9,λkeep=>?_⟩);obtain ⟨h',r',d',u',i',p',e',f'⟩:=F keep
    grind
   grind
structure Rep (t:Nat) (D:DiskM) (z:RpM):Prop where
 ok:nO 200 1000 D
 s80:tw D
 cal:∃r0 ds,Of 200 D z.h r0 ds z.used/\cur r0 ds=z.rows
 ep:z.h.ep<=1+2*t
 first:z.h.first<=1+400*t
 rows:z.rows=bD z.S z.L z.n
 rok:Rok z
def Fq {N i:Nat}{D:DiskM}(h:nO N i D)(c:calm D):nO N 1000 D:=⟨h.1,h.2.1,h.2.2.1,h.2.2.2.1,by rw[c.2.1];simp⟩
theorem Rep.dk {t:Nat}{D:DiskM}{z:RpM}(R:Rep t D z)(ht:t<=100000):Dk 1000 D z:=by
 obtain ⟨O,ds,C,J⟩:=R.cal;have:=R.ep;have:=R.first;exact ⟨R.ok,R.s80,⟨by omega,C.2.1.good.side,C.2.1.good.first.1,by omega⟩,by rw[<-J];exact C.2.1.good.lenC,by rw[<-J];exact C.2.1.good.okC,C.2.1.used_le,by rw[<-J];exact C.2.1.good.srtC⟩
def M5 (t:Nat)(D:DiskM)(φ:List ChangeM->Prop):Prop:=nO 200 2000 D/\tw D/\Fell 200 D (1+2*t) (1+400*t) φ
def Br {t:Nat}{D D2:DiskM}{z z2:RpM}{Z:SI}{L' P:List Pt}{n' e:Int}{G':Gh}(R:Rep t D z)(ht:t<=100000)(hC':Con Z L' n' G')(hP:P.length<=7)(h1:∀p∈z.L,p∈P)(h2:∀p∈L',p∈P)(k:Fk D z Z L' n' e D2 z2):
  (e=0/\Rep (t+1) D2 z2/\(u1 D->u1 D2)/\z2.S=Z/\z2.L=L'/\z2.n=n'/\z2.ses=z.ses/\z2.mou=z.mou/\z2.next=z.next)\/(e=9/\¬u1 D/\M5 (t+1) D2 λx=>x=bD z.S z.L z.n\/x=bD Z L' n'):=by
 obtain ⟨Y,O,J,hc,rfl⟩:=k;obtain ⟨r0,ds,C,V⟩:=R.cal;obtain ⟨G,hC⟩:=R.rok.con;obtain ⟨hcm,hap⟩:=IH hC hC' hP h1 h2;have hep:=R.ep;have hfi:=R.first;unfold Si at hc;rw[<-V] at hc;have hcr:cur r0 ds=bD z.S z.L z.n:=V.trans R.rows;have X:=LS R.ok R.s80 C.2.1 hc;have hs2:=O4 R.ok R.s80 C.2.1 hc;have hup:u1 D->e=0/\u1 D2:=λhu=>by
  obtain ⟨c1,c2,_⟩:=LP hu R.s80 C.2.1 (by omega) (by omega) hc
  grind
 rcases II C (by omega) (by omega) (by rw[hcr];exact hcm) hc with ⟨rfl,b1,b2,r2,d2,C2,e2,e3⟩ | ⟨h9,hF⟩
 ·refine .inl ⟨rfl,?_,λhu=>(hup hu).2,?_⟩
  ·have hkz:z.kept 0 Y O J Z L' n'=⟨Y,O,J,Z,L',n',z.ses,z.mou,z.next⟩:=(by grind[RpM.kept]);rw[hkz];exact ⟨Fq X C2.1,hs2,⟨r2,d2,C2,e2⟩,by show Y.ep<=_;omega,by grind,by grind,⟨⟨G',hC'⟩,R.rok.next,R.rok.keyS,R.rok.keyM,R.rok.sesS⟩⟩
  grind[RpM.kept]
 ·subst h9;refine .inr ⟨rfl,λhu=>by have:=(hup hu).1;omega,jm X (by omega),hs2,?_⟩;rw[hcr,hap] at hF;exact hF.mono (by omega) (by omega) λx hx=>hx
def jf:List Int->DiskM->RpM->List Int->Int->DiskM->RpM->Prop
 | [],D,z,gone,e,D2,z2=>gone=[]/\e=0/\D2=D/\z2=z
 | id::l,D,z,gone,e,D2,z2=>if eW z id=true then jf l D z gone e D2 z2 else ∃e1 D1 z1,pB D z id e1 D1 z1/\((e1≠0/\gone=[]/\e=e1/\D2=D1/\z2=z1)\/(e1=0/\∃g',jf l D1 z1 g' e D2 z2/\gone=if e=0 then id::g' else []))
def lD {ee:Bool}(b R i:Nat)(z:RpM)(id:Int)(hR:Rok z)(D:DiskM)(hD:Dk i D z)(hib:i<=100000)(F:List ag):Ct Tryz.prog 33 [ptr b 0,I id] (bh ee::dB b R z::cf 179 319 R (D)::F) (λv L'=>∃n f D2 z2,zy D z id n f D2 z2/\v= .tuple #[I n,bM f]/\L'=dB b R z2::cf 179 319 R (D2)::bh ee::F):=by
 obtain ⟨G0,hC⟩:=hR.con;have hlen:=hC.v.len;have hnx:=hR.next;refine Ct.of func33 rR 59 ntmps33 (by simp) λw0=>?_;refine fH b R z ?_;intro bs bl so co bv rs rm;refine gS (gA (gQ (gS (gM (gV aa (gF 2 VO rfl Xb (gL (.map (some rs)) Xg (gM (gV (cI (v:= .pointer ((gk z.ses id).map λe=>⟨e.a,0,none⟩)) Xh Vf X5 (by rw[nw];cases gk z.ses id <;> rfl)) (gQ (ac (gS (gM (gV (rX X6) (ab ?_)))))))))))))));apply ah<;>intro h17
 ·have hno:gk z.ses id=none:=(by simpa using h17);refine gS (gV (aZ Vn) (gA (gQ ?_)));refine cw b R (z) bs bl so co bv rs rm ?_;exact an (dB b R z::cf 179 319 R (D)::bh ee::F) rfl ⟨0,5,D,z,by unfold zy;rw[hno];exact ⟨rfl,rfl,rfl,rfl⟩,rfl,rfl⟩
 ·obtain ⟨e,V⟩:∃e,gk z.ses id=some e:=kaG.1 (by cases hq:gk z.ses id with
   | none=>rw[hq] at h17;cases h17
   | some _=>rfl)
  obtain ⟨he,hek,hi⟩:=pf V;rw[V];refine ai (ac ?_);have hps:=hR.putS e (YW he);refine am (gM (gV aa (gF 1 VO rR WQ (gL (ptr bv 0) WI (gI (uB call66 (fX bv z.S z.L z.n (by omega))) ?_)))));rintro _ _ ⟨q,rfl,rfl⟩;refine gQ (ac ?_);refine MV z.ses _ he ?_;refine cO (Lf:=[pt e.a (.cells #[I e.base,I e.disk,I e.size,sl e.so e.puts.length e.co] 168 (0,0))]) jX ?_;refine dM rR (dM rR (dV rR aa (dF rR 0 W6 rR Vb (dL rR (I e.base) Vc (dM rR (dV rR aa (dF rR 1 W6 rR Vb (dL rR (I e.disk) Vc (dM rR (dV rR aa (dF rR 2 W6 rR Vb (dL rR (I e.size) Vc (dM rR (dV rR aa (dF rR 3 W6 rR WB (dL rR (sl e.so e.puts.length e.co) W5 (d7 rR (uC call96 (pi q z.S z.L z.n e.base e.disk e.size e.puts e.so e.co G0 hC.v (by omega) (λp hp=>by have:=hps.2 p hp;omega))) ?_)))))))))))))))));rintro v L' hv;unfold vR at hv;rcases hr:ig z.S z.L z.n e.base e.disk e.size e.puts with e0 | ⟨S1,L1,n1,r1⟩ <;> rw[hr] at hv <;> obtain ⟨rfl,rfl⟩:=hv
  ·have he0:=qg hr;refine dM rR (dV rR (aH (v:=I 0)) (dV rR (aH (v:=bM e0)) (dV rR aD (dV rR aD ?_))));refine aP ?_;refine ac (gS (gM (gV (fO (T:=117) (f:=e0) Vl) (ab ?_))));apply ah<;>intro h46
   ·simp at h46;omega
   ·refine ai (ac (gS (gM (gV (ck Vl) (ab ?_)))));apply ah<;>intro X
    ·refine gS (gM (gA (gQ ?_)));refine de (f:=Bq) z.ses (wF z.ses id) e [pt e.a (.cells #[I e.base,I e.disk,I e.size,sl e.so e.puts.length e.co] 168 (0,0)),bi 86 2 e.so e.co (cZ e.puts)] hi ?_;rw[eG he];refine cw b R (z) bs bl so co bv rs rm ?_;exact an (dB b R z::cf 179 319 R (D)::bh ee::F) rfl ⟨0,e0,D,z,by unfold zy;rw[V];simp only;rw[hr];simp,rfl,rfl⟩
    ·simp at X;omega
  ·obtain ⟨G1,hC1⟩:=qk hC hr;refine dM rR (dV rR (aH (v:=I r1)) (dV rR (aH (v:=bM 0)) (dV rR aD (dV rR aD ?_))));refine aP ?_;refine ac (gS (gM (gV (fO (T:=117) (f:=0) Vl) (ab ?_))));apply ah<;>intro h46
   ·refine de (f:=Bq) z.ses (wF z.ses id) e [pt e.a (.cells #[I e.base,I e.disk,I e.size,sl e.so e.puts.length e.co] 168 (0,0)),bi 86 2 e.so e.co (cZ e.puts)] hi ?_;rw[eG he];refine cw b R (z) bs bl so co bv rs rm ?_;refine am (gM (gM (gI (uE (A0:=bh ee) call97 (kp b R q i D z S1 L1 n1 G0 G1 hC hC1 hD hib)) ?_)));rintro _ _ ⟨f,D2,Y,O,J,Z,rfl,rfl⟩;refine gQ (ac (gS (gM (gV (ck Vl) (ab ?_)))));apply ah<;>intro X
    ·have he:¬f=0:=(by simpa using X);refine gS (gM (gA (gQ ?_)));exact an (dB b R (z.kept f Y O J S1 L1 n1)::cf 179 319 R (D2)::bh ee::F) rfl ⟨0,f,D2,_,by unfold zy;rw[V];simp only;rw[hr];exact ⟨_,⟨Y,O,J,Z,rfl⟩,by rw[YC he],by rw[YC he]⟩,rfl,rfl⟩
    ·have he:f=0:=(by simpa using X);rw[show z.kept f Y O J S1 L1 n1=⟨Y,O,J,S1,L1,n1,z.ses,z.mou,z.next⟩ by unfold RpM.kept;rw[YB he]];refine ai (ac ?_);refine fH b R ⟨Y,O,J,S1,L1,n1,z.ses,z.mou,z.next⟩ ?_;intro bs bl so co bv rs rm;dsimp only;refine am (gM (gV aa (gF 2 VO rR Xb (gL (.map (some rs)) Xg (gM (ir (iv Xh Vf) ?_))))));rintro _ _ ⟨rfl,rfl⟩;rw[tZ];refine nJ (f:=Bq) z.ses (lR z.ses id) ZE ?_;refine ab (gS (gM (gA (gQ ?_))));refine cw b R (⟨Y,O,J,S1,L1,n1,lR z.ses id,z.mou,z.next⟩) bs bl so co bv rs rm ?_;exact an (dB b R ⟨Y,O,J,S1,L1,n1,lR z.ses id,z.mou,z.next⟩::cf 179 319 R (D2)::bh ee::F) rfl ⟨r1,f,D2,_,by unfold zy;rw[V];simp only;rw[hr];exact ⟨_,⟨Y,O,J,Z,rfl⟩,by rw[YB he],by rw[YB he];unfold RpM.kept RpM.sess;rw[YB he]⟩,by rw[he];rfl,rfl⟩
   ·simp at h46
def uc (b R i:Nat)(z:RpM)(D:DiskM)(Y:Dk i D z)(hib:i<=100000)(F:List ag):Ct Tryz.prog 52 [ptr b 0] (dB b R z::cf 179 319 R (D)::F) (λv L'=>∃e D1,cv D (wk (eE z.h z.rows (200 - 122)) (bK z.rows))=(e,D1)/\v=bM e/\((e≠0/\L'=dB b R z::cf 179 319 R (D1)::F)\/(e=0/\∃ds J,J<=200 - 122/\dh (z.h.first+(200 - 122)) (oR D1 122) (200 - 122) 0 [] [] 0=(ds,J)/\L'=dB b R ⟨eE z.h z.rows (200 - 122),J,z.rows,z.S,z.L,z.n,z.ses,z.mou,z.next⟩::cf 179 319 R (D1)::F))):=by
 refine Ct.of func52 rR 8 ntmps52 (by simp) λw0=>?_;refine fH b R z ?_;intro bs bl so co bv rs rm;refine gS (gQ (gS (gM (gV aa (gF 0 VO rR sizeOf95 (gL (ptr bs 0) WH (gI (uE call126 (ly bs R z.h bl so co z.rows 200 i z.used D Y.ok hib Y.s80 (by decide) Y.hd Y.len Y.okr)) ?_)))))));rintro _ _ ⟨e,D1,V,X⟩;rcases X with ⟨hne,rfl,rfl⟩ | ⟨Z,bl2,ds,O,hu2,hsc,rfl,rfl⟩
 ·refine gQ ?_;refine cw b R (z) bs bl so co bv rs rm ?_;exact an (dB b R z::cf 179 319 R (D1)::F) rfl ⟨e,D1,V,rfl, .inl ⟨hne,rfl⟩⟩
 ·rw[show z.h.first+(200 - 122)=(eE z.h z.rows (200 - 122)).first from rfl];refine gQ ?_;refine cw b R (⟨eE z.h z.rows (200 - 122),O,z.rows,z.S,z.L,z.n,z.ses,z.mou,z.next⟩) bs bl2 so co bv rs rm ?_;exact an (dB b R ⟨eE z.h z.rows (200 - 122),O,z.rows,z.S,z.L,z.n,z.ses,z.mou,z.next⟩::cf 179 319 R (D1)::F) rfl ⟨e,D1,V,by rw[Z];rfl, .inr ⟨Z,ds,O,hu2,hsc,rfl⟩⟩
def n9 {t:Nat}{D J:DiskM}{z z2:RpM}{id e:Int}(R:Rep t D z)(ht:t<=100000)(k:pB D z id e J z2):
  (e=0/\Rep (t+1) J z2/\(u1 D->u1 J)/\fI z id=0/\mz z.S z.L z.n id= .ok (z2.S,z2.L,z2.n,0)/\z2.ses=z.ses/\z2.mou=z.mou/\z2.next=z.next)\/(e≠0/\e≠9/\e=fI z id/\J=D/\z2=z)\/
  (e=9/\¬u1 D/\fI z id=0/\∃V L',mz z.S z.L z.n id= .ok (V,L',z.n,0)/\M5 (t+1) J λx=>x=bD z.S z.L z.n\/x=bD V L' z.n):=by
 unfold pB at k;by_cases hd:fI z id=0
 ·rw[YC (by omega)] at k;obtain ⟨V,L',Y,k⟩:=k;obtain ⟨G,hC⟩:=R.rok.con;obtain ⟨G',X⟩:=zj hC Y;have O:∀p∈L',p∈z.L:=by
   grind[mz]
  rcases Br R ht X (P:=z.L) (by have:=hC.v.len;omega) (λp hp=>hp) O k with ⟨Z,a2,a3,a4,a5,a6,a7,a8,a9⟩ | ⟨Z,a2,a3⟩
  ·grind
  grind
 grind[fI]
def gE {α:Type}{l:List α}{k:Nat}{x:α}(h:l[k]? =some x):l.drop k=x::l.drop (k+1):=by
 grind[List.drop_eq_getElem_cons]
theorem Fr:∀{l:List Int} {D J:DiskM} {z z2:RpM} {gone:List Int} {e:Int},jf l D z gone e J z2->e≠0->gone=[]
 | [],_,_,_,_,_,_,h,he=>h.1
 | id::l,D,J,z,z2,gone,e,h,he=>by
  unfold jf at h;split at h
  ·exact Fr h he
  grind
def KInv (l:List Int)(D0:DiskM)(z0:RpM)(k:Nat)(D:DiskM)(z:RpM)(gone:List Int):Prop:=∀g' e D2 z2,jf (l.drop k) D z g' e D2 z2->jf l D0 z0 (if e=0 then gone++g' else []) e D2 z2
theorem KInv.start {l:List Int}{J:DiskM}{z0:RpM}:KInv l J z0 0 J z0 []:=λR e O z2 h=>by
 grind[Fr]
theorem KInv.skip {l:List Int}{J D:DiskM}{z0 z:RpM}{k:Nat}{gone:List Int}{id:Int}(h:KInv l J z0 k D z gone)(hk:l[k]? =some id)(S:eW z id=true):KInv l J z0 (k+1) D z gone:=λR e O z2 hr=>h R e O z2 (by simp_all[gE,jf])
theorem KInv.went {l:List Int}{J D D1:DiskM}{z0 z O:RpM}{k:Nat}{gone:List Int}{id:Int}(h:KInv l J z0 k D z gone)(hk:l[k]? =some id)(V:eW z id=false)(hd:pB D z id 0 D1 O):KInv l J z0 (k+1) D1 O (gone++ [id]):=λS e R z2 hr=>by
 have:=h (if e=0 then id::S else []) e R z2 (by rw[gE hk];grind[jf])
 grind
theorem KInv.err {l:List Int}{O D D1:DiskM}{z0 z J:RpM}{k:Nat}{gone:List Int}{id e:Int}(h:KInv l O z0 k D z gone)(hk:l[k]? =some id)(R:eW z id=false)(hd:pB D z id e D1 J)(he:e≠0):jf l O z0 [] e D1 J:=by
 have:=h [] e D1 J (by rw[gE hk];grind[jf])
 grind
theorem KInv.done {l:List Int}{J D:DiskM}{z0 z:RpM}{gone:List Int}(h:KInv l J z0 l.length D z gone):jf l J z0 gone 0 D z:=by
 have:=h [] 0 D z (by rw[kah];exact ⟨rfl,rfl,rfl,rfl⟩);simpa using this
def q6 (L:List Pt)(disk keep:Int)(h:L.length<=6):(eP L disk keep).length<=6:=by
 grind[eP]
def ud {ee:Bool}(b J t:Nat)(z0:RpM)(X:DiskM)(disk many:Int)(R0:Rep t X z0)(ht:t<=90000)(hm:many<=9223372036854775807)(F:List ag):Ct Tryz.prog 47 [ptr b 0,I disk,I many] (bh ee::dB b J z0::cf 179 319 J (X)::F) (λv L'=>(many<0/\v= .tuple #[sl none 0 0,bM 1]/\L'=dB b J z0::cf 179 319 J (X)::bh ee::F)\/(0<=many/\∃gone e Y z2 s c,jf (eP z0.L disk many) X z0 gone e Y z2/\v= .tuple #[sl s gone.length c,bM e]/\L'=bi 3 1 s c (bz gone)::dB b J z2::cf 179 319 J (Y)::bh ee::F)):=by
 obtain ⟨G0,hC⟩:=R0.rok.con;have hlen:=hC.v.len;have hel:=q6 z0.L disk many hlen;refine Ct.of func47 rR 42 ntmps47 (by simp) λw0=>?_;refine gS (gA (gQ (ac (gS (gM (gV aI (ab ?_)))))));apply ah<;>intro h13
 ·have hmn:many<0:=(by simpa using h13);refine gS (gV (aZ Vn) (gA (gQ ?_)));exact an (dB b J z0::cf 179 319 J (X)::bh ee::F) rfl (.inl ⟨hmn,rfl,rfl⟩)
 ·have hmn:¬many<0:=(by simpa using h13);refine ai (gS (gQ (ac (ac ?_))));refine fH b J z0 ?_;intro bs bl so co bv rs rm;refine am (gM (gV aa (gF 1 VO rR WQ (gL (ptr bv 0) WI (gM (gM (gI (uB call125 (pM bv z0.S z0.L z0.n disk many (by omega) hm)) ?_)))))));rintro _ _ ⟨s21,c21,rfl,rfl⟩;refine bR s21 ?_;refine gV (aX Vi) (gM (ab ?_));refine cw b J z0 bs bl so co bv rs rm ?_;refine bH 3 1 (bz []) ?_;refine al ?_;refine aM (α:=Nat×DiskM×RpM×List Int×Option Addr×Nat) (λy=>y.1<=(eP z0.L disk many).length/\y.2.2.2.1.length<=y.1/\Rep (t+y.1) y.2.1 y.2.2.1/\KInv (eP z0.L disk many) X z0 y.1 y.2.1 y.2.2.1 y.2.2.2.1) (λy=>U [(0,ptr b 0),(8,sl y.2.2.2.2.1 y.2.2.2.1.length y.2.2.2.2.2),(21,sl s21 (eP z0.L disk many).length c21),(22,I (eP z0.L disk many).length),(23,I y.1)]) (λy=>bi 3 1 y.2.2.2.2.1 y.2.2.2.2.2 (bz y.2.2.2.1)::dB b J y.2.2.1::cf 179 319 J y.2.1::bh ee::roL 1 s21 (bz (eP z0.L disk many))::F) (λy=>(eP z0.L disk many).length - y.1) (0,X,z0,[],none,0) ⟨by simp,by simp,by simpa using R0,KInv.start⟩ [0,8,21,22,23] rfl ?_;rintro ⟨k,D,z,gone,s8,c8⟩ ⟨hk,hgl,R,hI⟩;simp only[] at hk hgl R hI ⊢;refine gS (gV aI (ab (ac ?_)));apply ah<;>intro h24
  ·simp at h24;have hkn:k<(eP z0.L disk many).length:=(by omega);obtain ⟨id,O⟩:∃id,(eP z0.L disk many)[k]? =some id:=⟨_,Zu hkn⟩;refine ai (ac (al (gS (gV (ay k Vi Vb hkn (by rw[bW];exact hkn)) (gV (bI (v:=I id) Vc (by exact dN O) rR) (gQ (ac (gS (gM (gM (gR (vB call123 (nh b J z id)) (ab ?_))))))))))));apply ah<;>intro h29
   ·have V:eW z id=true:=h29;refine aF ?_;refine am (gP (gM (ab ?_)));exact ap (k+1,D,z,gone,s8,c8) ⟨by simp only[];omega,by simp only[];omega,⟨R.ok,R.s80,R.cal,by have:=R.ep;simp only[];omega,by have:=R.first;simp only[];omega,R.rows,R.rok⟩,hI.skip O V⟩ (by simp only[];omega) [0,8,21,22,23] rfl
   ·have V:eW z id=false:=(by simpa using h29);refine ai (gS (gM (gM (gI (uD (A0:=bh ee) call46 (nj b J 1000 z id R.rok D (R.dk (by omega)) (by omega))) ?_))));rintro _ _ ⟨e,Y,z2,Z,rfl,rfl⟩;refine gQ (ac (gS (gM (gV (ck Vl) (ab ?_)))));apply ah<;>intro h34
    ·have he:¬e=0:=(by simpa using h34);refine gS (gM (gA (gQ ?_)));refine bH 3 1 (bz []) ?_;exact an (bi 3 1 none 0 (bz [])::dB b J z2::cf 179 319 J (Y)::bh ee::F) rfl (.inr ⟨by omega,[],e,Y,z2,none,0,hI.err O V Z he,rfl,rfl⟩)
    ·have he:e=0:=(by simpa using h34);subst he;have R2:Rep (t+k+1) Y z2:=by
      rcases n9 R (by omega) Z with ⟨_,h,_⟩ | ⟨h,_⟩ | ⟨h,_⟩
      ·exact h
      ·exact absurd rfl h
      ·cases h
     refine ai (am (gM (gM (gI (av [[I id]] Vi Vb VL (by simp)) ?_))));rintro _ _ ⟨b38,rfl,rfl⟩;refine gI (bo Vi Vb VL Tryz.typeInfo3 (hn:=by exact bW _) (by simp) (by intro r hr;simp at hr;subst hr;rfl) ⟨by omega,by decide,by decide⟩) ?_;rintro _ _ ⟨s39,c39,rfl,rfl⟩;rw[show bz gone++ [[I id]]=bz (gone++ [id]) by simp[bz],show gone.length+1=(gone++ [id]).length by simp];refine gQ (aG (am (gP (gM (ab ?_)))));exact ap (k+1,Y,z2,gone++ [id],s39,c39) ⟨by simp only[];omega,by simp only[Z1,YF,kay];omega,by rw[<-YE];exact R2,hI.went O V Z⟩ (by simp only[];omega) [0,8,21,22,23] rfl
  ·simp at h24;obtain rfl:k=(eP z0.L disk many).length:=(by omega);refine aF ?_;refine gS (gM (gA (gQ ?_)));exact an (bi 3 1 s8 c8 (bz gone)::dB b J z::cf 179 319 J (D)::bh ee::F) rfl (.inr ⟨by omega,gone,0,D,z,s8,c8,hI.done,rfl,rfl⟩)
open Go Go.Sl Go.Proofs
def fD (N:Nat):DiskM:=(cv (lH N) (Ba N)).2
theorem ue (N:Nat):(lH N).now.length=N:=by simp[lH]
def PR (N:Nat):tw (lH N):=⟨λx hx=>by grind[lH,i8],λx hx=>by grind[lH,i8],λt ht=>by simp[lH] at ht⟩
def GX (N:Nat):u1 (lH N):=⟨rfl,rfl⟩
def M6 {N:Nat}(J:196<=N):cv (lH N) (Ba N)=(0,fD N):=Prod.ext (oP _ _ (GX N) (by grind[ue,yI])).1 rfl
def QL {N:Nat}(J:196<=N):u1 (fD N):=(oP _ _ (GX N) (by grind[ue,yI])).2.1
def Sn {N:Nat}(J:196<=N/\N<=260):Inv N (fD N) hd1 [] [] 0:=HU J (ue N) (oP _ _ (GX N) (by grind[ue,yI])).2.2
def Da {N:Nat}(J:196<=N):tw (fD N):=oV _ _ (PR N) (yI J)
def QM {N:Nat}(J:196<=N/\N<=260):nO N 300 (fD N):=jm (iK (Ba N) 0 (lH N) (HC N)) (by grind[Ba,Us,tz,List.length_nil])
def M7 {N:Nat}{D:DiskM}{h:HdM}{J:List ChangeM}{ds:dc}{used:Nat}(I:Inv N D h J ds used):(nQ D.now).ep≠0:=by
 rw[I.good.best];have:=I.good.ep;omega
end Go.Proofs.YthdjckbjjfiopabGreatDoor
namespace Go.Proofs.YthdjckbjjfiopabGreatDoor
open _root_.Go.Proofs.Tryz
open Go.Sl Go.Proofs
def QN (D:DiskM)(h:HdM)(used:Nat):Prop:=nO 200 1000 D/\tw D/\u1 D/\(∃r0 ds,Of 200 D h r0 ds used/\cur r0 ds=bD (bu gZ) [] 1)/\h.ep<=3/\h.first<=401
def Bs:bD (bu gZ) [] 1=[⟨[120],[48,48,49],false⟩]:=by
 have h1:bZ 40 (bu gZ).B=[]:=QE λq hq=>(by have:=(mem_ids.1 hq).2;cases this);have J:bZ 24 (bu gZ).N=[]:=QE λq hq=>(by have:=(mem_ids.1 hq).2;cases this);have O:jd 1=[48,48,49]:=y8 (u:=1) (by decide)
 grind[bD,dI,d6,vq]
def M8 {e:Int}{V:DiskM}{X:HdM}{J:Nat}{O:List ChangeM}(R:ED (fD 200) hd1 (cur [] []) (200 - 122) 0 (bD (bu gZ) [] 1) e V X J O):e=0/\QN V X J:=by
 have C:Of 200 (fD 200) hd1 [] [] 0:=O5 (by decide) (ue 200) (M6 (by decide));have S:xf (200 - 122) (cur [] []) (bD (bu gZ) [] 1)=0:=(by rw[Bs];decide);have Y:=LP (QL (by decide)) (Da (by decide)) C.2.1 (by decide) (by decide) R;have hk:=LS (QM (by decide)) (Da (by decide)) C.2.1 R;rcases II C (by decide) (by decide) S R with ⟨rfl,b1,b2,r2,d2,Z,e2,e3⟩ | ⟨h9,_⟩
 ·refine ⟨rfl,jm hk (by omega),Y.2.2.1,Y.2.1,⟨r2,d2,Z,?_⟩,?_,?_⟩
  ·rw[e2,e3,Bs];decide
  ·have:hd1.ep<=2:=(by decide);omega
  ·have:hd1.first<=201:=(by decide);omega
 grind
def T6 (bs bv rs rm:Nat)(w:World):(Instr.build 103 #[(0,ptr bs 0),(1,ptr bv 0),(2, .map (some rs)),(3, .map (some rm)),(4,I 1)]).run Tryz.prog w= .ok (.agg #[ptr bs 0,ptr bv 0, .map (some rs), .map (some rm),I 1]) w:=by
 simp[Instr.build,zeroValue103,runUnderlying103,Vb,sizeOf95,WQ,Xb,Xi,Instr.fill,bB,show ∀k:Int,(I k).cells=#[I k] from λ_=>rfl,show ∀k:Nat,(ptr k 0).cells=#[ptr k 0] from λ_=>rfl,show ∀r:Nat,(Value.map (some r)).cells=#[.map (some r)] from λ_=>rfl]
def zz {ee:Bool}(R:Nat)(F:List ag):Ct Tryz.prog 37 [ptr R 0] (bh ee::cf 179 319 R (lH 200)::F) (λv L'=>∃S h2 O,QN S h2 O/\v=bM 0/\L'=cf 179 319 R (S)::bh ee::F):=by
 have J:=Sn (N:=200) (by decide);refine Ct.of func37 rR 22 ntmps37 (by simp) λw0=>?_;refine gS (gQ (gS (gM (gI (uB call102 (wB R 200 0 (lH 200) (HC 200) (by decide) (by decide))) ?_))));rintro _ _ (⟨h1,_,_⟩ | ⟨_,e,D1,hr,rfl,rfl⟩)
 ·exact absurd h1 (by decide)
 rw[M6 (by decide)] at hr;injection hr with q1 q2;subst q1 q2;refine gQ (ac (gS (gM (gV (ck Vl) (ab ?_)))));apply ah<;>intro h8
 ·simp at h8
 ·refine ai (gS (gM (gI (uB call41 (rz R 200 (fD 200) (J.len) (by omega) ((Da (by decide)).2.1) (hd1) ([]) ([]) (0) (λ_ _ _=>J.good))) ?_)));rintro _ _ (⟨Y,_,_⟩ | ⟨_,V,_,_⟩ | ⟨_,_,he0,_,_⟩ | ⟨_,_,_,bs,bl,so,co,rfl,rfl⟩)
  ·rw[(QL (by decide)).1] at Y;cases Y
  ·exact absurd V (by decide)
  ·exact absurd he0 (M7 J)
  refine gM (gX (ptr bs 0) (gX (bM 0) (gA (gQ (ac (gS (gM (gV (ck (T:=117) (f:=0) Vl) (ab ?_)))))))));apply ah<;>intro h16
  ·simp at h16
  ·refine ai (gS (gM (gI (uA call105 (CX)) ?_)));rintro _ _ ⟨p0,rfl,rfl⟩;refine gI (uC (A0:=bh ee) call104 (nv (ee:=ee) p0 (bu gZ) [] 1 Con_z.sm)) ?_;rintro _ _ ⟨Z,c20,rfl,rfl⟩;refine bR Z ?_;refine gI (uF call103 (pw bs R hd1 bl so co (cur [] []) 200 300 0 (fD 200) (QM (by decide)) (by decide) (Da (by decide)) (by decide) (by decide) (by decide) (J.good.okC) (by decide) (J.good.srtC) (bD (bu gZ) [] 1) Z c20 (by rw[Bs];decide))) ?_;rintro _ _ ⟨e,S,h2,O,rows2,bl2,s2,cap2,X,rfl,rfl⟩;obtain ⟨rfl,hok⟩:=M8 X;refine gQ ?_;exact an (cf 179 319 R (S)::bh ee::F) rfl ⟨S,h2,O,hok,rfl,rfl⟩
def Db (R:Nat)(D:DiskM)(hx:HdM)(r0:List ChangeM)(ds:dc)(used:Nat)(S:SI)(L:List Pt)(n:Int)(G:Gh)(hdn:D.down=false)(hI:Inv 200 D hx r0 ds used)(hS:tw D)(Z:cur r0 ds=bD S L n)(hC:Con S L n G)(F:List ag):Ct Tryz.prog 10 [ptr R 0] (tabs::cf 179 319 R (D)::F) (λv L'=>∃b,v= .tuple #[ptr b 0,bM 0]/\L'=dB b R ⟨hx,used,bD S L n,S,L,n,[],[],1⟩::cf 179 319 R (D)::tabs::F):=by
 have hlen:=hC.v.len;have hrow:=n4 (S:=S) (n:=n) hlen;refine Ct.of func10 rR 30 ntmps10 (by simp) λw0=>?_;refine gS (gA (gQ (gS (gM (gI (uB call41 (rz R 200 (D) (hI.len) (by omega) (hS.2.1) (hx) (r0) (ds) (used) (λ_ _ _=>hI.good))) ?_)))));rintro _ _ (⟨hd2,_,_⟩ | ⟨_,Y,_,_⟩ | ⟨_,_,he0,_,_⟩ | ⟨_,_,_,bs,bl,so,co,rfl,rfl⟩)
 ·rw[hdn] at hd2;cases hd2
 ·exact absurd Y (by decide)
 ·exact absurd he0 (M7 hI)
 rw[Z];refine gM (gX (ptr bs 0) (gX (bM 0) (gA (gQ (ac (gS (gM (gV (ck (T:=117) (f:=0) Vl) (ab ?_)))))))));apply ah<;>intro h13
 ·simp at h13
 ·refine ai (gS (gM (gI (uC call43 (Aj bs R hx bl so co (bD S L n) (by omega))) ?_)));rintro _ _ ⟨s17,c17,rfl,rfl⟩;refine bR s17 ?_;refine gI (uC (A0:=tabs) call42 (zp (bD S L n) s17 c17 (by omega) (T3 hC))) ?_;rintro _ _ (⟨st,q3,V,hw,rfl,rfl⟩ | ⟨hno,rfl,rfl⟩);rotate_left
  ·exact absurd (zl hC).2 (hno _ (zl hC).1)
  rw[(zl hC).1] at V;injection V with V;subst V;change Go.Sl.G _ _ _ (gO q3 S L n::_);refine gM (gX (ptr q3 0) (gX (bM 0) (gA (gQ (ac (gS (gM (gV (ck (T:=117) (f:=0) Vl) (ab ?_)))))))));apply ah<;>intro h22
  ·simp at h22
  ·refine ai (gS (gM (gM (gI (fw) ?_))));rintro _ _ ⟨J,rfl,rfl⟩;refine gI (fw) ?_;rintro _ _ ⟨O,rfl,rfl⟩;refine gV (aR (T6 bs q3 J O)) (gI (di #[ptr bs 0,ptr q3 0, .map (some J), .map (some O),I 1]) ?_);rintro _ _ ⟨X,rfl,rfl⟩;refine gA (gQ ?_);refine pp J (fp []) (.refl _) ?_;refine pp O (fq []) (.refl _) ?_;refine tg Bq ?_;refine tg DM ?_;refine cw X R ⟨hx,used,bD S L n,S,L,n,[],[],1⟩ bs bl so co q3 J O ?_;exact an (dB X R ⟨hx,used,bD S L n,S,L,n,[],[],1⟩::cf 179 319 R (D)::tabs::F) rfl ⟨X,rfl,rfl⟩
def wn (F:List ag):Ct Tryz.prog 8 [] (tabs::F) (λv L'=>∃O b D z,v= .tuple #[ptr O 0,ptr b 0,Bo true]/\Rep 1 D z/\u1 D/\z=⟨z.h,z.used,bD (bu gZ) [] 1,bu gZ,[],1,[],[],1⟩/\L'=dB b O z::cf 179 319 O (D)::tabs::F):=by
 refine Ct.of func8 rR 34 ntmps8 (by simp) λw0=>?_;refine gS (gA (gA (gQ (gS (gI (uA call36 (Em 200)) ?_)))));rintro _ _ (⟨Y,_,_⟩ | ⟨_,O,rfl,rfl⟩)
 ·exact absurd (by omega) Y
 rw[show ((200:Int)).toNat=200 from rfl];refine gM (gX (ptr O 0) (gX (bM 0) (gA (gQ (ac (gS (gM (gV (ck (T:=117) (f:=0) Vl) (gM (bc (hw:=by simp) aq (bc (hw:=by simp) (rX underlying25) (gV cu (gM (bc (hw:=by simp) aq ?_))))))))))))));refine rQ (hw:=by simp) (cX (Pre:=[tabs,cf 179 319 O (lH 200)]) call37 (zz O)) ?_;rintro _ _ ⟨V,S,J,hok,rfl,rfl⟩;obtain ⟨r2,d2,Z,R⟩:=hok.2.2.2.1;refine bc (hw:=by simp) (ck (T:=117) (f:=0) Vl) (gV cu (ab ?_));apply ah<;>intro X
 ·simp at X
 ·refine ai (gS (gM (gI (uC (A0:=tabs) call10 (Db O V S r2 d2 J (bu gZ) [] 1 gZ hok.2.2.1.1 Z.2.1 hok.2.1 R Con_z)) ?_)));rintro _ _ ⟨b,rfl,rfl⟩;refine gM (gX (ptr b 0) (gX (bM 0) (gA (gQ (gS (gM (gM (gM (gV (fO (T:=117) (f:=0) Vl) (gM (bc (hw:=by simp) aq (bc (hw:=by simp) (OI underlying26 rR) (gV dD (gA (gA (gQ ?_))))))))))))))));exact an (dB b O ⟨S,J,bD (bu gZ) [] 1,bu gZ,[],1,[],[],1⟩::cf 179 319 O (V)::tabs::F) rfl ⟨O,b,V,⟨S,J,bD (bu gZ) [] 1,bu gZ,[],1,[],[],1⟩,rfl,⟨hok.1,hok.2.1,⟨r2,d2,Z,R⟩,by have:=hok.2.2.2.2.1;show S.ep<=_;omega,hok.2.2.2.2.2,rfl,⟨⟨gZ,Con_z⟩,by show (1:Int)<=1/\(1:Int)<=1000000;omega,(λe he=>by cases he),(λe he=>by cases he),(λe he=>by cases he)⟩⟩,hok.2.2.1,rfl,rfl⟩
def oa:ak:=[98,101,103,105,110]
def oc:ak:=[112,117,116]
def od:ak:=[102,105,110,105,115,104]
def oe:ak:=[97,98,111,114,116]
def og:ak:=[97,103,97,105,110]
def oh:ak:=[100,114,111,112]
def ol:ak:=[107,101,101,112]
def om:ak:=[109,111,117,110,116]
def oo:ak:=[117,110,109,111,117,110,116]
def pC:ak:=[114,101,97,100]
def pE:ak:=[119,114,105,116,101]
def qr:ak:=[115,97,118,101]
def kN (l:List Int):Int:=l.foldl (λn i=>1000*n+i) 0
def QO (D:DiskM)(z:RpM)(e:Int)(D2:DiskM)(z2:RpM):Prop:=cv D (wk (eE z.h z.rows (200 - 122)) (bK z.rows))=(e,D2)/\((e≠0/\z2=z)\/(e=0/\∃ds used',used'<=200 - 122/\dh (z.h.first+(200 - 122)) (oR D2 122) (200 - 122) 0 [] [] 0=(ds,used')/\z2=⟨eE z.h z.rows (200 - 122),used',z.rows,z.S,z.L,z.n,z.ses,z.mou,z.next⟩))
def gq (D:DiskM)(z:RpM)(x:ActM)(n:Int)(s:ak)(e:Int)(D2:DiskM)(z2:RpM):Prop:=
 if x.kind=oa then s=[]/\D2=D/\((ce z x.a x.b x.c≠0/\n=0/\e=ce z x.a x.b x.c/\z2=z)\/(ce z x.a x.b x.c=0/\n=z.next/\e=0/\∃a,z2=z.begun a x.a x.b x.c))
 else if x.kind=oc then n=0/\s=[]/\D2=D/\((dQ z x.a x.b x.s≠0/\e=dQ z x.a x.b x.s/\z2=z)\/(dQ z x.a x.b x.s=0/\e=0/\∃so co,z2=z.putted x.a x.b x.s so co))
 else if x.kind=od then s=[]/\zy D z x.a n e D2 z2
 else if x.kind=oe then n=0/\s=[]/\D2=D/\((gk z.ses x.a=none/\e=5/\z2=z)\/(∃y,gk z.ses x.a=some y/\e=0/\z2=z.sess (lR z.ses x.a)))
 else if x.kind=og then s=[]/\qq D z x.a n e D2 z2
 else if x.kind=oh then n=0/\s=[]/\pB D z x.a e D2 z2
 else if x.kind=ol then s=[]/\((x.b<0/\n=0/\e=1/\D2=D/\z2=z)\/(0<=x.b/\∃gone,jf (eP z.L x.a x.b) D z gone e D2 z2/\n=kN gone))
 else if x.kind=om then s=[]/\D2=D/\((e9 z x.a≠0/\n=0/\e=e9 z x.a/\z2=z)\/(e9 z x.a=0/\n=z.next/\e=0/\∃a r,z2=z.mounted a r x.a))
 else if x.kind=oo then n=0/\s=[]/\D2=D/\((ng z.mou x.a=none/\e=5/\z2=z)\/(∃y,ng z.mou x.a=some y/\e=0/\z2=z.moun (DL z.mou x.a)))
 else if x.kind=pC then n=0/\s=(dw z x.a x.b).1/\e=(dw z x.a x.b).2/\D2=D/\z2=z
 else if x.kind=pE then n=0/\s=[]/\D2=D/\((ei z x.a x.b x.s≠0/\e=ei z x.a x.b x.s/\z2=z)\/(ei z x.a x.b x.s=0/\e=0/\z2=z.written x.a x.b x.s))
 else if x.kind=qr then n=0/\s=[]/\QO D z e D2 z2
 else n=0/\s=[]/\e=0/\D2=D/\z2=z
def zA:∀{l:List Int} {D J:DiskM} {z z2:RpM} {gone:List Int} {e:Int},jf l D z gone e J z2->gone.length<=l.length/\∀g∈gone,g∈l
 | [],_,_,_,_,_,_,h=>by rw[h.1];simp
 | id::l,D,J,z,z2,gone,e,h=>by
  unfold jf at h;split at h
  ·have:=zA h
   grind
  ·obtain ⟨R,D1,V,_,h⟩:=h;rcases h with ⟨_,O,_⟩ | ⟨_,S,hk,O⟩
   ·rw[O];simp
   ·have:=zA hk
    grind
theorem Kh (l:List Int)(i:Int):kN (l++ [i])=1000*kN l+i:=by grind[kN]
theorem oq {l:List Int}{k:Nat}{i:Int}(h:l[k]? =some i):kN (l.take (k+1))=1000*kN (l.take k)+i:=by
 grind[Kh,List.take_add_one]
def M9 {S:SI}{L:List Pt}{n:Int}{G:Gh}(hC:Con S L n G){disk many:Int}:∀g∈eP L disk many,1<=g/\g<=999:=λg J=>by
 unfold eP at J;have h1:=Zc J;obtain ⟨p,hp,rfl⟩:=Zz.1 h1;have:=hC.v.pts p (ZV.1 hp).1;have:=hC.v.n1;omega
def uf {l:List Int}(h:∀g∈l,1<=g/\g<=999)(hl:l.length<=6):∀k,k<=l.length->0<=kN (l.take k)/\kN (l.take k)<((1000 ^ k:Nat):Int)
 | 0,_=>by simp[kN]
 | k+1,hk=>by
  have J:=uf h hl k (by omega);have hx:l[k]? =some l[k]:=Zu (by omega)
  grind[List.getElem_mem,oq]
def Ki {ee:Bool}(b Z t:Nat)(z:RpM)(D:DiskM)(x:ActM)(y:ActZ)(R:Rep t D z)(ht:t<=90000)(hxs:x.s.length<=9223372036854775807)(hxb:x.b<=9223372036854775807)(F:List ag):Ct Tryz.prog 12 [ptr b 0, .agg (fP x y).toArray] (bh ee::dB b Z z::cf 179 319 Z (D)::F) (λv L'=>∃n s e D2 z2,gq D z x n s e D2 z2/\v= .tuple #[I n,aC s,bM e]/\L'=dB b Z z2::cf 179 319 Z (D2)::bh ee::F):=by
 refine Ct.of func12 rR 152 ntmps12 (by simp) λw0=>?_;refine gS (gI (di (fP x y).toArray) ?_);rintro _ _ ⟨b3,rfl,rfl⟩;refine gA (gA (gQ (ac (gS (gF 0 Vm rR Vh (gL (aC x.kind) Vj (ab (al (gS (gV cj (gQ ?_)))))))))));apply ah<;>intro h23
 ·have J:x.kind=oa:=(by simpa [oa] using h23);refine gS (gM (gF 2 Vm rR Vb (gL (I x.a) Vc (gF 3 Vm rR Vb (gL (I x.b) Vc (gF 4 Vm rR Vb (gL (I x.c) Vc (gI (uB call31 (mD b Z z x.a x.b x.c R.rok)) ?_))))))));rintro _ _ (⟨he,rfl,rfl⟩ | ⟨he,a,rfl,rfl⟩)
  ·refine gM (gX (I 0) (gX (bM (ce z x.a x.b x.c)) (gA (gQ (gS (gM (gM (gA (gA (gQ ?_))))))))));exact an (dB b Z (z)::cf 179 319 Z (D)::bh ee::F) rfl ⟨0,[],ce z x.a x.b x.c,D,z,by unfold gq;rw[YB J];exact ⟨rfl,rfl, .inl ⟨he,rfl,rfl,rfl⟩⟩,rfl,rfl⟩
  ·refine gM (gX (I z.next) (gX (bM 0) (gA (gQ (gS (gM (gM (gA (gA (gQ ?_))))))))));exact an (dB b Z (z.begun a x.a x.b x.c)::cf 179 319 Z (D)::bh ee::F) rfl ⟨z.next,[],0,D,z.begun a x.a x.b x.c,by unfold gq;rw[YB J];exact ⟨rfl,rfl, .inr ⟨he,rfl,rfl,a,rfl⟩⟩,rfl,rfl⟩
 ·have J:¬x.kind=oa:=(by simpa [oa] using h23);refine gS (gV cj (gQ ?_));apply ah<;>intro h38
  ·have O:x.kind=oc:=(by simpa [oc] using h38);refine gS (gM (gF 2 Vm rR Vb (gL (I x.a) Vc (gF 3 Vm rR Vb (gL (I x.b) Vc (gF 1 Vm rR Vh (gL (aC x.s) Vj (gI (uB call32 (n8 b Z z x.a x.b x.s R.rok hxs)) ?_))))))));rintro _ _ (⟨he,rfl,rfl⟩ | ⟨he,so,co,rfl,rfl⟩)
   ·refine gA (gA (gQ ?_));exact an (dB b Z (z)::cf 179 319 Z (D)::bh ee::F) rfl ⟨0,[],dQ z x.a x.b x.s,D,z,by unfold gq;rw[YC J,YB O];exact ⟨rfl,rfl,rfl, .inl ⟨he,rfl,rfl⟩⟩,rfl,rfl⟩
   ·refine gA (gA (gQ ?_));exact an (dB b Z (z.putted x.a x.b x.s so co)::cf 179 319 Z (D)::bh ee::F) rfl ⟨0,[],0,D,z.putted x.a x.b x.s so co,by unfold gq;rw[YC J,YB O];exact ⟨rfl,rfl,rfl, .inr ⟨he,rfl,so,co,rfl⟩⟩,rfl,rfl⟩
  ·have O:¬x.kind=oc:=(by simpa [oc] using h38);refine gS (gV cj (gQ ?_));apply ah<;>intro h48
   ·have V:x.kind=od:=(by simpa [od] using h48);refine gS (gM (gF 2 Vm rR Vb (gL (I x.a) Vc (gI (uD (A0:=bh ee) call33 (lD b Z 1000 z x.a R.rok D (R.dk (by omega)) (by omega))) ?_))));rintro _ _ ⟨n,e,D2,z2,hf,rfl,rfl⟩
    ·refine gM (gX (I n) (gX (bM e) (gA (gQ (gS (gM (gM (gA (gA (gQ ?_))))))))));exact an (dB b Z (z2)::cf 179 319 Z (D2)::bh ee::F) rfl ⟨n,[],e,D2,z2,by unfold gq;rw[YC J,YC O,YB V];exact ⟨rfl,hf⟩,rfl,rfl⟩
   ·have V:¬x.kind=od:=(by simpa [od] using h48);refine gS (gV cj (gQ ?_));apply ah<;>intro h59
    ·have X:x.kind=oe:=(by simpa [oe] using h59);refine gS (gM (gF 2 Vm rR Vb (gL (I x.a) Vc (gI (uB call44 (jq b Z z x.a)) ?_))));rintro _ _ (⟨he,rfl,rfl⟩ | ⟨w,he,rfl,rfl⟩)
     ·refine gA (gA (gQ ?_));exact an (dB b Z (z)::cf 179 319 Z (D)::bh ee::F) rfl ⟨0,[],5,D,z,by unfold gq;rw[YC J,YC O,YC V,YB X];exact ⟨rfl,rfl,rfl, .inl ⟨he,rfl,rfl⟩⟩,rfl,rfl⟩
     ·refine gA (gA (gQ ?_));exact an (dB b Z (z.sess (lR z.ses x.a))::cf 179 319 Z (D)::bh ee::F) rfl ⟨0,[],0,D,z.sess (lR z.ses x.a),by unfold gq;rw[YC J,YC O,YC V,YB X];exact ⟨rfl,rfl,rfl, .inr ⟨w,he,rfl,rfl⟩⟩,rfl,rfl⟩
    ·have X:¬x.kind=oe:=(by simpa [oe] using h59);refine gS (gV cj (gQ ?_));apply ah<;>intro h65
     ·have Y:x.kind=og:=(by simpa [og] using h65);refine gS (gM (gF 2 Vm rR Vb (gL (I x.a) Vc (gI (uD (A0:=bh ee) call45 (su b Z 1000 z x.a R.rok D (R.dk (by omega)) (by omega))) ?_))));rintro _ _ ⟨n,e,D2,z2,hf,rfl,rfl⟩
      ·refine gM (gX (I n) (gX (bM e) (gA (gQ (gS (gM (gM (gA (gA (gQ ?_))))))))));exact an (dB b Z (z2)::cf 179 319 Z (D2)::bh ee::F) rfl ⟨n,[],e,D2,z2,by unfold gq;rw[YC J,YC O,YC V,YC X,YB Y];exact ⟨rfl,hf⟩,rfl,rfl⟩
     ·have Y:¬x.kind=og:=(by simpa [og] using h65);refine gS (gV cj (gQ ?_));apply ah<;>intro h76
      ·have hkDrp:x.kind=oh:=(by simpa [oh] using h76);refine gS (gM (gF 2 Vm rR Vb (gL (I x.a) Vc (gI (uD (A0:=bh ee) call46 (nj b Z 1000 z x.a R.rok D (R.dk (by omega)) (by omega))) ?_))));rintro _ _ ⟨e,D2,z2,hf,rfl,rfl⟩
       ·refine gA (gA (gQ ?_));exact an (dB b Z (z2)::cf 179 319 Z (D2)::bh ee::F) rfl ⟨0,[],e,D2,z2,by unfold gq;rw[YC J,YC O,YC V,YC X,YC Y,YB hkDrp];exact ⟨rfl,rfl,hf⟩,rfl,rfl⟩
      ·have hkDrp:¬x.kind=oh:=(by simpa [oh] using h76);refine gS (gV cj (gQ ?_));apply ah<;>intro h82
       ·have hkKee:x.kind=ol:=(by simpa [ol] using h82);refine gS (gM (gF 2 Vm rR Vb (gL (I x.a) Vc (gF 3 Vm rR Vb (gL (I x.b) Vc (gI (uD (A0:=bh ee) call47 (ud b Z t z D x.a x.b R ht hxb)) ?_))))));rintro _ _ (⟨hm,rfl,rfl⟩ | ⟨hm,gone,e,D2,z2,s90,c90,hkp,rfl,rfl⟩)
        ·obtain ⟨gone,hg0⟩:∃g:List Int,g=[]:=⟨_,rfl⟩;have hids:∀g∈gone,1<=g/\g<=999:=(by rw[hg0];simp);have hgl:gone.length<=6:=(by rw[hg0];simp);refine bH 3 1 (bz gone) (hr:=by rw[hg0];rfl) ?_;rw[show (sl none 0 0)=sl none gone.length 0 by rw[hg0];rfl];refine gM (gX (sl none gone.length 0) (gX (bM 1) (gA (gQ (gS (gQ (ac (gS (gQ (al ?_))))))))));refine aM (α:=Nat) (λk=>k<=(gone).length) (λk=>U [(13,sl none (gone).length 0),(14,bM 1),(15,I (kN ((gone).take k))),(16,I k)]) (λk=>bi 3 1 none 0 (bz (gone))::dB b Z z::cf 179 319 Z (D)::bh ee::F) (λk=>(gone).length - k) 0 (by simp) [13,14,15,16] rfl ?_;rintro k hk;refine ac (gS (gM (gM (gV (aX Vi) (gV aI (ab ?_))))));apply ah<;>intro h96
         ·simp at h96;have hkn:k<gone.length:=(by omega);obtain ⟨i,hik⟩:∃i,gone[k]? =some i:=⟨_,Zu hkn⟩;have hib:=hids i (YW hik);have hnb:=uf hids hgl k (by omega);have hpw:1000 ^ k<=1000 ^ 5:=Ze (by decide) (by omega);have hp5:1000 ^ 5=1000000000000000:=(by decide);rw[hp5] at hpw;refine ai (ac (al (am (gM (gV (j5 (r:=1000*kN (gone.take k)) (da (by omega))) (gM (gM (gV (ay k Vi Vb hkn (by rw[bW];exact hkn)) (gV (bI (v:=I i) Vc (by exact dN hik) rR) (gV (bO (r:=kN (gone.take (k+1))) (by rw[oq hik];exact da (by omega))) (gQ (aG (am (gM (gP (gQ ?_))))))))))))))));exact ap (k+1) (by omega) (by omega) [13,14,15,16] rfl
         ·simp at h96;obtain rfl:k=gone.length:=(by omega);refine aF ?_;refine gS (gM (gM (gA (gA (gQ ?_)))));subst hg0;exact an (dB b Z (z)::cf 179 319 Z (D)::bh ee::F) rfl ⟨0,[],1,D,z,by unfold gq;rw[YC J,YC O,YC V,YC X,YC Y,YC hkDrp,YB hkKee];exact ⟨rfl, .inl ⟨hm,rfl,rfl,rfl,rfl⟩⟩,rfl,rfl⟩
        ·obtain ⟨G0,hC⟩:=R.rok.con;have hks:=zA hkp;have hel:=q6 z.L x.a x.b hC.v.len;have hgl:gone.length<=6:=(by omega);have hids:∀g∈gone,1<=g/\g<=999:=λg hg=>M9 hC g (hks.2 g hg);refine gM (gX (sl s90 gone.length c90) (gX (bM e) (gA (gQ (gS (gQ (ac (gS (gQ (al ?_))))))))));refine aM (α:=Nat) (λk=>k<=(gone).length) (λk=>U [(13,sl s90 (gone).length c90),(14,bM e),(15,I (kN ((gone).take k))),(16,I k)]) (λk=>bi 3 1 s90 c90 (bz (gone))::dB b Z z2::cf 179 319 Z (D2)::bh ee::F) (λk=>(gone).length - k) 0 (by simp) [13,14,15,16] rfl ?_;rintro k hk;refine ac (gS (gM (gM (gV (aX Vi) (gV aI (ab ?_))))));apply ah<;>intro h96
         ·simp at h96;have hkn:k<gone.length:=(by omega);obtain ⟨i,hik⟩:∃i,gone[k]? =some i:=⟨_,Zu hkn⟩;have hib:=hids i (YW hik);have hnb:=uf hids hgl k (by omega);have hpw:1000 ^ k<=1000 ^ 5:=Ze (by decide) (by omega);have hp5:1000 ^ 5=1000000000000000:=(by decide);rw[hp5] at hpw;refine ai (ac (al (am (gM (gV (j5 (r:=1000*kN (gone.take k)) (da (by omega))) (gM (gM (gV (ay k Vi Vb hkn (by rw[bW];exact hkn)) (gV (bI (v:=I i) Vc (by exact dN hik) rR) (gV (bO (r:=kN (gone.take (k+1))) (by rw[oq hik];exact da (by omega))) (gQ (aG (am (gM (gP (gQ ?_))))))))))))))));exact ap (k+1) (by omega) (by omega) [13,14,15,16] rfl
         ·simp at h96;obtain rfl:k=gone.length:=(by omega);refine aF ?_;refine gS (gM (gM (gA (gA (gQ ?_)))));exact an (dB b Z (z2)::cf 179 319 Z (D2)::bh ee::F) rfl ⟨kN (gone.take gone.length),[],e,D2,z2,by unfold gq;rw[YC J,YC O,YC V,YC X,YC Y,YC hkDrp,YB hkKee];exact ⟨rfl, .inr ⟨hm,gone,hkp,by rw[Y3]⟩⟩,rfl,rfl⟩
       ·have hkKee:¬x.kind=ol:=(by simpa [ol] using h82);refine gS (gV cj (gQ ?_));apply ah<;>intro h108
        ·have hkMou:x.kind=om:=(by simpa [om] using h108);refine gS (gM (gF 2 Vm rR Vb (gL (I x.a) Vc (gI (uB call48 (sq b Z z x.a R.rok)) ?_))));rintro _ _ (⟨he,rfl,rfl⟩ | ⟨he,a,r,rfl,rfl⟩)
         ·refine gM (gX (I 0) (gX (bM (e9 z x.a)) (gA (gQ (gS (gM (gM (gA (gA (gQ ?_))))))))));exact an (dB b Z (z)::cf 179 319 Z (D)::bh ee::F) rfl ⟨0,[],e9 z x.a,D,z,by unfold gq;rw[YC J,YC O,YC V,YC X,YC Y,YC hkDrp,YC hkKee,YB hkMou];exact ⟨rfl,rfl, .inl ⟨he,rfl,rfl,rfl⟩⟩,rfl,rfl⟩
         ·refine gM (gX (I z.next) (gX (bM 0) (gA (gQ (gS (gM (gM (gA (gA (gQ ?_))))))))));exact an (dB b Z (z.mounted a r x.a)::cf 179 319 Z (D)::bh ee::F) rfl ⟨z.next,[],0,D,z.mounted a r x.a,by unfold gq;rw[YC J,YC O,YC V,YC X,YC Y,YC hkDrp,YC hkKee,YB hkMou];exact ⟨rfl,rfl, .inr ⟨he,rfl,rfl,a,r,rfl⟩⟩,rfl,rfl⟩
        ·have hkMou:¬x.kind=om:=(by simpa [om] using h108);refine gS (gV cj (gQ ?_));apply ah<;>intro h119
         ·have hkUnm:x.kind=oo:=(by simpa [oo] using h119);refine gS (gM (gF 2 Vm rR Vb (gL (I x.a) Vc (gI (uB call49 (qp b Z z x.a)) ?_))));rintro _ _ (⟨he,rfl,rfl⟩ | ⟨w,he,rfl,rfl⟩)
          ·refine gA (gA (gQ ?_));exact an (dB b Z (z)::cf 179 319 Z (D)::bh ee::F) rfl ⟨0,[],5,D,z,by unfold gq;rw[YC J,YC O,YC V,YC X,YC Y,YC hkDrp,YC hkKee,YC hkMou,YB hkUnm];exact ⟨rfl,rfl,rfl, .inl ⟨he,rfl,rfl⟩⟩,rfl,rfl⟩
          ·refine gA (gA (gQ ?_));exact an (dB b Z (z.moun (DL z.mou x.a))::cf 179 319 Z (D)::bh ee::F) rfl ⟨0,[],0,D,z.moun (DL z.mou x.a),by unfold gq;rw[YC J,YC O,YC V,YC X,YC Y,YC hkDrp,YC hkKee,YC hkMou,YB hkUnm];exact ⟨rfl,rfl,rfl, .inr ⟨w,he,rfl,rfl⟩⟩,rfl,rfl⟩
         ·have hkUnm:¬x.kind=oo:=(by simpa [oo] using h119);refine gS (gV cj (gQ ?_));apply ah<;>intro h125
          ·have hkRea:x.kind=pC:=(by simpa [pC] using h125);refine gS (gM (gF 2 Vm rR Vb (gL (I x.a) Vc (gF 3 Vm rR Vb (gL (I x.b) Vc (gR (vB call50 (ni b Z z x.a x.b R.rok)) ?_))))))
           ·refine gM (gX (aC (dw z x.a x.b).1) (gX (bM (dw z x.a x.b).2) (gA (gQ (gS (gM (gM (gA (gA (gQ ?_))))))))));exact an (dB b Z (z)::cf 179 319 Z (D)::bh ee::F) rfl ⟨0,(dw z x.a x.b).1,(dw z x.a x.b).2,D,z,by unfold gq;rw[YC J,YC O,YC V,YC X,YC Y,YC hkDrp,YC hkKee,YC hkMou,YC hkUnm,YB hkRea];exact ⟨rfl,rfl,rfl,rfl,rfl⟩,rfl,rfl⟩
          ·have hkRea:¬x.kind=pC:=(by simpa [pC] using h125);refine gS (gV cj (gQ ?_));apply ah<;>intro h138
           ·have hkWri:x.kind=pE:=(by simpa [pE] using h138);refine gS (gM (gF 2 Vm rR Vb (gL (I x.a) Vc (gF 3 Vm rR Vb (gL (I x.b) Vc (gF 1 Vm rR Vh (gL (aC x.s) Vj (gI (uB call51 (sr b Z z x.a x.b x.s R.rok hxs)) ?_))))))));rintro _ _ (⟨he,rfl,rfl⟩ | ⟨he,rfl,rfl⟩)
            ·refine gA (gA (gQ ?_));exact an (dB b Z (z)::cf 179 319 Z (D)::bh ee::F) rfl ⟨0,[],ei z x.a x.b x.s,D,z,by unfold gq;rw[YC J,YC O,YC V,YC X,YC Y,YC hkDrp,YC hkKee,YC hkMou,YC hkUnm,YC hkRea,YB hkWri];exact ⟨rfl,rfl,rfl, .inl ⟨he,rfl,rfl⟩⟩,rfl,rfl⟩
            ·refine gA (gA (gQ ?_));exact an (dB b Z (z.written x.a x.b x.s)::cf 179 319 Z (D)::bh ee::F) rfl ⟨0,[],0,D,z.written x.a x.b x.s,by unfold gq;rw[YC J,YC O,YC V,YC X,YC Y,YC hkDrp,YC hkKee,YC hkMou,YC hkUnm,YC hkRea,YB hkWri];exact ⟨rfl,rfl,rfl, .inr ⟨he,rfl,rfl⟩⟩,rfl,rfl⟩
           ·have hkWri:¬x.kind=pE:=(by simpa [pE] using h138);refine gS (gV cj (gQ ?_));apply ah<;>intro h148
            ·have hkSav:x.kind=qr:=(by simpa [qr] using h148);refine gS (gM (gI (uC call52 (uc b Z 1000 z D (R.dk (by omega)) (by omega))) ?_));rintro _ _ ⟨e,D2,hrun,rfl,hcase⟩;rcases hcase with ⟨hne,rfl⟩ | ⟨he0,ds,used2,hu2,hsc,rfl⟩
             ·refine gA (gA (gQ ?_));exact an (dB b Z (z)::cf 179 319 Z (D2)::bh ee::F) rfl ⟨0,[],e,D2,z,by unfold gq;rw[YC J,YC O,YC V,YC X,YC Y,YC hkDrp,YC hkKee,YC hkMou,YC hkUnm,YC hkRea,YC hkWri,YB hkSav];exact ⟨rfl,rfl,hrun, .inl ⟨hne,rfl⟩⟩,rfl,rfl⟩
             ·refine gA (gA (gQ ?_));exact an (dB b Z (⟨eE z.h z.rows (200 - 122),used2,z.rows,z.S,z.L,z.n,z.ses,z.mou,z.next⟩)::cf 179 319 Z (D2)::bh ee::F) rfl ⟨0,[],e,D2,⟨eE z.h z.rows (200 - 122),used2,z.rows,z.S,z.L,z.n,z.ses,z.mou,z.next⟩,by unfold gq;rw[YC J,YC O,YC V,YC X,YC Y,YC hkDrp,YC hkKee,YC hkMou,YC hkUnm,YC hkRea,YC hkWri,YB hkSav];exact ⟨rfl,rfl,hrun, .inr ⟨he0,ds,used2,hu2,hsc,rfl⟩⟩,rfl,rfl⟩
            ·have hkSav:¬x.kind=qr:=(by simpa [qr] using h148);refine ai (aG (gS (gA (gA (gQ ?_)))));exact an (dB b Z (z)::cf 179 319 Z (D)::bh ee::F) rfl ⟨0,[],0,D,z,by unfold gq;rw[YC J,YC O,YC V,YC X,YC Y,YC hkDrp,YC hkKee,YC hkMou,YC hkUnm,YC hkRea,YC hkWri,YC hkSav];exact ⟨rfl,rfl,rfl,rfl,rfl⟩,rfl,rfl⟩
theorem Rep.le {t J:Nat}{D:DiskM}{z:RpM}(R:Rep t D z)(h:t<=J):Rep J D z:=⟨R.ok,R.s80,R.cal,by have:=R.ep;omega,by have:=R.first;omega,R.rows,R.rok⟩
def Na {e:SeE}{at_:Int}{d:ak}{so:Option Addr}{co:Nat}(h:SOk e)(J:¬(at_<0\/e.size<=at_))(hd:¬6<d.length):SOk ⟨e.key,e.a,so,co,e.base,e.disk,e.size,iP e.puts at_ d⟩:=by
 refine ⟨h.size,?_,λp hp=>?_⟩
 ·show ((iP e.puts at_ d).map (·.at_)).Nodup;unfold iP;rw[Yu,ZK];refine ⟨ZC (ZD _ ZE) h.nodup,by simp,λa J b O=>?_⟩
  grind
 ·have hp:p∈iP e.puts at_ d:=hp;unfold iP at hp;rcases Zn.1 hp with hp | hp
  ·exact h.rng p (ZV.1 hp).1
  grind
theorem Rep.turn {t J:Nat}{D:DiskM}{z:RpM}(R:Rep t D z)(h:t<=J)(ses:List SeE)(mou:List MoE)(next:Int)(hn:1<=next/\next<=1000000)(hs:∀e∈ses,(1<=e.key/\e.key<next)/\SOk e)(hm:∀e∈mou,1<=e.key/\e.key<next):Rep J D ⟨z.h,z.used,z.rows,z.S,z.L,z.n,ses,mou,next⟩:=
 ⟨R.ok,R.s80,R.cal,by have:=R.ep;show z.h.ep<=_;omega,by have:=R.first;grind,R.rows,⟨R.rok.con,hn,λe he=>(hs e he).1,hm,λe he=>(hs e he).2⟩⟩
def q8 {α:Type}{l:List α}{i:Nat}{a x:α}(h:x∈l.set i a):x∈l\/x=a:=Y0 h
def Dc {S:SI}{L:List Pt}{n base disk size:Int}{puts:List PutM}{G:Gh}{J:SI}{L':List Pt}{O r:Int}(h:Vok S L n G)(e:ig S L n base disk size puts= .ok (J,L',O,r)):∀p∈L,p∈L':=λp hp=>by
 grind[CN]
def Dd {S:SI}{L:List Pt}{n id:Int}{G:Gh}{J:SI}{L':List Pt}{O r:Int}(h:Vok S L n G)(e:lM S L n id= .ok (J,L',O,r)):∀p∈L,p∈L':=λp hp=>by
 grind[CO]
structure Up (t:Nat) (D:DiskM) (z:RpM):Prop where
 rep:Rep t D z
 up:u1 D
 next:z.next<=1+t
theorem Up.le {t J:Nat}{D:DiskM}{z:RpM}(R:Up t D z)(h:t<=J):Up J D z:=⟨R.rep.le h,R.up,by have:=R.next;omega⟩
theorem Up.drop {t:Nat}{D J:DiskM}{z z2:RpM}{id e:Int}(R:Up t D z)(ht:t<=90000)(k:pB D z id e J z2):Up (t+1) J z2:=by
 rcases n9 R.rep (by omega) k with ⟨_,h1,O,_,_,_,_,S⟩ | ⟨_,_,_,rfl,rfl⟩ | ⟨_,h,_⟩
 ·exact ⟨h1,O R.up,by rw[S];have:=R.next;omega⟩
 ·exact R.le (by omega)
 ·exact absurd R.up h
theorem Up.keep:∀{l:List Int} {t:Nat} {D J:DiskM} {z z2:RpM} {gone:List Int} {e:Int},Up t D z->t+l.length<=90000->jf l D z gone e J z2->Up (t+l.length) J z2
 | [],t,_,_,_,_,_,_,R,_,h=>by obtain ⟨_,_,rfl,rfl⟩:=h;exact R
 | id::l,t,D,J,z,z2,gone,e,R,ht,h=>by
  simp only[YF] at ht ⊢;unfold jf at h;split at h
  ·exact (Up.keep R (by omega) h).le (by omega)
  ·obtain ⟨O,D1,V,hd,h⟩:=h;have R1:=R.drop (by omega) hd;rcases h with ⟨_,_,_,rfl,rfl⟩ | ⟨_,S,hk,_⟩
   ·exact R1.le (by omega)
   ·exact (Up.keep R1 (by omega) hk).le (by omega)
theorem Up.kept {t:Nat}{D X:DiskM}{z z2:RpM}{O:SI}{L':List Pt}{V e:Int}{Y:Gh}(R:Up t D z)(ht:t<=90000)(J:Con O L' V Y)(h1:∀p∈z.L,p∈L')(k:Fk D z O L' V e X z2):e=0/\Up (t+1) X z2/\z2.S=O/\z2.L=L'/\z2.n=V/\z2.ses=z.ses/\z2.mou=z.mou/\z2.next=z.next:=by
 rcases Br R.rep (by omega) J (P:=L') (by have:=J.v.len;omega) h1 (λp hp=>hp) k with ⟨Z,a2,a3,a4,a5,a6,a7,a8,a9⟩ | ⟨_,h,_⟩
 ·exact ⟨Z,⟨a2,a3 R.up,by rw[a9];have:=R.next;omega⟩,a4,a5,a6,a7,a8,a9⟩
 ·exact absurd R.up h
theorem Up.save {t:Nat}{D X:DiskM}{z z2:RpM}{e:Int}(R:Up t D z)(ht:t<=90000)(k:QO D z e X z2):Up (t+1) X z2:=by
 obtain ⟨hr,k⟩:=k;obtain ⟨r0,ds,C,J⟩:=R.rep.cal;have hep:=R.rep.ep;have hfi:=R.rep.first;rw[<-J] at hr;have hs:=RJ R.rep.ok R.rep.s80 C.2.1 hr;obtain ⟨D1,Y,q2,q3⟩:=LO R.up C.2.1 (by omega) (by omega);rw[Y] at hr;injection hr with h1 Z;subst h1 Z;rcases EK C.1 C.2.1 C.2.2 (by omega) (by omega) Y with ⟨_,O⟩ | ⟨h9,_⟩
 ·rcases k with ⟨hx,_⟩ | ⟨_,d',u',_,V,rfl⟩
  ·exact absurd rfl hx
  ·have S:=O.2.1.good.log;rw[O.2.1.len] at S;have hu:=(vc V S).2;subst hu;rw[J] at O;exact ⟨⟨Fq hs.1 O.1,hs.2,⟨z.rows,[],O,rfl⟩,by show z.h.ep+1<=_;omega,by show z.h.first+(200 - 122)<=_;omega,R.rep.rows,⟨R.rep.rok.con,R.rep.rok.next,R.rep.rok.keyS,R.rep.rok.keyM,R.rep.rok.sesS⟩⟩,q2,by have:=R.next;show z.next<=_;omega⟩
 ·cases h9
def De {t:Nat}{D:DiskM}{z:RpM}(R:Up t D z)(l:List SeE)(h:∀e∈l,e∈z.ses):Up t D (z.sess l):=
 ⟨R.rep.turn (Yf _) l z.mou z.next R.rep.rok.next (λe he=>⟨R.rep.rok.keyS e (h e he),R.rep.rok.sesS e (h e he)⟩) R.rep.rok.keyM,R.up,R.next⟩
def Df {t:Nat}{D:DiskM}{z:RpM}(R:Up t D z)(l:List MoE)(h:∀e∈l,1<=e.key/\e.key<z.next):Up t D (z.moun l):=
 ⟨R.rep.turn (Yf _) z.ses l z.next R.rep.rok.next (λe he=>⟨R.rep.rok.keyS e he,R.rep.rok.sesS e he⟩) h,R.up,R.next⟩
def Kj {t:Nat}{D D2:DiskM}{z z2:RpM}{x:ActM}{n e:Int}{s:ak}(R:Up t D z)(ht:t<=80000)(k:gq D z x n s e D2 z2):Up (t+7) D2 z2:=by
 have hnx:=R.next;have hn1:=R.rep.rok.next;obtain ⟨G,hC⟩:=R.rep.rok.con;have hlen:=hC.v.len;unfold gq at k;by_cases S:x.kind=oa
 ·rw[YB S] at k;obtain ⟨_,rfl,⟨_,_,_,rfl⟩ | ⟨hb,_,_,a,rfl⟩⟩:=k
  ·exact R.le (by omega)
  ·have hsz:¬(x.b<1\/999<x.b\/x.c<1\/16<x.c):=λh=>(by grind[ce]);refine ⟨R.rep.turn (by omega) _ _ _ (by omega) (λe he=>?_) (λe he=>by have:=R.rep.rok.keyM e he;omega),R.up,by show z.next+1<=_;omega⟩;rcases Zn.1 he with he | he
   ·have:=R.rep.rok.keyS e he;exact ⟨by omega,R.rep.rok.sesS e he⟩
   ·rw[kad] at he;subst he;exact ⟨by grind,⟨by grind,by simp,λp hp=>by cases hp⟩⟩
 rw[YC S] at k;by_cases hkPut:x.kind=oc
 ·rw[YB hkPut] at k;obtain ⟨_,_,rfl,⟨_,_,rfl⟩ | ⟨hp,_,so,co,rfl⟩⟩:=k
  ·exact R.le (by omega)
  ·unfold RpM.putted;unfold dQ at hp;cases hf:gk z.ses x.a with
   | none=>exact R.le (by omega)
   | some y=>
    rw[hf] at hp;simp only at hp ⊢;obtain ⟨hy,_,_⟩:=pf hf;have hym:=YW hy;have h1:¬(x.b<0\/y.size<=x.b):=λh=>(by grind);rw[YC h1] at hp;have h2:¬6<x.s.length:=λh=>(by grind);refine ⟨R.rep.turn (by omega) _ _ _ hn1 (λe he=>?_) R.rep.rok.keyM,R.up,by show z.next<=_;omega⟩;rcases q8 he with he | rfl
    ·exact ⟨R.rep.rok.keyS e he,R.rep.rok.sesS e he⟩
    ·exact ⟨R.rep.rok.keyS y hym,Na (R.rep.rok.sesS y hym) h1 h2⟩
 rw[YC hkPut] at k;by_cases X:x.kind=od
 ·rw[YB X] at k;obtain ⟨_,k⟩:=k;unfold zy at k;split at k
  ·obtain ⟨_,_,rfl,rfl⟩:=k;exact R.le (by omega)
  ·split at k
   ·obtain ⟨_,_,rfl,rfl⟩:=k;exact R.le (by omega)
   ·rename_i hr;obtain ⟨y,hk,_,rfl⟩:=k;obtain ⟨G',hC'⟩:=qk hC hr;obtain ⟨rfl,R1,_,_,_,e4,_⟩:=R.kept (by omega) hC' (Dc hC.v hr) hk;rw[YB rfl];exact (De R1 (lR y.ses x.a) λe he=>(ZV.1 he).1).le (by omega)
 rw[YC X] at k;by_cases J:x.kind=oe
 ·rw[YB J] at k;obtain ⟨_,_,rfl,⟨_,_,rfl⟩ | ⟨y,_,_,rfl⟩⟩:=k
  ·exact R.le (by omega)
  ·exact (De R (lR z.ses x.a) λe he=>(ZV.1 he).1).le (by omega)
 rw[YC J] at k;by_cases O:x.kind=og
 ·rw[YB O] at k;obtain ⟨_,k⟩:=k;unfold qq at k;split at k
  ·obtain ⟨_,_,rfl,rfl⟩:=k;exact R.le (by omega)
  ·rename_i hr;obtain ⟨hk,_⟩:=k;obtain ⟨G',hC'⟩:=ql hC hr;exact (R.kept (by omega) hC' (Dd hC.v hr) hk).2.1.le (by omega)
 rw[YC O] at k;by_cases V:x.kind=oh
 ·rw[YB V] at k;exact (R.drop (by omega) k.2.2).le (by omega)
 rw[YC V] at k;by_cases Y:x.kind=ol
 ·rw[YB Y] at k;obtain ⟨_,⟨_,_,_,rfl,rfl⟩ | ⟨_,gone,hk,_⟩⟩:=k
  ·exact R.le (by omega)
  ·have hel:=q6 z.L x.a x.b hlen;exact (Up.keep R (by omega) hk).le (by omega)
 rw[YC Y] at k;by_cases Z:x.kind=om
 ·rw[YB Z] at k;obtain ⟨_,rfl,⟨_,_,_,rfl⟩ | ⟨hb,_,_,a,r,rfl⟩⟩:=k
  ·exact R.le (by omega)
  ·refine ⟨R.rep.turn (by omega) _ _ _ (by omega) (λe he=>⟨by have:=R.rep.rok.keyS e he;omega,R.rep.rok.sesS e he⟩) (λe he=>?_),R.up,by show z.next+1<=_;omega⟩;rcases Zn.1 he with he | he
   ·have:=R.rep.rok.keyM e he;omega
   grind
 rw[YC Z] at k;by_cases hkUnm:x.kind=oo
 ·rw[YB hkUnm] at k;obtain ⟨_,_,rfl,⟨_,_,rfl⟩ | ⟨y,_,_,rfl⟩⟩:=k
  ·exact R.le (by omega)
  ·exact (Df R (DL z.mou x.a) λe he=>R.rep.rok.keyM e (ZV.1 he).1).le (by omega)
 rw[YC hkUnm] at k;by_cases hkRea:x.kind=pC
 ·rw[YB hkRea] at k;obtain ⟨_,_,_,rfl,rfl⟩:=k;exact R.le (by omega)
 rw[YC hkRea] at k;by_cases hkWri:x.kind=pE
 ·rw[YB hkWri] at k;obtain ⟨_,_,rfl,⟨_,_,rfl⟩ | ⟨_,_,rfl⟩⟩:=k
  ·exact R.le (by omega)
  ·unfold RpM.written;split
   ·exact R.le (by omega)
   ·rename_i m hf;obtain ⟨hy,_,_⟩:=ph hf;refine (Df R _ λe he=>?_).le (by omega);rcases q8 he with he | rfl
    ·exact R.rep.rok.keyM e he
    ·exact R.rep.rok.keyM m (YW hy)
 rw[YC hkWri] at k;by_cases hkSav:x.kind=qr
 ·rw[YB hkSav] at k;exact (R.save (by omega) k.2.2).le (by omega)
 rw[YC hkSav] at k;obtain ⟨_,_,_,rfl,rfl⟩:=k;exact R.le (by omega)
def PU {l:List ActM}{m:Int}{x:ActM}(h:kJ l m=true)(hx:x∈l):x.s.length<=100:=by
 grind[kJ,qT]
-- counterfoil/counterfoillaw.Do is not in this seat
-- counterfoil/counterfoiltop.played is not in this seat
theorem Rok.put {z:RpM}{id at_:Int}{d:ak}{so:Option Addr}{co:Nat}(R:Rok z)(hp:dQ z id at_ d=0):Rok (z.putted id at_ d so co):=by
 unfold RpM.putted;unfold dQ at hp;cases O:gk z.ses id with
 | none=>exact R
 | some y=>
  rw[O] at hp;simp only at hp ⊢;obtain ⟨hy,_,_⟩:=pf O;have J:=YW hy;have h1:¬(at_<0\/y.size<=at_):=λh=>(by grind);rw[YC h1] at hp;have S:¬6<d.length:=λh=>(by grind);refine ⟨R.con,R.next,λe he=>?_,R.keyM,λe he=>?_⟩
  ·rcases q8 he with he | rfl
   ·exact R.keyS e he
   ·exact R.keyS y J
  ·rcases q8 he with he | rfl
   ·exact R.sesS e he
   ·exact Na (R.sesS y J) h1 S
def SameS (z z2:RpM):Prop:=z2.h=z.h/\z2.used=z.used/\z2.rows=z.rows/\z2.S=z.S/\z2.L=z.L/\z2.n=z.n/\z2.mou=z.mou/\z2.next=z.next
theorem SameS.refl (z:RpM):SameS z z:=⟨rfl,rfl,rfl,rfl,rfl,rfl,rfl,rfl⟩
theorem SameS.trans {a b c:RpM}(h:SameS a b)(k:SameS b c):SameS a c:=⟨k.1.trans h.1,k.2.1.trans h.2.1,k.2.2.1.trans h.2.2.1,k.2.2.2.1.trans h.2.2.2.1,k.2.2.2.2.1.trans h.2.2.2.2.1,k.2.2.2.2.2.1.trans h.2.2.2.2.2.1,k.2.2.2.2.2.2.1.trans h.2.2.2.2.2.2.1,k.2.2.2.2.2.2.2.trans h.2.2.2.2.2.2.2⟩
def ld (z:RpM)(id at_:Int)(d:ak)(so:Option Addr)(co:Nat):SameS z (z.putted id at_ d so co):=by
 unfold RpM.putted;cases gk z.ses id with
 | none=>exact SameS.refl z
 | some e=>exact ⟨rfl,rfl,rfl,rfl,rfl,rfl,rfl,rfl⟩
theorem Rok.begin {z:RpM}{a:Nat}{base disk size:Int}(R:Rok z)(hn:z.next<=999999)(S:ce z base disk size=0):Rok (z.begun a base disk size):=by
 have J:=R.next;have O:¬(disk<1\/999<disk\/size<1\/16<size):=λh=>(by grind[ce]);refine ⟨R.con,by show 1<=z.next+1/\z.next+1<=1000000;omega,λe he=>?_,λe he=>by have:=R.keyM e he;show 1<=e.key/\e.key<z.next+1;omega,λe he=>?_⟩
 ·rcases Zn.1 he with he | he
  ·have:=R.keyS e he;show 1<=e.key/\e.key<z.next+1;omega
  ·rw[kad] at he;subst he;show 1<=z.next/\z.next<z.next+1;omega
 ·rcases Zn.1 he with he | he
  ·exact R.sesS e he
  ·rw[kad] at he;subst he;exact ⟨by grind,by simp,λp hp=>by cases hp⟩
theorem Up.begun {t:Nat}{D:DiskM}{z:RpM}{a:Nat}{base disk size:Int}(R:Up t D z)(ht:t<=90000)(V:ce z base disk size=0):Up (t+1) D (z.begun a base disk size):=by
 have J:=R.rep.rok.next;have O:=R.next;have S:¬(disk<1\/999<disk\/size<1\/16<size):=λh=>(by grind[ce]);refine ⟨R.rep.turn (by omega) _ _ _ (by omega) (λe he=>?_) (λe he=>by have:=R.rep.rok.keyM e he;omega),R.up,by show z.next+1<=_;omega⟩;rcases Zn.1 he with he | he
 ·have:=R.rep.rok.keyS e he;exact ⟨by omega,R.rep.rok.sesS e he⟩
 ·rw[kad] at he;subst he;exact ⟨by grind,⟨by grind,by simp,λp hp=>by cases hp⟩⟩
theorem SameS.eq {z J:RpM}(h:SameS z J):J=z.sess J.ses:=by
 obtain ⟨h1,O,R,S,V,X,Y,Z⟩:=h;cases J;cases z;simp only at h1 O R S V X Y Z;subst h1 O R S V X Y Z
 rfl
theorem Up.same {t:Nat}{D:DiskM}{z J:RpM}(R:Up t D z)(h:SameS z J)(K:Rok J):Up t D J:=by
 have e:=h.eq;have hk:=K.keyS;have hs:=K.sesS;have hn:=R.rep.rok.next;rw[e];refine ⟨R.rep.turn (Yf _) J.ses z.mou z.next hn (λy hy=>⟨?_,hs y hy⟩) R.rep.rok.keyM,R.up,R.next⟩;have:=hk y hy;rw[h.2.2.2.2.2.2.2] at this;exact this
theorem Up.abort {t:Nat}{D:DiskM}{z:RpM}(R:Up t D z)(id:Int):Up t D (z.sess (lR z.ses id)):=De R (lR z.ses id) λe he=>(ZV.1 he).1
def zB {t:Nat}{D J:DiskM}{z z2:RpM}{id n e:Int}(R:Up t D z)(ht:t<=90000)(k:zy D z id n e J z2):
  (n=0/\e≠0/\J=D/\z2=z/\(gk z.ses id=none/\e=5\/∃s,gk z.ses id=some s/\ig z.S z.L z.n s.base s.disk s.size s.puts= .error e))\/
  (e=0/\Up (t+1) J z2/\(∃s,gk z.ses id=some s/\ig z.S z.L z.n s.base s.disk s.size s.puts= .ok (z2.S,z2.L,z2.n,n))/\z2.ses=lR z.ses id/\z2.mou=z.mou/\z2.next=z.next):=by
 unfold zy at k;obtain ⟨G,hC⟩:=R.rep.rok.con;cases Z:gk z.ses id with
 | none=>
  grind
 | some s=>
  rw[Z] at k;simp only at k;split at k
  ·rename_i hr;obtain ⟨rfl,rfl,rfl,rfl⟩:=k;exact .inl ⟨rfl,by have:=qg hr;omega,rfl,rfl, .inr ⟨s,rfl,hr⟩⟩
  ·rename_i S' L' n' r hr;obtain ⟨y,hk,hn,rfl⟩:=k;obtain ⟨G',O⟩:=qk hC hr;obtain ⟨rfl,R1,e1,e2,e3,V,X,Y⟩:=R.kept (by omega) O (Dc hC.v hr) hk;rw[YB rfl] at hn ⊢;subst hn;refine .inr ⟨rfl,R1.abort id,⟨s,rfl,?_⟩,?_,X,Y⟩
   ·show _=Except.ok (y.S,y.L,y.n,n)
    grind
   ·show lR y.ses id=_;rw[V]
def IJ {S:SI}{L:List Pt}{n id:Int}{O:SI}{L':List Pt}{J r:Int}(h:mz S L n id= .ok (O,L',J,r)):L'=L.filter (λx=>!decide (x.id=id))/\J=n:=by
 grind[mz]
def find_is {L:List Pt}{id:Int}:(bg L id).isSome=true ↔ ∃p∈L,p.id=id:=by
 grind[bg]
theorem Kk {z z2:RpM}(h1:z2.ses=z.ses)(J:z2.mou=z.mou)(q:Int):eW z2 q=eW z q:=by unfold eW;rw[h1,J]
def ug:∀{l:List Int} {t:Nat} {D S:DiskM} {z z2:RpM} {gone:List Int} {e:Int},Up t D z->t+l.length<=90000->l.Nodup->(∀q∈l,(bg z.L q).isSome=true)->jf l D z gone e S z2->
  e=0/\gone.Sublist l/\z2.L=z.L.filter (λp=>!decide (p.id∈gone))/\z2.ses=z.ses/\z2.mou=z.mou/\z2.next=z.next/\z2.n=z.n/\∀q∈gone,eW z q=false
 | [],t,D,S,z,z2,gone,e,R,ht,J,O,h=>by
  obtain ⟨rfl,rfl,rfl,rfl⟩:=h;refine ⟨rfl,List.Sublist.refl _,?_,rfl,rfl,rfl,rfl,λq hq=>by cases hq⟩
  symm
  simp_all
 | id::l,t,D,S,z,z2,gone,e,R,ht,J,O,h=>by
  simp only[YF] at ht;rw[ZL] at J;unfold jf at h;by_cases Z:eW z id=true
  ·rw[YB Z] at h;obtain ⟨a1,a2,a3⟩:=ug R (by omega) J.2 (λq hq=>O q (kac _ hq)) h;exact ⟨a1,a2.cons _,a3⟩
  ·rw[YC Z] at h;have hu0:eW z id=false:=(by simpa using Z);have V:fI z id=0:=by
    grind[fI,Option.isNone_iff_eq_none]
   obtain ⟨e1,D1,z1,hd,h⟩:=h;rcases n9 R.rep (by omega) hd with ⟨rfl,_,_,_,X,hs,hm,hx⟩ | ⟨hne,_,he,_⟩ | ⟨_,hn,_⟩
   ·rcases h with ⟨hc,_⟩ | ⟨_,g',hk,hg⟩
    ·exact absurd rfl hc
    obtain ⟨hL,hn⟩:=IJ X;obtain ⟨rfl,a2,a3,a4,a5,a6,a7,a8⟩:=ug (R.drop (by omega) hd) (by omega) J.2 (λq hq=>by
     obtain ⟨p,hp,Y⟩:=find_is.1 (O q (kac _ hq));exact find_is.2 ⟨p,by grind,Y⟩) hk
    rw[YB rfl] at hg;subst hg;refine ⟨rfl,a2.cons_cons _,?_,a4.trans hs,a5.trans hm,a6.trans hx,a7.trans hn,λq hq=>?_⟩
    ·rw[a3,hL,ZO]
     grind
    grind[Kk]
   ·exact absurd (he.trans V) hne
   ·exact absurd R.up hn
def IK (L:List Pt)(disk many:Int):(eP L disk many).Sublist (L.map (·.id)):=by
 unfold eP;exact (kax _ _).trans (ZD _ ZE)
theorem ids_nodup {S:SI}{L:List Pt}{n:Int}{G:Gh}(h:Vok S L n G):(L.map (·.id)).Nodup:=by
 rw[List.Nodup,kaS];exact h.srt.imp λh=>by omega
def Nb {S:SI}{L:List Pt}{n:Int}{G:Gh}(h:Vok S L n G)(disk many:Int):(eP L disk many).Nodup/\∀q∈eP L disk many,(bg L q).isSome=true:=by
 refine ⟨(ids_nodup h).sublist (IK L disk many),λq hq=>?_⟩;obtain ⟨p,hp,e⟩:=Zz.1 ((IK L disk many).subset hq);exact find_is.2 ⟨p,hp,e⟩
theorem Up.mounted {t:Nat}{D:DiskM}{z:RpM}{a r:Nat}{id:Int}(R:Up t D z)(ht:t<=90000):Up (t+1) D (z.mounted a r id):=by
 have J:=R.rep.rok.next;have O:=R.next;refine ⟨R.rep.turn (by omega) _ _ _ (by omega) (λe he=>⟨by have:=R.rep.rok.keyS e he;omega,R.rep.rok.sesS e he⟩) (λe he=>?_),R.up,by show z.next+1<=_;omega⟩;rcases Zn.1 he with he | he
 ·have:=R.rep.rok.keyM e he;omega
 grind
def PV {l:List SeE}{m:SeE}(h:∀e∈l,e.key<m.key):gk (l++ [m]) m.key=some m:=by
 grind[gk]
def GY {z:RpM}{k at_:Int}{d:ak}{m:MoE}(h:ng z.mou k=some m):z.written k at_ d=z.moun (z.mou.set (DO z.mou k) ⟨m.key,m.a,m.r,m.point,GT m.over at_ d⟩):=by
 grind[RpM.written]
theorem Up.written {t:Nat}{D:DiskM}{z:RpM}(R:Up t D z)(k at_:Int)(d:ak):Up t D (z.written k at_ d):=by
 unfold RpM.written;split
 ·exact R
 ·rename_i m J;obtain ⟨hy,_,_⟩:=ph J;refine Df R _ λe he=>?_;rcases q8 he with he | rfl
  ·exact R.rep.rok.keyM e he
  ·exact R.rep.rok.keyM m (YW hy)
def Bt {at_:Int}{i:Nat}(h:at_≠(i:Int)):∀(l:List PutM) (d:ak),lz (l.filter λx=>!decide (x.at_=at_)) i d=lz l i d
 | [],d=>rfl
 | p::l,d=>by
  have J:=Bt h l;unfold lz at J ⊢
  grind
theorem GZ (l:List PutM)(at_:Int)(x d:ak)(i:Nat):lz (iP l at_ x) i d=if at_=(i:Int) then x else lz l i d:=by
 unfold iP;by_cases h:at_=(i:Int)
 ·grind[lz]
 ·rw[YC h,<-Bt h l d]
  grind[lz]
def IL:∀{l:List SeE} {k:Int} {m m':SeE},gk l k=some m->m'.key=k->gk (l.set (wF l k) m') k=some m'
 | [],k,m,m',h,hk=>by cases h
 | a::l,k,m,m',h,hk=>by
  unfold gk at h ⊢;unfold wF;by_cases J:a.key=k
  ·grind
  ·rw[ka4,Zt J];rw[List.find?_cons_of_neg (by simpa using J)] at h;have O:=IL (l:=l) (m':=m') h hk
   grind[gk,wF]
def Bu {z:RpM}{k at_:Int}{d:ak}{so:Option Addr}{co:Nat}{e:SeE}(h:gk z.ses k=some e):z.putted k at_ d so co=z.sess (z.ses.set (wF z.ses k) ⟨e.key,e.a,so,co,e.base,e.disk,e.size,iP e.puts at_ d⟩):=by
 grind[RpM.putted]
def wo {z:RpM}{k at_:Int}{d:ak}{so:Option Addr}{co:Nat}{e:SeE}(h:gk z.ses k=some e):gk (z.putted k at_ d so co).ses k=some ⟨e.key,e.a,so,co,e.base,e.disk,e.size,iP e.puts at_ d⟩:=by
 rw[Bu h];exact IL h (pf h).2.1
theorem Up.put {t:Nat}{D:DiskM}{z:RpM}(R:Up t D z){k at_:Int}{d:ak}(h:dQ z k at_ d=0)(so:Option Addr)(co:Nat):Up t D (z.putted k at_ d so co):=R.same (ld z k at_ d so co) (R.rep.rok.put h)
structure SeS where
 key:Int
 base:Int
 disk:Int
 size:Int
 puts:List PutM
structure MoS where
 key:Int
 point:Int
 over:List (Int×ak)
structure LR where
 S:SI
 L:List Pt
 n:Int
 ses:List SeS
 mou:List MoS
 next:Int
def sS (e:SeE):SeS:=⟨e.key,e.base,e.disk,e.size,e.puts⟩
def mS (m:MoE):MoS:=⟨m.key,m.point,m.over⟩
def RpM.lr (z:RpM):LR:=⟨z.S,z.L,z.n,z.ses.map sS,z.mou.map mS,z.next⟩
def fS (l:List SeS)(id:Int):Option SeS:=l.find? λe=>decide (e.key=id)
def fM (l:List MoS)(id:Int):Option MoS:=l.find? λe=>decide (e.key=id)
def iS (l:List SeS)(id:Int):Nat:=l.findIdx λe=>decide (e.key=id)
def iM (l:List MoS)(id:Int):Nat:=l.findIdx λe=>decide (e.key=id)
def rS (l:List SeS)(id:Int):List SeS:=l.filter λe=>!decide (e.key=id)
def rM (l:List MoS)(id:Int):List MoS:=l.filter λe=>!decide (e.key=id)
theorem pG (l:List SeE)(id:Int):fS (l.map sS) id=(gk l id).map sS:=by
 unfold fS gk;rw[List.find?_map]
 rfl
theorem Fs (l:List MoE)(id:Int):fM (l.map mS) id=(ng l id).map mS:=by
 unfold fM ng;rw[List.find?_map]
 rfl
theorem T7 (l:List SeE)(id:Int):iS (l.map sS) id=wF l id:=by
 unfold iS wF;rw[List.findIdx_map]
 rfl
theorem T8 (l:List MoE)(id:Int):iM (l.map mS) id=DO l id:=by
 unfold iM DO;rw[List.findIdx_map]
 rfl
theorem Bv (l:List SeE)(id:Int):rS (l.map sS) id=(lR l id).map sS:=by
 unfold rS lR;rw[Z3]
 rfl
theorem QP (l:List MoE)(id:Int):rM (l.map mS) id=(DL l id).map mS:=by
 unfold rM DL;rw[Z3]
 rfl
def IP (σ:LR)(id:Int):Bool:=σ.ses.any (λe=>decide (e.base=id)) || σ.mou.any λe=>decide (e.point=id)
def xx (z:RpM)(id:Int):IP z.lr id=eW z id:=by
 unfold IP eW RpM.lr;simp only[List.any_map]
 rfl
def LR.vau (σ:LR)(S:SI)(L:List Pt)(n:Int):LR:=⟨S,L,n,σ.ses,σ.mou,σ.next⟩
def LR.sesn (σ:LR)(l:List SeS):LR:=⟨σ.S,σ.L,σ.n,l,σ.mou,σ.next⟩
def LR.moun (σ:LR)(l:List MoS):LR:=⟨σ.S,σ.L,σ.n,σ.ses,l,σ.next⟩
def ny (σ:LR)(base disk size:Int):Int:=if disk<1\/999<disk\/size<1\/16<size then 1 else if Ad σ.L base disk≠0 then Ad σ.L base disk else if σ.ses.length=3 then 8 else 0
def LR.begun (σ:LR)(base disk size:Int):LR:=⟨σ.S,σ.L,σ.n,σ.ses++ [⟨σ.next,base,disk,size,[]⟩],σ.mou,σ.next+1⟩
def zC (σ:LR)(id:Int):Int:=match bg σ.L id with
 | none=>5
 | some _=>if σ.mou.length=3 then 8 else 0
def LR.mounted (σ:LR)(id:Int):LR:=⟨σ.S,σ.L,σ.n,σ.ses,σ.mou++ [⟨σ.next,id,[]⟩],σ.next+1⟩
def wq (σ:LR)(id at_:Int):ak×Int:=match fM σ.mou id with
 | none=>([],5)
 | some m=>if (py σ.S σ.L m.point at_).2≠0 then ([],(py σ.S σ.L m.point at_).2) else match DK m.over at_ with
  | some d=>(d,0)
  | none=>((py σ.S σ.L m.point at_).1,0)
def zD (σ:LR)(id at_:Int)(d:ak):Int:=if (wq σ id at_).2≠0 then (wq σ id at_).2 else if 6<d.length then 2 else 0
def LR.written (σ:LR)(id at_:Int)(d:ak):LR:=match fM σ.mou id with
 | none=>σ
 | some m=>σ.moun (σ.mou.set (iM σ.mou id) ⟨m.key,m.point,GT m.over at_ d⟩)
def Ft (σ:LR)(id at_:Int)(d:ak):Int:=match fS σ.ses id with
 | none=>5
 | some e=>if at_<0\/e.size<=at_ then 1 else if 6<d.length then 2 else 0
def LR.putted (σ:LR)(id at_:Int)(d:ak):LR:=match fS σ.ses id with
 | none=>σ
 | some e=>σ.sesn (σ.ses.set (iS σ.ses id) ⟨e.key,e.base,e.disk,e.size,iP e.puts at_ d⟩)
def ot (σ:LR)(id:Int):LR×Int×Int:=match fS σ.ses id with
 | none=>(σ,0,5)
 | some s=>match ig σ.S σ.L σ.n s.base s.disk s.size s.puts with
  | .error f=>(σ,0,f)
  | .ok r=>(⟨r.1,r.2.1,r.2.2.1,rS σ.ses id,σ.mou,σ.next⟩,r.2.2.2,0)
def vx (σ:LR)(id:Int):LR×Int:=match fS σ.ses id with
 | none=>(σ,5)
 | some _=>(σ.sesn (rS σ.ses id),0)
def Kl (σ:LR)(id:Int):LR×Int:=match fM σ.mou id with
 | none=>(σ,5)
 | some _=>(σ.moun (rM σ.mou id),0)
def Am (σ:LR)(id:Int):LR×Int×Int:=match lM σ.S σ.L σ.n id with
 | .error f=>(σ,0,f)
 | .ok r=>(σ.vau r.1 r.2.1 r.2.2.1,r.2.2.2,0)
def zE (σ:LR)(id:Int):Int:=if (bg σ.L id).isNone then 5 else if IP σ id=true then 6 else 0
def mE (σ:LR)(id:Int):LR×Int:=if zE σ id≠0 then (σ,zE σ id) else match mz σ.S σ.L σ.n id with
 | .error f=>(σ,f)
 | .ok r=>(σ.vau r.1 r.2.1 r.2.2.1,0)
def keepL:List Int->LR->LR×List Int
 | [],σ=>(σ,[])
 | id::l,σ=>if IP σ id=true then keepL l σ else ((keepL l (mE σ id).1).1,id::(keepL l (mE σ id).1).2)
def gW (σ:LR)(x:ActM):LR×Int×ak×Int:=
 if x.kind=oa then (if ny σ x.a x.b x.c≠0 then (σ,0,[],ny σ x.a x.b x.c) else (σ.begun x.a x.b x.c,σ.next,[],0))
 else if x.kind=oc then (if Ft σ x.a x.b x.s≠0 then (σ,0,[],Ft σ x.a x.b x.s) else (σ.putted x.a x.b x.s,0,[],0))
 else if x.kind=od then ((ot σ x.a).1,(ot σ x.a).2.1,[],(ot σ x.a).2.2)
 else if x.kind=oe then ((vx σ x.a).1,0,[],(vx σ x.a).2)
 else if x.kind=og then ((Am σ x.a).1,(Am σ x.a).2.1,[],(Am σ x.a).2.2)
 else if x.kind=oh then ((mE σ x.a).1,0,[],(mE σ x.a).2)
 else if x.kind=ol then (if x.b<0 then (σ,0,[],1) else ((keepL (eP σ.L x.a x.b) σ).1,kN (keepL (eP σ.L x.a x.b) σ).2,[],0))
 else if x.kind=om then (if zC σ x.a≠0 then (σ,0,[],zC σ x.a) else (σ.mounted x.a,σ.next,[],0))
 else if x.kind=oo then ((Kl σ x.a).1,0,[],(Kl σ x.a).2)
 else if x.kind=pC then (σ,0,(wq σ x.a x.b).1,(wq σ x.a x.b).2)
 else if x.kind=pE then (if zD σ x.a x.b x.s≠0 then (σ,0,[],zD σ x.a x.b x.s) else (σ.written x.a x.b x.s,0,[],0))
 else (σ,0,[],0)
def ku (z:RpM)(base disk size:Int):ny z.lr base disk size=ce z base disk size:=by
 grind[ny,ce,RpM.lr]
def uh (z:RpM)(a:Nat)(base disk size:Int):(z.begun a base disk size).lr=z.lr.begun base disk size:=by
 grind[RpM.begun,LR.begun,RpM.lr,sS]
def zF (z:RpM)(id:Int):zC z.lr id=e9 z id:=by
 grind[zC,e9,RpM.lr]
def zG (z:RpM)(a r:Nat)(id:Int):(z.mounted a r id).lr=z.lr.mounted id:=by
 grind[RpM.mounted,LR.mounted,RpM.lr,mS]
theorem Dg (z:RpM)(id at_:Int):wq z.lr id at_=dw z id at_:=by
 unfold wq dw;rw[show z.lr.mou=z.mou.map mS from rfl,Fs];cases ng z.mou id <;> rfl
theorem zH (z:RpM)(id at_:Int)(d:ak):zD z.lr id at_ d=ei z id at_ d:=by
 unfold zD ei;rw[Dg]
theorem zI (z:RpM)(id at_:Int)(d:ak):(z.written id at_ d).lr=z.lr.written id at_ d:=by
 unfold RpM.written LR.written
 grind[mS,Fs,T8,RpM.lr,LR.moun,RpM.moun,List.map_set]
theorem Dh (z:RpM)(id at_:Int)(d:ak):Ft z.lr id at_ d=dQ z id at_ d:=by
 unfold Ft dQ;rw[show z.lr.ses=z.ses.map sS from rfl,pG];cases gk z.ses id <;> rfl
theorem q9 (z:RpM)(id at_:Int)(d:ak)(so:Option Addr)(co:Nat):(z.putted id at_ d so co).lr=z.lr.putted id at_ d:=by
 unfold RpM.putted LR.putted
 grind[sS,pG,T7,RpM.lr,LR.sesn,RpM.sess,List.map_set]
theorem xy (z:RpM)(l:List SeE):(z.sess l).lr=z.lr.sesn (l.map sS):=rfl
theorem IQ (z:RpM)(l:List MoE):(z.moun l).lr=z.lr.moun (l.map mS):=rfl
def qs (z:RpM)(id:Int):zE z.lr id=fI z id:=by
 unfold zE fI;rw[xx]
 rfl
def QQ {z:RpM}{σ:LR}(h1:z.S=σ.S)(J:z.L=σ.L)(O:z.n=σ.n)(R:z.ses.map sS=σ.ses)(V:z.mou.map mS=σ.mou)(X:z.next=σ.next):z.lr=σ:=by
 simp_all[RpM.lr]
def Nc {t:Nat}{D J:DiskM}{z z2:RpM}{id n e:Int}(R:Up t D z)(ht:t<=90000)(k:zy D z id n e J z2):ot z.lr id=(z2.lr,n,e):=by
 unfold ot;rw[show z.lr.ses=z.ses.map sS from rfl,pG];rcases zB R ht k with ⟨rfl,_,rfl,rfl,⟨h1,rfl⟩ | ⟨s,h1,O⟩⟩ | ⟨rfl,_,⟨s,h1,O⟩,S,V,X⟩
 ·rw[h1];rfl
 ·grind[sS,RpM.lr]
 grind[sS,RpM.lr,Bv]
def IR {t:Nat}{D O:DiskM}{z z2:RpM}{id e:Int}(R:Up t D z)(ht:t<=90000)(k:pB D z id e O z2):mE z.lr id=(z2.lr,e):=by
 unfold mE;rw[qs];rcases n9 R.rep (by omega) k with ⟨rfl,_,_,h1,J,V,X,Y⟩ | ⟨h1,_,J,rfl,rfl⟩ | ⟨_,h,_⟩
 ·rw[YC (by omega)];show (match mz z.S z.L z.n id with | .error f=>_ | .ok r=>_)=_;rw[J];refine Prod.ext ?_ rfl
  symm
  refine QQ rR rR rR ?_ ?_ Y
  ·show _=z.ses.map sS;rw[V]
  ·show _=z.mou.map mS;rw[X]
 ·grind
 ·exact absurd R.up h
def So {t:Nat}{D O:DiskM}{z z2:RpM}{id n e:Int}(R:Up t D z)(ht:t<=90000)(k:qq D z id n e O z2):Am z.lr id=(z2.lr,n,e)/\Up (t+1) O z2:=by
 obtain ⟨G,hC⟩:=R.rep.rok.con;unfold qq at k;unfold Am;show (match lM z.S z.L z.n id with | .error f=>_ | .ok r=>_)=_/\_;cases hr:lM z.S z.L z.n id with
 | error f=>
  rw[hr] at k;obtain ⟨rfl,rfl,rfl,rfl⟩:=k;exact ⟨rfl,R.le (by omega)⟩
 | ok r=>
  obtain ⟨S',L',n',r⟩:=r;rw[hr] at k;simp only at k ⊢;obtain ⟨hk,hn⟩:=k;obtain ⟨G',J⟩:=ql hC hr;obtain ⟨rfl,U,V,X,Y,Z,e5,e6⟩:=R.kept (by omega) J (Dd hC.v hr) hk;rw[YB rfl] at hn;subst hn;refine ⟨Prod.ext ?_ rfl,U⟩
  symm
  refine QQ V X Y ?_ ?_ e6
  ·show _=z.ses.map sS;rw[Z]
  ·show _=z.mou.map mS;rw[e5]
def Di:∀{l:List Int} {t:Nat} {D V:DiskM} {z z2:RpM} {gone:List Int} {e:Int},Up t D z->t+l.length<=90000->l.Nodup->(∀q∈l,(bg z.L q).isSome=true)->jf l D z gone e V z2->keepL l z.lr=(z2.lr,gone)
 | [],t,D,V,z,z2,gone,e,R,ht,J,S,h=>by
  obtain ⟨rfl,rfl,rfl,rfl⟩:=h
  rfl
 | id::l,t,D,V,z,z2,gone,e,R,ht,J,S,h=>by
  simp only[YF] at ht;rw[ZL] at J;unfold jf at h;unfold keepL;rw[xx];by_cases hu:eW z id=true
  ·rw[YB hu] at h ⊢;exact Di R (by omega) J.2 (λq hq=>S q (kac _ hq)) h
  ·rw[YC hu] at h ⊢;have hu0:eW z id=false:=(by simpa using hu);have X:fI z id=0:=by
    grind[fI,Option.isNone_iff_eq_none]
   obtain ⟨e1,D1,z1,hd,h⟩:=h;have Y:=IR R (by omega) hd;rw[Y];rcases n9 R.rep (by omega) hd with ⟨rfl,_,_,_,Z,hs,hm,hx⟩ | ⟨hne,_,he,_⟩ | ⟨_,hn,_⟩
   ·rcases h with ⟨hc,_⟩ | ⟨_,g',hk,hg⟩
    ·exact absurd rfl hc
    obtain ⟨hL,hn⟩:=IJ Z;have O:∀q∈l,(bg z1.L q).isSome=true:=λq hq=>by
     obtain ⟨p,hp,hpq⟩:=find_is.1 (S q (kac _ hq));exact find_is.2 ⟨p,by grind,hpq⟩
    have U1:=R.drop (by omega) hd;obtain ⟨rfl,_⟩:=ug U1 (by omega) J.2 O hk;rw[YB rfl] at hg;subst hg;have ih:=Di U1 (by omega) J.2 O hk;rw[ih]
   ·exact absurd (he.trans X) hne
   ·exact absurd R.up hn
def PW {t:Nat}{D V:DiskM}{z z2:RpM}{x:ActM}{n e:Int}{s:ak}(R:Up t D z)(ht:t<=80000)(k:gq D z x n s e V z2):gW z.lr x=(z2.lr,n,s,e):=by
 unfold gq at k;unfold gW;by_cases h:x.kind=oa
 ·rw[YB h] at k ⊢;rw[ku];obtain ⟨rfl,rfl,⟨h1,rfl,rfl,rfl⟩ | ⟨h1,rfl,rfl,a,rfl⟩⟩:=k
  ·rw[YB h1]
  ·rw[YC (by omega),uh];rfl
 rw[YC h] at k ⊢;by_cases h:x.kind=oc
 ·grind[Dh,q9]
 rw[YC h] at k ⊢;by_cases h:x.kind=od
 ·rw[YB h] at k ⊢;obtain ⟨rfl,k⟩:=k;rw[Nc R (by omega) k]
 rw[YC h] at k ⊢;by_cases h:x.kind=oe
 ·rw[YB h] at k ⊢;unfold vx;rw[show z.lr.ses=z.ses.map sS from rfl,pG]
  grind[xy,Bv]
 rw[YC h] at k ⊢;by_cases h:x.kind=og
 ·rw[YB h] at k ⊢;obtain ⟨rfl,k⟩:=k;rw[(So R (by omega) k).1]
 rw[YC h] at k ⊢;by_cases h:x.kind=oh
 ·rw[YB h] at k ⊢;obtain ⟨rfl,rfl,k⟩:=k;rw[IR R (by omega) k]
 rw[YC h] at k ⊢;by_cases h:x.kind=ol
 ·rw[YB h] at k ⊢;obtain ⟨rfl,⟨h1,rfl,rfl,rfl,rfl⟩ | ⟨h1,gone,hk,rfl⟩⟩:=k
  ·rw[YB h1]
  ·rw[YC (by omega)];obtain ⟨G,hC⟩:=R.rep.rok.con;have X:=q6 z.L x.a x.b hC.v.len;obtain ⟨O,S⟩:=Nb hC.v x.a x.b;obtain ⟨rfl,_⟩:=ug R (by omega) O S hk;show ((keepL (eP z.L x.a x.b) z.lr).1,kN (keepL (eP z.L x.a x.b) z.lr).2,_,_)=_;rw[Di R (by omega) O S hk]
 rw[YC h] at k ⊢;by_cases h:x.kind=om
 ·rw[YB h] at k ⊢;rw[zF];obtain ⟨rfl,rfl,⟨h1,rfl,rfl,rfl⟩ | ⟨h1,rfl,rfl,a,r,rfl⟩⟩:=k
  ·rw[YB h1]
  ·rw[YC (by omega),zG];rfl
 rw[YC h] at k ⊢;by_cases h:x.kind=oo
 ·rw[YB h] at k ⊢;unfold Kl;rw[show z.lr.mou=z.mou.map mS from rfl,Fs]
  grind[IQ,QP]
 rw[YC h] at k ⊢;by_cases h:x.kind=pC
 ·grind[Dg]
 rw[YC h] at k ⊢;by_cases h:x.kind=pE
 ·grind[zH,zI]
 rw[YC h] at k ⊢;by_cases h:x.kind=qr
 ·rw[YB h] at k;obtain ⟨rfl,rfl,hr,k⟩:=k;obtain ⟨r0,ds,C,J⟩:=R.rep.cal;have Y:=R.rep.ep;have Z:=R.rep.first;obtain ⟨D1,q1,q2,q3⟩:=LO R.up C.2.1 (by omega) (by omega);rw[<-J,q1] at hr;injection hr with h1 O;rcases k with ⟨hx,_⟩ | ⟨rfl,d',u',_,hsc,rfl⟩
  ·exact absurd h1.symm hx
  ·rfl
 grind
end Go.Proofs.YthdjckbjjfiopabGreatDoor