/- Several texts in one: walks and rules used by them. No condition. -/
import Derived.Test.YthdjckbjjfiopabGreatDoorPartG
import Derived.Test.YthdjckbjjfiopabGreatDoorPartD
import Derived.Test.YthdjckbjjfiopabGreatDoorPartA
import Derived.Test.YthdjckbjjfiopabGreatDoorPartB
set_option linter.unusedSimpArgs false
set_option linter.unusedVariables false
set_option linter.defProp false
set_option maxHeartbeats 800000
namespace Go.Proofs.YthdjckbjjfiopabGreatDoor
open _root_.Go.Proofs.Tryz
open Go.Sl Go.Proofs
def q8 (D:DiskM)(z:RpM)(S':SI)(L':List Pt)(n':Int)(e:Int)(D2:DiskM)(z2:RpM):Prop:=∃h2 used2 rows2,kW D z.h z.rows (200 - 122) z.used (ml z S' L' n') e D2 h2 used2 rows2/\z2=z.kept e h2 used2 rows2 S' L' n'
def FA (l:List (Int×ab))(q:Int):(lk (dT l) q).getD (ac [])=ac ((eQ l q).getD []):=by rw[uj];cases eQ l q <;> rfl
def FB (l:List (Int×ab))(q:Int):(lk (dT l) q).isSome=(eQ l q).isSome:=by rw[uj,Vb]
def lb (D:DiskM)(z:RpM)(id n e:Int)(D2:DiskM)(z2:RpM):Prop:=match dq z.S z.L z.n id with
 | .error f=>n=0/\e=f/\D2=D/\z2=z
 | .ok (S',L',n',r)=>q8 D z S' L' n' e D2 z2/\n=if e=0 then r else 0
def cF (z:RpM)(id:Int):Int:=if (qS z.L id).isNone then 5 else if bX z id=true then 6 else 0
def im (D:DiskM)(z:RpM)(id:Int)(e:Int)(D2:DiskM)(z2:RpM):Prop:=if cF z id≠0 then e=cF z id/\D2=D/\z2=z else ∃S' L',dG z.S z.L z.n id= .ok (S',L',z.n,0)/\q8 D z S' L' z.n e D2 z2
def zR {z:RpM}{id:Int}(h:cF z id=0):∃p J L',qS z.L id=some p/\bX z id=false/\dG z.S z.L z.n id= .ok (J,L',z.n,0):=by
 unfold cF at h;cases D:qS z.L id with
 | none=>rw[D] at h;simp at h
 | some p=>
  rw[D] at h;cases O:bX z id with
  | true=>rw[O] at h;simp at h
  | false=>exact ⟨p,_,_,rfl,rfl,by unfold dG;rw[D]⟩
def FC (b J:Nat)(z:RpM)(id at_:Int)(hR:Rok z)(F:List aa):Ct Tryz.prog 50 [ptr b 0,I id,I at_] (aw b J z::F) (R1 (.tuple #[ac (wF z id at_).1,wm (wF z id at_).2]) (aw b J z::F)):=by
 obtain ⟨G0,hC⟩:=hR.con;have hlen:=hC.v.len;have hnx:=hR.next;refine Ct.of func50 rR 50 ntmps50 (by simp) λw0=>?_;refine fj b J z ?_;intro bs bl so co bv rs rm;refine gS (gA rfl (gQ rfl (gS (gM rfl (gV (qa rfl) (gF 3 Ph rfl Qn rfl (gL (.map (some rm)) Qu rfl (gM rfl (gV (yE (v:= .pointer ((bx z.mou id).map λe=>⟨e.a,0,none⟩)) Qv OL Q0 rfl rfl (by rw[kn];cases bx z.mou id <;> rfl)) (gQ rfl (qb (gS (gM rfl (gV (jW underlying212 rfl) (qc ?_)))))))))))))));refine qd rfl ?_ ?_ <;> intro O
 ·have hno:bx z.mou id=none:=(by simpa using O);refine gS (gV (qP OY rR rR) (gA rR (gQ rR ?_)));refine yy b J (z) bs bl so co bv rs rm ?_;rw[show wF z id at_=([],5) by unfold wF;rw[hno]];exact ql rfl rfl rfl
 ·obtain ⟨e,h⟩:∃e,bx z.mou id=some e:=UG.1 (by cases hq:bx z.mou id with
   | none=>rw[hq] at O;cases O
   | some _=>rfl)
  obtain ⟨X,hek,Z⟩:=kp h;rw[h];refine qf (qb ?_);refine zM z.mou _ X ?_;refine yO (Lf:=[pt b (.cells #[ptr bs 0,ptr bv 0, .map (some rs), .map (some rm),I (z.next)] 103 (0,0)),pt e.a (.cells #[I e.point, .map (some e.r)] 215 (0,0))]) jL (by kernel_rfl) (by kernel_rfl) rR (by kernel_rfl) ?_;refine dM rR rR rR (dV rR (qa rR) (dF rR 1 Ph rR P3 rR (dL rR (ptr bv 0) PX rR (dM rR rR rR (dV rR (qa rR) (dF rR 0 QO rR OH rR (dL rR (I e.point) OI rR (dM rR rR rR (av rR (uB call34 rR (EN bv z.S z.L z.n e.point at_ G0 hC.v)) rR ?_)))))))));rintro _ _ ⟨rfl,rfl⟩;refine dM rR rR rR (dV rR (qr (v:=ac (bS z.S z.L e.point at_).1) rR rR) (dV rR (qr (v:=wm (bS z.S z.L e.point at_).2) rR rR) (dV rR (qt rR) (dV rR (qt rR) ?_))));refine qI ?_;refine qb (gS (gM rR (gV (yP OT rR) (qc ?_))));refine qd rfl ?_ ?_ <;> intro R
  ·have D:(bS z.S z.L e.point at_).2≠0:=(by simpa using R);refine gS (gM rR (gA rR (gQ rR ?_)));refine yK (f:=fb) z.mou (fc z.mou id) e [pt e.a (.cells #[I e.point, .map (some e.r)] 215 (0,0)),mp e.r (dT e.over)] rfl Z ?_;rw[wI X];refine yy b J (z) bs bl so co bv rs rm ?_;rw[show wF z id at_=([],(bS z.S z.L e.point at_).2) by unfold wF;rw[h];simp only;rw[RI D]];exact ql rfl rfl rfl
  ·have D:¬(bS z.S z.L e.point at_).2≠0:=(by simpa using R);refine qf (gS (gM rR (gV (qa rR) (gF 1 QO rR QD rR (gL (.map (some e.r)) QP rR (gM rR (gV (ws (v:=ac ((eQ e.over at_).getD [])) (bb:=(eQ e.over at_).isSome) QQ OL QF rR rR (FA _ _) (FB _ _)) (gM rR (gX (ac ((eQ e.over at_).getD [])) rR (gX (Bo (eQ e.over at_).isSome) rR (gA rR (gQ rR (qb (gS (gM rR (qc ?_))))))))))))))));refine qd rfl ?_ ?_ <;> intro V
   ·obtain ⟨t,Y⟩:=UG.1 V;rw[Y];refine gS (gM rR (gA rR (gQ rR ?_)));refine yK (f:=fb) z.mou (fc z.mou id) e [pt e.a (.cells #[I e.point, .map (some e.r)] 215 (0,0)),mp e.r (dT e.over)] rfl Z ?_;rw[wI X];refine yy b J (z) bs bl so co bv rs rm ?_;rw[show wF z id at_=(t,0) by unfold wF;rw[h];simp only;rw[RJ D,Y]];exact ql rfl rfl rfl
   ·have Y:eQ e.over at_=none:=(by simpa using V);refine qf (gS (gM rR (gA rR (gQ rR ?_))));refine yK (f:=fb) z.mou (fc z.mou id) e [pt e.a (.cells #[I e.point, .map (some e.r)] 215 (0,0)),mp e.r (dT e.over)] rfl Z ?_;rw[wI X];refine yy b J (z) bs bl so co bv rs rm ?_;rw[show wF z id at_=((bS z.S z.L e.point at_).1,0) by unfold wF;rw[h];simp only;rw[RJ D,Y]];exact ql rfl rfl rfl
def M9 (b D:Nat)(z:RpM)(id at_:Int)(d:ab)(Z:Rok z)(hdl:d.length<=9223372036854775807)(F:List aa):Ct Tryz.prog 51 [ptr b 0,I id,I at_,ac d] (aw b D z::F) (λv L'=>(wH z id at_ d≠0/\v=wm (wH z id at_ d)/\L'=aw b D z::F)\/(wH z id at_ d=0/\v=wm 0/\L'=aw b D (z.written id at_ d)::F)):=by
 refine Ct.of func51 rR 36 ntmps51 (by simp) λw0=>?_;refine gS (gQ rR (gS (gM rR (gM rR (gM rR (gR (vB call50 rR (FC b D z id at_ Z)) (gM rR (gX (ac (wF z id at_).1) rR (gX (wm (wF z id at_).2) rR (gA rR (gQ rR (qb (gS (gM rR (gV (yP OT rR) (qc ?_))))))))))))))));refine qd rfl ?_ ?_ <;> intro R
 ·have J:(wF z id at_).2≠0:=(by simpa using R);refine gS (gM rR (gQ rR ?_));exact qh (aw b D z::F) rfl (.inl ⟨by unfold wH;rw[RI J];exact J,by unfold wH;rw[RI J];rfl,rfl⟩)
 ·have J:(wF z id at_).2=0:=(by simpa using R);refine qf (qb (gS (gM rR (gV (yZ OM rR) (gV (qX rR rR) (qc ?_))))));refine qd rfl ?_ ?_ <;> intro V
  ·have X:6<d.length:=(by simp at V;omega);refine gS (gV (qP OY rR rR) (gQ rR ?_));exact qh (aw b D z::F) rfl (.inl ⟨by unfold wH;rw[RJ (by omega),RI X];decide,by unfold wH;rw[RJ (by omega),RI X];rfl,rfl⟩)
  ·have X:¬6<d.length:=(by simp at V;omega);refine qf (qb ?_);refine fj b D z ?_;intro bs bl so co bv rs rm;obtain ⟨e,O⟩:∃e,bx z.mou id=some e:=by
    cases hq:bx z.mou id with
    | none=>exact absurd (show (wF z id at_).2=5 by unfold wF;rw[hq]) (by omega)
    | some e=>exact ⟨e,rfl⟩
   obtain ⟨Y,hek,hi⟩:=kp O;refine zM z.mou _ Y ?_;refine qo (gM rR (gV (qa rR) (gF 3 Ph rR Qn rR (gL (.map (some rm)) Qu rR (gM rR (gV (yE (v:=ptr e.a 0) Qv OL Q0 rR rR (by rw[kn,O];rfl)) (gV (qa rR) (gF 1 QO rR QD rR (gL (.map (some e.r)) QP rR (gM rR (gM rR (cl (yk QQ OL rR rR rR) ?_))))))))))));rintro _ _ rfl;rw[Fm];refine qc (gS (gQ rR ?_));refine yK (f:=fb) z.mou (fc z.mou id) ⟨e.key,e.a,e.r,e.point,fJ e.over at_ d⟩ [pt e.a (.cells #[I e.point, .map (some e.r)] 215 (0,0)),mp e.r (dT (fJ e.over at_ d))] rfl hi ?_;rw[<-Fs (e':=⟨e.key,e.a,e.r,e.point,fJ e.over at_ d⟩) Y rfl rfl];refine yy b D (⟨z.h,z.used,z.rows,z.S,z.L,z.n,z.ses,z.mou.set (fc z.mou id) ⟨e.key,e.a,e.r,e.point,fJ e.over at_ d⟩,z.next⟩) bs bl so co bv rs rm ?_;exact qh (aw b D ⟨z.h,z.used,z.rows,z.S,z.L,z.n,z.ses,z.mou.set (fc z.mou id) ⟨e.key,e.a,e.r,e.point,fJ e.over at_ d⟩,z.next⟩::F) rfl (.inr ⟨by unfold wH;rw[RJ (by omega),RJ X],rfl,by unfold RpM.written RpM.moun;rw[O]⟩)
def Na {ee:Bool}(b O i:Nat)(z:RpM)(id:Int)(hR:Rok z)(D:DiskM)(hD:Dk i D z)(hi:i<=100000)(F:List aa):Ct Tryz.prog 45 [ptr b 0,I id] (yn ee::aw b O z::al 179 319 O (D)::F) (λv L'=>∃n e X z2,lb D z id n e X z2/\v= .tuple #[I n,wm e]/\L'=aw b O z2::al 179 319 O (X)::yn ee::F):=by
 obtain ⟨G0,hC⟩:=hR.con;have hlen:=hC.v.len;have hnx:=hR.next;refine Ct.of func45 rR 29 ntmps45 (by simp) λw0=>?_;refine gS (gA rR (gQ rR (qb ?_)));refine fj b O z ?_;intro bs bl so co bv rs rm;refine qo (gM rR (gV (qa rR) (gF 1 Ph rR P3 rR (gL (ptr bv 0) PX rR (gI (uB call66 rR (tY bv z.S z.L z.n (by omega))) ?_)))));rintro _ _ ⟨q,rfl,rfl⟩;refine gQ rR ?_;refine yy b O (z) bs bl so co bv rs rm ?_;refine gS (gM rR (gM rR (gI (uB call122 rR (Mn q z.S z.L z.n id G0 hC.v)) ?_)));rintro v L' hv;unfold vR at hv;rcases hr:dq z.S z.L z.n id with e0 | ⟨S1,L1,n1,r1⟩ <;> rw[hr] at hv <;> obtain ⟨rfl,rfl⟩:=hv
 ·have he0:=zk hr;refine gM rR (gX (I 0) rR (gX (wm e0) rR (gA rR (gQ rR (qb (gS (gM rR (gV (eA (T:=117) (f:=e0) OT rR) (qc ?_)))))))));refine qd rfl ?_ ?_ <;> intro Y
  ·simp at Y;omega
  ·refine qf (qb (gS (gM rR (gV (yP OT rR) (qc ?_)))));refine qd rfl ?_ ?_ <;> intro R
   ·refine gS (gM rR (gA rR (gQ rR ?_)));exact qh (aw b O z::al 179 319 O (D)::yn ee::F) rfl ⟨0,e0,D,z,by unfold lb;rw[hr];exact ⟨rfl,rfl,rfl,rfl⟩,rfl,rfl⟩
   ·simp at R;omega
 ·obtain ⟨G1,hC1⟩:=pO hC hr;refine gM rR (gX (I r1) rR (gX (wm 0) rR (gA rR (gQ rR (qb (gS (gM rR (gV (eA (T:=117) (f:=0) OT rR) (qc ?_)))))))));refine qd rfl ?_ ?_ <;> intro Y
  ·refine qo (gM rR (gM rR (gI (uE (A0:=yn ee) call97 rR (zP b O q i D z (S1) (L1) (n1) G0 G1 hC hC1 hD hi)) ?_)));rintro _ _ ⟨e,X,Z,J,h,V,rfl,rfl⟩;refine gQ rR (qb (gS (gM rR (gV (yP OT rR) (qc ?_)))));refine qd rfl ?_ ?_ <;> intro R
   ·have he:¬e=0:=(by simpa using R);refine gS (gM rR (gA rR (gQ rR ?_)));exact qh (aw b O (z.kept e Z J h S1 L1 n1)::al 179 319 O (X)::yn ee::F) rfl ⟨0,e,X,_,by unfold lb;rw[hr];exact ⟨⟨Z,J,h,V,rfl⟩,by rw[RJ he]⟩,rfl,rfl⟩
   ·have he:e=0:=(by simpa using R);refine qf (gS (gM rR (gA rR (gQ rR ?_))));exact qh (aw b O (z.kept e Z J h S1 L1 n1)::al 179 319 O (X)::yn ee::F) rfl ⟨r1,e,X,_,by unfold lb;rw[hr];exact ⟨⟨Z,J,h,V,rfl⟩,by rw[RI he]⟩,by rw[he];rfl,rfl⟩
  ·simp at Y
def FD {ee:Bool}(b h i:Nat)(z:RpM)(id:Int)(hR:Rok z)(D:DiskM)(hD:Dk i D z)(hi:i<=100000)(F:List aa):Ct Tryz.prog 46 [ptr b 0,I id] (yn ee::aw b h z::al 179 319 h (D)::F) (λv L'=>∃e Z z2,im D z id e Z z2/\v=wm e/\L'=aw b h z2::al 179 319 h (Z)::yn ee::F):=by
 obtain ⟨G0,hC⟩:=hR.con;have hlen:=hC.v.len;have hnx:=hR.next;refine Ct.of func46 rR 39 ntmps46 (by simp) λw0=>?_;refine gS (gQ rR (qb ?_));refine fj b h z ?_;intro bs bl so co bv rs rm;refine qo (gM rR (gV (qa rR) (gF 1 Ph rR P3 rR (gL (ptr bv 0) PX rR (gM rR (gR (vB call92 rR (yT bv z.S z.L z.n id (by omega))) (gM rR (gX (.agg (qL ((qS z.L id).getD aM)).toArray) rR (gX (Bo (qS z.L id).isSome) rR (gI (qA #[I 0,I 0,I 0,I 0] Pc) ?_))))))))));rintro _ _ ⟨b5,rfl,rfl⟩;refine gU (qp (cs:=#[I 0,I 0,I 0,I 0]) (vs:=qL (((qS z.L id).getD aM))) (qL (((qS z.L id).getD aM))).toArray OP rR rR rR rR (by simp) (qs rR)) (gQ rR (qb (gS (gM rR (gV (wb rR) (qc ?_))))));refine qd rfl ?_ ?_ <;> intro V
 ·simp at V;refine gS (gV (qP OY rR rR) (gQ rR ?_));refine yy b h (z) bs bl so co bv rs rm ?_;have J:cF z id=5:=(by unfold cF;rw[V];rfl);exact qh (aw b h z::al 179 319 h (D)::yn ee::F) rfl ⟨5,D,z,by unfold im;rw[RI (by omega),J];exact ⟨rfl,rfl,rfl⟩,rfl,rfl⟩
 ·simp at V;obtain ⟨p,hf⟩:=UG.1 V;rw[show (qS z.L id).getD aM=p by rw[hf];rfl];refine qf (qb (qb ?_));refine yy b h (z) bs bl so co bv rs rm ?_;refine qo (gM rR (gM rR (gR (vB call123 rR (Fy b h z id)) (qc ?_))));refine qd rfl ?_ ?_ <;> intro h23
  ·have Y:bX z id=true:=h23;refine gS (gV (qP OY rR rR) (gQ rR ?_));have J:cF z id=6:=(by unfold cF;rw[hf,Y];rfl);exact qh (aw b h z::al 179 319 h (D)::yn ee::F) rfl ⟨6,D,z,by unfold im;rw[RI (by omega),J];exact ⟨rfl,rfl,rfl⟩,rfl,rfl⟩
  ·have Y:bX z id=false:=(by simpa using h23);have J:cF z id=0:=(by unfold cF;rw[hf,Y];rfl);refine qf (qb ?_);refine fj b h z ?_;intro bs bl so co bv rs rm;refine qo (gM rR (gV (qa rR) (gF 1 Ph rR P3 rR (gL (ptr bv 0) PX rR (gI (uB call66 rR (tY bv z.S z.L z.n (by omega))) ?_)))));rintro _ _ ⟨q,rfl,rfl⟩;refine gQ rR ?_;refine yy b h (z) bs bl so co bv rs rm ?_;refine gS (gM rR (gM rR (gI (uB call124 rR (Mp q z.S z.L z.n id G0 hC.v)) ?_)));obtain ⟨p1,S1,L1,hf1,hus1,X⟩:=zR (z:=z) (id:=id) J;obtain ⟨G1,hC1⟩:=zq hC X;rintro v L' hv;unfold nc at hv;rw[X] at hv;obtain ⟨rfl,rfl⟩:=hv;refine gQ rR (qb (gS (gM rR (gV (eA (T:=117) (f:=0) OT rR) (qc ?_)))));refine qd rfl ?_ ?_ <;> intro h34
   ·refine qo (gM rR (gM rR (gI (uE (A0:=yn ee) call97 rR (zP b h q i D z (S1) (L1) (z.n) G0 G1 hC hC1 hD hi)) ?_)));rintro _ _ ⟨e,Z,h2,R,O,hcom,rfl,rfl⟩;refine gQ rR (gS (gM rR (gQ rR ?_)));exact qh (aw b h (z.kept e h2 R O S1 L1 z.n)::al 179 319 h (Z)::yn ee::F) rfl ⟨e,Z,_,by unfold im;rw[RJ (by omega)];exact ⟨S1,L1,X,h2,R,O,hcom,rfl⟩,rfl,rfl⟩
   ·simp at h34
def FE (l:List PutM)(id:Int):Option PutM:=l.find? λp=>decide (p.at_=id)
def lc (l:List PutM)(id:Int):Nat:=l.findIdx λp=>decide (p.at_=id)
def io (l:List PutM)(id:Int):Int:=if lc l id<l.length then (lc l id:Int) else -1
def Nb {l:List PutM}{id:Int}{k:Nat}{s:PutM}(D:∀j,j<k->∀t,l[j]? =some t->t.at_≠id)(S:l[k]? =some s)(J:s.at_=id):io l id=k:=by
 obtain ⟨R,h⟩:=Re.1 S;have e:lc l id=k:=by
  unfold lc;rw[List.findIdx_eq R];refine ⟨by rw[h];simpa using J,λj O=>?_⟩;have:=D j O l[j] (S6 (by omega));simpa using this
 unfold io;rw[RI (by omega),e]
def FF {l:List PutM}{id:Int}(D:∀j,j<l.length->∀t,l[j]? =some t->t.at_≠id):io l id= -1:=by
 unfold io;rw[RJ];intro h;have:=UN (w:=h);simp at this;exact D _ h _ (S6 h) this
def Nc {l:List PutM}{id:Int}(h:¬io l id<0):∃i s,io l id=((i:Nat):Int)/\l[i]? =some s/\s.at_=id/\i<l.length/\FE l id=some s/\∀j,j<i->∀t,l[j]? =some t->t.at_≠id:=by
 unfold io at h ⊢;split at h
 ·rename_i J;have D:l[lc l id].at_=id:=of_decide_eq_true (UN (p:=λp:PutM=>decide (p.at_=id)) (w:=J));have O:∀j,j<lc l id->∀t,l[j]? =some t->t.at_≠id:=λj R t X=>by
   have S:=UO R;obtain ⟨V,e⟩:=Re.1 X;subst e;simpa using S
  refine ⟨lc l id,l[lc l id],by rw[RI J],S6 J,D,J,?_,O⟩;unfold FE;rw[UP];refine ⟨S8 D,_,J,rfl,λj R=>?_⟩;have:=O j R l[j] (S6 (by omega));simpa using this
 ·omega
structure DlU (l R:List PutM) (id:Int) (w j:Nat):Prop where
 len:R.length=l.length
 lj:j<=l.length
 lw:w<=j
 pre:R.take w=(l.take j).filter λx=>!decide (x.at_=id)
 suf:R.drop j=l.drop j
def FG {l R:List PutM}{id:Int}{w j:Nat}(h:DlU l R id w j){x:PutM}(hx:R[j]? =some x):l[j]? =some x:=by
 have D:(R.drop j)[0]? =some x:=(by simpa using hx);rw[h.suf] at D;simpa using D
def Nf {l R:List PutM}{id:Int}{w j:Nat}(h:DlU l R id w j){x:PutM}(hx:R[j]? =some x)(D:x.at_=id):DlU l R id w (j+1):=by
 have J:=FG h hx;have O:=(Re.1 J).1;refine ⟨h.len,O,by have:=h.lw;omega,?_,?_⟩
 ·rw[UY,J,TA,h.pre];simp[D]
 ·rw[<-UV,<-UV,h.suf]
def Ng {l R:List PutM}{id:Int}{w j:Nat}(h:DlU l R id w j)(V:w<j){x:PutM}(hx:R[j]? =some x)(J:x.at_≠id):DlU l (R.set w x) id (w+1) (j+1):=by
 have O:=FG h hx;have S:=(Re.1 O).1;have D:=h.len;refine ⟨by simp[D],S,by omega,?_,?_⟩
 ·rw[UY (l:=l),O,TA,<-h.pre,UY,U5 (Ra _),Ry (by omega)];simp[J]
 ·rw[U6 (by omega),<-UV,<-UV,h.suf]
def FH {l R:List PutM}{id:Int}{w:Nat}(h:DlU l R id w l.length):R.take w=l.filter λx=>!decide (x.at_=id):=by rw[h.pre,S7]
def Nh {l:List PutM}{id:Int}(h:∀j,j<l.length->∀t,l[j]? =some t->t.at_≠id):l.filter (λx=>!decide (x.at_=id))=l:=Tt.2 λa J=>by
 obtain ⟨j,D,rfl⟩:=U4.1 J;have:=h j D l[j] (S6 D);simpa using this
def FI {l:List PutM}{id:Int}(h:io l id<0):∀j,j<l.length->∀t,l[j]? =some t->t.at_≠id:=λj R t O D=>by
 unfold io at h;split at h
 ·omega
 ·rename_i J;exact J (UQ ⟨t,R5 O,by simpa using D⟩)
def Ni {l:List PutM}{id:Int}(h:io l id<0):io l id= -1:=FF (FI h)
def Nj (l:List PutM)(id:Int){i:Nat}(h:∀j,j<i->∀t,l[j]? =some t->t.at_≠id){s:PutM}(J:l[i]? =some s)(S:s.at_=id):(l.take (i+1)).filter (λx=>!decide (x.at_=id))=l.take i:=by
 have V:=(Re.1 J).1;rw[UY,J,TA];have O:(l.take i).filter (λx=>!decide (x.at_=id))=l.take i:=Tt.2 λa R=>by
  obtain ⟨j,D,rfl⟩:=U4.1 R;have:=h j (by simp at D;omega) (l.take i)[j] (by simp at D ⊢);simpa using this
 rw[O];simp[S]
def Nk {l:List PutM}{id:Int}{i:Nat}(h:∀j,j<i->∀t,l[j]? =some t->t.at_≠id){s:PutM}(D:l[i]? =some s)(J:s.at_=id):DlU l l id i (i+1):=
 ⟨rfl,(Re.1 D).1,by omega,(Nj l id h D J).symm,rfl⟩
def Nl (l:List PutM)(w:Nat)(x:PutM):(aE l).set w (ci x)=aE (l.set w x):=by simp[aE,T1]
def Nm (l:List PutM)(w:Nat):(aE l).take w=aE (l.take w):=by simp[aE,TR]
def FJ (n:Int)(s:ab)(w:World):(Instr.build 86 #[(0,I n),(1,ac s)]).run Tryz.prog w= .ok (.agg (ci ⟨n,s⟩).toArray) w:=by
 simp[Instr.build,Qc,runUnderlying86,OH,ON,Instr.fill,qW,ci,show ∀k:Int,(I k).cells=#[I k] from λ_=>rfl,show (ac s).cells=#[ac s] from rfl]
def cg (z:RpM)(id at_:Int)(d:ab):Int:=match aK z.ses id with
 | none=>5
 | some e=>if at_<0\/e.size<=at_ then 1 else if 6<d.length then 2 else 0
def cv (l:List PutM)(at_:Int)(d:ab):List PutM:=l.filter (λx=>!decide (x.at_=at_))++ [⟨at_,d⟩]
def RpM.putted (z:RpM)(id at_:Int)(d:ab)(so:Option Addr)(co:Nat):RpM:=match aK z.ses id with
 | none=>z
 | some e=>z.sess (z.ses.set (dt z.ses id) ⟨e.key,e.a,so,co,e.base,e.disk,e.size,cv e.puts at_ d⟩)
def jq (D:DiskM)(z:RpM)(id n e:Int)(D2:DiskM)(z2:RpM):Prop:=match aK z.ses id with
 | none=>n=0/\e=5/\D2=D/\z2=z
 | some s=>match bW z.S z.L z.n s.base s.disk s.size s.puts with
  | .error f=>n=0/\e=f/\D2=D/\z2=z
  | .ok (S',L',n',r)=>∃y,q8 D z S' L' n' e D2 y/\n=(if e=0 then r else 0)/\z2=if e=0 then y.sess (cr y.ses id) else y
def FK (x:PutM)(q:Nat)(id:Int)(F:List aa):Ct Tryz.prog 95 [.agg (ci x).toArray,ptr q 0] (pt q (.cells #[I id] 3 (0,0))::F) (R1 (Bo (decide (x.at_=id))) (pt q (.cells #[I id] 3 (0,0))::F)):=by
 refine Ct.of func95 rR 8 ntmps95 (by simp) λw0=>?_;refine gS (gI (wR (ci x).toArray rR rR) ?_);rintro _ _ ⟨h,rfl,rfl⟩;refine gQ rR (gS (gF 0 PN rR OH rR (gL (I x.at_) OI rR (gL (I id) OI rR (gV (yD rR rR) (gQ rR ?_))))));refine ql rR rR ?_;exact rfl
def Nn (l:List PutM)(s:Option Addr)(c q:Nat)(id:Int)(Y:l.length<=1000000)(F:List aa):Ct Tryz.prog 167 [sl s l.length c, .func (.func 95) #[] #[ptr q 0]] (ai 86 2 s c (aE (l))::pt q (.cells #[I id] 3 (0,0))::F) (R1 (I (io l id)) (ai 86 2 s c (aE (l))::pt q (.cells #[I id] 3 (0,0))::F)):=by
 refine Ct.of func167 rR 19 ntmps167 (by simp) λw0=>?_;refine gS (gQ rR (qb (gS (gM rR (gV (qY Pj rR) (gM rR (qc (qg ?_))))))));refine qC (α:=Nat) (λk=>k<=l.length/\∀j,j<k->∀t,l[j]? =some t->t.at_≠id) (λk=>U [(0,sl s l.length c),(1, .func (.func 95) #[] #[ptr q 0]),(7,I l.length),(8,I k)]) (λ_=>ai 86 2 s c (aE (l))::pt q (.cells #[I id] 3 (0,0))::F) (λk=>l.length - k) 0 ⟨by simp,λj V=>absurd V (by omega)⟩ [0,1,7,8] rfl rR ?_;rintro k ⟨X,O⟩;refine gS (gV (qH rR rR) (qc (qb ?_)));refine qd rfl ?_ ?_ <;> intro S
 ·simp at S;have J:k<l.length:=(by omega);obtain ⟨x,hx⟩:∃x,l[k]? =some x:=⟨_,S6 J⟩;refine qf (qb (qg (gS (gM rR (gQ rR (gS (gM rR (gM rR (gM rR (gV (qv (k) Pj Pm rR rR rR J (by rw[yN];exact J)) (gV (qZ (row:=ci x) QE Pm rR (gH hx) rR) (gI (fC (fi:=[]) (cap:=[ptr q 0]) (Pre:=[pt q (.cells #[I id] 3 (0,0))]) call95 rR rR (FK x q id)) ?_))))))))))));rintro _ _ ⟨rfl,rfl⟩;refine qc ?_;refine qd rfl ?_ ?_ <;> intro D
  ·simp at D;refine gS (gM rR (gQ rR ?_));refine ql rR rR ?_;show I _=I _;rw[Nb O hx D]
  ·simp at D;refine qf (qD (qo (gP rR rR (by omega) (gM rR (qc ?_)))));exact qk (k+1) ⟨by omega,λj V t R=>by
    rcases Rq j k with h | h
    ·exact O j h t R
    ·obtain rfl:j=k:=(by omega);rw[hx] at R;injection R with R;rw[<-R];exact D⟩ (by omega) [0,1,7,8] rfl rfl
 ·simp at S;obtain rfl:k=l.length:=(by omega);refine qw rR ?_;refine gS (gQ rR ?_);refine ql rR rR ?_;show I _=I _;rw[FF O]
def Np (L:List PutM)(s:Option Addr)(c q:Nat)(id:Int)(hl:L.length<=1000000)(F:List aa):Ct Tryz.prog 94 [sl s L.length c, .func (.func 95) #[] #[ptr q 0]] (ai 86 2 s c (aE (L))::pt q (.cells #[I id] 3 (0,0))::F) (R1 (sl s (L.filter λx=>!decide (x.at_=id)).length c) (ai 86 2 s c (aE ((L.filter λx=>!decide (x.at_=id))))::pt q (.cells #[I id] 3 (0,0))::F)):=by
 refine Ct.of func94 rR 42 ntmps94 (by simp) λw0=>?_;refine kH s (λX=>?_);rw[yN] at X;refine gS (gQ rR (gS (gM rR (gM rR (gR (vC call167 rR (Nn L s c q id hl)) (gQ rR (qb (gS (gM rR (gV (yD rR rR) (qc ?_)))))))))));refine qd rfl ?_ ?_ <;> intro O
 ·simp at O;rw[show (L.filter λx=>!decide (x.at_=id))=L from Nh (FI (by omega))];refine gS (gM rR (gQ rR ?_));exact ql rfl rfl rfl
 ·simp at O;obtain ⟨i,p,hi,hp,hid,hil,hf,hno⟩:=Nc (l:=L) (id:=id) (λh=>O (Ni h));rw[hi];refine qf (qb (gS (gM rR (gP rR rR (by omega) (gQ rR ?_)))));rw[show ((i:Nat):Int)+1=((i+1:Nat):Int) by omega];refine qg ?_;refine qC (α:=Nat×Nat×List PutM) (λz=>DlU L z.2.2 id z.2.1 z.1/\z.2.1<z.1) (λz=>U [(0,sl s L.length c),(1, .func (.func 95) #[] #[ptr q 0]),(5,I z.2.1),(6,I z.1)]) (λz=>ai 86 2 s c (aE z.2.2)::pt q (.cells #[I id] 3 (0,0))::F) (λz=>L.length - z.1) (i+1,i,L) ⟨Nk hno hp hid,by simp only[];omega⟩ [0,1,5,6] rfl rR ?_;rintro ⟨j,w,R⟩ ⟨D,Y⟩;simp only[] at D Y ⊢;have hjl0:=D.lj;refine qb (gS (gM rR (gM rR (gV (qY Pj rR) (gV (qH rR rR) (qc ?_))))));refine qd rfl ?_ ?_ <;> intro V
  ·simp at V;have S:j<L.length:=(by omega);have Z:w<L.length:=(by omega);obtain ⟨x,hx⟩:∃x,R[j]? =some x:=⟨_,S6 (by rw[D.len];exact S)⟩;refine qf (qb (qg (gS (gM rR (gM rR (gV (qv (j) Pj Pm rR rR rR S (by rw[yN,D.len];exact S)) (gV (qZ (row:=ci x) QE Pm rR (gH hx) rR) (gI (qA #[I 0,ac []] Qc) ?_))))))));rintro _ _ ⟨b7,rfl,rfl⟩;refine gU (qp (cs:=#[I 0,ac []]) (vs:=ci (x)) (ci (x)).toArray Pm rR rR rR rR (by simp[ci]) (qs rR)) (qc (gS (gM rR (gV (qJ (vs:=ci x) QE Pm rR rR qQ) (gI (fC (fi:=[]) (cap:=[ptr q 0]) (Pre:=[pt q (.cells #[I id] 3 (0,0))]) call95 rR rR (FK x q id)) ?_)))));rintro _ _ ⟨rfl,rfl⟩;refine gV (wb rR) (qc ?_);refine qd rfl ?_ ?_ <;> intro J
   ·simp at J;refine gS (gM rR (gM rR (gV (qJ (vs:=ci x) QE Pm rR rR qQ) (gV (qv (w) Pj Pm rR rR rR Z (by rw[yN,D.len];exact Z)) (cl (va (j:=w) (vs:=ci x) Pm rR rR rR rR (by rw[yN,D.len];omega) (by decide)) ?_)))));rintro _ _ rfl;rw[Nl];refine qc (qo (gM rR (gP rR rR (by omega) (gQ rR (qD (qo (gM rR (gP rR rR (by omega) (gQ rR ?_)))))))));exact qk (j+1,w+1,R.set w x) ⟨Ng D Y hx J,by simp only[];omega⟩ (by simp only[];omega) [0,1,5,6] rfl rfl
   ·simp at J;refine qf (qD (qo (gM rR (gP rR rR (by omega) (gQ rR ?_)))));exact qk (j+1,w,R) ⟨Nf D hx J,by simp only[];omega⟩ (by simp only[];omega) [0,1,5,6] rfl rfl
  ·simp at V;obtain rfl:j=L.length:=(by omega);refine qw rR ?_;refine qb ?_;refine pj s w ?_;rw[Nm,FH D];have hfl:(L.filter λx=>!decide (x.at_=id)).length=w:=(by rw[<-FH D,Sv];have:=D.len;omega);refine qo (gM rR (gM rR (gV (fN (l:=w) Pj Pm rR rR rR (by omega)) (cl (u5 (sz:=2) (l:=w) s Pj Qc rR rR rR (by unfold At;split;exact .inr (.inr (by omega));exact .inr (.inl rR)) (by rw[yN];omega) (by omega)) ?_))));rintro _ _ ⟨rfl,rfl⟩;refine qc (gS (gM rR (gM rR (gV (jV (h:=w) Pj Pm rR rR rR (by omega)) (gQ rR ?_)))));exact ql rfl rfl (by rw[hfl];rfl)
def Nq (b:Nat)(S:SI)(L:List Pt)(n:Int)(base disk size:Int)(puts:List PutM)(sp:Option Addr)(cp:Nat)(G0:Gh)(hV:Vok S L n G0)(hpl:puts.length<=1000000)(hpd:∀p∈puts,p.data.length<=9223372036854775807)(F:List aa):Ct Tryz.prog 96 [ptr b 0,I base,I disk,I size,sl sp puts.length cp] (aI b S L n::ai 86 2 sp cp (aE puts)::F) (vR aI (bg 117) b (ai 86 2 sp cp (aE puts)::F) (bW S L n base disk size puts)):=by
 have hok:=gv hV;have hll:=hV.len;have hn1:=hV.n1;have hrl:(L.map (·.root)).length<=8:=(by simp;omega);refine Ct.of func96 rR 102 ntmps96 (by simp) λw0=>?_;refine gS (gA rR (gQ rR (qb (gS (gM rR (gV (qH rR rR) (gM rR (gK rR rR (qn rR) (gK rR rR (qX rR rR) (gV (aD rR rR) (gM rR (gK rR rR (qn rR) (gK rR rR (qH rR rR) (gV (aD rR rR) (gM rR (gK rR rR (qn rR) (gK rR rR (qX rR rR) (gV (aD rR rR) (qc ?_)))))))))))))))))));refine qd rfl ?_ ?_ <;> intro h31
 ·simp at h31;have D:disk<1\/999<disk\/size<1\/16<size:=(by omega);refine gS (gV (qP OY rR rR) (gA rR (gQ rR ?_)));exact wL rfl (by unfold bW;rw[RI D]) rfl rfl
 ·simp at h31;have D:¬(disk<1\/999<disk\/size<1\/16<size):=(by omega);refine qf (gS (gM rR (gM rR (gM rR (gM rR (gI (uB call168 rR (Mm b S L n base disk size G0 hV (by omega))) ?_))))));rintro v L' hv;unfold vR lX at hv;rcases hb:dE S L base disk size with e0 | ⟨z1,z2⟩ <;> rw[hb] at hv <;> obtain ⟨rfl,rfl⟩:=hv
  ·have he0:=Ea hb;refine gM rR (gX (I 0) rR (gX (bg 117 e0) rR (gA rR (gQ rR (qb (gS (gM rR (gV (yP OT rR) (qc ?_)))))))));refine qd rfl ?_ ?_ <;> intro X
   ·refine gS (gM rR (gA rR (gQ rR ?_)));exact wL rfl (by unfold bW;rw[RJ D,hb]) rfl rfl
   ·simp at X;omega
  ·obtain ⟨G2,hz,hR2,_,_⟩:=xR hV (by omega) hb;simp only at hz hR2;subst hz;refine f9 b (ag G2) L n ?_;intro x s c;refine gM rR (gX (I z2) rR (gX (bg 117 0) rR (gA rR (gQ rR (qb (gS (gM rR (gV (yP OT rR) (qc ?_)))))))));refine qd rfl ?_ ?_ <;> intro X
   ·simp at X
   ·refine qf (qb (gS (gM rR (gV (qY Pj rR) (gM rR (qc (qg ?_)))))));refine qC (α:=Nat×Gh×Int) (λz=>z.1<=puts.length/\Rt z.2.1 (z.2.2::L.map (·.root))/\cf size (ag z.2.1,z.2.2) (puts.drop z.1)=cf size (ag G2,z2) puts) (λz=>U [(0,ptr b 0),(2,I disk),(3,I size),(12,I z.2.2),(44,sl sp puts.length cp),(45,I puts.length),(46,I z.1)]) (λz=>pt b (.cells #[ptr x 0,sl s (L).length c,I (n)] 123 (0,0))::aX x (ag z.2.1)::ai 162 4 s c (az (L))::ai 86 2 sp cp (aE puts)::F) (λz=>puts.length - z.1) (0,G2,z2) ⟨by simp,hR2,by simp⟩ [0,2,3,12,44,45,46] rfl rR ?_;rintro ⟨k,G,root⟩ ⟨hk,Z,h⟩;simp only[] at hk Z h ⊢;have R:=na Z (m:=200) (by simp;omega);refine gS (gV (qH rR rR) (qc (qb ?_)));refine qd rfl ?_ ?_ <;> intro h47
    ·simp at h47;have Y:k<puts.length:=(by omega);obtain ⟨p,hp⟩:∃p,puts[k]? =some p:=⟨_,S6 Y⟩;have hpd1:=hpd p (R5 hp);refine qf (qb (qg (gS (gV (qv k Pj Pm rR rR rR Y (by rw[yN];exact Y)) (gV (qZ (row:=ci p) QE Pm rR (gH hp) rR) (gI (qA #[I 0,ac []] Qc) ?_))))));rintro _ _ ⟨b15,rfl,rfl⟩;refine gU (qp (cs:=#[I 0,ac []]) (vs:=ci p) (ci p).toArray Pm rR rR rR rR (by simp[ci]) (qs rR)) (qc (qb (gS (gF 0 PN rR OH rR (gL (I p.at_) OI rR (gV (qH rR rR) (gM rR (gK rR rR (qm 0 PN rR rR OH (by decide) rR) (gK rR rR (qu (v:=I p.at_) OI rR rR) (gK rR rR (qn rR) (gK rR rR (jt rR rR) (gV (aD rR rR) (qc ?_)))))))))))));refine qd rfl ?_ ?_ <;> intro h58
     ·simp at h58;refine gS (gV (qP OY rR rR) (gA rR (gQ rR ?_)));exact wL rfl (by
       unfold bW;rw[RJ D,hb];simp only;rw[<-h,kj hp];simp only[cf];rw[RI (by omega)]) rfl rfl
     ·simp at h58;have han:(p.at_.toNat:Int)=p.at_:=(by omega);refine qf (qb (qb (gD (Lf:=[pt b (.cells #[ptr x 0,sl s (L).length c,I (n)] 123 (0,0)),pt b15 (.cells (ci p).toArray 86 (0,0))]) [(0,false),(1,false),(2,false),(3,false),(4,false),(5,false),(6,false),(8,false),(9,false),(7,true),(10,false)] (dM rR rR rR (dV rR (qa rR) (dF rR 0 OV rR Pd rR (dL rR (ptr x 0) Pg rR (dM rR rR rR (dF rR 0 PN rR OH rR (dV rR (qu (v:=I (p.at_.toNat:Int)) OI rR (by rw[han];rfl)) (dF rR 1 PN rR ON rR (dL rR (ac p.data) OQ rR (av rR (uB call98 rR (xw x (ag G) root p.at_.toNat 200 R (by decide) (by omega))) rR ?_)))))))))))));rintro _ _ ⟨rfl,rfl⟩;refine dV rR (wl rR rR) ?_;refine qI ?_;refine qd rfl ?_ ?_ <;> intro J
      ·simp at J;refine qw rR ?_;refine qo (gP rR rR (by omega) (gM rR (qc ?_)));exact qk (k+1,G,root) ⟨by simp only[];omega,Z,by
        rw[<-h,kj hp];simp only[cf];rw[RJ (by omega),RI J]⟩ (by simp only[];omega) [0,2,3,12,44,45,46] rfl rfl
      ·simp at J;refine qf (qb ?_);refine yO (Lf:=[pt b (.cells #[ptr x 0,sl s (L).length c,I (n)] 123 (0,0)),pt b15 (.cells (ci p).toArray 86 (0,0))]) jL (by kernel_rfl) (by kernel_rfl) rR (by kernel_rfl) ?_;refine dM rR rR rR (dV rR (qa rR) (dF rR 0 OV rR Pd rR (dL rR (ptr x 0) Pg rR (dM rR rR rR (dF rR 0 PN rR OH rR (dV rR (qu (v:=I (p.at_.toNat:Int)) OI rR (by rw[han];rfl)) (dF rR 1 PN rR ON rR (dL rR (ac p.data) OQ rR (av rR (uB call169 rR (DB x (ag G) root p.at_.toNat p.data 200 R (by decide) (by omega) hpd1 (tD Z.V (dS Z (by simp))))) rR ?_)))))))));rintro _ _ ⟨rfl,rfl⟩;refine dM rR rR rR (dV rR (qr (v:=I (aP (ag G) root p.at_.toNat p.data).1) rR rR) (dV rR (qr (v:=bg 117 (aP (ag G) root p.at_.toNat p.data).2) rR rR) (dV rR (qt rR) (dV rR (qt rR) ?_))));refine qI ?_;refine qb (gS (gM rR (gV (yP OT rR) (qc ?_))));refine qd rfl ?_ ?_ <;> intro O
       ·simp at O;refine gS (gM rR (gA rR (gQ rR ?_)));exact wL rfl (by
         unfold bW;rw[RJ D,hb];simp only;rw[<-h,kj hp];simp only[cf,put1];rw[RJ (by omega),RJ J,RJ O]) rfl rfl
       ·simp at O;obtain ⟨G1,G3,hu1,o1,r1,v1,hu2,hR3,_,_⟩:=k7 Z hrl (by omega) O;rw[hu1];refine qf (gS (gM rR (gV (qa rR) (gF 0 OV rR Pd rR (gL (ptr x 0) Pg rR (gM rR (gR (vB call170 rR (xr x (ag G1) root 200 o1 (by decide))) ?_)))))));rw[hu2];refine qc (qo (gM rR (gQ rR (qD (qo (gP rR rR (by omega) (gM rR (qc ?_))))))));exact qk (k+1,G3,(aP (ag G) root p.at_.toNat p.data).1) ⟨by simp only[];omega,hR3,by
         rw[<-h,kj hp];simp only[cf,put1];rw[RJ (by omega),RJ J,RI O,hu1,hu2]⟩ (by simp only[];omega) [0,2,3,12,44,45,46] rfl rfl
    ·simp at h47;obtain rfl:k=puts.length:=(by omega);rw[Uk] at h;refine qw rR ?_;refine qb ?_;refine yA b x s c (ag G) (L) (n) ?_;refine qo (gM rR (gM rR (gM rR (gM rR (gR (vB call171 rR (EM b (ag G) L n disk size root (by omega) (by omega))) (gX (I (cu L n)) rR (gX (bg 117 (cn L n)) rR (gA rR (gQ rR ?_)))))))));by_cases ha:cn L n=0
     ·rw[show cu L n=n by unfold cu;rw[RI ha],show ei L n disk size root=L++ [⟨n,disk,size,root⟩] by unfold ei;rw[RI ha],show em L n=n+1 by unfold em;rw[RI ha],ha];exact k8 (S:=ag G) (P:=L++ [⟨n,disk,size,root⟩]) (n:=n+1) rfl (by
       unfold bW;rw[RJ D,hb];simp only;rw[<-h];simp only[cf];rw[RJ (by omega)]) rfl rfl
     ·rw[show cu L n=0 by unfold cu;rw[RJ ha]];exact wL rfl (by
       unfold bW;rw[RJ D,hb];simp only;rw[<-h];simp only[cf];rw[RI ha]) rfl rfl
def FL (b R:Nat)(z:RpM)(id at_:Int)(d:ab)(hR:Rok z)(hdl:d.length<=9223372036854775807)(F:List aa):Ct Tryz.prog 32 [ptr b 0,I id,I at_,ac d] (aw b R z::F) (λv L'=>(cg z id at_ d≠0/\v=wm (cg z id at_ d)/\L'=aw b R z::F)\/(cg z id at_ d=0/\∃so co,v=wm 0/\L'=aw b R (z.putted id at_ d so co)::F)):=by
 refine Ct.of func32 rR 58 ntmps32 (by simp) λw0=>?_;refine fj b R z ?_;intro bs bl so co bv rs rm;refine gS (gI (wR #[I at_] rfl rR) ?_);rintro _ _ ⟨b6,rfl,rfl⟩;refine gQ rfl (gS (gM rfl (gV (qa rfl) (gF 2 Ph rfl Qg rfl (gL (.map (some rs)) Ql rfl (gM rfl (gV (yE (v:= .pointer ((aK z.ses id).map λe=>⟨e.a,0,none⟩)) Qm OL QY rfl rfl (by rw[jp];cases aK z.ses id <;> rfl)) (gQ rfl (qb (qg (gS (gM rfl (gV (jW QZ rfl) (gQ rfl ?_))))))))))))));refine qd rfl ?_ ?_ <;> intro Y
 ·have hno:aK z.ses id=none:=(by simpa using Y);refine gS (gV (qP OY rR rR) (gQ rR ?_));refine yy b R (z) bs bl so co bv rs rm ?_;exact qh (aw b R (z)::F) rfl (have X:cg z id at_ d=5:=by unfold cg;rw[hno]
   .inl ⟨by rw[X];decide,by rw[X];rfl,rfl⟩)
 ·obtain ⟨e,O⟩:∃e,aK z.ses id=some e:=UG.1 (by cases hq:aK z.ses id with
   | none=>rw[hq] at Y;cases Y
   | some _=>rfl)
  obtain ⟨he,hek,hi⟩:=ko O;rw[O];refine qb ?_;refine zL z.ses _ he ?_;refine yO (Lf:=[pt e.a (.cells #[I e.base,I e.disk,I e.size,sl e.so (e.puts.length) e.co] 168 (0,0)),pt b6 (.cells #[I at_] 3 (0,0))]) jE (by kernel_rfl) (by kernel_rfl) rR (by kernel_rfl) ?_;refine dL rR (I at_) OI rR (dV rR (qH rR rR) (dM rR rR rR (dJ rR rR rR (qu (v:=I at_) OI rR rR) (dJ rR rR rR (qn rR) (dJ rR rR rR (qa rR) (dJ rR rR rR (qm 2 Qb rR rR OH (by decide) rR) (dJ rR rR rR (qu (v:=I e.size) OI rR rR) (dJ rR rR rR (jt rR rR) (dV rR (aD rR rR) (dV rR (qt rR) ?_))))))))));refine qI ?_;refine qd rfl ?_ ?_ <;> intro Z
  ·have V:at_<0\/e.size<=at_:=(by simp at Z;omega);refine gS (gV (qP OY rR rR) (gQ rR ?_));refine yK (f:=eu) z.ses (dt z.ses id) e [pt e.a (.cells #[I e.base,I e.disk,I e.size,sl e.so e.puts.length e.co] 168 (0,0)),ai 86 2 e.so e.co (aE e.puts)] rfl hi ?_;rw[wI he];refine yy b R (z) bs bl so co bv rs rm ?_;have X:cg z id at_ d=1:=(by unfold cg;rw[O];simp only;rw[RI V]);exact qh (aw b R z::F) rfl (.inl ⟨by rw[X];decide,by rw[X];rfl,rfl⟩)
  ·have V:¬(at_<0\/e.size<=at_):=(by simp at Z;omega);refine gS (gM rR (gV (yZ OM rR) (gV (qX rR rR) (gQ rR ?_))));refine qd rfl ?_ ?_ <;> intro h32
   ·have h6:6<d.length:=(by simp at h32;omega);refine gS (gV (qP OY rR rR) (gQ rR ?_));refine yK (f:=eu) z.ses (dt z.ses id) e [pt e.a (.cells #[I e.base,I e.disk,I e.size,sl e.so e.puts.length e.co] 168 (0,0)),ai 86 2 e.so e.co (aE e.puts)] rfl hi ?_;rw[wI he];refine yy b R (z) bs bl so co bv rs rm ?_;have X:cg z id at_ d=2:=(by unfold cg;rw[O];simp only;rw[RJ V,RI h6]);exact qh (aw b R z::F) rfl (.inl ⟨by rw[X];decide,by rw[X];rfl,rfl⟩)
   ·have h6:¬6<d.length:=(by simp at h32;omega);have hps:=(hR.putS e (R5 he)).1;have hfl:=TG (λx:PutM=>!decide (x.at_=at_)) e.puts;refine qf (qD (gS (gM rR (gM rR (gV (qa rR) (gF 3 Qb rR PP rR (gL (sl e.so e.puts.length e.co) Qa rR (gV (ju rR rR) (gR (vC call94 rR (Np e.puts e.so e.co b6 at_ (by omega))) (gV (qa rR) (gF 3 Qb rR PP rR (gU (qG #[I e.base,I e.disk,I e.size,sl e.so (e.puts.filter λx=>!decide (x.at_=at_)).length e.co] PP rR rR rR (by simp) rR) (qc (qb ?_))))))))))))));refine fm (Lf:=[pt e.a (.cells #[I e.base,I e.disk,I e.size,sl e.so ((e.puts.filter λx=>!decide (x.at_=at_)).length) e.co] 168 (0,0)),pt b6 (.cells #[I at_] 3 (0,0))]) [(0,false),(1,false),(2,false),(3,false),(4,false),(5,false),(6,false),(7,false),(8,true),(9,true),(10,false),(11,false)] 12 rR (by kernel_rfl) (by kernel_rfl) rR (by kernel_rfl) (by kernel_rfl) ?_;refine dM rR rR rR (dM rR rR rR (dV rR (qa rR) (dF rR 3 Qb rR PP rR (dL rR (sl e.so (e.puts.filter λx=>!decide (x.at_=at_)).length e.co) Qa rR (dL rR (I at_) OI rR (dM rR rR rR (dV rR (qF rR (FJ at_ d)) (av rR (qj (aE [⟨at_,d⟩]) Pj Pm Qc rR rR rR (by simp[aE,ci]) (by decide) (by decide)) rR ?_))))))));rintro _ _ ⟨b54,rfl,rfl⟩;refine av rR (qN Pj Pm Qc rR Tryz.typeInfo86 (by decide) rR rR (yN _) rR (by simp[aE,ci]) (by simp[aE,ci,Go.Sl.ones,Go.Sl.one]) ⟨by omega,by decide,by decide⟩) rR ?_;rintro _ _ ⟨J,D,rfl,rfl⟩;refine dV rR (qa rR) (dF rR 3 Qb rR PP rR ?_);refine qI ?_;refine gU (qG #[I e.base,I e.disk,I e.size,sl J ((e.puts.filter λx=>!decide (x.at_=at_)).length+1) D] PP rR rR rR (by simp) rR) (qc (gS (gQ rR ?_)));rw[show aE (e.puts.filter λx=>!decide (x.at_=at_))++aE [⟨at_,d⟩]=aE (cv e.puts at_ d) by simp[aE,cv],show (e.puts.filter λx=>!decide (x.at_=at_)).length+1=(cv e.puts at_ d).length by simp[cv]];refine yK (f:=eu) z.ses (dt z.ses id) (⟨e.key,e.a,J,D,e.base,e.disk,e.size,cv e.puts at_ d⟩:SeE) [pt e.a (.cells #[I e.base,I e.disk,I e.size,sl J (cv e.puts at_ d).length D] 168 (0,0)),ai 86 2 J D (aE (cv e.puts at_ d))] rfl hi ?_;rw[<-Fr (e':=(⟨e.key,e.a,J,D,e.base,e.disk,e.size,cv e.puts at_ d⟩:SeE)) he rfl rfl];refine yy b R (⟨z.h,z.used,z.rows,z.S,z.L,z.n,z.ses.set (dt z.ses id) ⟨e.key,e.a,J,D,e.base,e.disk,e.size,cv e.puts at_ d⟩,z.mou,z.next⟩) bs bl so co bv rs rm ?_;exact qh (aw b R ⟨z.h,z.used,z.rows,z.S,z.L,z.n,z.ses.set (dt z.ses id) ⟨e.key,e.a,J,D,e.base,e.disk,e.size,cv e.puts at_ d⟩,z.mou,z.next⟩::F) rfl (.inr ⟨by unfold cg;rw[O];simp only;rw[RJ V,RJ h6],J,D,rfl,by unfold RpM.putted RpM.sess;rw[O]⟩)
def zS {S:SI}{L:List Pt}{n:Int}{G:Gh}(h:Con S L n G):∀c∈yf S L n,c.key≠ []/\c.key.length<=8/\c.val.length<=48/\c.gone=false:=λc D=>by
 have w:=h.wr;unfold yf at D;rcases Sc.1 D with D | D
 ·rcases Sc.1 D with D | D
  ·rcases Sc.1 D with D | D
   ·unfold wQ at D;obtain ⟨q,X,rfl⟩:=SR.1 D;obtain ⟨Y,J⟩:=mem_ids.1 X;obtain ⟨x,hx⟩:=UG.1 J;have V:=w.b q x hx;have O:=wg (n:=q) (by omega);have R:=wg (n:=x.2) (by omega);rw[show gB S.B q=x by unfold gB;rw[hx];rfl];refine ⟨by simp[lY],?_,?_,rfl⟩ <;> simp only[lY,RX,Sx] <;> omega
   ·unfold bQ at D;obtain ⟨q,X,rfl⟩:=SR.1 D;obtain ⟨Y,J⟩:=mem_ids.1 X;have V:=uc h.sm q;have O:=wg (n:=q) (by omega);have R:=ub (n:=gN S.N q) (by omega) (λk Z=>by have:=V.2 k Z;omega) 4 (by omega);rw[zy] at R;refine ⟨by simp[lZ],?_,?_,rfl⟩ <;> simp only[lZ,RX] <;> omega
  ·obtain ⟨p,hp,rfl⟩:=SR.1 D;have V:=w.p p hp;have O:=wg (n:=p.id) (by omega);have R:=wg (n:=p.disk) (by omega);have h3:=wg (n:=p.size) (by omega);have h4:=wg (n:=p.root) (by omega);refine ⟨by simp[de],?_,?_,rfl⟩ <;> simp only[de,RX,Sx] <;> omega
 ·rw[Ub] at D;subst D;have O:=ye (n:=n) (by have:=w.n1;omega);refine ⟨by simp[ga],?_,?_,rfl⟩ <;> simp only[ga,RX,Uh] <;> omega
def Nr {l:List ChangeM}{c x:ChangeM}:x∈fu l c ↔ (x=c/\c.gone=false)\/(x∈l/\x.key≠c.key):=by
 unfold fu;simp only[Sc,Tz];constructor
 ·rintro ((⟨D,J⟩ | h) | ⟨D,J⟩)
  ·exact .inr ⟨D,dP J⟩
  ·split at h
   ·cases h
   ·rename_i O;exact .inl ⟨Ub.1 h,by simpa using O⟩
  ·exact .inr ⟨D,λe=>dP J e.symm⟩
 ·rintro (⟨rfl,O⟩ | ⟨D,J⟩)
  ·exact .inl (.inr (by rw[RJ (by simp[O])];simp))
  ·rcases lH x.key c.key with h | h | h
   ·exact .inl (.inl ⟨D,h⟩)
   ·exact absurd h J
   ·exact .inr ⟨D,h⟩
def FM:∀{c l:List ChangeM} {x:ChangeM},srt c->(x∈wS l c ↔ (x∈c/\x.gone=false)\/(x∈l/\∀y∈c,y.key≠x.key))
 | [],l,x,_=>by simp[wS]
 | d::c,l,x,h=>by
  have R:=Uq.1 h;show x∈wS (fu l d) c ↔ _;rw[FM R.2,Nr];constructor
  ·rintro (⟨J,D⟩ | ⟨⟨rfl,D⟩ | ⟨J,D⟩,S⟩)
   ·exact .inl ⟨Th _ J,D⟩
   ·exact .inl ⟨TQ ..,D⟩
   ·refine .inr ⟨J,λy O=>?_⟩;rcases RR.1 O with rfl | O
    ·exact Ne.symm D
    ·exact S y O
  ·rintro (⟨J,D⟩ | ⟨J,D⟩)
   ·rcases RR.1 J with rfl | J
    ·exact .inr ⟨.inl ⟨rfl,D⟩,λy O e=>dP (R.1 y O) e.symm⟩
    ·exact .inl ⟨J,D⟩
   ·exact .inr ⟨.inr ⟨J,Ne.symm (D d (by simp))⟩,λy O=>D y (Th _ O)⟩
def zT:∀{l:List ChangeM},srt l->∀{x y:ChangeM},x∈l->y∈l->x.key=y.key->x=y
 | a::l,h,x,y,hx,R,e=>by
  have J:=Uq.1 h;rcases RR.1 hx with rfl | O
  ·rcases RR.1 R with rfl | D
   ·rfl
   ·exact absurd e (dP (J.1 y D))
  ·rcases RR.1 R with rfl | D
   ·exact absurd e.symm (dP (J.1 x O))
   ·exact zT J.2 O D e
def Ns {a b:List ChangeM}(O:srt a)(R:srt b)(Z:∀x∈b,x.gone=false):wS a (mg a b)=b:=by
 refine zI (mR O _).1 R λx=>?_;rw[FM (mh O R),iW O R];constructor
 ·rintro (⟨h,J⟩ | ⟨h,J⟩)
  ·rcases h with ⟨y,D,rfl,_⟩ | ⟨h,_⟩
   ·cases J
   ·exact h
  ·refine Decidable.byContradiction λhx=>?_;by_cases Y:∃y∈b,y.key=x.key
   ·obtain ⟨y,D,X⟩:=Y;by_cases V:y∈a
    ·rw[zT O V h X] at D;exact hx D
    ·exact J y ((iW O R y).2 (.inr ⟨D,V⟩)) X
   ·exact J (aQ x) ((iW O R _).2 (.inl ⟨x,h,rfl,λy D e=>Y ⟨y,D,e⟩⟩)) rfl
 ·intro hx;by_cases S:x∈a
  ·refine .inr ⟨S,λy D e=>?_⟩;rcases (iW O R y).1 D with ⟨z,hz,rfl,hn⟩ | ⟨h,J⟩
   ·exact hn x hx e.symm
   ·rw[zT R h hx e] at J;exact J S
  ·exact .inl ⟨.inr ⟨hx,S⟩,Z x hx⟩
def FN:∀{c:List ChangeM},(∀x∈c,aS x=0)->cP c=0
 | [],_=>rfl
 | x::c,h=>by
  unfold cP;rw[RI (h x (by simp))];exact FN λy D=>h y (Th _ D)
def Nt {a b:List ChangeM}(J:srt a)(O:srt b)(S:∀c∈a,c.key≠ []/\c.key.length<=8/\c.val.length<=48/\c.gone=false)(V:∀c∈b,c.key≠ []/\c.key.length<=8/\c.val.length<=48/\c.gone=false):∀x∈mg a b,aS x=0:=λx hx=>by
 unfold aS;rcases (iW J O x).1 hx with ⟨y,R,rfl,_⟩ | ⟨D,_⟩
 ·have h:=S y R;rw[RJ (by simp[aQ,h.1]),RJ (by simp[aQ];omega)]
 ·have h:=V x D;rw[RJ (by simp[h.1,h.2.2.2]),RJ (by omega)]
def FO:∀{l m:List ab},l.Nodup->(∀q∈l,q∈m)->l.length<=m.length
 | [],_,_,_=>by simp
 | a::l,m,D,h=>by
  rw[Tg] at D;have R:=FO (l:=l) (m:=m.erase a) D.2 λq O=>by
   have J:q≠a:=λe=>D.1 (e ▸ O);exact (TV J).2 (h q (Th _ O))
  have S:=TW (h a (by simp));have V:=TX (h a (by simp));simp only[RX];omega
def q9 (P:List Pt):List ab:=((List.range 40).map λk=>98::aN ((k+1:Nat):Int))++((List.range 24).map λk=>110::aN ((k+1:Nat):Int))++P.map (λp=>112::aN p.id)++ [[120]]
def FP {S:SI}{L:List Pt}{n:Int}{P:List Pt}(O:∀p∈L,p∈P):∀c∈yf S L n,c.key∈q9 P:=λc h=>by
 unfold yf at h;unfold q9;simp only[Sc] at h ⊢;rcases h with ((h | h) | h) | h
 ·unfold wQ at h;obtain ⟨q,D,rfl⟩:=SR.1 h;obtain ⟨J,_⟩:=mem_ids.1 D;exact .inl (.inl (.inl (SR.2 ⟨q.toNat - 1,by rw[Ve];omega,by rw[show ((q.toNat - 1+1:Nat):Int)=q by omega];rfl⟩)))
 ·unfold bQ at h;obtain ⟨q,D,rfl⟩:=SR.1 h;obtain ⟨J,_⟩:=mem_ids.1 D;exact .inl (.inl (.inr (SR.2 ⟨q.toNat - 1,by rw[Ve];omega,by rw[show ((q.toNat - 1+1:Nat):Int)=q by omega];rfl⟩)))
 ·obtain ⟨p,R,rfl⟩:=SR.1 h;exact .inl (.inr (SR.2 ⟨p,O p R,rfl⟩))
 ·rw[Ub] at h;subst h;exact .inr (by simp[ga])
def FQ {S D:SI}{L L' P:List Pt}{n R:Int}{G Y:Gh}(hC:Con S L n G)(J:Con D L' R Y)(hP:P.length<=7)(Z:∀p∈L,p∈P)(h2:∀p∈L',p∈P):(mg (yf S L n) (yf D L' R)).length<=72:=by
 have V:=k9 hC.wr;have X:=k9 J.wr;have hs:=mh V X;have hn:((mg (yf S L n) (yf D L' R)).map (·.key)).Nodup:=by
  rw[List.Nodup,RE];exact hs.imp λh=>dP h
 have hm:=FO hn (m:=q9 P) λq hq=>by
  obtain ⟨x,hx,rfl⟩:=SR.1 hq;rcases (iW V X x).1 hx with ⟨y,O,rfl,_⟩ | ⟨O,_⟩
  ·exact FP Z y O
  ·exact FP h2 x O
 rw[TD] at hm;have:(q9 P).length=40+24+P.length+1:=(by simp[q9];omega);omega
def FR {S D:SI}{L L' P:List Pt}{n J:Int}{G X:Gh}(O:Con S L n G)(h:Con D L' J X)(hP:P.length<=7)(Y:∀p∈L,p∈P)(Z:∀p∈L',p∈P):dm (200 - 122) (yf S L n) (mg (yf S L n) (yf D L' J))=0/\wS (yf S L n) (mg (yf S L n) (yf D L' J))=yf D L' J:=by
 have R:=k9 O.wr;have V:=k9 h.wr;have hl:=FQ O h hP Y Z;have e:=Ns R V λx hx=>(zS h x hx).2.2.2;have hr:=nf (S:=D) (n:=J) h.v.len;refine ⟨?_,e⟩;unfold dm;rw[RJ (by omega),RJ (by rw[FN (Nt R V (zS O) (zS h))];simp),e,RJ (by omega)]
def FS {N:Nat}{D:DiskM}{h:HdM}{X:List ChangeM}{ds:an}{used:Nat}{c:List ChangeM}{e:Int}{D2:DiskM}{h2:HdM}{V:Nat}{J:List ChangeM}(C:jl N D h X ds used)(hep:h.ep<=900000)(hf:h.first<=800000000)(h0':dm (N - 122) (cur X ds) c=0)(hc:kW D h (cur X ds) (N - 122) used c e D2 h2 V J):
  (e=0/\h2.ep<=h.ep+1/\h2.first<=h.first+N/\∃r2 d2,jl N D2 h2 r2 d2 V/\cur r2 d2=J/\J=wS (cur X ds) c)\/
  (e=9/\Fell N D2 (h.ep+1) (h.first+N) (λx=>x=cur X ds\/x=wS (cur X ds) c)):=by
 obtain ⟨hq,I,hs⟩:=C;have hb:=I.big;rcases hc with ⟨hne,rfl,rfl,rfl,rfl,rfl⟩ | ⟨h0,e1,D1,h1,O,hmid,S⟩
 ·exact absurd h0' hne
 ·obtain ⟨c1,c2,c3,c4⟩:=C6 h0;have hm:(e1=0/\h1.ep<=h.ep+1/\h1.first<=h.first+N/\c.length+1<=N - 122 - O/\∃r1 d1,jl N D1 h1 r1 d1 O/\cur r1 d1=cur X ds)\/(e1=9/\Fell N D1 (h.ep+1) (h.first+N) (λx=>x=cur X ds)):=by
   rcases hmid with ⟨Y,hrun,hck⟩ | ⟨Y,rfl,rfl,rfl,rfl⟩
   ·rcases Dd hq I hs (by omega) (by omega) hrun with ⟨rfl,Z⟩ | ⟨h9,F⟩
    ·rcases hck with ⟨hx,_⟩ | ⟨_,rfl,_,d',hsc⟩
     ·exact absurd rfl hx
     ·have hlg:=Z.2.1.good.log;rw[Z.2.1.len] at hlg;have hu:=(xl hsc hlg).2;subst hu;exact .inl ⟨rfl,by simp only[aq];omega,by simp only[aq];omega,by omega,_,_,Z,rfl⟩
    ·exact .inr ⟨h9,F⟩
   ·exact .inl ⟨rfl,by omega,by omega,by omega,X,ds,⟨hq,I,hs⟩,rfl⟩
  rcases hm with ⟨rfl,m1,m2,m3,r1,d1,Z,R⟩ | ⟨h9,F⟩
  ·rcases S with ⟨hx,_⟩ | ⟨_,rfl,rfl,rfl,rfl,rfl⟩
   ·exact absurd rfl hx
   ·have hv:dA (N - 122) O c=0:=(by rw[vI c1 m3];exact c2);rcases KH Z (by omega) hv (by rw[R];exact c3) with ⟨a1,a2⟩ | ⟨a1,a2⟩
    ·exact .inl ⟨a1,m1,m2,r1,d1++ [c],a2,by rw[RI a1,te,R],by rw[RI a1]⟩
    ·refine .inr (⟨a1,λkeep=>?_⟩);obtain ⟨h',r',d',u',i',p',e',f',s'⟩:=a2 keep;rw[R] at p';exact ⟨h',r',d',u',i',p',by omega,by omega,s'⟩
  ·rcases S with ⟨_,rfl,rfl,rfl,rfl,rfl⟩ | ⟨hx,_⟩
   ·refine .inr (⟨h9,λkeep=>?_⟩);obtain ⟨h',r',d',u',i',p',e',f'⟩:=F keep;exact ⟨h',r',d',u',i', .inl p',e',f'⟩
   ·rw[h9] at hx;cases hx
structure Rep (t:Nat) (D:DiskM) (z:RpM):Prop where
 ok:bB 200 1000 D
 s80:cE D
 cal:∃r0 ds,jl 200 D z.h r0 ds z.used/\cur r0 ds=z.rows
 ep:z.h.ep<=1+2*t
 first:z.h.first<=1+400*t
 rows:z.rows=yf z.S z.L z.n
 rok:Rok z
def FT {N i:Nat}{D:DiskM}(h:bB N i D)(c:calm D):bB N 1000 D:=⟨h.1,h.2.1,h.2.2.1,h.2.2.2.1,by rw[c.2.1];simp⟩
theorem Rep.dk {t:Nat}{D:DiskM}{z:RpM}(R:Rep t D z)(J:t<=100000):Dk 1000 D z:=by
 obtain ⟨O,ds,C,h⟩:=R.cal;have:=R.ep;have:=R.first;exact ⟨R.ok,R.s80,⟨by omega,C.2.1.good.side,C.2.1.good.first.1,by omega⟩,by rw[<-h];exact C.2.1.good.lenC,by rw[<-h];exact C.2.1.good.okC,C.2.1.used_le,by rw[<-h];exact C.2.1.good.srtC⟩
def FU (t:Nat)(D:DiskM)(φ:List ChangeM->Prop):Prop:=bB 200 2000 D/\cE D/\Fell 200 D (1+2*t) (1+400*t) φ
def FV {t:Nat}{D D2:DiskM}{z z2:RpM}{Z:SI}{L' P:List Pt}{n' e:Int}{G':Gh}(R:Rep t D z)(ht:t<=100000)(hC':Con Z L' n' G')(hP:P.length<=7)(h1:∀p∈z.L,p∈P)(h2:∀p∈L',p∈P)(k:q8 D z Z L' n' e D2 z2):
  (e=0/\Rep (t+1) D2 z2/\(cQ D->cQ D2)/\z2.S=Z/\z2.L=L'/\z2.n=n'/\z2.ses=z.ses/\z2.mou=z.mou/\z2.next=z.next)\/(e=9/\¬cQ D/\FU (t+1) D2 λx=>x=yf z.S z.L z.n\/x=yf Z L' n'):=by
 obtain ⟨O,J,h,hc,rfl⟩:=k;obtain ⟨r0,ds,C,X⟩:=R.cal;obtain ⟨G,hC⟩:=R.rok.con;obtain ⟨hcm,hap⟩:=FR hC hC' hP h1 h2;have hep:=R.ep;have hfi:=R.first;unfold ml at hc;rw[<-X] at hc;have V:cur r0 ds=yf z.S z.L z.n:=X.trans R.rows;have Y:=C8 R.ok R.s80 C.2.1 hc;have hs2:=KJ R.ok R.s80 C.2.1 hc;have hup:cQ D->e=0/\cQ D2:=λhu=>by
  obtain ⟨c1,c2,_⟩:=C7 hu R.s80 C.2.1 (by omega) (by omega) hc;rw[V,hcm] at c1;exact ⟨c1,c2⟩
 rcases FS C (by omega) (by omega) (by rw[V];exact hcm) hc with ⟨rfl,b1,b2,r2,d2,C2,e2,e3⟩ | ⟨h9,hF⟩
 ·refine .inl ⟨rfl,?_,λhu=>(hup hu).2,?_⟩
  ·have hkz:z.kept 0 O J h Z L' n'=⟨O,J,h,Z,L',n',z.ses,z.mou,z.next⟩:=(by unfold RpM.kept;rw[RI rfl]);rw[hkz];exact ⟨FT Y C2.1,hs2,⟨r2,d2,C2,e2⟩,by show O.ep<=_;omega,by show O.first<=_;omega,by show h=_;rw[e3,V,hap],⟨⟨G',hC'⟩,R.rok.next,R.rok.keyS,R.rok.keyM,R.rok.sesS⟩⟩
  ·unfold RpM.kept;rw[RI rfl];exact ⟨rfl,rfl,rfl,rfl,rfl,rfl⟩
 ·subst h9;refine .inr ⟨rfl,λhu=>by have:=(hup hu).1;omega,ft Y (by omega),hs2,?_⟩;rw[V,hap] at hF;exact hF.mono (by omega) (by omega) λx hx=>hx
def dZ:List Int->DiskM->RpM->List Int->Int->DiskM->RpM->Prop
 | [],D,z,gone,e,D2,z2=>gone=[]/\e=0/\D2=D/\z2=z
 | id::l,D,z,gone,e,D2,z2=>if bX z id=true then dZ l D z gone e D2 z2 else ∃e1 D1 z1,im D z id e1 D1 z1/\((e1≠0/\gone=[]/\e=e1/\D2=D1/\z2=z1)\/(e1=0/\∃g',dZ l D1 z1 g' e D2 z2/\gone=if e=0 then id::g' else []))
def FX {ee:Bool}(b O i:Nat)(z:RpM)(id:Int)(hR:Rok z)(D:DiskM)(hD:Dk i D z)(hib:i<=100000)(F:List aa):Ct Tryz.prog 33 [ptr b 0,I id] (yn ee::aw b O z::al 179 319 O (D)::F) (λv L'=>∃n f D2 z2,jq D z id n f D2 z2/\v= .tuple #[I n,wm f]/\L'=aw b O z2::al 179 319 O (D2)::yn ee::F):=by
 obtain ⟨G0,hC⟩:=hR.con;have hlen:=hC.v.len;have hnx:=hR.next;refine Ct.of func33 rR 59 ntmps33 (by simp) λw0=>?_;refine fj b O z ?_;intro bs bl so co bv rs rm;refine gS (gA rfl (gQ rfl (gS (gM rfl (gV (qa rfl) (gF 2 Ph rfl Qg rfl (gL (.map (some rs)) Ql rfl (gM rfl (gV (yE (v:= .pointer ((aK z.ses id).map λe=>⟨e.a,0,none⟩)) Qm OL QY rfl rfl (by rw[jp];cases aK z.ses id <;> rfl)) (gQ rfl (qb (gS (gM rfl (gV (jW QZ rfl) (qc ?_)))))))))))))));refine qd rfl ?_ ?_ <;> intro h17
 ·have hno:aK z.ses id=none:=(by simpa using h17);refine gS (gV (qP OY rR rR) (gA rR (gQ rR ?_)));refine yy b O (z) bs bl so co bv rs rm ?_;exact qh (aw b O z::al 179 319 O (D)::yn ee::F) rfl ⟨0,5,D,z,by unfold jq;rw[hno];exact ⟨rfl,rfl,rfl,rfl⟩,rfl,rfl⟩
 ·obtain ⟨e,V⟩:∃e,aK z.ses id=some e:=UG.1 (by cases hq:aK z.ses id with
   | none=>rw[hq] at h17;cases h17
   | some _=>rfl)
  obtain ⟨R,hek,hi⟩:=ko V;rw[V];refine qf (qb ?_);have hps:=hR.putS e (R5 R);refine qo (gM rR (gV (qa rR) (gF 1 Ph rR P3 rR (gL (ptr bv 0) PX rR (gI (uB call66 rR (tY bv z.S z.L z.n (by omega))) ?_)))));rintro _ _ ⟨q,rfl,rfl⟩;refine gQ rR (qb ?_);refine zL z.ses _ R ?_;refine yO (Lf:=[pt e.a (.cells #[I e.base,I e.disk,I e.size,sl e.so e.puts.length e.co] 168 (0,0))]) jT (by kernel_rfl) (by kernel_rfl) rR (by kernel_rfl) ?_;refine dM rR rR rR (dM rR rR rR (dV rR (qa rR) (dF rR 0 Qb rR OH rR (dL rR (I e.base) OI rR (dM rR rR rR (dV rR (qa rR) (dF rR 1 Qb rR OH rR (dL rR (I e.disk) OI rR (dM rR rR rR (dV rR (qa rR) (dF rR 2 Qb rR OH rR (dL rR (I e.size) OI rR (dM rR rR rR (dV rR (qa rR) (dF rR 3 Qb rR PP rR (dL rR (sl e.so e.puts.length e.co) Qa rR (av rR (uC call96 rR (Nq q z.S z.L z.n e.base e.disk e.size e.puts e.so e.co G0 hC.v (by omega) (λp hp=>by have:=hps.2 p hp;omega))) rR ?_)))))))))))))))));rintro v L' hv;unfold vR at hv;rcases hr:bW z.S z.L z.n e.base e.disk e.size e.puts with e0 | ⟨S1,L1,n1,r1⟩ <;> rw[hr] at hv <;> obtain ⟨rfl,rfl⟩:=hv
  ·have he0:=tH hr;refine dM rR rR rR (dV rR (qr (v:=I 0) rR rR) (dV rR (qr (v:=wm e0) rR rR) (dV rR (qt rR) (dV rR (qt rR) ?_))));refine qI ?_;refine qb (gS (gM rR (gV (eA (T:=117) (f:=e0) OT rR) (qc ?_))));refine qd rfl ?_ ?_ <;> intro h46
   ·simp at h46;omega
   ·refine qf (qb (gS (gM rR (gV (yP OT rR) (qc ?_)))));refine qd rfl ?_ ?_ <;> intro X
    ·refine gS (gM rR (gA rR (gQ rR ?_)));refine yK (f:=eu) z.ses (dt z.ses id) e [pt e.a (.cells #[I e.base,I e.disk,I e.size,sl e.so e.puts.length e.co] 168 (0,0)),ai 86 2 e.so e.co (aE e.puts)] rfl hi ?_;rw[wI R];refine yy b O (z) bs bl so co bv rs rm ?_;exact qh (aw b O z::al 179 319 O (D)::yn ee::F) rfl ⟨0,e0,D,z,by unfold jq;rw[V];simp only;rw[hr];simp,rfl,rfl⟩
    ·simp at X;omega
  ·obtain ⟨G1,hC1⟩:=pN hC hr;refine dM rR rR rR (dV rR (qr (v:=I r1) rR rR) (dV rR (qr (v:=wm 0) rR rR) (dV rR (qt rR) (dV rR (qt rR) ?_))));refine qI ?_;refine qb (gS (gM rR (gV (eA (T:=117) (f:=0) OT rR) (qc ?_))));refine qd rfl ?_ ?_ <;> intro h46
   ·refine yK (f:=eu) z.ses (dt z.ses id) e [pt e.a (.cells #[I e.base,I e.disk,I e.size,sl e.so e.puts.length e.co] 168 (0,0)),ai 86 2 e.so e.co (aE e.puts)] rfl hi ?_;rw[wI R];refine yy b O (z) bs bl so co bv rs rm ?_;refine qo (gM rR (gM rR (gI (uE (A0:=yn ee) call97 rR (zP b O q i D z S1 L1 n1 G0 G1 hC hC1 hD hib)) ?_)));rintro _ _ ⟨f,D2,Y,J,h,Z,rfl,rfl⟩;refine gQ rR (qb (gS (gM rR (gV (yP OT rR) (qc ?_)))));refine qd rfl ?_ ?_ <;> intro X
    ·have R:¬f=0:=(by simpa using X);refine gS (gM rR (gA rR (gQ rR ?_)));exact qh (aw b O (z.kept f Y J h S1 L1 n1)::al 179 319 O (D2)::yn ee::F) rfl ⟨0,f,D2,_,by unfold jq;rw[V];simp only;rw[hr];exact ⟨_,⟨Y,J,h,Z,rfl⟩,by rw[RJ R],by rw[RJ R]⟩,rfl,rfl⟩
    ·have R:f=0:=(by simpa using X);rw[show z.kept f Y J h S1 L1 n1=⟨Y,J,h,S1,L1,n1,z.ses,z.mou,z.next⟩ by unfold RpM.kept;rw[RI R]];refine qf (qb ?_);refine fj b O ⟨Y,J,h,S1,L1,n1,z.ses,z.mou,z.next⟩ ?_;intro bs bl so co bv rs rm;dsimp only;refine qo (gM rR (gV (qa rR) (gF 2 Ph rR Qg rR (gL (.map (some rs)) Ql rR (gM rR (cl (iz Qm OL rR rR) ?_))))));rintro _ _ ⟨rfl,rfl⟩;rw[uk];refine mJ (f:=eu) z.ses (cr z.ses id) Tm ?_;refine qc (gS (gM rR (gA rR (gQ rR ?_))));refine yy b O (⟨Y,J,h,S1,L1,n1,cr z.ses id,z.mou,z.next⟩) bs bl so co bv rs rm ?_;exact qh (aw b O ⟨Y,J,h,S1,L1,n1,cr z.ses id,z.mou,z.next⟩::al 179 319 O (D2)::yn ee::F) rfl ⟨r1,f,D2,_,by unfold jq;rw[V];simp only;rw[hr];exact ⟨_,⟨Y,J,h,Z,rfl⟩,by rw[RI R],by rw[RI R];unfold RpM.kept RpM.sess;rw[RI R]⟩,by rw[R];rfl,rfl⟩
   ·simp at h46
def Nu (b R i:Nat)(z:RpM)(D:DiskM)(Y:Dk i D z)(hib:i<=100000)(F:List aa):Ct Tryz.prog 52 [ptr b 0] (aw b R z::al 179 319 R (D)::F) (λv L'=>∃e D1,wA D (cW (aq z.h z.rows (200 - 122)) (yG z.rows))=(e,D1)/\v=wm e/\((e≠0/\L'=aw b R z::al 179 319 R (D1)::F)\/(e=0/\∃ds J,J<=200 - 122/\wu (z.h.first+(200 - 122)) (eI D1 122) (200 - 122) 0 [] [] 0=(ds,J)/\L'=aw b R ⟨aq z.h z.rows (200 - 122),J,z.rows,z.S,z.L,z.n,z.ses,z.mou,z.next⟩::al 179 319 R (D1)::F))):=by
 refine Ct.of func52 rR 8 ntmps52 (by simp) λw0=>?_;refine fj b R z ?_;intro bs bl so co bv rs rm;refine gS (gQ rR (gS (gM rR (gV (qa rR) (gF 0 Ph rR sizeOf95 rR (gL (ptr bs 0) PW rR (gI (uE call126 rR (CM bs R z.h bl so co z.rows 200 i z.used D Y.ok hib Y.s80 (by decide) Y.hd Y.len Y.okr)) ?_)))))));rintro _ _ ⟨e,D1,V,X⟩;rcases X with ⟨hne,rfl,rfl⟩ | ⟨Z,bl2,ds,O,hu2,hsc,rfl,rfl⟩
 ·refine gQ rR ?_;refine yy b R (z) bs bl so co bv rs rm ?_;exact qh (aw b R z::al 179 319 R (D1)::F) rfl ⟨e,D1,V,rfl, .inl ⟨hne,rfl⟩⟩
 ·rw[show z.h.first+(200 - 122)=(aq z.h z.rows (200 - 122)).first from rfl];refine gQ rR ?_;refine yy b R (⟨aq z.h z.rows (200 - 122),O,z.rows,z.S,z.L,z.n,z.ses,z.mou,z.next⟩) bs bl2 so co bv rs rm ?_;exact qh (aw b R ⟨aq z.h z.rows (200 - 122),O,z.rows,z.S,z.L,z.n,z.ses,z.mou,z.next⟩::al 179 319 R (D1)::F) rfl ⟨e,D1,V,by rw[Z];rfl, .inr ⟨Z,ds,O,hu2,hsc,rfl⟩⟩
def ra {t:Nat}{D J:DiskM}{z z2:RpM}{id e:Int}(R:Rep t D z)(ht:t<=100000)(k:im D z id e J z2):
  (e=0/\Rep (t+1) J z2/\(cQ D->cQ J)/\cF z id=0/\dG z.S z.L z.n id= .ok (z2.S,z2.L,z2.n,0)/\z2.ses=z.ses/\z2.mou=z.mou/\z2.next=z.next)\/(e≠0/\e≠9/\e=cF z id/\J=D/\z2=z)\/
  (e=9/\¬cQ D/\cF z id=0/\∃V L',dG z.S z.L z.n id= .ok (V,L',z.n,0)/\FU (t+1) J λx=>x=yf z.S z.L z.n\/x=yf V L' z.n):=by
 unfold im at k;by_cases hd:cF z id=0
 ·rw[RJ (by omega)] at k;obtain ⟨V,L',h,k⟩:=k;obtain ⟨G,Z⟩:=R.rok.con;obtain ⟨G',Y⟩:=zq Z h;have O:∀p∈L',p∈z.L:=by
   unfold dG at h;cases hf:qS z.L id with
   | none=>rw[hf] at h;cases h
   | some p=>
    rw[hf] at h;simp only at h;injection h with h;injection h with e1 h;injection h with e2 h;subst e2;exact λq hq=>(Tz.1 hq).1
  rcases FV R ht Y (P:=z.L) (by have:=Z.v.len;omega) (λp hp=>hp) O k with ⟨X,a2,a3,a4,a5,a6,a7,a8,a9⟩ | ⟨X,a2,a3⟩
  ·exact .inl ⟨X,a2,a3,hd,by rw[a4,a5,a6];exact h,a7,a8,a9⟩
  ·exact .inr (.inr ⟨X,a2,hd,V,L',h,a3⟩)
 ·rw[RI hd] at k;obtain ⟨rfl,rfl,rfl⟩:=k;refine .inr (.inl ⟨hd,?_,rfl,rfl,rfl⟩);unfold cF;split
  ·decide
  ·split <;> decide
def ku {α:Type}{l:List α}{k:Nat}{x:α}(h:l[k]? =some x):l.drop k=x::l.drop (k+1):=by
 obtain ⟨D,e⟩:=Re.1 h;rw[<-e];exact Uc D
def FY:∀{l:List Int} {D R:DiskM} {z z2:RpM} {gone:List Int} {e:Int},dZ l D z gone e R z2->e≠0->gone=[]
 | [],_,_,_,_,_,_,h,J=>h.1
 | id::l,D,R,z,z2,gone,e,h,J=>by
  unfold dZ at h;split at h
  ·exact FY h J
  ·obtain ⟨S,D1,X,_,h⟩:=h;rcases h with ⟨_,O,_⟩ | ⟨_,V,_,O⟩
   ·exact O
   ·simpa [J] using O
def KInv (l:List Int)(D0:DiskM)(z0:RpM)(k:Nat)(D:DiskM)(z:RpM)(gone:List Int):Prop:=∀g' e D2 z2,dZ (l.drop k) D z g' e D2 z2->dZ l D0 z0 (if e=0 then gone++g' else []) e D2 z2
theorem KInv.start {l:List Int}{J:DiskM}{z0:RpM}:KInv l J z0 0 J z0 []:=λR e O z2 h=>by
 by_cases D:e=0
 ·rw[RI D];exact h
 ·rw[RJ D,<-FY h D];exact h
theorem KInv.skip {l:List Int}{J D:DiskM}{z0 z:RpM}{k:Nat}{gone:List Int}{id:Int}(h:KInv l J z0 k D z gone)(S:l[k]? =some id)(X:bX z id=true):KInv l J z0 (k+1) D z gone:=λR e O z2 V=>h R e O z2 (by rw[ku S];unfold dZ;rw[RI X];exact V)
theorem KInv.went {l:List Int}{R D D1:DiskM}{z0 z O:RpM}{k:Nat}{gone:List Int}{id:Int}(h:KInv l R z0 k D z gone)(X:l[k]? =some id)(Z:bX z id=false)(hd:im D z id 0 D1 O):KInv l R z0 (k+1) D1 O (gone++ [id]):=λS e V z2 Y=>by
 have:=h (if e=0 then id::S else []) e V z2 (by rw[ku X];unfold dZ;rw[RJ (by rw[Z];simp)];exact ⟨0,D1,O,hd, .inr ⟨rfl,S,Y,rfl⟩⟩);by_cases J:e=0
 ·rw[RI J,RI J] at this;rw[RI J];simpa using this
 ·rw[RJ J] at this ⊢;exact this
theorem KInv.err {l:List Int}{O D D1:DiskM}{z0 z J:RpM}{k:Nat}{gone:List Int}{id e:Int}(h:KInv l O z0 k D z gone)(S:l[k]? =some id)(V:bX z id=false)(hd:im D z id e D1 J)(R:e≠0):dZ l O z0 [] e D1 J:=by
 have:=h [] e D1 J (by rw[ku S];unfold dZ;rw[RJ (by rw[V];simp)];exact ⟨e,D1,J,hd, .inl ⟨R,rfl,rfl,rfl,rfl⟩⟩);rw[RJ R] at this;exact this
theorem KInv.done {l:List Int}{J D:DiskM}{z0 z:RpM}{gone:List Int}(h:KInv l J z0 l.length D z gone):dZ l J z0 gone 0 D z:=by
 have:=h [] 0 D z (by rw[Uk];exact ⟨rfl,rfl,rfl,rfl⟩);simpa using this
def nj (L:List Pt)(disk keep:Int)(h:L.length<=6):(aZ L disk keep).length<=6:=by
 unfold aZ;have:=TG (λp:Pt=>decide (p.disk=disk)) L;simp only[Sv,TD];omega
def Nv {ee:Bool}(b J t:Nat)(z0:RpM)(X:DiskM)(disk many:Int)(R0:Rep t X z0)(ht:t<=90000)(hm:many<=9223372036854775807)(F:List aa):Ct Tryz.prog 47 [ptr b 0,I disk,I many] (yn ee::aw b J z0::al 179 319 J (X)::F) (λv L'=>(many<0/\v= .tuple #[sl none 0 0,wm 1]/\L'=aw b J z0::al 179 319 J (X)::yn ee::F)\/(0<=many/\∃gone e Y z2 s c,dZ (aZ z0.L disk many) X z0 gone e Y z2/\v= .tuple #[sl s gone.length c,wm e]/\L'=ai 3 1 s c (yC gone)::aw b J z2::al 179 319 J (Y)::yn ee::F)):=by
 obtain ⟨G0,hC⟩:=R0.rok.con;have hlen:=hC.v.len;have hel:=nj z0.L disk many hlen;refine Ct.of func47 rR 42 ntmps47 (by simp) λw0=>?_;refine gS (gA rR (gQ rR (qb (gS (gM rR (gV (qH rR rR) (qc ?_)))))));refine qd rfl ?_ ?_ <;> intro h13
 ·have hmn:many<0:=(by simpa using h13);refine gS (gV (qP OY rR rR) (gA rR (gQ rR ?_)));exact qh (aw b J z0::al 179 319 J (X)::yn ee::F) rfl (.inl ⟨hmn,rfl,rfl⟩)
 ·have hmn:¬many<0:=(by simpa using h13);refine qf (gS (gQ rR (qb (qb ?_))));refine fj b J z0 ?_;intro bs bl so co bv rs rm;refine qo (gM rR (gV (qa rR) (gF 1 Ph rR P3 rR (gL (ptr bv 0) PX rR (gM rR (gM rR (gI (uB call125 rR (Mq bv z0.S z0.L z0.n disk many (by omega) hm)) ?_)))))));rintro _ _ ⟨s21,c21,rfl,rfl⟩;refine yv s21 ?_;refine gV (qY OO rR) (gM rR (qc ?_));refine yy b J z0 bs bl so co bv rs rm ?_;refine yi 3 1 (yC []) rR ?_;refine qg ?_;refine qC (α:=Nat×DiskM×RpM×List Int×Option Addr×Nat) (λy=>y.1<=(aZ z0.L disk many).length/\y.2.2.2.1.length<=y.1/\Rep (t+y.1) y.2.1 y.2.2.1/\KInv (aZ z0.L disk many) X z0 y.1 y.2.1 y.2.2.1 y.2.2.2.1) (λy=>U [(0,ptr b 0),(8,sl y.2.2.2.2.1 y.2.2.2.1.length y.2.2.2.2.2),(21,sl s21 (aZ z0.L disk many).length c21),(22,I (aZ z0.L disk many).length),(23,I y.1)]) (λy=>ai 3 1 y.2.2.2.2.1 y.2.2.2.2.2 (yC y.2.2.2.1)::aw b J y.2.2.1::al 179 319 J y.2.1::yn ee::roL 1 s21 (yC (aZ z0.L disk many))::F) (λy=>(aZ z0.L disk many).length - y.1) (0,X,z0,[],none,0) ⟨by simp,by simp,by simpa using R0,KInv.start⟩ [0,8,21,22,23] rfl rR ?_;rintro ⟨k,D,z,gone,s8,c8⟩ ⟨hk,hgl,R,hI⟩;simp only[] at hk hgl R hI ⊢;refine gS (gV (qH rR rR) (qc (qb ?_)));refine qd rfl ?_ ?_ <;> intro h24
  ·simp at h24;have hkn:k<(aZ z0.L disk many).length:=(by omega);obtain ⟨id,O⟩:∃id,(aZ z0.L disk many)[k]? =some id:=⟨_,S6 hkn⟩;refine qf (qb (qg (gS (gV (qv k OO OH rR rR rR hkn (by rw[yh];exact hkn)) (gV (qM (v:=I id) OI rR (wt O) rR) (gQ rR (qb (gS (gM rR (gM rR (gR (vB call123 rR (Fy b J z id)) (qc ?_))))))))))));refine qd rfl ?_ ?_ <;> intro h29
   ·have V:bX z id=true:=h29;refine qw rR ?_;refine qo (gP rR rR (by omega) (gM rR (qc ?_)));exact qk (k+1,D,z,gone,s8,c8) ⟨by simp only[];omega,by simp only[];omega,⟨R.ok,R.s80,R.cal,by have:=R.ep;simp only[];omega,by have:=R.first;simp only[];omega,R.rows,R.rok⟩,hI.skip O V⟩ (by simp only[];omega) [0,8,21,22,23] rfl rfl
   ·have V:bX z id=false:=(by simpa using h29);refine qf (gS (gM rR (gM rR (gI (uD (A0:=yn ee) call46 rR (FD b J 1000 z id R.rok D (R.dk (by omega)) (by omega))) ?_))));rintro _ _ ⟨e,Y,z2,Z,rfl,rfl⟩;refine gQ rR (qb (gS (gM rR (gV (yP OT rR) (qc ?_)))));refine qd rfl ?_ ?_ <;> intro h34
    ·have he:¬e=0:=(by simpa using h34);refine gS (gM rR (gA rR (gQ rR ?_)));refine yi 3 1 (yC []) rR ?_;exact qh (ai 3 1 none 0 (yC [])::aw b J z2::al 179 319 J (Y)::yn ee::F) rfl (.inr ⟨by omega,[],e,Y,z2,none,0,hI.err O V Z he,rfl,rfl⟩)
    ·have he:e=0:=(by simpa using h34);subst he;have R2:Rep (t+k+1) Y z2:=by
      rcases ra R (by omega) Z with ⟨_,h,_⟩ | ⟨h,_⟩ | ⟨h,_⟩
      ·exact h
      ·exact absurd rfl h
      ·cases h
     refine qf (qo (gM rR (gM rR (gI (qj [[I id]] OO OH Pe rR rR rR (by simp) (by decide) (by decide)) ?_))));rintro _ _ ⟨b38,rfl,rfl⟩;refine gI (qN OO OH Pe rfl Tryz.typeInfo3 (by decide) rfl rfl (yh _) rfl (by simp) (by intro r hr;simp at hr;subst hr;rfl) ⟨by omega,by decide,by decide⟩) ?_;rintro _ _ ⟨s39,c39,rfl,rfl⟩;rw[show yC gone++ [[I id]]=yC (gone++ [id]) by simp[yC],show gone.length+1=(gone++ [id]).length by simp];refine gQ rR (qD (qo (gP rR rR (by omega) (gM rR (qc ?_)))));exact qk (k+1,Y,z2,gone++ [id],s39,c39) ⟨by simp only[];omega,by simp only[Sx,RX,Uh];omega,by rw[<-RO];exact R2,hI.went O V Z⟩ (by simp only[];omega) [0,8,21,22,23] rfl rfl
  ·simp at h24;obtain rfl:k=(aZ z0.L disk many).length:=(by omega);refine qw rR ?_;refine gS (gM rR (gA rR (gQ rR ?_)));exact qh (ai 3 1 s8 c8 (yC gone)::aw b J z::al 179 319 J (D)::yn ee::F) rfl (.inr ⟨by omega,gone,0,D,z,s8,c8,hI.done,rfl,rfl⟩)
open Go Go.Sl Go.Proofs
def fD (N:Nat):DiskM:=(wA (di N) (eh N)).2
def rb (N:Nat):(di N).now.length=N:=by simp[di]
def Nw (N:Nat):cE (di N):=⟨λx hx=>by simp[di] at hx;rw[hx.2];simp[dW],λx hx=>by simp[di] at hx;rw[hx.2];simp[dW],λt h=>by simp[di] at h⟩
def zU (N:Nat):cQ (di N):=⟨rfl,rfl⟩
def FZ {N:Nat}(h:196<=N):wA (di N) (eh N)=(0,fD N):=Prod.ext (j5 _ _ (zU N) (by rw[rb];exact oQ h)).1 rfl
def F0 {N:Nat}(h:196<=N):cQ (fD N):=(j5 _ _ (zU N) (by rw[rb];exact oQ h)).2.1
def Nx {N:Nat}(h:196<=N/\N<=260):Inv N (fD N) hd1 [] [] 0:=Da h (rb N) (j5 _ _ (zU N) (by rw[rb];exact oQ h.1)).2.2
def ul {N:Nat}(h:196<=N):cE (fD N):=lM _ _ (Nw N) (oQ h)
def F3 {N:Nat}(h:196<=N/\N<=260):bB N 300 (fD N):=ft (gm (eh N) 0 (di N) (BZ N)) (by unfold eh sZ;rw[Sx,oM];simp only[RX,Uh];omega)
def F4 {N:Nat}{D:DiskM}{h:HdM}{J:List ChangeM}{ds:an}{used:Nat}(I:Inv N D h J ds used):(gp D.now).ep≠0:=by
 rw[I.good.best];have:=I.good.ep;omega
end Go.Proofs.YthdjckbjjfiopabGreatDoor
namespace Go.Proofs.YthdjckbjjfiopabGreatDoor
open _root_.Go.Proofs.Tryz
open Go.Sl Go.Proofs
def F5 (D:DiskM)(h:HdM)(used:Nat):Prop:=bB 200 1000 D/\cE D/\cQ D/\(∃r0 ds,jl 200 D h r0 ds used/\cur r0 ds=yf (ag gZ) [] 1)/\h.ep<=3/\h.first<=401
def nk:yf (ag gZ) [] 1=[⟨[120],[48,48,49],false⟩]:=by
 have D:aj 40 (ag gZ).B=[]:=Eu λq h=>(by have:=(mem_ids.1 h).2;cases this);have J:aj 24 (ag gZ).N=[]:=Eu λq h=>(by have:=(mem_ids.1 h).2;cases this);have O:aN 1=[48,48,49]:=pk (u:=1) (by decide);unfold yf wQ bQ ga;rw[D,J,O]
 rfl
def Ny {e:Int}{S:DiskM}{V:HdM}{h:Nat}{D:List ChangeM}(O:kW (fD 200) hd1 (cur [] []) (200 - 122) 0 (yf (ag gZ) [] 1) e S V h D):e=0/\F5 S V h:=by
 have C:jl 200 (fD 200) hd1 [] [] 0:=KL (by decide) (rb 200) (FZ (by decide));have J:dm (200 - 122) (cur [] []) (yf (ag gZ) [] 1)=0:=(by rw[nk];decide);have R:=C7 (F0 (by decide)) (ul (by decide)) C.2.1 (by decide) (by decide) O;have hk:=C8 (F3 (by decide)) (ul (by decide)) C.2.1 O;rcases FS C (by decide) (by decide) J O with ⟨rfl,b1,b2,r2,Z,Y,e2,e3⟩ | ⟨X,_⟩
 ·refine ⟨rfl,ft hk (by omega),R.2.2.1,R.2.1,⟨r2,Z,Y,?_⟩,?_,?_⟩
  ·rw[e2,e3,nk];decide
  ·have:hd1.ep<=2:=(by decide);omega
  ·have:hd1.first<=201:=(by decide);omega
 ·rw[R.1,J] at X;cases X
def rc (bs bv rs rm:Nat)(w:World):(Instr.build 103 #[(0,ptr bs 0),(1,ptr bv 0),(2, .map (some rs)),(3, .map (some rm)),(4,I 1)]).run Tryz.prog w= .ok (.agg #[ptr bs 0,ptr bv 0, .map (some rs), .map (some rm),I 1]) w:=by
 simp[Instr.build,zeroValue103,runUnderlying103,OH,sizeOf95,P3,Qg,Qn,Instr.fill,qW,show ∀k:Int,(I k).cells=#[I k] from λ_=>rfl,show ∀k:Nat,(ptr k 0).cells=#[ptr k 0] from λ_=>rfl,show ∀r:Nat,(Value.map (some r)).cells=#[.map (some r)] from λ_=>rfl]
def NA {ee:Bool}(J:Nat)(F:List aa):Ct Tryz.prog 37 [ptr J 0] (yn ee::al 179 319 J (di 200)::F) (λv L'=>∃O Z D,F5 O Z D/\v=wm 0/\L'=al 179 319 J (O)::yn ee::F):=by
 have h:=Nx (N:=200) (by decide);refine Ct.of func37 rR 22 ntmps37 (by simp) λw0=>?_;refine gS (gQ rR (gS (gM rR (gI (uB call102 rR (Ko J 200 0 (di 200) (BZ 200) (by decide) (by decide))) ?_))));rintro _ _ (⟨h1,_,_⟩ | ⟨_,e,D1,hr,rfl,rfl⟩)
 ·exact absurd h1 (by decide)
 rw[FZ (by decide)] at hr;injection hr with q1 q2;subst q1 q2;refine gQ rR (qb (gS (gM rR (gV (yP OT rR) (qc ?_)))));refine qd rfl ?_ ?_ <;> intro h8
 ·simp at h8
 ·refine qf (gS (gM rR (gI (uB call41 rR (CR J 200 (fD 200) (h.len) (by omega) ((ul (by decide)).2.1) (hd1) ([]) ([]) (0) (λ_ _ _=>h.good))) ?_)));rintro _ _ (⟨V,_,_⟩ | ⟨_,R,_,_⟩ | ⟨_,_,he0,_,_⟩ | ⟨_,_,_,bs,bl,so,co,rfl,rfl⟩)
  ·rw[(F0 (by decide)).1] at V;cases V
  ·exact absurd R (by decide)
  ·exact absurd he0 (F4 h)
  refine gM rR (gX (ptr bs 0) rR (gX (wm 0) rR (gA rR (gQ rR (qb (gS (gM rR (gV (yP (T:=117) (f:=0) OT rR) (qc ?_)))))))));refine qd rfl ?_ ?_ <;> intro Y
  ·simp at Y
  ·refine qf (gS (gM rR (gI (uA call105 rR (Ml)) ?_)));rintro _ _ ⟨p0,rfl,rfl⟩;refine gI (uC (A0:=yn ee) call104 rR (zA (ee:=ee) p0 (ag gZ) [] 1 Con_z.sm)) ?_;rintro _ _ ⟨X,c20,rfl,rfl⟩;refine yv X ?_;refine gI (uF call103 rR (CO bs J hd1 bl so co (cur [] []) 200 300 0 (fD 200) (F3 (by decide)) (by decide) (ul (by decide)) (by decide) (by decide) (by decide) (h.good.okC) (by decide) (h.good.srtC) (yf (ag gZ) [] 1) X c20 (by rw[nk];decide))) ?_;rintro _ _ ⟨e,O,Z,D,rows2,bl2,s2,cap2,S,rfl,rfl⟩;obtain ⟨rfl,hok⟩:=Ny S;refine gQ rR ?_;exact qh (al 179 319 J (O)::yn ee::F) rfl ⟨O,Z,D,hok,rfl,rfl⟩
def zV (O:Nat)(D:DiskM)(hx:HdM)(r0:List ChangeM)(ds:an)(used:Nat)(S:SI)(L:List Pt)(n:Int)(G:Gh)(hdn:D.down=false)(hI:Inv 200 D hx r0 ds used)(hS:cE D)(Z:cur r0 ds=yf S L n)(Y:Con S L n G)(F:List aa):Ct Tryz.prog 10 [ptr O 0] (zck::al 179 319 O (D)::F) (λv L'=>∃b,v= .tuple #[ptr b 0,wm 0]/\L'=aw b O ⟨hx,used,yf S L n,S,L,n,[],[],1⟩::al 179 319 O (D)::zck::F):=by
 have hlen:=Y.v.len;have hrow:=nf (S:=S) (n:=n) hlen;refine Ct.of func10 rR 30 ntmps10 (by simp) λw0=>?_;refine gS (gA rR (gQ rR (gS (gM rR (gI (uB call41 rR (CR O 200 (D) (hI.len) (by omega) (hS.2.1) (hx) (r0) (ds) (used) (λ_ _ _=>hI.good))) ?_)))));rintro _ _ (⟨hd2,_,_⟩ | ⟨_,X,_,_⟩ | ⟨_,_,he0,_,_⟩ | ⟨_,_,_,bs,bl,so,co,rfl,rfl⟩)
 ·rw[hdn] at hd2;cases hd2
 ·exact absurd X (by decide)
 ·exact absurd he0 (F4 hI)
 rw[Z];refine gM rR (gX (ptr bs 0) rR (gX (wm 0) rR (gA rR (gQ rR (qb (gS (gM rR (gV (yP (T:=117) (f:=0) OT rR) (qc ?_)))))))));refine qd rfl ?_ ?_ <;> intro h13
 ·simp at h13
 ·refine qf (gS (gM rR (gI (uC call43 rR (JZ bs O hx bl so co (yf S L n) (by omega))) ?_)));rintro _ _ ⟨s17,c17,rfl,rfl⟩;refine yv s17 ?_;refine gI (uC (A0:=zck) call42 rR (MV (yf S L n) s17 c17 (by omega) (p7 Y))) ?_;rintro _ _ (⟨st,q3,R,hw,rfl,rfl⟩ | ⟨hno,rfl,rfl⟩);rotate_left
  ·exact absurd (zu Y).2 (hno _ (zu Y).1)
  rw[(zu Y).1] at R;injection R with R;subst R;change Go.Sl.G _ _ _ (aI q3 S L n::_);refine gM rR (gX (ptr q3 0) rR (gX (wm 0) rR (gA rR (gQ rR (qb (gS (gM rR (gV (yP (T:=117) (f:=0) OT rR) (qc ?_)))))))));refine qd rfl ?_ ?_ <;> intro h22
  ·simp at h22
  ·refine qf (gS (gM rR (gM rR (gI (gW) ?_))));rintro _ _ ⟨h,rfl,rfl⟩;refine gI (gW) ?_;rintro _ _ ⟨J,rfl,rfl⟩;refine gV (qF rR (rc bs q3 h J)) (gI (wR #[ptr bs 0,ptr q3 0, .map (some h), .map (some J),I 1] rfl rR) ?_);rintro _ _ ⟨V,rfl,rfl⟩;refine gA rR (gQ rR ?_);refine gY h (bo []) (.refl _) ?_;refine gY J (bp []) (.refl _) ?_;refine sw eu ?_;refine sw fb ?_;refine yy V O ⟨hx,used,yf S L n,S,L,n,[],[],1⟩ bs bl so co q3 h J ?_;exact qh (aw V O ⟨hx,used,yf S L n,S,L,n,[],[],1⟩::al 179 319 O (D)::zck::F) rfl ⟨V,rfl,rfl⟩
def F6 (F:List aa):Ct Tryz.prog 8 [] (zck::F) (λv L'=>∃O b D z,v= .tuple #[ptr O 0,ptr b 0,Bo true]/\Rep 1 D z/\cQ D/\z=⟨z.h,z.used,yf (ag gZ) [] 1,ag gZ,[],1,[],[],1⟩/\L'=aw b O z::al 179 319 O (D)::zck::F):=by
 refine Ct.of func8 rR 34 ntmps8 (by simp) λw0=>?_;refine gS (gA rR (gA rR (gQ rR (gS (gI (uA call36 rR (I9 200)) ?_)))));rintro _ _ (⟨Z,_,_⟩ | ⟨_,O,rfl,rfl⟩)
 ·exact absurd (by omega) Z
 rw[show ((200:Int)).toNat=200 from rfl];refine gM rR (gX (ptr O 0) rR (gX (wm 0) rR (gA rR (gQ rR (qb (gS (gM rR (gV (yP (T:=117) (f:=0) OT rR) (gM rR (yc rR rR (by simp) (qn rR) rR (yc rR rR (by simp) (jW underlying25 rR) rR (gV (aD rR rR) (gM rR (yc rR rR (by simp) (qn rR) rR ?_))))))))))))));refine fB rR rR (by simp) (yW (Pre:=[zck,al 179 319 O (di 200)]) call37 rR (NA O)) rR ?_;rintro _ _ ⟨X,V,J,hok,rfl,rfl⟩;obtain ⟨r2,d2,C2,R⟩:=hok.2.2.2.1;refine yc rR rR (by simp) (yP (T:=117) (f:=0) OT rR) rR (gV (aD rR rR) (qc ?_));refine qd rfl ?_ ?_ <;> intro Y
 ·simp at Y
 ·refine qf (gS (gM rR (gI (uC (A0:=zck) call10 rR (zV O X V r2 d2 J (ag gZ) [] 1 gZ hok.2.2.1.1 C2.2.1 hok.2.1 R Con_z)) ?_)));rintro _ _ ⟨b,rfl,rfl⟩;refine gM rR (gX (ptr b 0) rR (gX (wm 0) rR (gA rR (gQ rR (gS (gM rR (gM rR (gM rR (gV (eA (T:=117) (f:=0) OT rR) (gM rR (yc rR rR (by simp) (qn rR) rR (yc rR rR (by simp) (IA Q3 rR) rR (gV (bT rR rR) (gA rR (gA rR (gQ rR ?_))))))))))))))));exact qh (aw b O ⟨V,J,yf (ag gZ) [] 1,ag gZ,[],1,[],[],1⟩::al 179 319 O (X)::zck::F) rfl ⟨O,b,X,⟨V,J,yf (ag gZ) [] 1,ag gZ,[],1,[],[],1⟩,rfl,⟨hok.1,hok.2.1,⟨r2,d2,C2,R⟩,by have:=hok.2.2.2.2.1;show V.ep<=_;omega,hok.2.2.2.2.2,rfl,⟨⟨gZ,Con_z⟩,by show (1:Int)<=1/\(1:Int)<=1000000;omega,(λe S=>by cases S),(λe S=>by cases S),(λe S=>by cases S)⟩⟩,hok.2.2.1,rfl,rfl⟩
def bD:ab:=[98,101,103,105,110]
def bE:ab:=[112,117,116]
def bG:ab:=[102,105,110,105,115,104]
def bH:ab:=[97,98,111,114,116]
def bI:ab:=[97,103,97,105,110]
def bJ:ab:=[100,114,111,112]
def bK:ab:=[107,101,101,112]
def bL:ab:=[109,111,117,110,116]
def bM:ab:=[117,110,109,111,117,110,116]
def bN:ab:=[114,101,97,100]
def bO:ab:=[119,114,105,116,101]
def bY:ab:=[115,97,118,101]
def cS (l:List Int):Int:=l.foldl (λn i=>1000*n+i) 0
def F7 (D:DiskM)(z:RpM)(e:Int)(D2:DiskM)(z2:RpM):Prop:=wA D (cW (aq z.h z.rows (200 - 122)) (yG z.rows))=(e,D2)/\((e≠0/\z2=z)\/(e=0/\∃ds used',used'<=200 - 122/\wu (z.h.first+(200 - 122)) (eI D2 122) (200 - 122) 0 [] [] 0=(ds,used')/\z2=⟨aq z.h z.rows (200 - 122),used',z.rows,z.S,z.L,z.n,z.ses,z.mou,z.next⟩))
def cY (D:DiskM)(z:RpM)(x:ActM)(n:Int)(s:ab)(e:Int)(D2:DiskM)(z2:RpM):Prop:=
 if x.kind=bD then s=[]/\D2=D/\((yV z x.a x.b x.c≠0/\n=0/\e=yV z x.a x.b x.c/\z2=z)\/(yV z x.a x.b x.c=0/\n=z.next/\e=0/\∃a,z2=z.begun a x.a x.b x.c))
 else if x.kind=bE then n=0/\s=[]/\D2=D/\((cg z x.a x.b x.s≠0/\e=cg z x.a x.b x.s/\z2=z)\/(cg z x.a x.b x.s=0/\e=0/\∃so co,z2=z.putted x.a x.b x.s so co))
 else if x.kind=bG then s=[]/\jq D z x.a n e D2 z2
 else if x.kind=bH then n=0/\s=[]/\D2=D/\((aK z.ses x.a=none/\e=5/\z2=z)\/(∃y,aK z.ses x.a=some y/\e=0/\z2=z.sess (cr z.ses x.a)))
 else if x.kind=bI then s=[]/\lb D z x.a n e D2 z2
 else if x.kind=bJ then n=0/\s=[]/\im D z x.a e D2 z2
 else if x.kind=bK then s=[]/\((x.b<0/\n=0/\e=1/\D2=D/\z2=z)\/(0<=x.b/\∃gone,dZ (aZ z.L x.a x.b) D z gone e D2 z2/\n=cS gone))
 else if x.kind=bL then s=[]/\D2=D/\((dg z x.a≠0/\n=0/\e=dg z x.a/\z2=z)\/(dg z x.a=0/\n=z.next/\e=0/\∃a r,z2=z.mounted a r x.a))
 else if x.kind=bM then n=0/\s=[]/\D2=D/\((bx z.mou x.a=none/\e=5/\z2=z)\/(∃y,bx z.mou x.a=some y/\e=0/\z2=z.moun (fa z.mou x.a)))
 else if x.kind=bN then n=0/\s=(wF z x.a x.b).1/\e=(wF z x.a x.b).2/\D2=D/\z2=z
 else if x.kind=bO then n=0/\s=[]/\D2=D/\((wH z x.a x.b x.s≠0/\e=wH z x.a x.b x.s/\z2=z)\/(wH z x.a x.b x.s=0/\e=0/\z2=z.written x.a x.b x.s))
 else if x.kind=bY then n=0/\s=[]/\F7 D z e D2 z2
 else n=0/\s=[]/\e=0/\D2=D/\z2=z
def zW:∀{l:List Int} {D O:DiskM} {z z2:RpM} {gone:List Int} {e:Int},dZ l D z gone e O z2->gone.length<=l.length/\∀g∈gone,g∈l
 | [],_,_,_,_,_,_,h=>by rw[h.1];simp
 | id::l,D,O,z,z2,gone,e,h=>by
  unfold dZ at h;split at h
  ·have:=zW h;exact ⟨by simp only[RX];omega,λg J=>Th _ (this.2 g J)⟩
  ·obtain ⟨S,D1,X,_,h⟩:=h;rcases h with ⟨_,J,_⟩ | ⟨_,V,R,J⟩
   ·rw[J];simp
   ·have:=zW R;rw[J];split
    ·refine ⟨by simp only[RX];omega,λg J=>?_⟩;rcases RR.1 J with rfl | J
     ·simp
     ·exact Th _ (this.2 g J)
    ·simp
def NB (l:List Int)(i:Int):cS (l++ [i])=1000*cS l+i:=by unfold cS;rw[Uy];rfl
def re {l:List Int}{k:Nat}{i:Int}(h:l[k]? =some i):cS (l.take (k+1))=1000*cS (l.take k)+i:=by
 rw[<-NB];congr 1;rw[UY,h]
 rfl
def F8 {S:SI}{L:List Pt}{n:Int}{G:Gh}(h:Con S L n G){disk many:Int}:∀g∈aZ L disk many,1<=g/\g<=999:=λg D=>by
 unfold aZ at D;have J:=SD D;obtain ⟨p,O,rfl⟩:=SR.1 J;have:=h.v.pts p (Tz.1 O).1;have:=h.v.n1;omega
def rg {l:List Int}(h:∀g∈l,1<=g/\g<=999)(D:l.length<=6):∀k,k<=l.length->0<=cS (l.take k)/\cS (l.take k)<((1000 ^ k:Nat):Int)
 | 0,_=>by simp[cS]
 | k+1,J=>by
  have O:=rg h D k (by omega);have hx:l[k]? =some l[k]:=S6 (by omega);have:=h l[k] (List.getElem_mem _);rw[re hx];have e:((1000 ^ (k+1):Nat):Int)=1000*((1000 ^ k:Nat):Int):=(by rw[Nat.pow_succ,Int.natCast_mul];omega);omega
def NC {ee:Bool}(b Z t:Nat)(z:RpM)(D:DiskM)(x:ActM)(y:ActZ)(R:Rep t D z)(ht:t<=90000)(hxs:x.s.length<=9223372036854775807)(hxb:x.b<=9223372036854775807)(F:List aa):Ct Tryz.prog 12 [ptr b 0, .agg (fT x y).toArray] (yn ee::aw b Z z::al 179 319 Z (D)::F) (λv L'=>∃n s e D2 z2,cY D z x n s e D2 z2/\v= .tuple #[I n,ac s,wm e]/\L'=aw b Z z2::al 179 319 Z (D2)::yn ee::F):=by
 refine Ct.of func12 rR 152 ntmps12 (by simp) λw0=>?_;refine gS (gI (wR (fT x y).toArray rR rR) ?_);rintro _ _ ⟨b3,rfl,rfl⟩;refine gA rR (gA rR (gQ rR (qb (gS (gF 0 O1 rR ON rR (gL (ac x.kind) OQ rR (qc (qg (gS (gV (wl rR rR) (gQ rR ?_)))))))))));refine qd rfl ?_ ?_ <;> intro h23
 ·have J:x.kind=bD:=(by simpa [bD] using h23);refine gS (gM rR (gF 2 O1 rR OH rR (gL (I x.a) OI rR (gF 3 O1 rR OH rR (gL (I x.b) OI rR (gF 4 O1 rR OH rR (gL (I x.c) OI rR (gI (uB call31 rR (Fz b Z z x.a x.b x.c R.rok)) ?_))))))));rintro _ _ (⟨he,rfl,rfl⟩ | ⟨he,a,rfl,rfl⟩)
  ·refine gM rR (gX (I 0) rR (gX (wm (yV z x.a x.b x.c)) rR (gA rR (gQ rR (gS (gM rR (gM rR (gA rR (gA rR (gQ rR ?_))))))))));exact qh (aw b Z (z)::al 179 319 Z (D)::yn ee::F) rfl ⟨0,[],yV z x.a x.b x.c,D,z,by unfold cY;rw[RI J];exact ⟨rfl,rfl, .inl ⟨he,rfl,rfl,rfl⟩⟩,rfl,rfl⟩
  ·refine gM rR (gX (I z.next) rR (gX (wm 0) rR (gA rR (gQ rR (gS (gM rR (gM rR (gA rR (gA rR (gQ rR ?_))))))))));exact qh (aw b Z (z.begun a x.a x.b x.c)::al 179 319 Z (D)::yn ee::F) rfl ⟨z.next,[],0,D,z.begun a x.a x.b x.c,by unfold cY;rw[RI J];exact ⟨rfl,rfl, .inr ⟨he,rfl,rfl,a,rfl⟩⟩,rfl,rfl⟩
 ·have J:¬x.kind=bD:=(by simpa [bD] using h23);refine gS (gV (wl rR rR) (gQ rR ?_));refine qd rfl ?_ ?_ <;> intro h38
  ·have O:x.kind=bE:=(by simpa [bE] using h38);refine gS (gM rR (gF 2 O1 rR OH rR (gL (I x.a) OI rR (gF 3 O1 rR OH rR (gL (I x.b) OI rR (gF 1 O1 rR ON rR (gL (ac x.s) OQ rR (gI (uB call32 rR (FL b Z z x.a x.b x.s R.rok hxs)) ?_))))))));rintro _ _ (⟨he,rfl,rfl⟩ | ⟨he,so,co,rfl,rfl⟩)
   ·refine gA rR (gA rR (gQ rR ?_));exact qh (aw b Z (z)::al 179 319 Z (D)::yn ee::F) rfl ⟨0,[],cg z x.a x.b x.s,D,z,by unfold cY;rw[RJ J,RI O];exact ⟨rfl,rfl,rfl, .inl ⟨he,rfl,rfl⟩⟩,rfl,rfl⟩
   ·refine gA rR (gA rR (gQ rR ?_));exact qh (aw b Z (z.putted x.a x.b x.s so co)::al 179 319 Z (D)::yn ee::F) rfl ⟨0,[],0,D,z.putted x.a x.b x.s so co,by unfold cY;rw[RJ J,RI O];exact ⟨rfl,rfl,rfl, .inr ⟨he,rfl,so,co,rfl⟩⟩,rfl,rfl⟩
  ·have O:¬x.kind=bE:=(by simpa [bE] using h38);refine gS (gV (wl rR rR) (gQ rR ?_));refine qd rfl ?_ ?_ <;> intro h48
   ·have V:x.kind=bG:=(by simpa [bG] using h48);refine gS (gM rR (gF 2 O1 rR OH rR (gL (I x.a) OI rR (gI (uD (A0:=yn ee) call33 rR (FX b Z 1000 z x.a R.rok D (R.dk (by omega)) (by omega))) ?_))));rintro _ _ ⟨n,e,D2,z2,hf,rfl,rfl⟩
    ·refine gM rR (gX (I n) rR (gX (wm e) rR (gA rR (gQ rR (gS (gM rR (gM rR (gA rR (gA rR (gQ rR ?_))))))))));exact qh (aw b Z (z2)::al 179 319 Z (D2)::yn ee::F) rfl ⟨n,[],e,D2,z2,by unfold cY;rw[RJ J,RJ O,RI V];exact ⟨rfl,hf⟩,rfl,rfl⟩
   ·have V:¬x.kind=bG:=(by simpa [bG] using h48);refine gS (gV (wl rR rR) (gQ rR ?_));refine qd rfl ?_ ?_ <;> intro h59
    ·have X:x.kind=bH:=(by simpa [bH] using h59);refine gS (gM rR (gF 2 O1 rR OH rR (gL (I x.a) OI rR (gI (uB call44 rR (M6 b Z z x.a)) ?_))));rintro _ _ (⟨he,rfl,rfl⟩ | ⟨w,he,rfl,rfl⟩)
     ·refine gA rR (gA rR (gQ rR ?_));exact qh (aw b Z (z)::al 179 319 Z (D)::yn ee::F) rfl ⟨0,[],5,D,z,by unfold cY;rw[RJ J,RJ O,RJ V,RI X];exact ⟨rfl,rfl,rfl, .inl ⟨he,rfl,rfl⟩⟩,rfl,rfl⟩
     ·refine gA rR (gA rR (gQ rR ?_));exact qh (aw b Z (z.sess (cr z.ses x.a))::al 179 319 Z (D)::yn ee::F) rfl ⟨0,[],0,D,z.sess (cr z.ses x.a),by unfold cY;rw[RJ J,RJ O,RJ V,RI X];exact ⟨rfl,rfl,rfl, .inr ⟨w,he,rfl,rfl⟩⟩,rfl,rfl⟩
    ·have X:¬x.kind=bH:=(by simpa [bH] using h59);refine gS (gV (wl rR rR) (gQ rR ?_));refine qd rfl ?_ ?_ <;> intro h65
     ·have Y:x.kind=bI:=(by simpa [bI] using h65);refine gS (gM rR (gF 2 O1 rR OH rR (gL (I x.a) OI rR (gI (uD (A0:=yn ee) call45 rR (Na b Z 1000 z x.a R.rok D (R.dk (by omega)) (by omega))) ?_))));rintro _ _ ⟨n,e,D2,z2,hf,rfl,rfl⟩
      ·refine gM rR (gX (I n) rR (gX (wm e) rR (gA rR (gQ rR (gS (gM rR (gM rR (gA rR (gA rR (gQ rR ?_))))))))));exact qh (aw b Z (z2)::al 179 319 Z (D2)::yn ee::F) rfl ⟨n,[],e,D2,z2,by unfold cY;rw[RJ J,RJ O,RJ V,RJ X,RI Y];exact ⟨rfl,hf⟩,rfl,rfl⟩
     ·have Y:¬x.kind=bI:=(by simpa [bI] using h65);refine gS (gV (wl rR rR) (gQ rR ?_));refine qd rfl ?_ ?_ <;> intro h76
      ·have hkDrp:x.kind=bJ:=(by simpa [bJ] using h76);refine gS (gM rR (gF 2 O1 rR OH rR (gL (I x.a) OI rR (gI (uD (A0:=yn ee) call46 rR (FD b Z 1000 z x.a R.rok D (R.dk (by omega)) (by omega))) ?_))));rintro _ _ ⟨e,D2,z2,hf,rfl,rfl⟩
       ·refine gA rR (gA rR (gQ rR ?_));exact qh (aw b Z (z2)::al 179 319 Z (D2)::yn ee::F) rfl ⟨0,[],e,D2,z2,by unfold cY;rw[RJ J,RJ O,RJ V,RJ X,RJ Y,RI hkDrp];exact ⟨rfl,rfl,hf⟩,rfl,rfl⟩
      ·have hkDrp:¬x.kind=bJ:=(by simpa [bJ] using h76);refine gS (gV (wl rR rR) (gQ rR ?_));refine qd rfl ?_ ?_ <;> intro h82
       ·have hkKee:x.kind=bK:=(by simpa [bK] using h82);refine gS (gM rR (gF 2 O1 rR OH rR (gL (I x.a) OI rR (gF 3 O1 rR OH rR (gL (I x.b) OI rR (gI (uD (A0:=yn ee) call47 rR (Nv b Z t z D x.a x.b R ht hxb)) ?_))))));rintro _ _ (⟨hm,rfl,rfl⟩ | ⟨hm,gone,e,D2,z2,s90,c90,hkp,rfl,rfl⟩)
        ·obtain ⟨gone,hg0⟩:∃g:List Int,g=[]:=⟨_,rfl⟩;have hids:∀g∈gone,1<=g/\g<=999:=(by rw[hg0];simp);have hgl:gone.length<=6:=(by rw[hg0];simp);refine yi 3 1 (yC gone) (by rw[hg0];rfl) ?_;rw[show (sl none 0 0)=sl none gone.length 0 by rw[hg0];rfl];refine gM rR (gX (sl none gone.length 0) rR (gX (wm 1) rR (gA rR (gQ rR (gS (gQ rR (qb (gS (gQ rR (qg ?_))))))))));refine qC (α:=Nat) (λk=>k<=(gone).length) (λk=>U [(13,sl none (gone).length 0),(14,wm 1),(15,I (cS ((gone).take k))),(16,I k)]) (λk=>ai 3 1 none 0 (yC (gone))::aw b Z z::al 179 319 Z (D)::yn ee::F) (λk=>(gone).length - k) 0 (by simp) [13,14,15,16] rfl rR ?_;rintro k hk;refine qb (gS (gM rR (gM rR (gV (qY OO rR) (gV (qH rR rR) (qc ?_))))));refine qd rfl ?_ ?_ <;> intro h96
         ·simp at h96;have hkn:k<gone.length:=(by omega);obtain ⟨i,hik⟩:∃i,gone[k]? =some i:=⟨_,S6 hkn⟩;have hib:=hids i (R5 hik);have hnb:=rg hids hgl k (by omega);have hpw:1000 ^ k<=1000 ^ 5:=SG (by decide) (by omega);have hp5:1000 ^ 5=1000000000000000:=(by decide);rw[hp5] at hpw;refine qf (qb (qg (qo (gM rR (gV (ey (r:=1000*cS (gone.take k)) rR rR (ao (by omega))) (gM rR (gM rR (gV (qv k OO OH rR rR rR hkn (by rw[yh];exact hkn)) (gV (qM (v:=I i) OI rR (wt hik) rR) (gV (yr (r:=cS (gone.take (k+1))) rR rR (by rw[re hik];exact ao (by omega))) (gQ rR (qD (qo (gM rR (gP rR rR (by omega) (gQ rR ?_))))))))))))))));exact qk (k+1) (by omega) (by omega) [13,14,15,16] rfl rfl
         ·simp at h96;obtain rfl:k=gone.length:=(by omega);refine qw rR ?_;refine gS (gM rR (gM rR (gA rR (gA rR (gQ rR ?_)))));subst hg0;exact qh (aw b Z (z)::al 179 319 Z (D)::yn ee::F) rfl ⟨0,[],1,D,z,by unfold cY;rw[RJ J,RJ O,RJ V,RJ X,RJ Y,RJ hkDrp,RI hkKee];exact ⟨rfl, .inl ⟨hm,rfl,rfl,rfl,rfl⟩⟩,rfl,rfl⟩
        ·obtain ⟨G0,hC⟩:=R.rok.con;have hks:=zW hkp;have hel:=nj z.L x.a x.b hC.v.len;have hgl:gone.length<=6:=(by omega);have hids:∀g∈gone,1<=g/\g<=999:=λg hg=>F8 hC g (hks.2 g hg);refine gM rR (gX (sl s90 gone.length c90) rR (gX (wm e) rR (gA rR (gQ rR (gS (gQ rR (qb (gS (gQ rR (qg ?_))))))))));refine qC (α:=Nat) (λk=>k<=(gone).length) (λk=>U [(13,sl s90 (gone).length c90),(14,wm e),(15,I (cS ((gone).take k))),(16,I k)]) (λk=>ai 3 1 s90 c90 (yC (gone))::aw b Z z2::al 179 319 Z (D2)::yn ee::F) (λk=>(gone).length - k) 0 (by simp) [13,14,15,16] rfl rR ?_;rintro k hk;refine qb (gS (gM rR (gM rR (gV (qY OO rR) (gV (qH rR rR) (qc ?_))))));refine qd rfl ?_ ?_ <;> intro h96
         ·simp at h96;have hkn:k<gone.length:=(by omega);obtain ⟨i,hik⟩:∃i,gone[k]? =some i:=⟨_,S6 hkn⟩;have hib:=hids i (R5 hik);have hnb:=rg hids hgl k (by omega);have hpw:1000 ^ k<=1000 ^ 5:=SG (by decide) (by omega);have hp5:1000 ^ 5=1000000000000000:=(by decide);rw[hp5] at hpw;refine qf (qb (qg (qo (gM rR (gV (ey (r:=1000*cS (gone.take k)) rR rR (ao (by omega))) (gM rR (gM rR (gV (qv k OO OH rR rR rR hkn (by rw[yh];exact hkn)) (gV (qM (v:=I i) OI rR (wt hik) rR) (gV (yr (r:=cS (gone.take (k+1))) rR rR (by rw[re hik];exact ao (by omega))) (gQ rR (qD (qo (gM rR (gP rR rR (by omega) (gQ rR ?_))))))))))))))));exact qk (k+1) (by omega) (by omega) [13,14,15,16] rfl rfl
         ·simp at h96;obtain rfl:k=gone.length:=(by omega);refine qw rR ?_;refine gS (gM rR (gM rR (gA rR (gA rR (gQ rR ?_)))));exact qh (aw b Z (z2)::al 179 319 Z (D2)::yn ee::F) rfl ⟨cS (gone.take gone.length),[],e,D2,z2,by unfold cY;rw[RJ J,RJ O,RJ V,RJ X,RJ Y,RJ hkDrp,RI hkKee];exact ⟨rfl, .inr ⟨hm,gone,hkp,by rw[S7]⟩⟩,rfl,rfl⟩
       ·have hkKee:¬x.kind=bK:=(by simpa [bK] using h82);refine gS (gV (wl rR rR) (gQ rR ?_));refine qd rfl ?_ ?_ <;> intro h108
        ·have hkMou:x.kind=bL:=(by simpa [bL] using h108);refine gS (gM rR (gF 2 O1 rR OH rR (gL (I x.a) OI rR (gI (uB call48 rR (M8 b Z z x.a R.rok)) ?_))));rintro _ _ (⟨he,rfl,rfl⟩ | ⟨he,a,r,rfl,rfl⟩)
         ·refine gM rR (gX (I 0) rR (gX (wm (dg z x.a)) rR (gA rR (gQ rR (gS (gM rR (gM rR (gA rR (gA rR (gQ rR ?_))))))))));exact qh (aw b Z (z)::al 179 319 Z (D)::yn ee::F) rfl ⟨0,[],dg z x.a,D,z,by unfold cY;rw[RJ J,RJ O,RJ V,RJ X,RJ Y,RJ hkDrp,RJ hkKee,RI hkMou];exact ⟨rfl,rfl, .inl ⟨he,rfl,rfl,rfl⟩⟩,rfl,rfl⟩
         ·refine gM rR (gX (I z.next) rR (gX (wm 0) rR (gA rR (gQ rR (gS (gM rR (gM rR (gA rR (gA rR (gQ rR ?_))))))))));exact qh (aw b Z (z.mounted a r x.a)::al 179 319 Z (D)::yn ee::F) rfl ⟨z.next,[],0,D,z.mounted a r x.a,by unfold cY;rw[RJ J,RJ O,RJ V,RJ X,RJ Y,RJ hkDrp,RJ hkKee,RI hkMou];exact ⟨rfl,rfl, .inr ⟨he,rfl,rfl,a,r,rfl⟩⟩,rfl,rfl⟩
        ·have hkMou:¬x.kind=bL:=(by simpa [bL] using h108);refine gS (gV (wl rR rR) (gQ rR ?_));refine qd rfl ?_ ?_ <;> intro h119
         ·have hkUnm:x.kind=bM:=(by simpa [bM] using h119);refine gS (gM rR (gF 2 O1 rR OH rR (gL (I x.a) OI rR (gI (uB call49 rR (M7 b Z z x.a)) ?_))));rintro _ _ (⟨he,rfl,rfl⟩ | ⟨w,he,rfl,rfl⟩)
          ·refine gA rR (gA rR (gQ rR ?_));exact qh (aw b Z (z)::al 179 319 Z (D)::yn ee::F) rfl ⟨0,[],5,D,z,by unfold cY;rw[RJ J,RJ O,RJ V,RJ X,RJ Y,RJ hkDrp,RJ hkKee,RJ hkMou,RI hkUnm];exact ⟨rfl,rfl,rfl, .inl ⟨he,rfl,rfl⟩⟩,rfl,rfl⟩
          ·refine gA rR (gA rR (gQ rR ?_));exact qh (aw b Z (z.moun (fa z.mou x.a))::al 179 319 Z (D)::yn ee::F) rfl ⟨0,[],0,D,z.moun (fa z.mou x.a),by unfold cY;rw[RJ J,RJ O,RJ V,RJ X,RJ Y,RJ hkDrp,RJ hkKee,RJ hkMou,RI hkUnm];exact ⟨rfl,rfl,rfl, .inr ⟨w,he,rfl,rfl⟩⟩,rfl,rfl⟩
         ·have hkUnm:¬x.kind=bM:=(by simpa [bM] using h119);refine gS (gV (wl rR rR) (gQ rR ?_));refine qd rfl ?_ ?_ <;> intro h125
          ·have hkRea:x.kind=bN:=(by simpa [bN] using h125);refine gS (gM rR (gF 2 O1 rR OH rR (gL (I x.a) OI rR (gF 3 O1 rR OH rR (gL (I x.b) OI rR (gR (vB call50 rR (FC b Z z x.a x.b R.rok)) ?_))))))
           ·refine gM rR (gX (ac (wF z x.a x.b).1) rR (gX (wm (wF z x.a x.b).2) rR (gA rR (gQ rR (gS (gM rR (gM rR (gA rR (gA rR (gQ rR ?_))))))))));exact qh (aw b Z (z)::al 179 319 Z (D)::yn ee::F) rfl ⟨0,(wF z x.a x.b).1,(wF z x.a x.b).2,D,z,by unfold cY;rw[RJ J,RJ O,RJ V,RJ X,RJ Y,RJ hkDrp,RJ hkKee,RJ hkMou,RJ hkUnm,RI hkRea];exact ⟨rfl,rfl,rfl,rfl,rfl⟩,rfl,rfl⟩
          ·have hkRea:¬x.kind=bN:=(by simpa [bN] using h125);refine gS (gV (wl rR rR) (gQ rR ?_));refine qd rfl ?_ ?_ <;> intro h138
           ·have hkWri:x.kind=bO:=(by simpa [bO] using h138);refine gS (gM rR (gF 2 O1 rR OH rR (gL (I x.a) OI rR (gF 3 O1 rR OH rR (gL (I x.b) OI rR (gF 1 O1 rR ON rR (gL (ac x.s) OQ rR (gI (uB call51 rR (M9 b Z z x.a x.b x.s R.rok hxs)) ?_))))))));rintro _ _ (⟨he,rfl,rfl⟩ | ⟨he,rfl,rfl⟩)
            ·refine gA rR (gA rR (gQ rR ?_));exact qh (aw b Z (z)::al 179 319 Z (D)::yn ee::F) rfl ⟨0,[],wH z x.a x.b x.s,D,z,by unfold cY;rw[RJ J,RJ O,RJ V,RJ X,RJ Y,RJ hkDrp,RJ hkKee,RJ hkMou,RJ hkUnm,RJ hkRea,RI hkWri];exact ⟨rfl,rfl,rfl, .inl ⟨he,rfl,rfl⟩⟩,rfl,rfl⟩
            ·refine gA rR (gA rR (gQ rR ?_));exact qh (aw b Z (z.written x.a x.b x.s)::al 179 319 Z (D)::yn ee::F) rfl ⟨0,[],0,D,z.written x.a x.b x.s,by unfold cY;rw[RJ J,RJ O,RJ V,RJ X,RJ Y,RJ hkDrp,RJ hkKee,RJ hkMou,RJ hkUnm,RJ hkRea,RI hkWri];exact ⟨rfl,rfl,rfl, .inr ⟨he,rfl,rfl⟩⟩,rfl,rfl⟩
           ·have hkWri:¬x.kind=bO:=(by simpa [bO] using h138);refine gS (gV (wl rR rR) (gQ rR ?_));refine qd rfl ?_ ?_ <;> intro h148
            ·have hkSav:x.kind=bY:=(by simpa [bY] using h148);refine gS (gM rR (gI (uC call52 rR (Nu b Z 1000 z D (R.dk (by omega)) (by omega))) ?_));rintro _ _ ⟨e,D2,hrun,rfl,hcase⟩;rcases hcase with ⟨hne,rfl⟩ | ⟨he0,ds,used2,hu2,hsc,rfl⟩
             ·refine gA rR (gA rR (gQ rR ?_));exact qh (aw b Z (z)::al 179 319 Z (D2)::yn ee::F) rfl ⟨0,[],e,D2,z,by unfold cY;rw[RJ J,RJ O,RJ V,RJ X,RJ Y,RJ hkDrp,RJ hkKee,RJ hkMou,RJ hkUnm,RJ hkRea,RJ hkWri,RI hkSav];exact ⟨rfl,rfl,hrun, .inl ⟨hne,rfl⟩⟩,rfl,rfl⟩
             ·refine gA rR (gA rR (gQ rR ?_));exact qh (aw b Z (⟨aq z.h z.rows (200 - 122),used2,z.rows,z.S,z.L,z.n,z.ses,z.mou,z.next⟩)::al 179 319 Z (D2)::yn ee::F) rfl ⟨0,[],e,D2,⟨aq z.h z.rows (200 - 122),used2,z.rows,z.S,z.L,z.n,z.ses,z.mou,z.next⟩,by unfold cY;rw[RJ J,RJ O,RJ V,RJ X,RJ Y,RJ hkDrp,RJ hkKee,RJ hkMou,RJ hkUnm,RJ hkRea,RJ hkWri,RI hkSav];exact ⟨rfl,rfl,hrun, .inr ⟨he0,ds,used2,hu2,hsc,rfl⟩⟩,rfl,rfl⟩
            ·have hkSav:¬x.kind=bY:=(by simpa [bY] using h148);refine qf (qD (gS (gA rR (gA rR (gQ rR ?_)))));exact qh (aw b Z (z)::al 179 319 Z (D)::yn ee::F) rfl ⟨0,[],0,D,z,by unfold cY;rw[RJ J,RJ O,RJ V,RJ X,RJ Y,RJ hkDrp,RJ hkKee,RJ hkMou,RJ hkUnm,RJ hkRea,RJ hkWri,RJ hkSav];exact ⟨rfl,rfl,rfl,rfl,rfl⟩,rfl,rfl⟩
theorem Rep.le {t J:Nat}{D:DiskM}{z:RpM}(R:Rep t D z)(h:t<=J):Rep J D z:=⟨R.ok,R.s80,R.cal,by have:=R.ep;omega,by have:=R.first;omega,R.rows,R.rok⟩
def F9 {e:SeE}{at_:Int}{d:ab}{so:Option Addr}{co:Nat}(h:SOk e)(O:¬(at_<0\/e.size<=at_))(hd:¬6<d.length):SOk ⟨e.key,e.a,so,co,e.base,e.disk,e.size,cv e.puts at_ d⟩:=by
 refine ⟨h.size,?_,λp D=>?_⟩
 ·show ((cv e.puts at_ d).map (·.at_)).Nodup;unfold cv;rw[RA,Tk];refine ⟨Rw (Tl _ Tm) h.nodup,by simp,λa O b R=>?_⟩;obtain ⟨p,D,rfl⟩:=SR.1 O;have J:=(Tz.1 D).2;simp at J R;rw[R];exact J
 ·have D:p∈cv e.puts at_ d:=D;unfold cv at D;rcases Sc.1 D with D | D
  ·exact h.rng p (Tz.1 D).1
  ·rw[Ub] at D;subst D;exact ⟨by show 0<=at_/\at_<e.size;omega,by show d.length<=6;omega⟩
theorem Rep.turn {t V:Nat}{D:DiskM}{z:RpM}(R:Rep t D z)(h:t<=V)(ses:List SeE)(mou:List MoE)(next:Int)(Y:1<=next/\next<=1000000)(O:∀e∈ses,(1<=e.key/\e.key<next)/\SOk e)(X:∀e∈mou,1<=e.key/\e.key<next):Rep V D ⟨z.h,z.used,z.rows,z.S,z.L,z.n,ses,mou,next⟩:=
 ⟨R.ok,R.s80,R.cal,by have:=R.ep;show z.h.ep<=_;omega,by have:=R.first;show z.h.first<=_;omega,R.rows,⟨R.rok.con,Y,λe J=>(O e J).1,X,λe J=>(O e J).2⟩⟩
def nm {α:Type}{l:List α}{i:Nat}{a x:α}(h:x∈l.set i a):x∈l\/x=a:=Sf h
def zX {S:SI}{L:List Pt}{n base disk size:Int}{puts:List PutM}{G:Gh}{D:SI}{L':List Pt}{R r:Int}(h:Vok S L n G)(e:bW S L n base disk size puts= .ok (D,L',R,r)):∀p∈L,p∈L':=λp O=>by
 obtain ⟨_,_,_,_,J,_⟩:=xT h e;rw[J];exact Ug _ O
def zY {S:SI}{L:List Pt}{n id:Int}{G:Gh}{D:SI}{L':List Pt}{R r:Int}(h:Vok S L n G)(e:dq S L n id= .ok (D,L',R,r)):∀p∈L,p∈L':=λp O=>by
 obtain ⟨_,_,_,_,_,J,_⟩:=xU h e;rw[J];exact Ug _ O
structure Up (t:Nat) (D:DiskM) (z:RpM):Prop where
 rep:Rep t D z
 up:cQ D
 next:z.next<=1+t
theorem Up.le {t J:Nat}{D:DiskM}{z:RpM}(R:Up t D z)(h:t<=J):Up J D z:=⟨R.rep.le h,R.up,by have:=R.next;omega⟩
theorem Up.drop {t:Nat}{D J:DiskM}{z z2:RpM}{id e:Int}(R:Up t D z)(X:t<=90000)(k:im D z id e J z2):Up (t+1) J z2:=by
 rcases ra R.rep (by omega) k with ⟨_,O,S,_,_,_,_,V⟩ | ⟨_,_,_,rfl,rfl⟩ | ⟨_,h,_⟩
 ·exact ⟨O,S R.up,by rw[V];have:=R.next;omega⟩
 ·exact R.le (by omega)
 ·exact absurd R.up h
theorem Up.keep:∀{l:List Int} {t:Nat} {D J:DiskM} {z z2:RpM} {gone:List Int} {e:Int},Up t D z->t+l.length<=90000->dZ l D z gone e J z2->Up (t+l.length) J z2
 | [],t,_,_,_,_,_,_,R,_,h=>by obtain ⟨_,_,rfl,rfl⟩:=h;exact R
 | id::l,t,D,J,z,z2,gone,e,R,S,h=>by
  simp only[RX] at S ⊢;unfold dZ at h;split at h
  ·exact (Up.keep R (by omega) h).le (by omega)
  ·obtain ⟨V,D1,Y,hd,h⟩:=h;have R1:=R.drop (by omega) hd;rcases h with ⟨_,_,_,rfl,rfl⟩ | ⟨_,X,O,_⟩
   ·exact R1.le (by omega)
   ·exact (Up.keep R1 (by omega) O).le (by omega)
theorem Up.kept {t:Nat}{D X:DiskM}{z z2:RpM}{O:SI}{L':List Pt}{V e:Int}{Y:Gh}(R:Up t D z)(ht:t<=90000)(J:Con O L' V Y)(h1:∀p∈z.L,p∈L')(k:q8 D z O L' V e X z2):e=0/\Up (t+1) X z2/\z2.S=O/\z2.L=L'/\z2.n=V/\z2.ses=z.ses/\z2.mou=z.mou/\z2.next=z.next:=by
 rcases FV R.rep (by omega) J (P:=L') (by have:=J.v.len;omega) h1 (λp hp=>hp) k with ⟨Z,a2,a3,a4,a5,a6,a7,a8,a9⟩ | ⟨_,h,_⟩
 ·exact ⟨Z,⟨a2,a3 R.up,by rw[a9];have:=R.next;omega⟩,a4,a5,a6,a7,a8,a9⟩
 ·exact absurd R.up h
theorem Up.save {t:Nat}{D Y:DiskM}{z z2:RpM}{e:Int}(R:Up t D z)(ht:t<=90000)(k:F7 D z e Y z2):Up (t+1) Y z2:=by
 obtain ⟨V,k⟩:=k;obtain ⟨r0,ds,C,J⟩:=R.rep.cal;have hep:=R.rep.ep;have hfi:=R.rep.first;rw[<-J] at V;have Z:=KK R.rep.ok R.rep.s80 C.2.1 V;obtain ⟨D1,q1,q2,q3⟩:=xj R.up C.2.1 (by omega) (by omega);rw[q1] at V;injection V with h1 h2;subst h1 h2;rcases Dd C.1 C.2.1 C.2.2 (by omega) (by omega) q1 with ⟨_,O⟩ | ⟨h9,_⟩
 ·rcases k with ⟨hx,_⟩ | ⟨_,d',u',_,X,rfl⟩
  ·exact absurd rfl hx
  ·have S:=O.2.1.good.log;rw[O.2.1.len] at S;have hu:=(xl X S).2;subst hu;rw[J] at O;exact ⟨⟨FT Z.1 O.1,Z.2,⟨z.rows,[],O,rfl⟩,by show z.h.ep+1<=_;omega,by show z.h.first+(200 - 122)<=_;omega,R.rep.rows,⟨R.rep.rok.con,R.rep.rok.next,R.rep.rok.keyS,R.rep.rok.keyM,R.rep.rok.sesS⟩⟩,q2,by have:=R.next;show z.next<=_;omega⟩
 ·cases h9
def zZ {t:Nat}{D:DiskM}{z:RpM}(R:Up t D z)(l:List SeE)(h:∀e∈l,e∈z.ses):Up t D (z.sess l):=
 ⟨R.rep.turn (Ra _) l z.mou z.next R.rep.rok.next (λe J=>⟨R.rep.rok.keyS e (h e J),R.rep.rok.sesS e (h e J)⟩) R.rep.rok.keyM,R.up,R.next⟩
def z6 {t:Nat}{D:DiskM}{z:RpM}(R:Up t D z)(l:List MoE)(h:∀e∈l,1<=e.key/\e.key<z.next):Up t D (z.moun l):=
 ⟨R.rep.turn (Ra _) z.ses l z.next R.rep.rok.next (λe J=>⟨R.rep.rok.keyS e J,R.rep.rok.sesS e J⟩) h,R.up,R.next⟩
def ND {t:Nat}{D D2:DiskM}{z z2:RpM}{x:ActM}{n e:Int}{s:ab}(R:Up t D z)(ht:t<=80000)(k:cY D z x n s e D2 z2):Up (t+7) D2 z2:=by
 have hnx:=R.next;have hn1:=R.rep.rok.next;obtain ⟨G,hC⟩:=R.rep.rok.con;have hlen:=hC.v.len;unfold cY at k;by_cases V:x.kind=bD
 ·rw[RI V] at k;obtain ⟨_,rfl,⟨_,_,_,rfl⟩ | ⟨hb,_,_,a,rfl⟩⟩:=k
  ·exact R.le (by omega)
  ·have hsz:¬(x.b<1\/999<x.b\/x.c<1\/16<x.c):=λh=>(by unfold yV at hb;rw[RI h] at hb;cases hb);refine ⟨R.rep.turn (by omega) _ _ _ (by omega) (λe J=>?_) (λe J=>by have:=R.rep.rok.keyM e J;omega),R.up,by show z.next+1<=_;omega⟩;rcases Sc.1 J with J | J
   ·have:=R.rep.rok.keyS e J;exact ⟨by omega,R.rep.rok.sesS e J⟩
   ·rw[Ub] at J;subst J;exact ⟨by show 1<=z.next/\z.next<z.next+1;omega,⟨by show 1<=x.c/\x.c<=16;omega,by simp,λp hp=>by cases hp⟩⟩
 rw[RJ V] at k;by_cases hkPut:x.kind=bE
 ·rw[RI hkPut] at k;obtain ⟨_,_,rfl,⟨_,_,rfl⟩ | ⟨hp,_,so,co,rfl⟩⟩:=k
  ·exact R.le (by omega)
  ·unfold RpM.putted;unfold cg at hp;cases hf:aK z.ses x.a with
   | none=>exact R.le (by omega)
   | some y=>
    rw[hf] at hp;simp only at hp ⊢;obtain ⟨hy,_,_⟩:=ko hf;have hym:=R5 hy;have h1:¬(x.b<0\/y.size<=x.b):=λh=>(by rw[RI h] at hp;cases hp);rw[RJ h1] at hp;have h2:¬6<x.s.length:=λh=>(by rw[RI h] at hp;cases hp);refine ⟨R.rep.turn (by omega) _ _ _ hn1 (λe J=>?_) R.rep.rok.keyM,R.up,by show z.next<=_;omega⟩;rcases nm J with J | rfl
    ·exact ⟨R.rep.rok.keyS e J,R.rep.rok.sesS e J⟩
    ·exact ⟨R.rep.rok.keyS y hym,F9 (R.rep.rok.sesS y hym) h1 h2⟩
 rw[RJ hkPut] at k;by_cases Y:x.kind=bG
 ·rw[RI Y] at k;obtain ⟨_,k⟩:=k;unfold jq at k;split at k
  ·obtain ⟨_,_,rfl,rfl⟩:=k;exact R.le (by omega)
  ·split at k
   ·obtain ⟨_,_,rfl,rfl⟩:=k;exact R.le (by omega)
   ·rename_i hr;obtain ⟨y,hk,_,rfl⟩:=k;obtain ⟨G',hC'⟩:=pN hC hr;obtain ⟨rfl,R1,_,_,_,e4,_⟩:=R.kept (by omega) hC' (zX hC.v hr) hk;rw[RI rfl];exact (zZ R1 (cr y.ses x.a) λe J=>(Tz.1 J).1).le (by omega)
 rw[RJ Y] at k;by_cases O:x.kind=bH
 ·rw[RI O] at k;obtain ⟨_,_,rfl,⟨_,_,rfl⟩ | ⟨y,_,_,rfl⟩⟩:=k
  ·exact R.le (by omega)
  ·exact (zZ R (cr z.ses x.a) λe J=>(Tz.1 J).1).le (by omega)
 rw[RJ O] at k;by_cases S:x.kind=bI
 ·rw[RI S] at k;obtain ⟨_,k⟩:=k;unfold lb at k;split at k
  ·obtain ⟨_,_,rfl,rfl⟩:=k;exact R.le (by omega)
  ·rename_i hr;obtain ⟨hk,_⟩:=k;obtain ⟨G',hC'⟩:=pO hC hr;exact (R.kept (by omega) hC' (zY hC.v hr) hk).2.1.le (by omega)
 rw[RJ S] at k;by_cases X:x.kind=bJ
 ·rw[RI X] at k;exact (R.drop (by omega) k.2.2).le (by omega)
 rw[RJ X] at k;by_cases Z:x.kind=bK
 ·rw[RI Z] at k;obtain ⟨_,⟨_,_,_,rfl,rfl⟩ | ⟨_,gone,hk,_⟩⟩:=k
  ·exact R.le (by omega)
  ·have hel:=nj z.L x.a x.b hlen;exact (Up.keep R (by omega) hk).le (by omega)
 rw[RJ Z] at k;by_cases hkMou:x.kind=bL
 ·rw[RI hkMou] at k;obtain ⟨_,rfl,⟨_,_,_,rfl⟩ | ⟨hb,_,_,a,r,rfl⟩⟩:=k
  ·exact R.le (by omega)
  ·refine ⟨R.rep.turn (by omega) _ _ _ (by omega) (λe J=>⟨by have:=R.rep.rok.keyS e J;omega,R.rep.rok.sesS e J⟩) (λe J=>?_),R.up,by show z.next+1<=_;omega⟩;rcases Sc.1 J with J | J
   ·have:=R.rep.rok.keyM e J;omega
   ·rw[Ub] at J;subst J;show 1<=z.next/\z.next<z.next+1;omega
 rw[RJ hkMou] at k;by_cases hkUnm:x.kind=bM
 ·rw[RI hkUnm] at k;obtain ⟨_,_,rfl,⟨_,_,rfl⟩ | ⟨y,_,_,rfl⟩⟩:=k
  ·exact R.le (by omega)
  ·exact (z6 R (fa z.mou x.a) λe J=>R.rep.rok.keyM e (Tz.1 J).1).le (by omega)
 rw[RJ hkUnm] at k;by_cases hkRea:x.kind=bN
 ·rw[RI hkRea] at k;obtain ⟨_,_,_,rfl,rfl⟩:=k;exact R.le (by omega)
 rw[RJ hkRea] at k;by_cases hkWri:x.kind=bO
 ·rw[RI hkWri] at k;obtain ⟨_,_,rfl,⟨_,_,rfl⟩ | ⟨_,_,rfl⟩⟩:=k
  ·exact R.le (by omega)
  ·unfold RpM.written;split
   ·exact R.le (by omega)
   ·rename_i m hf;obtain ⟨hy,_,_⟩:=kp hf;refine (z6 R _ λe J=>?_).le (by omega);rcases nm J with J | rfl
    ·exact R.rep.rok.keyM e J
    ·exact R.rep.rok.keyM m (R5 hy)
 rw[RJ hkWri] at k;by_cases hkSav:x.kind=bY
 ·rw[RI hkSav] at k;exact (R.save (by omega) k.2.2).le (by omega)
 rw[RJ hkSav] at k;obtain ⟨_,_,_,rfl,rfl⟩:=k;exact R.le (by omega)
def NE {l:List ActM}{m:Int}{x:ActM}(h:fZ l m=true)(hx:x∈l):x.s.length<=100:=by
 unfold fZ at h;simp only[Ru,SQ] at h;have:=h.2 x hx;unfold mV at this;simp only[Ru,decide_eq_true_eq,SQ] at this;have:=this.1.1.1;omega
-- counterfoil/counterfoillaw.Do is not in this seat
-- counterfoil/counterfoiltop.played is not in this seat
theorem Rok.put {z:RpM}{id at_:Int}{d:ab}{so:Option Addr}{co:Nat}(R:Rok z)(D:cg z id at_ d=0):Rok (z.putted id at_ d so co):=by
 unfold RpM.putted;unfold cg at D;cases V:aK z.ses id with
 | none=>exact R
 | some y=>
  rw[V] at D;simp only at D ⊢;obtain ⟨Y,_,_⟩:=ko V;have O:=R5 Y;have S:¬(at_<0\/y.size<=at_):=λh=>(by rw[RI h] at D;cases D);rw[RJ S] at D;have X:¬6<d.length:=λh=>(by rw[RI h] at D;cases D);refine ⟨R.con,R.next,λe J=>?_,R.keyM,λe J=>?_⟩
  ·rcases nm J with J | rfl
   ·exact R.keyS e J
   ·exact R.keyS y O
  ·rcases nm J with J | rfl
   ·exact R.sesS e J
   ·exact F9 (R.sesS y O) S X
def SameS (z z2:RpM):Prop:=z2.h=z.h/\z2.used=z.used/\z2.rows=z.rows/\z2.S=z.S/\z2.L=z.L/\z2.n=z.n/\z2.mou=z.mou/\z2.next=z.next
theorem SameS.refl (z:RpM):SameS z z:=⟨rfl,rfl,rfl,rfl,rfl,rfl,rfl,rfl⟩
theorem SameS.trans {a b c:RpM}(h:SameS a b)(k:SameS b c):SameS a c:=⟨k.1.trans h.1,k.2.1.trans h.2.1,k.2.2.1.trans h.2.2.1,k.2.2.2.1.trans h.2.2.2.1,k.2.2.2.2.1.trans h.2.2.2.2.1,k.2.2.2.2.2.1.trans h.2.2.2.2.2.1,k.2.2.2.2.2.2.1.trans h.2.2.2.2.2.2.1,k.2.2.2.2.2.2.2.trans h.2.2.2.2.2.2.2⟩
def um (z:RpM)(id at_:Int)(d:ab)(so:Option Addr)(co:Nat):SameS z (z.putted id at_ d so co):=by
 unfold RpM.putted;cases aK z.ses id with
 | none=>exact SameS.refl z
 | some e=>exact ⟨rfl,rfl,rfl,rfl,rfl,rfl,rfl,rfl⟩
theorem Rok.begin {z:RpM}{a:Nat}{base disk size:Int}(R:Rok z)(X:z.next<=999999)(J:yV z base disk size=0):Rok (z.begun a base disk size):=by
 have O:=R.next;have V:¬(disk<1\/999<disk\/size<1\/16<size):=λh=>(by unfold yV at J;rw[RI h] at J;cases J);refine ⟨R.con,by show 1<=z.next+1/\z.next+1<=1000000;omega,λe D=>?_,λe D=>by have:=R.keyM e D;show 1<=e.key/\e.key<z.next+1;omega,λe D=>?_⟩
 ·rcases Sc.1 D with D | D
  ·have:=R.keyS e D;show 1<=e.key/\e.key<z.next+1;omega
  ·rw[Ub] at D;subst D;show 1<=z.next/\z.next<z.next+1;omega
 ·rcases Sc.1 D with D | D
  ·exact R.sesS e D
  ·rw[Ub] at D;subst D;exact ⟨by show 1<=size/\size<=16;omega,by simp,λp S=>by cases S⟩
theorem Up.begun {t:Nat}{D:DiskM}{z:RpM}{a:Nat}{base disk size:Int}(R:Up t D z)(Z:t<=90000)(O:yV z base disk size=0):Up (t+1) D (z.begun a base disk size):=by
 have S:=R.rep.rok.next;have V:=R.next;have Y:¬(disk<1\/999<disk\/size<1\/16<size):=λh=>(by unfold yV at O;rw[RI h] at O;cases O);refine ⟨R.rep.turn (by omega) _ _ _ (by omega) (λe J=>?_) (λe J=>by have:=R.rep.rok.keyM e J;omega),R.up,by show z.next+1<=_;omega⟩;rcases Sc.1 J with J | J
 ·have:=R.rep.rok.keyS e J;exact ⟨by omega,R.rep.rok.sesS e J⟩
 ·rw[Ub] at J;subst J;exact ⟨by show 1<=z.next/\z.next<z.next+1;omega,⟨by show 1<=size/\size<=16;omega,by simp,λp X=>by cases X⟩⟩
theorem SameS.eq {z D:RpM}(h:SameS z D):D=z.sess D.ses:=by
 obtain ⟨J,O,R,S,V,X,Y,Z⟩:=h;cases D;cases z;simp only at J O R S V X Y Z;subst J O R S V X Y Z
 rfl
theorem Up.same {t:Nat}{D:DiskM}{z J:RpM}(R:Up t D z)(h:SameS z J)(K:Rok J):Up t D J:=by
 have e:=h.eq;have S:=K.keyS;have X:=K.sesS;have V:=R.rep.rok.next;rw[e];refine ⟨R.rep.turn (Ra _) J.ses z.mou z.next V (λy O=>⟨?_,X y O⟩) R.rep.rok.keyM,R.up,R.next⟩;have:=S y O;rw[h.2.2.2.2.2.2.2] at this;exact this
theorem Up.abort {t:Nat}{D:DiskM}{z:RpM}(R:Up t D z)(id:Int):Up t D (z.sess (cr z.ses id)):=zZ R (cr z.ses id) λe h=>(Tz.1 h).1
def Ga {t:Nat}{D J:DiskM}{z z2:RpM}{id n e:Int}(R:Up t D z)(ht:t<=90000)(k:jq D z id n e J z2):
  (n=0/\e≠0/\J=D/\z2=z/\(aK z.ses id=none/\e=5\/∃s,aK z.ses id=some s/\bW z.S z.L z.n s.base s.disk s.size s.puts= .error e))\/
  (e=0/\Up (t+1) J z2/\(∃s,aK z.ses id=some s/\bW z.S z.L z.n s.base s.disk s.size s.puts= .ok (z2.S,z2.L,z2.n,n))/\z2.ses=cr z.ses id/\z2.mou=z.mou/\z2.next=z.next):=by
 unfold jq at k;obtain ⟨G,V⟩:=R.rep.rok.con;cases X:aK z.ses id with
 | none=>
  rw[X] at k;simp only at k;obtain ⟨rfl,rfl,rfl,rfl⟩:=k;exact .inl ⟨rfl,by decide,rfl,rfl, .inl ⟨rfl,rfl⟩⟩
 | some s=>
  rw[X] at k;simp only at k;split at k
  ·rename_i h;obtain ⟨rfl,rfl,rfl,rfl⟩:=k;exact .inl ⟨rfl,by have:=tH h;omega,rfl,rfl, .inr ⟨s,rfl,h⟩⟩
  ·rename_i S' L' n' r h;obtain ⟨y,hk,Y,rfl⟩:=k;obtain ⟨G',O⟩:=pN V h;obtain ⟨rfl,R1,Z,e2,e3,e4,e5,e6⟩:=R.kept (by omega) O (zX V.v h) hk;rw[RI rfl] at Y ⊢;subst Y;refine .inr ⟨rfl,R1.abort id,⟨s,rfl,?_⟩,?_,e5,e6⟩
   ·show _=Except.ok (y.S,y.L,y.n,n);rw[Z,e2,e3];exact h
   ·show cr y.ses id=_;rw[e4]
def un {S:SI}{L:List Pt}{n id:Int}{O:SI}{L':List Pt}{J r:Int}(h:dG S L n id= .ok (O,L',J,r)):L'=L.filter (λx=>!decide (x.id=id))/\J=n:=by
 unfold dG at h;cases D:qS L id with
 | none=>rw[D] at h;cases h
 | some p=>
  rw[D] at h;simp only at h;injection h with h;injection h with X h;injection h with R h;injection h with V Y;exact ⟨R.symm,V.symm⟩
def find_is {L:List Pt}{id:Int}:(qS L id).isSome=true ↔ ∃p∈L,p.id=id:=by
 unfold qS;rw[List.find?_isSome];simp
def NF {z z2:RpM}(h:z2.ses=z.ses)(D:z2.mou=z.mou)(q:Int):bX z2 q=bX z q:=by unfold bX;rw[h,D]
def uo:∀{l:List Int} {t:Nat} {D Z:DiskM} {z z2:RpM} {gone:List Int} {e:Int},Up t D z->t+l.length<=90000->l.Nodup->(∀q∈l,(qS z.L q).isSome=true)->dZ l D z gone e Z z2->
  e=0/\gone.Sublist l/\z2.L=z.L.filter (λp=>!decide (p.id∈gone))/\z2.ses=z.ses/\z2.mou=z.mou/\z2.next=z.next/\z2.n=z.n/\∀q∈gone,bX z q=false
 | [],t,D,Z,z,z2,gone,e,R,ht,J,S,h=>by
  obtain ⟨rfl,rfl,rfl,rfl⟩:=h;refine ⟨rfl,List.Sublist.refl _,?_,rfl,rfl,rfl,rfl,λq O=>by cases O⟩
  symm
  exact Tt.2 λp _=>by simp
 | id::l,t,D,Z,z,z2,gone,e,R,ht,J,S,h=>by
  simp only[RX] at ht;rw[Tg] at J;unfold dZ at h;by_cases hu:bX z id=true
  ·rw[RI hu] at h;obtain ⟨a1,a2,a3⟩:=uo R (by omega) J.2 (λq O=>S q (Th _ O)) h;exact ⟨a1,a2.cons _,a3⟩
  ·rw[RJ hu] at h;have Y:bX z id=false:=(by simpa using hu);have hde:cF z id=0:=by
    unfold cF;have:=S id (by simp);rw[RJ (by rw[Vh];intro V;rw[V] at this;cases this),Y]
    rfl
   obtain ⟨e1,D1,z1,hd,h⟩:=h;rcases ra R.rep (by omega) hd with ⟨rfl,_,_,_,hdr,hs,hm,hx⟩ | ⟨hne,_,he,_⟩ | ⟨_,V,_⟩
   ·rcases h with ⟨hc,_⟩ | ⟨_,g',hk,hg⟩
    ·exact absurd rfl hc
    obtain ⟨hL,V⟩:=un hdr;obtain ⟨rfl,a2,a3,a4,a5,a6,a7,a8⟩:=uo (R.drop (by omega) hd) (by omega) J.2 (λq O=>by
     obtain ⟨p,hp,X⟩:=find_is.1 (S q (Th _ O));exact find_is.2 ⟨p,by rw[hL];exact Tz.2 ⟨hp,by simp;intro e;exact J.1 (by rw[<-e,X];exact O)⟩,X⟩) hk
    rw[RI rfl] at hg;subst hg;refine ⟨rfl,a2.cons_cons _,?_,a4.trans hs,a5.trans hm,a6.trans hx,a7.trans V,λq O=>?_⟩
    ·rw[a3,hL,Tv];refine List.filter_congr λp _=>?_;simp only[RR];by_cases h1:p.id=id <;> by_cases h2:p.id∈g' <;> simp[h1,h2]
    ·rcases RR.1 O with rfl | O
     ·exact Y
     ·rw[<-NF hs hm];exact a8 q O
   ·exact absurd (he.trans hde) hne
   ·exact absurd R.up V
def Gb (L:List Pt)(disk many:Int):(aZ L disk many).Sublist (L.map (·.id)):=by
 unfold aZ;exact (UC _ _).trans (Tl _ Tm)
def ids_nodup {S:SI}{L:List Pt}{n:Int}{G:Gh}(h:Vok S L n G):(L.map (·.id)).Nodup:=by
 rw[List.Nodup,RE];exact h.srt.imp λh=>by omega
def Gc {S:SI}{L:List Pt}{n:Int}{G:Gh}(h:Vok S L n G)(disk many:Int):(aZ L disk many).Nodup/\∀q∈aZ L disk many,(qS L q).isSome=true:=by
 refine ⟨(ids_nodup h).sublist (Gb L disk many),λq J=>?_⟩;obtain ⟨p,D,e⟩:=SR.1 ((Gb L disk many).subset J);exact find_is.2 ⟨p,D,e⟩
theorem Up.mounted {t:Nat}{D:DiskM}{z:RpM}{a r:Nat}{id:Int}(R:Up t D z)(S:t<=90000):Up (t+1) D (z.mounted a r id):=by
 have J:=R.rep.rok.next;have O:=R.next;refine ⟨R.rep.turn (by omega) _ _ _ (by omega) (λe h=>⟨by have:=R.rep.rok.keyS e h;omega,R.rep.rok.sesS e h⟩) (λe h=>?_),R.up,by show z.next+1<=_;omega⟩;rcases Sc.1 h with h | h
 ·have:=R.rep.rok.keyM e h;omega
 ·rw[Ub] at h;subst h;show 1<=z.next/\z.next<z.next+1;omega
def NG {l:List SeE}{m:SeE}(h:∀e∈l,e.key<m.key):aK (l++ [m]) m.key=some m:=by
 have D:aK l m.key=none:=by
  unfold aK;rw[TI];intro e J O;have:=h e J;simp at O;omega
 unfold aK at D ⊢;rw[List.find?_append,D];simp
def NH {z:RpM}{k at_:Int}{d:ab}{m:MoE}(h:bx z.mou k=some m):z.written k at_ d=z.moun (z.mou.set (fc z.mou k) ⟨m.key,m.a,m.r,m.point,fJ m.over at_ d⟩):=by
 unfold RpM.written;rw[h]
theorem Up.written {t:Nat}{D:DiskM}{z:RpM}(R:Up t D z)(k at_:Int)(d:ab):Up t D (z.written k at_ d):=by
 unfold RpM.written;split
 ·exact R
 ·rename_i m J;obtain ⟨O,_,_⟩:=kp J;refine z6 R _ λe h=>?_;rcases nm h with h | rfl
  ·exact R.rep.rok.keyM e h
  ·exact R.rep.rok.keyM m (R5 O)
def Gd:∀{l:List SeE} {k:Int} {m m':SeE},aK l k=some m->m'.key=k->aK (l.set (dt l k) m') k=some m'
 | [],k,m,m',h,J=>by cases h
 | a::l,k,m,m',h,J=>by
  unfold aK at h ⊢;unfold dt;by_cases D:a.key=k
  ·rw[Vg,S8 D];show List.find? _ (m'::l)=_;rw[Vc (by simp[J])]
  ·rw[Vg,S5 D];rw[Vd (by simpa using D)] at h;have O:=Gd (l:=l) (m':=m') h J;unfold aK at O;unfold dt at O;show List.find? _ (a::l.set _ m')=_;rw[Vd (by simpa using D)];exact O
def Ge {z:RpM}{k at_:Int}{d:ab}{so:Option Addr}{co:Nat}{e:SeE}(h:aK z.ses k=some e):z.putted k at_ d so co=z.sess (z.ses.set (dt z.ses k) ⟨e.key,e.a,so,co,e.base,e.disk,e.size,cv e.puts at_ d⟩):=by
 unfold RpM.putted;rw[h]
def NI {z:RpM}{k at_:Int}{d:ab}{so:Option Addr}{co:Nat}{e:SeE}(h:aK z.ses k=some e):aK (z.putted k at_ d so co).ses k=some ⟨e.key,e.a,so,co,e.base,e.disk,e.size,cv e.puts at_ d⟩:=by
 rw[Ge h];exact Gd h (ko h).2.1
theorem Up.put {t:Nat}{D:DiskM}{z:RpM}(R:Up t D z){k at_:Int}{d:ab}(h:cg z k at_ d=0)(so:Option Addr)(co:Nat):Up t D (z.putted k at_ d so co):=R.same (um z k at_ d so co) (R.rep.rok.put h)
structure SeS where
 key:Int
 base:Int
 disk:Int
 size:Int
 puts:List PutM
structure MoS where
 key:Int
 point:Int
 over:List (Int×ab)
structure LR where
 S:SI
 L:List Pt
 n:Int
 ses:List SeS
 mou:List MoS
 next:Int
def sS (e:SeE):SeS:=⟨e.key,e.base,e.disk,e.size,e.puts⟩
def mS (m:MoE):MoS:=⟨m.key,m.point,m.over⟩
def RpM.lr (z:RpM):LR:=⟨z.S,z.L,z.n,z.ses.map sS,z.mou.map mS,z.next⟩
def fS (l:List SeS)(id:Int):Option SeS:=l.find? λe=>decide (e.key=id)
def fM (l:List MoS)(id:Int):Option MoS:=l.find? λe=>decide (e.key=id)
def iS (l:List SeS)(id:Int):Nat:=l.findIdx λe=>decide (e.key=id)
def iM (l:List MoS)(id:Int):Nat:=l.findIdx λe=>decide (e.key=id)
def rS (l:List SeS)(id:Int):List SeS:=l.filter λe=>!decide (e.key=id)
def rM (l:List MoS)(id:Int):List MoS:=l.filter λe=>!decide (e.key=id)
def kv (l:List SeE)(id:Int):fS (l.map sS) id=(aK l id).map sS:=by
 unfold fS aK;rw[List.find?_map]
 rfl
def rh (l:List MoE)(id:Int):fM (l.map mS) id=(bx l id).map mS:=by
 unfold fM bx;rw[List.find?_map]
 rfl
def ri (l:List SeE)(id:Int):iS (l.map sS) id=dt l id:=by
 unfold iS dt;rw[List.findIdx_map]
 rfl
def rj (l:List MoE)(id:Int):iM (l.map mS) id=fc l id:=by
 unfold iM fc;rw[List.findIdx_map]
 rfl
def uq (l:List SeE)(id:Int):rS (l.map sS) id=(cr l id).map sS:=by
 unfold rS cr;rw[TU]
 rfl
def Gf (l:List MoE)(id:Int):rM (l.map mS) id=(fa l id).map mS:=by
 unfold rM fa;rw[TU]
 rfl
def ur (σ:LR)(id:Int):Bool:=σ.ses.any (λe=>decide (e.base=id)) || σ.mou.any λe=>decide (e.point=id)
def uu (z:RpM)(id:Int):ur z.lr id=bX z id:=by
 unfold ur bX RpM.lr;simp only[List.any_map]
 rfl
def LR.vau (σ:LR)(S:SI)(L:List Pt)(n:Int):LR:=⟨S,L,n,σ.ses,σ.mou,σ.next⟩
def LR.sesn (σ:LR)(l:List SeS):LR:=⟨σ.S,σ.L,σ.n,l,σ.mou,σ.next⟩
def LR.moun (σ:LR)(l:List MoS):LR:=⟨σ.S,σ.L,σ.n,σ.ses,l,σ.next⟩
def nn (σ:LR)(base disk size:Int):Int:=if disk<1\/999<disk\/size<1\/16<size then 1 else if ew σ.L base disk≠0 then ew σ.L base disk else if σ.ses.length=3 then 8 else 0
def LR.begun (σ:LR)(base disk size:Int):LR:=⟨σ.S,σ.L,σ.n,σ.ses++ [⟨σ.next,base,disk,size,[]⟩],σ.mou,σ.next+1⟩
def np (σ:LR)(id:Int):Int:=match qS σ.L id with
 | none=>5
 | some _=>if σ.mou.length=3 then 8 else 0
def LR.mounted (σ:LR)(id:Int):LR:=⟨σ.S,σ.L,σ.n,σ.ses,σ.mou++ [⟨σ.next,id,[]⟩],σ.next+1⟩
def ld (σ:LR)(id at_:Int):ab×Int:=match fM σ.mou id with
 | none=>([],5)
 | some m=>if (bS σ.S σ.L m.point at_).2≠0 then ([],(bS σ.S σ.L m.point at_).2) else match eQ m.over at_ with
  | some d=>(d,0)
  | none=>((bS σ.S σ.L m.point at_).1,0)
def nq (σ:LR)(id at_:Int)(d:ab):Int:=if (ld σ id at_).2≠0 then (ld σ id at_).2 else if 6<d.length then 2 else 0
def LR.written (σ:LR)(id at_:Int)(d:ab):LR:=match fM σ.mou id with
 | none=>σ
 | some m=>σ.moun (σ.mou.set (iM σ.mou id) ⟨m.key,m.point,fJ m.over at_ d⟩)
def ns (σ:LR)(id at_:Int)(d:ab):Int:=match fS σ.ses id with
 | none=>5
 | some e=>if at_<0\/e.size<=at_ then 1 else if 6<d.length then 2 else 0
def LR.putted (σ:LR)(id at_:Int)(d:ab):LR:=match fS σ.ses id with
 | none=>σ
 | some e=>σ.sesn (σ.ses.set (iS σ.ses id) ⟨e.key,e.base,e.disk,e.size,cv e.puts at_ d⟩)
def iY (σ:LR)(id:Int):LR×Int×Int:=match fS σ.ses id with
 | none=>(σ,0,5)
 | some s=>match bW σ.S σ.L σ.n s.base s.disk s.size s.puts with
  | .error f=>(σ,0,f)
  | .ok r=>(⟨r.1,r.2.1,r.2.2.1,rS σ.ses id,σ.mou,σ.next⟩,r.2.2.2,0)
def mm (σ:LR)(id:Int):LR×Int:=match fS σ.ses id with
 | none=>(σ,5)
 | some _=>(σ.sesn (rS σ.ses id),0)
def mn (σ:LR)(id:Int):LR×Int:=match fM σ.mou id with
 | none=>(σ,5)
 | some _=>(σ.moun (rM σ.mou id),0)
def jr (σ:LR)(id:Int):LR×Int×Int:=match dq σ.S σ.L σ.n id with
 | .error f=>(σ,0,f)
 | .ok r=>(σ.vau r.1 r.2.1 r.2.2.1,r.2.2.2,0)
def rl (σ:LR)(id:Int):Int:=if (qS σ.L id).isNone then 5 else if ur σ id=true then 6 else 0
def fz (σ:LR)(id:Int):LR×Int:=if rl σ id≠0 then (σ,rl σ id) else match dG σ.S σ.L σ.n id with
 | .error f=>(σ,f)
 | .ok r=>(σ.vau r.1 r.2.1 r.2.2.1,0)
def keepL:List Int->LR->LR×List Int
 | [],σ=>(σ,[])
 | id::l,σ=>if ur σ id=true then keepL l σ else ((keepL l (fz σ id).1).1,id::(keepL l (fz σ id).1).2)
def dh (σ:LR)(x:ActM):LR×Int×ab×Int:=
 if x.kind=bD then (if nn σ x.a x.b x.c≠0 then (σ,0,[],nn σ x.a x.b x.c) else (σ.begun x.a x.b x.c,σ.next,[],0))
 else if x.kind=bE then (if ns σ x.a x.b x.s≠0 then (σ,0,[],ns σ x.a x.b x.s) else (σ.putted x.a x.b x.s,0,[],0))
 else if x.kind=bG then ((iY σ x.a).1,(iY σ x.a).2.1,[],(iY σ x.a).2.2)
 else if x.kind=bH then ((mm σ x.a).1,0,[],(mm σ x.a).2)
 else if x.kind=bI then ((jr σ x.a).1,(jr σ x.a).2.1,[],(jr σ x.a).2.2)
 else if x.kind=bJ then ((fz σ x.a).1,0,[],(fz σ x.a).2)
 else if x.kind=bK then (if x.b<0 then (σ,0,[],1) else ((keepL (aZ σ.L x.a x.b) σ).1,cS (keepL (aZ σ.L x.a x.b) σ).2,[],0))
 else if x.kind=bL then (if np σ x.a≠0 then (σ,0,[],np σ x.a) else (σ.mounted x.a,σ.next,[],0))
 else if x.kind=bM then ((mn σ x.a).1,0,[],(mn σ x.a).2)
 else if x.kind=bN then (σ,0,(ld σ x.a x.b).1,(ld σ x.a x.b).2)
 else if x.kind=bO then (if nq σ x.a x.b x.s≠0 then (σ,0,[],nq σ x.a x.b x.s) else (σ.written x.a x.b x.s,0,[],0))
 else (σ,0,[],0)
def z7 (z:RpM)(base disk size:Int):nn z.lr base disk size=yV z base disk size:=by
 unfold nn yV RpM.lr;simp only[TD]
def Gg (z:RpM)(a:Nat)(base disk size:Int):(z.begun a base disk size).lr=z.lr.begun base disk size:=by
 unfold RpM.begun LR.begun RpM.lr;simp[sS]
def z8 (z:RpM)(id:Int):np z.lr id=dg z id:=by
 unfold np dg RpM.lr;simp only[TD];cases qS z.L id <;> rfl
def Gi (z:RpM)(a r:Nat)(id:Int):(z.mounted a r id).lr=z.lr.mounted id:=by
 unfold RpM.mounted LR.mounted RpM.lr;simp[mS]
def Aa (z:RpM)(id at_:Int):ld z.lr id at_=wF z id at_:=by
 unfold ld wF;rw[show z.lr.mou=z.mou.map mS from rfl,rh];cases bx z.mou id <;> rfl
def Ab (z:RpM)(id at_:Int)(d:ab):nq z.lr id at_ d=wH z id at_ d:=by
 unfold nq wH;rw[Aa]
def Gj (z:RpM)(id at_:Int)(d:ab):(z.written id at_ d).lr=z.lr.written id at_ d:=by
 unfold RpM.written LR.written;rw[show z.lr.mou=z.mou.map mS from rfl,rh,rj];cases bx z.mou id with
 | none=>rfl
 | some m=>
  show RpM.lr _=LR.moun _ _;unfold RpM.lr RpM.moun LR.moun;simp[T1,mS]
def Ac (z:RpM)(id at_:Int)(d:ab):ns z.lr id at_ d=cg z id at_ d:=by
 unfold ns cg;rw[show z.lr.ses=z.ses.map sS from rfl,kv];cases aK z.ses id <;> rfl
def Gk (z:RpM)(id at_:Int)(d:ab)(so:Option Addr)(co:Nat):(z.putted id at_ d so co).lr=z.lr.putted id at_ d:=by
 unfold RpM.putted LR.putted;rw[show z.lr.ses=z.ses.map sS from rfl,kv,ri];cases aK z.ses id with
 | none=>rfl
 | some m=>
  show RpM.lr _=LR.sesn _ _;unfold RpM.lr RpM.sess LR.sesn;simp[T1,sS]
def Gl (z:RpM)(l:List SeE):(z.sess l).lr=z.lr.sesn (l.map sS):=rfl
def Gm (z:RpM)(l:List MoE):(z.moun l).lr=z.lr.moun (l.map mS):=rfl
def rn (z:RpM)(id:Int):rl z.lr id=cF z id:=by
 unfold rl cF;rw[uu]
 rfl
def Ad {z:RpM}{σ:LR}(h:z.S=σ.S)(D:z.L=σ.L)(J:z.n=σ.n)(O:z.ses.map sS=σ.ses)(R:z.mou.map mS=σ.mou)(V:z.next=σ.next):z.lr=σ:=by
 unfold RpM.lr;rw[h,D,J,O,R,V]
def NJ {t:Nat}{D O:DiskM}{z z2:RpM}{id n e:Int}(R:Up t D z)(Y:t<=90000)(k:jq D z id n e O z2):iY z.lr id=(z2.lr,n,e):=by
 unfold iY;rw[show z.lr.ses=z.ses.map sS from rfl,kv];rcases Ga R Y k with ⟨rfl,_,rfl,rfl,⟨h,rfl⟩ | ⟨s,h,J⟩⟩ | ⟨rfl,_,⟨s,h,J⟩,S,V,X⟩
 ·rw[h];rfl
 ·rw[h];dsimp only[Option.map_some,sS,RpM.lr];rw[J]
 ·rw[h];dsimp only[Option.map_some,sS,RpM.lr];rw[J];refine Prod.ext ?_ rfl
  symm
  refine Ad rR rR rR ?_ ?_ X
  ·show _=rS (z.ses.map sS) id;rw[uq,S]
  ·show _=z.mou.map mS;rw[V]
def Gn {t:Nat}{D O:DiskM}{z z2:RpM}{id e:Int}(R:Up t D z)(ht:t<=90000)(k:im D z id e O z2):fz z.lr id=(z2.lr,e):=by
 unfold fz;rw[rn];rcases ra R.rep (by omega) k with ⟨rfl,_,_,V,J,X,Y,Z⟩ | ⟨V,_,J,rfl,rfl⟩ | ⟨_,h,_⟩
 ·rw[RJ (by omega)];show (match dG z.S z.L z.n id with | .error f=>_ | .ok r=>_)=_;rw[J];refine Prod.ext ?_ rfl
  symm
  refine Ad rR rR rR ?_ ?_ Z
  ·show _=z.ses.map sS;rw[X]
  ·show _=z.mou.map mS;rw[Y]
 ·rw[RI (by omega),J]
 ·exact absurd R.up h
def NK {t:Nat}{D O:DiskM}{z z2:RpM}{id n e:Int}(R:Up t D z)(ht:t<=90000)(k:lb D z id n e O z2):jr z.lr id=(z2.lr,n,e)/\Up (t+1) O z2:=by
 obtain ⟨G,V⟩:=R.rep.rok.con;unfold lb at k;unfold jr;show (match dq z.S z.L z.n id with | .error f=>_ | .ok r=>_)=_/\_;cases h:dq z.S z.L z.n id with
 | error f=>
  rw[h] at k;obtain ⟨rfl,rfl,rfl,rfl⟩:=k;exact ⟨rfl,R.le (by omega)⟩
 | ok r=>
  obtain ⟨S',L',n',r⟩:=r;rw[h] at k;simp only at k ⊢;obtain ⟨hk,X⟩:=k;obtain ⟨G',J⟩:=pO V h;obtain ⟨rfl,U,Y,Z,e3,e4,e5,e6⟩:=R.kept (by omega) J (zY V.v h) hk;rw[RI rfl] at X;subst X;refine ⟨Prod.ext ?_ rfl,U⟩
  symm
  refine Ad Y Z e3 ?_ ?_ e6
  ·show _=z.ses.map sS;rw[e4]
  ·show _=z.mou.map mS;rw[e5]
def Ae:∀{l:List Int} {t:Nat} {D Z:DiskM} {z z2:RpM} {gone:List Int} {e:Int},Up t D z->t+l.length<=90000->l.Nodup->(∀q∈l,(qS z.L q).isSome=true)->dZ l D z gone e Z z2->keepL l z.lr=(z2.lr,gone)
 | [],t,D,Z,z,z2,gone,e,R,ht,J,O,h=>by
  obtain ⟨rfl,rfl,rfl,rfl⟩:=h
  rfl
 | id::l,t,D,Z,z,z2,gone,e,R,ht,J,O,h=>by
  simp only[RX] at ht;rw[Tg] at J;unfold dZ at h;unfold keepL;rw[uu];by_cases hu:bX z id=true
  ·rw[RI hu] at h ⊢;exact Ae R (by omega) J.2 (λq Y=>O q (Th _ Y)) h
  ·rw[RJ hu] at h ⊢;have hu0:bX z id=false:=(by simpa using hu);have hde:cF z id=0:=by
    unfold cF;have:=O id (by simp);rw[RJ (by rw[Vh];intro X;rw[X] at this;cases this),hu0]
    rfl
   obtain ⟨e1,D1,z1,hd,h⟩:=h;have hdo:=Gn R (by omega) hd;rw[hdo];rcases ra R.rep (by omega) hd with ⟨rfl,_,_,_,hdr,hs,hm,hx⟩ | ⟨hne,_,he,_⟩ | ⟨_,X,_⟩
   ·rcases h with ⟨hc,_⟩ | ⟨_,g',hk,hg⟩
    ·exact absurd rfl hc
    obtain ⟨hL,X⟩:=un hdr;have S:∀q∈l,(qS z1.L q).isSome=true:=λq Y=>by
     obtain ⟨p,hp,V⟩:=find_is.1 (O q (Th _ Y));exact find_is.2 ⟨p,by rw[hL];exact Tz.2 ⟨hp,by simp;intro e;exact J.1 (by rw[<-e,V];exact Y)⟩,V⟩
    have U1:=R.drop (by omega) hd;obtain ⟨rfl,_⟩:=uo U1 (by omega) J.2 S hk;rw[RI rfl] at hg;subst hg;have ih:=Ae U1 (by omega) J.2 S hk;rw[ih]
   ·exact absurd (he.trans hde) hne
   ·exact absurd R.up X
def NL {t:Nat}{D D2:DiskM}{z z2:RpM}{x:ActM}{n e:Int}{s:ab}(R:Up t D z)(ht:t<=80000)(k:cY D z x n s e D2 z2):dh z.lr x=(z2.lr,n,s,e):=by
 unfold cY at k;unfold dh;by_cases h:x.kind=bD
 ·rw[RI h] at k ⊢;rw[z7];obtain ⟨rfl,rfl,⟨J,rfl,rfl,rfl⟩ | ⟨J,rfl,rfl,a,rfl⟩⟩:=k
  ·rw[RI J]
  ·rw[RJ (by omega),Gg];rfl
 rw[RJ h] at k ⊢;by_cases h:x.kind=bE
 ·rw[RI h] at k ⊢;rw[Ac];obtain ⟨rfl,rfl,rfl,⟨J,rfl,rfl⟩ | ⟨J,rfl,so,co,rfl⟩⟩:=k
  ·rw[RI J]
  ·rw[RJ (by omega),Gk]
 rw[RJ h] at k ⊢;by_cases h:x.kind=bG
 ·rw[RI h] at k ⊢;obtain ⟨rfl,k⟩:=k;rw[NJ R (by omega) k]
 rw[RJ h] at k ⊢;by_cases h:x.kind=bH
 ·rw[RI h] at k ⊢;unfold mm;rw[show z.lr.ses=z.ses.map sS from rfl,kv];obtain ⟨rfl,rfl,rfl,⟨J,rfl,rfl⟩ | ⟨y,J,rfl,rfl⟩⟩:=k
  ·rw[J];rfl
  ·rw[J,Gl,uq];rfl
 rw[RJ h] at k ⊢;by_cases h:x.kind=bI
 ·rw[RI h] at k ⊢;obtain ⟨rfl,k⟩:=k;rw[(NK R (by omega) k).1]
 rw[RJ h] at k ⊢;by_cases h:x.kind=bJ
 ·rw[RI h] at k ⊢;obtain ⟨rfl,rfl,k⟩:=k;rw[Gn R (by omega) k]
 rw[RJ h] at k ⊢;by_cases h:x.kind=bK
 ·rw[RI h] at k ⊢;obtain ⟨rfl,⟨J,rfl,rfl,rfl,rfl⟩ | ⟨J,gone,Y,rfl⟩⟩:=k
  ·rw[RI J]
  ·rw[RJ (by omega)];obtain ⟨G,X⟩:=R.rep.rok.con;have hel:=nj z.L x.a x.b X.v.len;obtain ⟨S,V⟩:=Gc X.v x.a x.b;obtain ⟨rfl,_⟩:=uo R (by omega) S V Y;show ((keepL (aZ z.L x.a x.b) z.lr).1,cS (keepL (aZ z.L x.a x.b) z.lr).2,_,_)=_;rw[Ae R (by omega) S V Y]
 rw[RJ h] at k ⊢;by_cases h:x.kind=bL
 ·rw[RI h] at k ⊢;rw[z8];obtain ⟨rfl,rfl,⟨J,rfl,rfl,rfl⟩ | ⟨J,rfl,rfl,a,r,rfl⟩⟩:=k
  ·rw[RI J]
  ·rw[RJ (by omega),Gi];rfl
 rw[RJ h] at k ⊢;by_cases h:x.kind=bM
 ·rw[RI h] at k ⊢;unfold mn;rw[show z.lr.mou=z.mou.map mS from rfl,rh];obtain ⟨rfl,rfl,rfl,⟨J,rfl,rfl⟩ | ⟨y,J,rfl,rfl⟩⟩:=k
  ·rw[J];rfl
  ·rw[J,Gm,Gf];rfl
 rw[RJ h] at k ⊢;by_cases h:x.kind=bN
 ·rw[RI h] at k ⊢;rw[Aa];obtain ⟨rfl,rfl,rfl,rfl,rfl⟩:=k
  rfl
 rw[RJ h] at k ⊢;by_cases h:x.kind=bO
 ·rw[RI h] at k ⊢;rw[Ab];obtain ⟨rfl,rfl,rfl,⟨J,rfl,rfl⟩ | ⟨J,rfl,rfl⟩⟩:=k
  ·rw[RI J]
  ·rw[RJ (by omega),Gj]
 rw[RJ h] at k ⊢;by_cases h:x.kind=bY
 ·rw[RI h] at k;obtain ⟨rfl,rfl,Z,k⟩:=k;obtain ⟨r0,ds,C,O⟩:=R.rep.cal;have hep:=R.rep.ep;have hfi:=R.rep.first;obtain ⟨D1,q1,q2,q3⟩:=xj R.up C.2.1 (by omega) (by omega);rw[<-O,q1] at Z;injection Z with J S;rcases k with ⟨hx,_⟩ | ⟨rfl,d',u',_,hsc,rfl⟩
  ·exact absurd J.symm hx
  ·rfl
 rw[RJ h] at k;obtain ⟨rfl,rfl,rfl,rfl,rfl⟩:=k
 rfl
end Go.Proofs.YthdjckbjjfiopabGreatDoor