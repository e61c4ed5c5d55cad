/- Several texts in one: walks and rules used by them. No condition. -/
import Derived.Test.YthdjckbjjfiopabGreatDoorCartJ
import Derived.Test.YthdjckbjjfiopabGreatDoorCartI
import Derived.Test.YthdjckbjjfiopabGreatDoorCartG
import Derived.Test.YthdjckbjjfiopabGreatDoorCartE
import Derived.Test.YthdjckbjjfiopabGreatDoorCartB
set_option linter.unusedSimpArgs false
set_option linter.unusedVariables false
set_option synthInstance.maxSize 9999
set_option synthInstance.maxHeartbeats 0
set_option linter.defProp false
set_option maxHeartbeats 800000
namespace Go.Proofs.YthdjckbjjfiopabGreatDoor
open _root_.Go.Proofs.Tryz
open Go.Sl Go.Proofs
def Ue {a b:List ChangeM}{i k:Nat}{x:ChangeM}(h:a[i]? =some x)(J:b.drop k=[]):mg (a.drop i) (b.drop k)=jx x::mg (a.drop (i+1)) (b.drop k):=by
 rw[J,tY,tY,bN h];rfl
def zO (a b:List ChangeM)(s s':Option Addr)(cap cap':Nat)(ha:a.length<=1000000)(hb:b.length<=1000000)(F:List ag):Ct Tryz.prog 206 [sl s a.length cap,sl s' b.length cap'] (roL 3 s (bx a)::roL 3 s' (bx b)::F) (ww 174 3 (mg a b).length (bx (mg a b)) (roL 3 s (bx a)::roL 3 s' (bx b)::F)):=by
 refine Ct.of func206 rR 99 ntmps206 (by simp) λw0=>?_;refine gS (gQ (gS (gQ (gS (gQ (ac ?_))))));refine bH 174 3 (bx []) ?_;refine am (gQ (ac (al ?_)));refine aM (α:=Nat×Nat×List ChangeM×Option Addr×Nat) (λz=>z.1<=a.length/\z.2.1<=b.length/\z.2.2.1.length<=z.1+z.2.1/\mg a b=z.2.2.1++mg (a.drop z.1) (b.drop z.2.1)) (λz=>U [(0,sl s a.length cap),(1,sl s' b.length cap'),(5,sl z.2.2.2.1 z.2.2.1.length z.2.2.2.2),(6,I z.1),(7,I z.2.1)]) (λz=>bi 174 3 z.2.2.2.1 z.2.2.2.2 (bx z.2.2.1)::roL 3 s (bx a)::roL 3 s' (bx b)::F) (λz=>a.length+b.length - z.1 - z.2.1) (0,0,[],none,0) ⟨by simp,by simp,by simp,rfl⟩ [0,1,5,6,7] rfl ?_;rintro ⟨i,k,o,s5,c5⟩ ⟨hi,hk,hol,O⟩;simp only[] at hi hk hol O ⊢;refine ac (gS (gM (gM (gV (aX Ve) (gV aI (gM (gK aq (gK aq (gK (aX Ve) (gK aI (gV cu (ab ?_))))))))))));apply ah<;>intro h17
 ·have h17':i<a.length\/k<b.length:=(by simp at h17;omega);refine ai (al (ac (ac (gD (Lf:=[roL 3 s (bx a),roL 3 s' (bx b)]) [(0,false),(1,false),(2,false),(3,false),(4,false),(5,false),(6,false),(7,false),(8,false),(9,false),(10,false),(11,false),(12,false),(13,false),(14,false),(15,false),(16,false),(17,false),(18,false),(19,false),(20,false),(21,false),(22,false)] (dM rR (dM rR (dV rR (aX Ve) (dV rR bT (dM rR ?_)))))))));by_cases S:(k:Int)=(b.length:Int)
  ·obtain ⟨x,hx⟩:∃x,a[i]? =some x:=⟨_,Zu (by omega)⟩;refine aL rR (hw:=by rw[Zv S];rfl) (aL rR (hw:=by rw[Zv S];rfl) (aL rR (hw:=by rw[Zv S];rfl) (aL rR (hw:=by rw[Zv S];rfl) (aL rR (hw:=by rw[Zv S];rfl) (aL rR (aL rR (aL rR (aL rR (aL rR (aL rR (aL rR (aL rR (aL rR (aL rR (aL rR (aL rR (hw:=by rw[Zv S];rfl) (dV rR (fl (hq:=by exact Zv S)) ?_)))))))))))))))));refine aP ?_;apply ah<;>intro X
   ·refine gS (gM (gM (gM (gV (ay i Ve Vd (by omega) (by rw[aQ];omega)) (gV (aE (j:=i) 0 Vp rfl Vh (by rw[aQ];omega)) (gV (bC (v:=aC x.key) Vj (cY hx)) (gV (aR (Nq x.key)) (gI (av [aV (jx x)] Ve Vd Vo (by intro r hr;simp at hr;subst hr;rfl)) ?_))))))));rintro _ _ ⟨b48,rfl,rfl⟩;refine gI (bo Ve Vd Vo Tryz.typeInfo174 (hn:=by exact aQ _) (by intro r hr;simp at hr;subst hr;rfl) (by intro r hr;simp at hr;subst hr;rfl) ⟨by omega,by decide,by decide⟩) ?_;rintro _ _ ⟨Z,Y,rfl,rfl⟩;rw[fb];refine gQ (gS (gM (gP (gQ ?_))));refine aF ?_;exact ap (i+1,k,o++ [jx x],Z,Y) ⟨by simp only[];omega,by simp only[];omega,by simp;omega,by simp only[];rw[O,Ue hx (by rw[Z9 (by omega)])];simp⟩ (by simp only[];omega) [0,1,5,6,7] rfl (he:=by simp[U])
   ·cases X
  ·obtain ⟨y,hy⟩:∃y,b[k]? =some y:=⟨_,Zu (by omega)⟩;refine aN rR (hw:=by exact Zt S) aq (aN rR (hw:=by exact Zt S) aq (aN rR (hw:=by exact Zt S) (aX Ve) (aN rR (hw:=by exact Zt S) aI (aN rR (hw:=by exact Zt S) aq ?_))));by_cases J:(i:Int)<(a.length:Int)
   ·obtain ⟨x,hx⟩:∃x,a[i]? =some x:=⟨_,Zu (by omega)⟩;refine aN rR (hw:=by exact Zv J) aq (aN rR (hw:=by exact Zv J) aq (aN rR (hw:=by exact Zv J) (ay i Ve Vd (by omega) (by rw[aQ];omega)) (aN rR (hw:=by exact Zv J) (aE (j:=i) 0 Vp rR Vh (by rw[aQ];omega)) (aN rR (hw:=by exact Zv J) (bC (v:=aC x.key) Vj (cY hx)) (aN rR (hw:=by exact Zv J) aq (aN rR (hw:=by exact Zv J) aq (aN rR (hw:=by exact Zv J) (ay k Ve Vd (by omega) (by rw[aQ];omega)) (aN rR (hw:=by exact Zv J) (aE (j:=k) 0 Vp rR Vh (by rw[aQ];omega)) (aN rR (hw:=by exact Zv J) (bC (v:=aC y.key) Vj (cY hy)) (aN rR (hw:=by exact Zv J) (KO rR rR) (aN rR (hw:=by exact Zt S) (fl (hq:=by exact Zv J)) (dV rR (eT (hq:=by exact Zt S)) ?_))))))))))));refine aP ?_;apply ah<;>intro X
    ·have R:kl x.key y.key=true:=X;refine gS (gM (gM (gM (gV (ay i Ve Vd (by omega) (by rw[aQ];omega)) (gV (aE (j:=i) 0 Vp rfl Vh (by rw[aQ];omega)) (gV (bC (v:=aC x.key) Vj (cY hx)) (gV (aR (Nq x.key)) (gI (av [aV (jx x)] Ve Vd Vo (by intro r hr;simp at hr;subst hr;rfl)) ?_))))))));rintro _ _ ⟨b48,rfl,rfl⟩;refine gI (bo Ve Vd Vo Tryz.typeInfo174 (hn:=by exact aQ _) (by intro r hr;simp at hr;subst hr;rfl) (by intro r hr;simp at hr;subst hr;rfl) ⟨by omega,by decide,by decide⟩) ?_;rintro _ _ ⟨Z,Y,rfl,rfl⟩;rw[fb];refine gQ (gS (gM (gP (gQ ?_))));refine aF ?_
     first
     | exact ap (i+1,k,o++ [jx x],Z,Y) ⟨by simp only[];omega,by simp only[];omega,by simp;omega,by simp only[];rw[O,bN hx,bN hy,zq R];simp⟩ (by simp only[];omega) [0,1,5,6,7] rfl (he:=by simp[U])
     | exact ap (i,k+1,o++ [y],s75,c75) ⟨by simp only[];omega,by simp only[];omega,by simp;omega,by simp only[];rw[O,bN hx,bN hy,zt R V];simp⟩ (by simp only[];omega) [0,1,5,6,7] rfl (he:=by simp[U])
     | exact ap (i+1,k+1,o++ [y],s93,c93) ⟨by simp only[];omega,by simp only[];omega,by simp;omega,by simp only[];rw[O,bN hx,bN hy,qo R V,YC hne];simp⟩ (by simp only[];omega) [0,1,5,6,7] rfl (he:=by simp[U])
     | exact ap (i+1,k+1,o,s5,c5) ⟨by simp only[];omega,by simp only[];omega,by simp;omega,by simp only[];rw[O,bN hx,bN hy,qo R V,YB hne];simp⟩ (by simp only[];omega) [0,1,5,6,7] rfl (he:=by simp[U])
    ·have R:¬kl x.key y.key=true:=λh=>(by rw[show Op.bytesLess x.key y.key=true from h] at X;cases X);refine ai (ac (ac ?_));refine cO (Lf:=[roL 3 s (bx a),roL 3 s' (bx b)]) jC ?_;refine dM rfl (dM rfl (dV rfl (aX Ve) (dV rfl bT (dM rfl (aN rfl (hw:=by exact Zt (show ¬(i:Int)=(a.length:Int) by omega)) aq (aN rfl (hw:=by exact Zt (show ¬(i:Int)=(a.length:Int) by omega)) aq (aN rfl (hw:=by exact Zt (show ¬(i:Int)=(a.length:Int) by omega)) (ay k Ve Vd (by omega) (by rw[aQ];omega)) (aN rfl (hw:=by exact Zt (show ¬(i:Int)=(a.length:Int) by omega)) (aE (j:=k) 0 Vp rfl Vh (by rw[aQ];omega)) (aN rfl (hw:=by exact Zt (show ¬(i:Int)=(a.length:Int) by omega)) (bC (v:=aC y.key) Vj (cY hy)) (aN rfl (hw:=by exact Zt (show ¬(i:Int)=(a.length:Int) by omega)) aq (aN rfl (hw:=by exact Zt (show ¬(i:Int)=(a.length:Int) by omega)) aq (aN rfl (hw:=by exact Zt (show ¬(i:Int)=(a.length:Int) by omega)) (ay i Ve Vd (by omega) (by rw[aQ];omega)) (aN rfl (hw:=by exact Zt (show ¬(i:Int)=(a.length:Int) by omega)) (aE (j:=i) 0 Vp rfl Vh (by rw[aQ];omega)) (aN rfl (hw:=by exact Zt (show ¬(i:Int)=(a.length:Int) by omega)) (bC (v:=aC x.key) Vj (cY hx)) (aN rfl (hw:=by exact Zt (show ¬(i:Int)=(a.length:Int) by omega)) (KO rfl rfl) (dV rfl (eT (hq:=by exact Zt (show ¬(i:Int)=(a.length:Int) by omega))) ?_))))))))))))))));refine aP ?_;apply ah<;>intro h68
     ·have V:kl y.key x.key=true:=h68;refine gS (gM (gM (gM (gV (ay k Ve Vd (by omega) (by rw[aQ];omega)) (gV (bJ (row:=aV y) Vz Vd (cY hy)) (gI (av [aV (y)] Ve Vd Vo (by intro r hr;simp at hr;subst hr;rfl)) ?_))))));rintro _ _ ⟨b74,rfl,rfl⟩;refine gI (bo Ve Vd Vo Tryz.typeInfo174 (hn:=by exact aQ _) (by intro r hr;simp at hr;subst hr;rfl) (by intro r hr;simp at hr;subst hr;rfl) ⟨by omega,by decide,by decide⟩) ?_;rintro _ _ ⟨s75,c75,rfl,rfl⟩;rw[fb];refine gQ (gS (gM (gP (gQ ?_))));refine aF ?_
      first
      | exact ap (i+1,k,o++ [jx x],Z,Y) ⟨by simp only[];omega,by simp only[];omega,by simp;omega,by simp only[];rw[O,bN hx,bN hy,zq R];simp⟩ (by simp only[];omega) [0,1,5,6,7] rfl (he:=by simp[U])
      | exact ap (i,k+1,o++ [y],s75,c75) ⟨by simp only[];omega,by simp only[];omega,by simp;omega,by simp only[];rw[O,bN hx,bN hy,zt R V];simp⟩ (by simp only[];omega) [0,1,5,6,7] rfl (he:=by simp[U])
      | exact ap (i+1,k+1,o++ [y],s93,c93) ⟨by simp only[];omega,by simp only[];omega,by simp;omega,by simp only[];rw[O,bN hx,bN hy,qo R V,YC hne];simp⟩ (by simp only[];omega) [0,1,5,6,7] rfl (he:=by simp[U])
      | exact ap (i+1,k+1,o,s5,c5) ⟨by simp only[];omega,by simp only[];omega,by simp;omega,by simp only[];rw[O,bN hx,bN hy,qo R V,YB hne];simp⟩ (by simp only[];omega) [0,1,5,6,7] rfl (he:=by simp[U])
     ·have V:¬kl y.key x.key=true:=λh=>(by rw[show Op.bytesLess y.key x.key=true from h] at h68;cases h68);refine ai (ac (ac ?_));refine cO (Lf:=[roL 3 s (bx a),roL 3 s' (bx b)]) jB ?_;refine dM rR (dM rR (dV rR (ay i Ve Vd (by omega) (by rw[aQ];omega)) (dV rR (bJ (row:=aV x) Vz Vd (cY hx)) (dM rR (dM rR (dV rR (ay k Ve Vd (by omega) (by rw[aQ];omega)) (dV rR (bJ (row:=aV y) Vz Vd (cY hy)) (dV rR (xI eqGuardType174 (AQ x y)) ?_))))))));refine aP ?_;apply ah<;>intro h86
      ·have hne:¬x=y:=(by simpa using h86);refine am (gM (gM (gM (gV (ay k Ve Vd (by omega) (by rw[aQ];omega)) (gV (bJ (row:=aV y) Vz Vd (cY hy)) (gI (av [aV (y)] Ve Vd Vo (by intro r hr;simp at hr;subst hr;rfl)) ?_))))));rintro _ _ ⟨b92,rfl,rfl⟩;refine gI (bo Ve Vd Vo Tryz.typeInfo174 (hn:=by exact aQ _) (by intro r hr;simp at hr;subst hr;rfl) (by intro r hr;simp at hr;subst hr;rfl) ⟨by omega,by decide,by decide⟩) ?_;rintro _ _ ⟨s93,c93,rfl,rfl⟩;rw[fb];refine gQ (gS (gM (gP (gQ (am (gM (gP (gQ (aG ?_)))))))))
       first
       | exact ap (i+1,k,o++ [jx x],Z,Y) ⟨by simp only[];omega,by simp only[];omega,by simp;omega,by simp only[];rw[O,bN hx,bN hy,zq R];simp⟩ (by simp only[];omega) [0,1,5,6,7] rfl (he:=by simp[U])
       | exact ap (i,k+1,o++ [y],s75,c75) ⟨by simp only[];omega,by simp only[];omega,by simp;omega,by simp only[];rw[O,bN hx,bN hy,zt R V];simp⟩ (by simp only[];omega) [0,1,5,6,7] rfl (he:=by simp[U])
       | exact ap (i+1,k+1,o++ [y],s93,c93) ⟨by simp only[];omega,by simp only[];omega,by simp;omega,by simp only[];rw[O,bN hx,bN hy,qo R V,YC hne];simp⟩ (by simp only[];omega) [0,1,5,6,7] rfl (he:=by simp[U])
       | exact ap (i+1,k+1,o,s5,c5) ⟨by simp only[];omega,by simp only[];omega,by simp;omega,by simp only[];rw[O,bN hx,bN hy,qo R V,YB hne];simp⟩ (by simp only[];omega) [0,1,5,6,7] rfl (he:=by simp[U])
      ·have hne:x=y:=(by simpa using h86);refine ai (gS (gM (gP (gQ (am (gM (gP (gQ (aG ?_)))))))))
       first
       | exact ap (i+1,k,o++ [jx x],Z,Y) ⟨by simp only[];omega,by simp only[];omega,by simp;omega,by simp only[];rw[O,bN hx,bN hy,zq R];simp⟩ (by simp only[];omega) [0,1,5,6,7] rfl (he:=by simp[U])
       | exact ap (i,k+1,o++ [y],s75,c75) ⟨by simp only[];omega,by simp only[];omega,by simp;omega,by simp only[];rw[O,bN hx,bN hy,zt R V];simp⟩ (by simp only[];omega) [0,1,5,6,7] rfl (he:=by simp[U])
       | exact ap (i+1,k+1,o++ [y],s93,c93) ⟨by simp only[];omega,by simp only[];omega,by simp;omega,by simp only[];rw[O,bN hx,bN hy,qo R V,YC hne];simp⟩ (by simp only[];omega) [0,1,5,6,7] rfl (he:=by simp[U])
       | exact ap (i+1,k+1,o,s5,c5) ⟨by simp only[];omega,by simp only[];omega,by simp;omega,by simp only[];rw[O,bN hx,bN hy,qo R V,YB hne];simp⟩ (by simp only[];omega) [0,1,5,6,7] rfl (he:=by simp[U])
   ·refine aL rR (hw:=by rw[Zt J];rfl) (aL rR (hw:=by rw[Zt J];rfl) (aL rR (hw:=by rw[Zt J];rfl) (aL rR (hw:=by rw[Zt J];rfl) (aL rR (hw:=by rw[Zt J];rfl) (aL rR (hw:=by rw[Zt J];rfl) (aL rR (hw:=by rw[Zt J];rfl) (aL rR (hw:=by rw[Zt J];rfl) (aL rR (hw:=by rw[Zt J];rfl) (aL rR (hw:=by rw[Zt J];rfl) (aL rR (hw:=by rw[Zt J];rfl) (aN rR (hw:=by exact Zt S) (eT (hq:=by exact Zt J)) (dV rR (eT (hq:=by exact Zt S)) ?_))))))))))));refine aP ?_;apply ah<;>intro X
    ·cases X
    ·refine ai (ac (ac ?_));refine cO (Lf:=[roL 3 s (bx a),roL 3 s' (bx b)]) jC ?_;refine dM rfl (dM rfl (dV rfl (aX Ve) (dV rfl bT (dM rfl (aL rfl (hw:=by rw[Zv (show (i:Int)=(a.length:Int) by omega)];rfl) (aL rfl (hw:=by rw[Zv (show (i:Int)=(a.length:Int) by omega)];rfl) (aL rfl (hw:=by rw[Zv (show (i:Int)=(a.length:Int) by omega)];rfl) (aL rfl (hw:=by rw[Zv (show (i:Int)=(a.length:Int) by omega)];rfl) (aL rfl (hw:=by rw[Zv (show (i:Int)=(a.length:Int) by omega)];rfl) (aL rfl (hw:=by rw[Zv (show (i:Int)=(a.length:Int) by omega)];rfl) (aL rfl (hw:=by rw[Zv (show (i:Int)=(a.length:Int) by omega)];rfl) (aL rfl (hw:=by rw[Zv (show (i:Int)=(a.length:Int) by omega)];rfl) (aL rfl (hw:=by rw[Zv (show (i:Int)=(a.length:Int) by omega)];rfl) (aL rfl (hw:=by rw[Zv (show (i:Int)=(a.length:Int) by omega)];rfl) (aL rfl (hw:=by rw[Zv (show (i:Int)=(a.length:Int) by omega)];rfl) (dV rfl (fl (hq:=by exact Zv (show (i:Int)=(a.length:Int) by omega))) ?_))))))))))))))));refine aP ?_;apply ah<;>intro h68
     ·refine gS (gM (gM (gM (gV (ay k Ve Vd (by omega) (by rw[aQ];omega)) (gV (bJ (row:=aV y) Vz Vd (cY hy)) (gI (av [aV (y)] Ve Vd Vo (by intro r hr;simp at hr;subst hr;rfl)) ?_))))));rintro _ _ ⟨b74,rfl,rfl⟩;refine gI (bo Ve Vd Vo Tryz.typeInfo174 (hn:=by exact aQ _) (by intro r hr;simp at hr;subst hr;rfl) (by intro r hr;simp at hr;subst hr;rfl) ⟨by omega,by decide,by decide⟩) ?_;rintro _ _ ⟨s75,c75,rfl,rfl⟩;rw[fb];refine gQ (gS (gM (gP (gQ ?_))));refine aF ?_;exact ap (i,k+1,o++ [y],s75,c75) ⟨by simp only[];omega,by simp only[];omega,by simp;omega,by simp only[];rw[O,Z9 (by omega),vu,vu,bN hy];simp⟩ (by simp only[];omega) [0,1,5,6,7] rfl (he:=by simp[U])
     ·cases h68
 ·have h17':i=a.length/\k=b.length:=(by simp at h17;omega);obtain ⟨rfl,rfl⟩:=h17';rw[kah,kah,vu,kaE] at O;subst O;refine aF ?_;refine gS (gM (gQ ?_));exact df rfl rfl rfl rfl
def mF (e:SeE):List ag:=[pt e.a (.cells #[I e.base,I e.disk,I e.size,sl e.so e.puts.length e.co] 219 (0,0)),bi 86 2 e.so e.co (cZ e.puts)]
def nA (e:MoE):List ag:=[pt e.a (.cells #[I e.point, .map (some e.r)] 225 (0,0)),mp e.r (Al e.over)]
structure RrA where
 bs:Nat
 so:Option Addr
 co:Nat
 bv:Nat
 rs:Nat
 rm:Nat
def UP (b:Nat)(z:RpM)(q:RrA):List ag:=
 [pt b (.cells #[ptr q.bs 0,ptr q.bv 0, .map (some q.rs), .map (some q.rm),I z.next] 46 (0,0)),pt q.bs (.cells #[sl q.so z.rows.length q.co,I (z.used:Int),I ((200 - 122:Nat):Int)] 91 (0,0)),roL 3 q.so (bx z.rows),mO q.bv z.S z.L z.n,mp q.rs (fp z.ses),big mF z.ses,mp q.rm (fq z.mou),big nA z.mou]
def ez (b:Nat)(z:RpM):ag:=hx (UP b z)
section
variable {c:Cx}{E:dr}{L:List ag}{K:List KI}
def eQ {F:List ag}(b:Nat)(z:RpM)[R:Rem L (ez b z) F](k:∀bs so co bv rs rm,G c K E (pt b (.cells #[ptr bs 0,ptr bv 0, .map (some rs), .map (some rm),I z.next] 46 (0,0))::pt bs (.cells #[sl so z.rows.length co,I (z.used:Int),I ((200 - 122:Nat):Int)] 91 (0,0))::roL 3 so (bx z.rows)::mO bv z.S z.L z.n::mp rs (fp z.ses)::big mF z.ses::mp rm (fq z.mou)::big nA z.mou::F)):G c K E L:=jl (ez b z) (A:=UP b z) rfl λq=>k q.bs q.so q.co q.bv q.rs q.rm
def Hb {F:List ag}(l:List SeE)(i:Nat){e:SeE}(he:l[i]? =some e)[R:Rem L (big mF l) F](k:G c K E (pt e.a (.cells #[I e.base,I e.disk,I e.size,sl e.so e.puts.length e.co] 219 (0,0))::bi 86 2 e.so e.co (cZ e.puts)::big mF (l.eraseIdx i)::F)):G c K E L:=qJ (f:=mF) l i he _ rfl k
def Hc {F:List ag}(l:List MoE)(i:Nat){e:MoE}(he:l[i]? =some e)[R:Rem L (big nA l) F](k:G c K E (pt e.a (.cells #[I e.point, .map (some e.r)] 225 (0,0))::mp e.r (Al e.over)::big nA (l.eraseIdx i)::F)):G c K E L:=qJ (f:=nA) l i he _ rfl k
def cq {F:List ag}(b:Nat)(z:RpM)(bs:Nat)(so:Option Addr)(co bv rs rm:Nat)[J:Split L [pt b (.cells #[ptr bs 0,ptr bv 0, .map (some rs), .map (some rm),I z.next] 46 (0,0)),pt bs (.cells #[sl so z.rows.length co,I (z.used:Int),I ((200 - 122:Nat):Int)] 91 (0,0)),roL 3 so (bx z.rows),mO bv z.S z.L z.n,mp rs (fp z.ses),big mF z.ses,mp rm (fq z.mou),big nA z.mou] F](k:G c K E (ez b z::F)):G c K E L:=
 ic (A:=UP b z) [pt b (.cells #[ptr bs 0,ptr bv 0, .map (some rs), .map (some rm),I z.next] 46 (0,0)),pt bs (.cells #[sl so z.rows.length co,I (z.used:Int),I ((200 - 122:Nat):Int)] 91 (0,0)),roL 3 so (bx z.rows),mO bv z.S z.L z.n,mp rs (fp z.ses),big mF z.ses,mp rm (fq z.mou),big nA z.mou] (ez b z) ⟨bs,so,co,bv,rs,rm⟩ k
end
structure RrO (z:RpM):Prop where
 rok:Rok z
 rows:z.rows=bD z.S z.L z.n
 used:z.used<=200 - 122
def RpM.vau (z:RpM)(u:Nat)(S:SI)(L:List Pt)(n:Int):RpM:=⟨z.h,u,bD S L n,S,L,n,z.ses,z.mou,z.next⟩
theorem RrO.vau {z:RpM}{S:SI}{L:List Pt}{n:Int}{G:Gh}(R:RrO z)(h:Con S L n G){u:Nat}(J:u<=200 - 122):RrO (z.vau u S L n):=⟨⟨⟨G,h⟩,R.rok.next,R.rok.keyS,R.rok.keyM,R.rok.sesS⟩,rfl,J⟩
theorem RrO.rest {z:RpM}(R:RrO z){z2:RpM}(h:Rok z2)(h1:z2.rows=z.rows)(J:z2.S=z.S)(O:z2.L=z.L)(V:z2.n=z.n)(X:z2.used=z.used):RrO z2:=⟨h,by rw[h1,J,O,V];exact R.rows,by rw[X];exact R.used⟩
theorem RrO.ses {z:RpM}(R:RrO z)(l:List SeE)(h:∀e∈l,e∈z.ses):RrO (z.sess l):=R.rest ⟨R.rok.con,R.rok.next,λe he=>R.rok.keyS e (h e he),R.rok.keyM,λe he=>R.rok.sesS e (h e he)⟩ rfl rfl rfl rfl rfl
theorem RrO.mou {z:RpM}(R:RrO z)(l:List MoE)(h:∀e∈l,1<=e.key/\e.key<z.next):RrO (z.moun l):=R.rest ⟨R.rok.con,R.rok.next,R.rok.keyS,h,R.rok.sesS⟩ rfl rfl rfl rfl rfl
theorem RrO.begun {z:RpM}(R:RrO z){a:Nat}{base disk size:Int}(hn:z.next<=999999)(J:ce z base disk size=0):RrO (z.begun a base disk size):=R.rest (R.rok.begin hn J) rfl rfl rfl rfl rfl
theorem RrO.put {z:RpM}(R:RrO z){id at_:Int}{d:ak}{so:Option Addr}{co:Nat}(h:dQ z id at_ d=0):RrO (z.putted id at_ d so co):=by
 obtain ⟨X,s2,J,O,S,V,_⟩:=ld z id at_ d so co;exact R.rest (R.rok.put h) J O S V s2
def Sz (x y k:Int)(w:World):(Instr.build 219 #[(0,I x),(1,I y),(2,I k)]).run Tryz.prog w= .ok (.agg #[I x,I y,I k,sl none 0 0]) w:=by
 simp[Instr.build,zeroValue219,runUnderlying219,Vb,Instr.fill,bB,sl,show ∀k:Int,(I k).cells=#[I k] from λ_=>rfl]
def SA (x:Int)(r:Nat)(w:World):(Instr.build 225 #[(0,I x),(1, .map (some r))]).run Tryz.prog w= .ok (.agg #[I x, .map (some r)]) w:=by
 simp[Instr.build,zeroValue225,runUnderlying225,Vb,XB,Instr.fill,bB,show ∀k:Int,(I k).cells=#[I k] from λ_=>rfl,show (Value.map (some r)).cells=#[.map (some r)] from rfl]
def BI {l:List PutM}{at_:Int}{k:Nat}{x:PutM}(h:l[k]? =some x):(l.take (k+1)).filter (λy=>!decide (y.at_=at_))=(l.take k).filter (λy=>!decide (y.at_=at_))++(if x.at_=at_ then [] else [x]):=by
 grind[List.take_add_one]
def Ap (b:Nat)(S:SI)(L:List Pt)(n:Int)(base disk size:Int)(puts:List PutM)(sp:Option Addr)(cp:Nat)(G0:Gh)(hV:Vok S L n G0)(hpl:puts.length<=1000000)(hpd:∀p∈puts,p.data.length<=9223372036854775807)(F:List ag):Ct Tryz.prog 129 [ptr b 0,I base,I disk,I size,sl sp puts.length cp] (mO b S L n::bi 86 2 sp cp (cZ puts)::F) (vR mO I b (bi 86 2 sp cp (cZ puts)::F) (ig S L n base disk size puts)):=by
  have hok:=kM hV;have hll:=hV.len;have hn1:=hV.n1;have hrl:(L.map (·.root)).length<=8:=(by simp;omega);refine Ct.of func129 rR 139 ntmps129 (by simp) λw0=>?_;refine gS (gA (gQ (ac (gS (gM (gV aI (gM (gK aq (gK aT (gV cu (gM (gK aq (gK aI (gV cu (gM (gK aq (gK aT (gV cu (ab ?_)))))))))))))))))));apply ah<;>intro h34
  · simp at h34;have R:disk<1\/999<disk\/size<1\/16<size:=(by omega);refine gS (gA (gQ ?_));exact ey rfl (by unfold ig;rw[YB R]) rfl rfl
  · simp at h34;have R:¬(disk<1\/999<disk\/size<1\/16<size):=(by omega);refine ai (gS (gQ (ac (gS (gM (gV fZ (ab ?_)))))));refine ls (α:=Gh×Int) (λz=>Rt z.1 (z.2::L.map (·.root))/\iC S L base disk size= .ok (bu z.1,z.2)) (λz=>U [(0,ptr b 0),(2,I disk),(3,I size),(4,sl sp puts.length cp),(12,I z.2)]) (λz=>mO b (bu z.1) L n::bi 86 2 sp cp (cZ puts)::F) ?_ ?_
    · apply ah<;>intro Y
      · simp at Y;refine gS (gM (gM (gR (vB call127 (jr b S L n base (by omega))) (gM (gX (.agg (aY ((bg L base).getD i6)).toArray) (gX (Bo (bg L base).isSome) (gI (aO #[I 0,I 0,I 0,I 0] VJ) ?_)))))));rintro _ _ ⟨b13,rfl,rfl⟩;refine gU (ax (cs:=#[I 0,I 0,I 0,I 0]) (vs:=aY (((bg L base).getD i6))) (aY (((bg L base).getD i6))).toArray Vk (by simp) (hcs:=by exact aJ)) (gQ (ac (gS (gM (gV cE (ab ?_))))));apply ah<;>intro h44
        · simp at h44;refine gS (gA (gQ ?_));exact ey rfl (by unfold ig iC;rw[YC R,YC Y,h44]) rfl rfl
        · simp at h44;obtain ⟨p,hf⟩:=kaG.1 h44;have hpm:=dS hf;have hps:=hV.pts p hpm.1;rw[show (bg L base).getD i6=p by rw[hf];rfl];refine ai (ac (gS (gF 1 VC rR Vb (gL (I p.disk) Vc (gM (gV fZ (ab ?_)))))));apply ah<;>intro h48
          · simp at h48;refine gS (gA (gQ ?_));exact ey rfl (by unfold ig iC;rw[YC R,YC Y,hf];simp only;rw[YB h48]) rfl rfl
          · simp at h48;refine ai (ac ?_);refine gY b S L n ?_;intro x s c;refine cO (Lf:=[pt b (.cells #[ptr x 0,sl s (L).length c,I (n)] 126 (0,0)),pt b13 (.cells (aY (p)).toArray 162 (0,0))]) jD ?_;refine dM rR (dV rR aa (dF rR 0 VE rR WD (dL rR (ptr x 0) WL (dF rR 3 VC rR Vb (dL rR (I p.root) Vc (d7 rR (uB call202 (zK x S p.root 200 hok (by decide) (qe hV.rt.V (mK hV.rt (eJ hf))).2)) ?_))))));rintro _ _ ⟨rfl,rfl⟩;obtain ⟨G1,hs1,hR1,_⟩:=qf hV.rt (eJ hf);have hs1:eI S p.root=bu G1:=(by rw[hV.e];exact hs1);rw[hs1];refine dV rR aD ?_;refine aP ?_;refine el b x s c (bu G1) (L) (n) ?_;refine gS (gM (gQ ?_));obtain ⟨sz,rfl⟩:∃k:Nat,size=k:=⟨size.toNat,by omega⟩;refine al ?_;refine aM (α:=Nat×Gh×Int) (λz=>z.1<=16/\Rt z.2.1 (z.2.2::L.map (·.root))/\nt (bu z.2.1,z.2.2) (List.range' z.1 (p.size.toNat - z.1))=nt (eI S p.root,p.root) (List.range' sz (p.size.toNat - sz))) (λz=>U [(0,ptr b 0),(2,I disk),(3,I (sz:Int)),(4,sl sp puts.length cp),(12,I z.2.2),(13,ptr b13 0),(15,I z.1)]) (λz=>pt b13 (.cells (aY (p)).toArray 162 (0,0))::mO b (bu z.2.1) L n::bi 86 2 sp cp (cZ puts)::F) (λz=>16 - z.1) (sz,G1,p.root) ⟨by simp only[];omega,hR1,by rw[hs1]⟩ [0,2,3,4,12,13,15] rfl ?_;rintro ⟨a,G,root⟩ ⟨Z,hR,hcut⟩;simp only[] at Z hR hcut ⊢;refine ac (gS (gM (gF 2 VC rR Vb (gL (I p.size) Vc (gV aI (ab ?_))))));apply ah<;>intro h60
            · simp at h60;refine ai (ac (al (gS (gM (gM (gM (gI (uB call203 (vJ b G L n root a [] (L.map (·.root)) hR hrl (by omega) (by decide))) ?_)))))));rintro v L' hv;unfold vR at hv;by_cases hE:(dH (bu G) root a []).2=0
              · obtain ⟨G1,G2,hu1,o1,r1,v1,hu2,hR2,_,_⟩:=nb hR hrl (by omega) hE;rw[zL hE,hu1,hu2] at hv;obtain ⟨rfl,rfl⟩:=hv;refine gM (gX (I (dH (bu G) root a []).1) (gX (I 0) (gA (gQ (ac (gS (gM (gV aT (ab ?_)))))))));apply ah<;>intro h71
                · simp at h71
                · refine ai (am (gM (gQ (aG (am (gM (gP (gQ ?_))))))));exact ap (a+1,G2,(dH (bu G) root a []).1) ⟨by simp only[];omega,hR2,by
                    rw[<-hcut,o9 (a:=a) (m:=p.size.toNat) (by omega)];simp only[nt,put1];rw[YB hE,hu1,hu2]⟩ (by simp only[];omega) [0,2,3,4,12,13,15] rfl
              · rw[vI hE] at hv;obtain ⟨rfl,rfl⟩:=hv;have hnn:=xp (bu G) root a [];refine gM (gX (I 0) (gX (I (dH (bu G) root a []).2) (gA (gQ (ac (gS (gM (gV aT (ab ?_)))))))));apply ah<;>intro h71
                · refine gS (gM (gA (gQ ?_)));exact ey rfl (by
                    unfold ig iC;rw[YC R,YC Y,hf];simp only;rw[YC (by omega),kag,<-hcut,o9 (a:=a) (m:=p.size.toNat) (by omega)];simp only[nt,put1];rw[YC hE]) rfl rfl
                · simp at h71;omega
            · simp at h60;refine aF ?_;exact cF (G,root) ⟨hR,by
                unfold iC;rw[YC Y,hf];simp only;rw[YC (by omega),kag,<-hcut,Bl (by omega)];simp only[nt]⟩ [0,2,3,4,12] rfl
      · simp at Y;refine ai ?_;rw[show mO b S L n=mO b (bu G0) L n by rw[hV.e]];exact cF (G0,0) ⟨H8 hV.rt,by
          unfold iC;rw[YB Y,hV.e]⟩ [0,2,3,4,12] rfl
    rintro ⟨G2,z2⟩ ⟨hR2,hb⟩;simp only[] at hR2 hb ⊢;refine ac (gS (gQ (al ?_)));refine aM (α:=Nat×Gh×Int) (λz=>z.1<=puts.length/\Rt z.2.1 (z.2.2::L.map (·.root))/\eV size (bu z.2.1,z.2.2) (puts.drop z.1)=eV size (bu G2,z2) puts) (λz=>U [(0,ptr b 0),(2,I disk),(3,I size),(4,sl sp puts.length cp),(12,I z.2.2),(18,I z.1)]) (λz=>mO b (bu z.2.1) L n::bi 86 2 sp cp (cZ puts)::F) (λz=>puts.length - z.1) (0,G2,z2) ⟨by simp,hR2,by simp⟩ [0,2,3,4,12,18] rfl ?_;rintro ⟨k,G,root⟩ ⟨hk,hR,O⟩;simp only[] at hk hR O ⊢;have hokG:=J0 hR (m:=200) (by simp;omega);refine ac (gS (gM (gM (gV (aX VQ) (gV aI (ab ?_))))));apply ah<;>intro h77
    · simp at h77;have J:k<puts.length:=(by omega);obtain ⟨p,hp⟩:∃p,puts[k]? =some p:=⟨_,Zu J⟩;have hpd1:=hpd p (YW hp);refine ai (ac (al (ac (gS (gM (gM (gV (ay k VQ VT J (by rw[db];exact J)) (gV (aE (j:=k) 0 WA rR Vb (by rw[db];exact J)) (gV (bC (v:=I p.at_) Vc (ji hp)) (gV aI (gM (gK aq (gK aq (gK (ay k VQ VT J (by rw[db];exact J)) (gK (aE (j:=k) 0 WA rR Vb (by rw[db];exact J)) (gK (bC (v:=I p.at_) Vc (ji hp)) (gK aq (gK j6 (gV cu (ab ?_))))))))))))))))))));apply ah<;>intro h94
      · simp at h94;refine gS (gA (gQ ?_))
        first
        | exact ey rfl (by
            unfold ig;rw[YC R,hb];simp only;rw[<-O,iO hp];simp only[eV];rw[YB (by omega)]) rfl rfl
        | (by_cases Z:fg L n=0
           · rw[show jp L n=n by unfold jp;rw[YB Z],show jw L n disk size root=L++ [⟨n,disk,size,root⟩] by unfold jw;rw[YB Z],show nZ L n=n+1 by unfold nZ;rw[YB Z],Z];exact nc (S:=bu G) (P:=L++ [⟨n,disk,size,root⟩]) (n:=n+1) rfl (by
               unfold ig;rw[YC R,hb];simp only;rw[<-O];simp only[eV];rw[YC (by omega)]) rfl rfl
           · rw[show jp L n=0 by unfold jp;rw[YC Z]];exact ey rfl (by
               unfold ig;rw[YC R,hb];simp only;rw[<-O];simp only[eV];rw[YB Z]) rfl rfl)
      · simp at h94;have han:(p.at_.toNat:Int)=p.at_:=(by omega);refine ai (ac (ac ?_));refine gY b (bu G) L n ?_;intro x s c;refine gD (Lf:=[pt b (.cells #[ptr x 0,sl s (L).length c,I (n)] 126 (0,0)),bi 86 2 sp cp (cZ puts)]) [(0,false),(1,false),(2,false),(3,false),(4,false),(5,false),(6,false),(7,false),(8,false),(9,false),(11,false),(12,false),(13,false),(14,false),(15,false),(10,true),(16,false)] (dM rR (dV rR aa (dF rR 0 VE rR WD (dL rR (ptr x 0) WL (dM rR (dM rR (dM rR (dV rR (ay k VQ VT J (by rw[db];exact J)) (dV rR (aE (j:=k) 0 WA rR Vb (by rw[db];exact J)) (dV rR (bC (v:=I (p.at_.toNat:Int)) Vc (ji hp) (hv:=⟨by rw[han];rfl⟩)) (dM rR (dM rR (dV rR (ay k VQ VT J (by rw[db];exact J)) (dV rR (aE (j:=k) 1 WA rR Vh (by rw[db];exact J)) (dV rR (bC (v:=aC p.data) Vj (ji hp)) (d7 rR (uB call204 (Fy x (bu G) root p.at_.toNat 200 hokG (by omega) (Ds hR.V (mK hR (by simp))))) ?_))))))))))))))));rintro _ _ ⟨rfl,rfl⟩;refine dV rR cj ?_;refine aP ?_;refine el b x s c (bu G) (L) (n) ?_;apply ah<;>intro X
        · simp at X;refine aF ?_;refine am (gM (gP (gQ ?_)));exact ap (k+1,G,root) ⟨by simp only[];omega,hR,by
            rw[<-O,iO hp];simp only[eV];rw[YC (by omega),YB X]⟩ (by simp only[];omega) [0,2,3,4,12,18] rfl
        · simp at X;refine ai (ac (gD (Lf:=[bi 86 2 sp cp (cZ puts)]) [(0,false),(1,false),(2,false),(3,false),(4,false),(5,false),(6,false),(7,false),(8,false),(9,false),(10,false),(11,false),(12,true),(13,false),(14,false),(15,false),(16,false),(17,false)] (dM rR (dM rR (dM rR (dM rR (dV rR (ay k VQ VT J (by rw[db];exact J)) (dV rR (aE (j:=k) 0 WA rR Vb (by rw[db];exact J)) (dV rR (bC (v:=I (p.at_.toNat:Int)) Vc (ji hp) (hv:=⟨by rw[han];rfl⟩)) (dM rR (dM rR (dV rR (ay k VQ VT J (by rw[db];exact J)) (dV rR (aE (j:=k) 1 WA rR Vh (by rw[db];exact J)) (dV rR (bC (v:=aC p.data) Vj (ji hp)) ?_))))))))))))));by_cases hE:(dH (bu G) root p.at_.toNat p.data).2=0
          · obtain ⟨G1,G3,hu1,o1,r1,v1,hu2,hR3,_,_⟩:=nb hR hrl (by omega) hE;refine d7 rR (uB call203 (vJ b G L n root p.at_.toNat p.data (L.map (·.root)) hR hrl (by omega) hpd1)) ?_;rintro v L' hv;unfold vR at hv;rw[zL hE,hu1,hu2] at hv;obtain ⟨rfl,rfl⟩:=hv;refine dM rR (dV rR (aH (v:=I (dH (bu G) root p.at_.toNat p.data).1)) (dV rR (aH (v:=I 0)) (dV rR aD (dV rR aD ?_))));refine aP ?_;refine ac (gS (gM (gV aT (ab ?_))));apply ah<;>intro h129
            · simp at h129
            · refine ai (am (gM (gQ (aG (am (gM (gP (gQ ?_))))))));exact ap (k+1,G3,(dH (bu G) root p.at_.toNat p.data).1) ⟨by simp only[];omega,hR3,by
                rw[<-O,iO hp];simp only[eV,put1];rw[YC (by omega),YC X,YB hE,hu1,hu2]⟩ (by simp only[];omega) [0,2,3,4,12,18] rfl
          · have hnn:=xp (bu G) root p.at_.toNat p.data;refine d7 rR (uB call203 (vJ b G L n root p.at_.toNat p.data (L.map (·.root)) hR hrl (by omega) hpd1)) ?_;rintro v L' hv;unfold vR at hv;rw[vI hE] at hv;obtain ⟨rfl,rfl⟩:=hv;refine dM rR (dV rR (aH (v:=I 0)) (dV rR (aH (v:=I (dH (bu G) root p.at_.toNat p.data).2)) (dV rR aD (dV rR aD ?_))));refine aP ?_;refine ac (gS (gM (gV aT (ab ?_))));apply ah<;>intro h129
            · refine gS (gM (gA (gQ ?_)));exact ey rfl (by
                unfold ig;rw[YC R,hb];simp only;rw[<-O,iO hp];simp only[eV,put1];rw[YC (by omega),YC X,YC hE]) rfl rfl
            · simp at h129;omega
    · simp at h77;obtain rfl:k=puts.length:=(by omega);rw[kah] at O;refine aF ?_;refine gS (gM (gM (gM (gM (gR (vB call205 (BC b (bu G) L n disk size root (by omega) (by omega))) (gX (I (jp L n)) (gX (I (fg L n)) (gA (gQ ?_)))))))))
      first
      | exact ey rfl (by
          unfold ig;rw[YC R,hb];simp only;rw[<-O,iO hp];simp only[eV];rw[YB (by omega)]) rfl rfl
      | (by_cases Z:fg L n=0
         · rw[show jp L n=n by unfold jp;rw[YB Z],show jw L n disk size root=L++ [⟨n,disk,size,root⟩] by unfold jw;rw[YB Z],show nZ L n=n+1 by unfold nZ;rw[YB Z],Z];exact nc (S:=bu G) (P:=L++ [⟨n,disk,size,root⟩]) (n:=n+1) rfl (by
             unfold ig;rw[YC R,hb];simp only;rw[<-O];simp only[eV];rw[YC (by omega)]) rfl rfl
         · rw[show jp L n=0 by unfold jp;rw[YC Z]];exact ey rfl (by
             unfold ig;rw[YC R,hb];simp only;rw[<-O];simp only[eV];rw[YB Z]) rfl rfl)
def sy (b v:Nat)(z:RpM)(J:SI)(L' P:List Pt)(O:Int)(G':Gh)(hR:RrO z)(R:Con J L' O G')(hP:P.length<=7)(hp1:∀p∈z.L,p∈P)(hp2:∀p∈L',p∈P)(F:List ag):Ct Tryz.prog 130 [ptr b 0,ptr v 0] (ez b z::mO v J L' O::F) (λv0 L0=>∃X,X<=200 - 122/\v0=I 0/\L0=ez b (z.vau X J L' O)::F):=by
 obtain ⟨G,hC⟩:=hR.rok.con;have Z:=hC.v.len;have hrow:=n4 (S:=z.S) (n:=z.n) Z;have V:=R.v.len;have hrow':=n4 (S:=J) (n:=O) V;have hml:=zw (bD z.S z.L z.n) (bD J L' O);obtain ⟨hcm,hap⟩:=IH hC R hP hp1 hp2;have hus:=hR.used;refine Ct.of func130 rR 26 ntmps130 (by simp) λw0=>?_;refine eQ b z ?_;intro bs so co bv rs rm;rw[hR.rows];refine gS (gQ (ac ?_));refine cO (Lf:=[pt b (.cells #[ptr bs 0,ptr bv 0, .map (some rs), .map (some rm),I (z.next)] 46 (0,0))]) jW ?_;refine dM rR (dV rR aa (dF rR 0 VG rR XV (dL rR (ptr bs 0) isAgg41 (dM rR (dV rR aa (dF rR 1 VG rR WM (dL rR (ptr bv 0) W0 (dM rR (d7 rR (uB call40 (vL bv z.S z.L z.n hC.sm)) ?_)))))))));rintro _ _ ⟨s14,c14,rfl,rfl⟩;refine bR s14 ?_;refine d7 rR (uB call40 (vL v J L' O R.sm)) ?_;rintro _ _ ⟨FT,c16,rfl,rfl⟩;refine bR FT ?_;refine d7 rR (uC call206 (zO (bD z.S z.L z.n) (bD J L' O) s14 FT c14 c16 (by omega) (by omega))) ?_;rintro _ _ ⟨s17,c17,rfl,rfl⟩;refine bR s17 ?_;refine d7 rR (uD call39 (m8 bs (bD z.S z.L z.n) (mg (bD z.S z.L z.n) (bD J L' O)) so s17 co c17 z.used (200 - 122) (by omega) (lc hC.wr) (by omega) ⟨hR.used,by decide⟩)) ?_;rintro _ _ (⟨hne,_,_⟩ | ⟨_,s2,Y,rfl,rfl⟩)
 ·exact absurd hcm hne
 rw[hap];have hu3:((if 200 - 122 - z.used<(mg (bD z.S z.L z.n) (bD J L' O)).length+1 then 0 else z.used)+(mg (bD z.S z.L z.n) (bD J L' O)).length+1)<=200 - 122:=by
  have h72:=IG hC R hP hp1 hp2;split <;> omega
 generalize ((if 200 - 122 - z.used<(mg (bD z.S z.L z.n) (bD J L' O)).length+1 then 0 else z.used)+(mg (bD z.S z.L z.n) (bD J L' O)).length+1)=X at hu3 ⊢;refine dV rR aD ?_;refine aP ?_;refine ac (gS (gM (gV bT (ab ?_))));apply ah<;>intro h20
 ·refine am (gM (gM (gV aa (gF 1 VG rR WM (gU (aK #[ptr bs 0,ptr v 0, .map (some rs), .map (some rm),I z.next] WM (by simp)) (ab (gS (gM (gQ ?_)))))))));refine cq b (⟨z.h,X,bD J L' O,J,L',O,z.ses,z.mou,z.next⟩) bs s2 Y v rs rm ?_;exact an (ez b ⟨z.h,X,bD J L' O,J,L',O,z.ses,z.mou,z.next⟩::F) rfl ⟨X,hu3,rfl,rfl⟩
 ·simp at h20
def ws (b:Nat)(z:RpM)(base disk size:Int)(hR:RrO z)(F:List ag):Ct Tryz.prog 53 [ptr b 0,I base,I disk,I size] (ez b z::F) (λv L'=>(ce z base disk size≠0/\v= .tuple #[I 0,I (ce z base disk size)]/\L'=ez b z::F)\/(ce z base disk size=0/\∃a,v= .tuple #[I z.next,I 0]/\L'=ez b (z.begun a base disk size)::F)):=by
 obtain ⟨G0,hC⟩:=hR.rok.con;have hlen:=hC.v.len;have hnx:=hR.rok.next;refine Ct.of func53 rR 74 ntmps53 (by simp) λw0=>?_;refine eQ b z ?_;intro bs so co bv rs rm;refine gS (gA (gQ (ac (gS (gM (gV aI (gM (gK aq (gK aT (gV cu (gM (gK aq (gK aI (gV cu (gM (gK aq (gK aT (gV cu (ab ?_)))))))))))))))))));apply ah<;>intro Y
 ·have J:disk<1\/999<disk\/size<1\/16<size:=(by simp at Y;omega);refine gS (gA (gQ ?_));refine cq b (z) bs so co bv rs rm ?_;exact an (ez b (z)::F) rfl (.inl ⟨by unfold ce;rw[YB J];decide,by unfold ce;rw[YB J];rfl,rfl⟩)
 ·have J:¬(disk<1\/999<disk\/size<1\/16<size):=(by simp at Y;omega);refine ai (ac (gS (gM (gV fZ (ab ?_)))));refine ls (α:=Unit) (λ_=>Ad z.L base disk=0) (λ_=>U [(0,ptr b 0),(1,I base),(2,I disk),(3,I size)]) (λ_=>pt b (.cells #[ptr bs 0,ptr bv 0, .map (some rs), .map (some rm),I (z.next)] 46 (0,0))::pt bs (.cells #[sl so (z.rows.length) co,I ((z.used:Int)),I ((200 - 122:Nat):Int)] 91 (0,0))::roL 3 so (bx z.rows)::mO bv z.S z.L z.n::mp rs (fp z.ses)::big mF z.ses::mp rm (fq z.mou)::big nA z.mou::F) ?_ ?_
  ·apply ah<;>intro V
   ·simp at V;refine gS (gM (gV aa (gF 1 VG rR WM (gL (ptr bv 0) W0 (gM (gR (vB call127 (jr bv z.S z.L z.n base (by omega))) (gM (gX (.agg (aY ((bg z.L base).getD i6)).toArray) (gX (Bo (bg z.L base).isSome) (gI (aO #[I 0,I 0,I 0,I 0] VJ) ?_))))))))));rintro _ _ ⟨b10,rfl,rfl⟩;refine gU (ax (cs:=#[I 0,I 0,I 0,I 0]) (vs:=aY (((bg z.L base).getD i6))) (aY (((bg z.L base).getD i6))).toArray Vk (by simp) (hcs:=by exact aJ)) (gQ (ac (gS (gM (gV cE (ab ?_))))));apply ah<;>intro X
    ·simp at X;refine gS (gA (gQ ?_));refine cq b (z) bs so co bv rs rm ?_;exact an (ez b (z)::F) rfl (have ho:Ad z.L base disk=5:=by unfold Ad;rw[YC V,X]
      .inl ⟨by unfold ce;rw[YC J,YB (by omega),ho];decide,by unfold ce;rw[YC J,YB (by omega),ho];rfl,rfl⟩)
    ·simp at X;obtain ⟨p,hf⟩:=kaG.1 X;rw[show (bg z.L base).getD i6=p by rw[hf];rfl];refine ai (gS (gF 1 VC rR Vb (gL (I p.disk) Vc (gM (gV fZ (ab ?_))))));apply ah<;>intro Z
     ·simp at Z;refine gS (gA (gQ ?_));refine cq b (z) bs so co bv rs rm ?_;exact an (ez b (z)::F) rfl (have ho:Ad z.L base disk=3:=by unfold Ad;rw[YC V,hf];simp only;rw[YB (by omega)]
       .inl ⟨by unfold ce;rw[YC J,YB (by omega),ho];decide,by unfold ce;rw[YC J,YB (by omega),ho];rfl,rfl⟩)
     ·simp at Z;refine ai ?_;exact cF () (by unfold Ad;rw[YC V,hf];simp only;rw[YC (by omega)]) [0,1,2,3] rfl
   ·simp at V;refine ai ?_;exact cF () (by unfold Ad;rw[YB V]) [0,1,2,3] rfl
  rintro _ ho;refine ac (gS (gM (gV aa (gF 2 VG rR Xc (gL (.map (some rs)) Xj (gV (lh Xk) (gV bT (ab ?_))))))));apply ah<;>intro h48
  ·have O:z.ses.length=3:=(by simp[fp] at h48;omega);refine gS (gA (gQ ?_));refine cq b (z) bs so co bv rs rm ?_;exact an (ez b (z)::F) rfl (.inl ⟨by unfold ce;rw[YC J,YC (by omega),YB O];decide,by unfold ce;rw[YC J,YC (by omega),YB O];rfl,rfl⟩)
  ·have O:¬z.ses.length=3:=(by simp[fp] at h48;omega);refine ai (ac (gD (Lf:=[pt b (.cells #[ptr bs 0,ptr bv 0, .map (some rs), .map (some rm),I (z.next)] 46 (0,0))]) [(0,false),(1,false),(2,false),(3,false),(4,false),(5,false),(6,false),(7,false),(8,false),(9,false),(10,false),(11,false),(12,true),(13,true)] (dM rR (dV rR aa (dF rR 2 VG rR Xc (dL rR (.map (some rs)) Xj (dM rR (dV rR aa (dF rR 4 VG rR Vb (dL rR (I z.next) Vc (dM rR (dM rR (dM rR (dV rR (aR (Sz base disk size)) (d7 rR (di #[I base,I disk,I size,sl none 0 0]) ?_)))))))))))))));rintro _ _ ⟨R,rfl,rfl⟩;refine rc rR (cn Xk Vf) ?_;rintro _ _ rfl;rw[Fe (l:=z.ses) (e:=(⟨z.next,R,none,0,base,disk,size,[]⟩:SeE)) (λx hx=>by have:=hR.rok.keyS x hx;show x.key≠z.next;omega)];refine bH 86 2 (cZ []) ?_;refine th (f:=mF) z.ses (⟨z.next,R,none,0,base,disk,size,[]⟩:SeE) [pt R (.cells #[I base,I disk,I size,sl none 0 0] 219 (0,0)),bi 86 2 none 0 (cZ [])] rfl ?_;refine aP ?_;refine gS (gM (gV aa (gF 4 VG rfl Vb (gL (I z.next) Vc (gV (bO (r:=z.next+1) (da (by omega))) (gV aa (gF 4 VG rfl Vb (gU (aK #[ptr bs 0,ptr bv 0, .map (some rs), .map (some rm),I (z.next+1)] Vb (by simp)) (ab (gS (gM (gV aa (gF 4 VG rfl Vb (gL (I (z.next+1)) Vc (gV (fe (r:=z.next) (by rw[show z.next+1 - 1=z.next by omega];exact da (by omega))) (gA (gQ ?_)))))))))))))))));refine cq b (⟨z.h,z.used,z.rows,z.S,z.L,z.n,z.ses++ [⟨z.next,R,none,0,base,disk,size,[]⟩],z.mou,z.next+1⟩) bs so co bv rs rm ?_;exact an (ez b (⟨z.h,z.used,z.rows,z.S,z.L,z.n,z.ses++ [⟨z.next,R,none,0,base,disk,size,[]⟩],z.mou,z.next+1⟩)::F) rfl (.inr ⟨by unfold ce;rw[YC J,YC (by omega),YC O],R,rfl,rfl⟩)
def wt (b:Nat)(z:RpM)(id:Int)(F:List ag):Ct Tryz.prog 56 [ptr b 0,I id] (ez b z::F) (λv L'=>(gk z.ses id=none/\v=I 5/\L'=ez b z::F)\/(∃e,gk z.ses id=some e/\v=I 0/\L'=ez b (z.sess (lR z.ses id))::F)):=by
 refine Ct.of func56 rR 23 ntmps56 (by simp) λw0=>?_;refine eQ b z ?_;intro bs so co bv rs rm;refine gS (gQ (gS (gM (gV aa (gF 2 VG rfl Xc (gL (.map (some rs)) Xj (gM (gV (d8 (v:= .pointer ((gk z.ses id).map λe=>⟨e.a,0,none⟩)) (bb:=(gk z.ses id).isSome) Xk Vf X8 (by rw[nw];cases gk z.ses id <;> rfl) (by rw[nw,ka5])) (gM (gX (.pointer ((gk z.ses id).map λe=>⟨e.a,0,none⟩)) (gX (Bo (gk z.ses id).isSome) (gA (gQ (ac (gS (gM (gV cE (ab ?_))))))))))))))))));apply ah<;>intro J
 ·have R:gk z.ses id=none:=(by simpa using J);refine gS (gQ ?_);refine cq b (z) bs so co bv rs rm ?_;exact an (ez b (z)::F) rfl (.inl ⟨R,rfl,rfl⟩)
 ·simp at J;obtain ⟨e,O⟩:=kaG.1 J;obtain ⟨he,V,hi⟩:=pf O;rw[show (Value.pointer ((gk z.ses id).map λe=>⟨e.a,0,none⟩))=ptr e.a 0 by rw[O];rfl];refine ai (gS (gM (gV aa (gF 2 VG rR Xc (gL (.map (some rs)) Xj (gM (ir (iv Xk Vf) ?_)))))));rintro _ _ ⟨rfl,rfl⟩;rw[tZ];refine nJ (f:=mF) z.ses (lR z.ses id) ZE ?_;refine ab (gS (gQ ?_));refine cq b (⟨z.h,z.used,z.rows,z.S,z.L,z.n,lR z.ses id,z.mou,z.next⟩) bs so co bv rs rm ?_;exact an (ez b (⟨z.h,z.used,z.rows,z.S,z.L,z.n,lR z.ses id,z.mou,z.next⟩)::F) rfl (.inr ⟨e,O,rfl,rfl⟩)
def Ns {S:SI}{L:List Pt}{n id:Int}{G:Gh}{O:SI}{L':List Pt}{R r:Int}(h:Con S L n G)(e:lM S L n id= .ok (O,L',R,r)):L'.length<=7/\∀p∈L,p∈L':=by
 obtain ⟨V,J⟩:=ql h e;exact ⟨by have:=J.v.len;omega,Dd h.v e⟩
def Nt {S:SI}{L:List Pt}{n base disk size:Int}{puts:List PutM}{G:Gh}{O:SI}{L':List Pt}{R r:Int}(h:Con S L n G)(e:ig S L n base disk size puts= .ok (O,L',R,r)):L'.length<=7/\∀p∈L,p∈L':=by
 obtain ⟨V,J⟩:=qk h e;exact ⟨by have:=J.v.len;omega,Dc h.v e⟩
def BJ (b:Nat)(z:RpM)(id at_:Int)(d:ak)(hR:RrO z)(hdl:d.length<=9223372036854775807)(F:List ag):Ct Tryz.prog 54 [ptr b 0,I id,I at_,aC d] (ez b z::F) (λv L'=>(dQ z id at_ d≠0/\v=I (dQ z id at_ d)/\L'=ez b z::F)\/(dQ z id at_ d=0/\∃so co,v=I 0/\L'=ez b (z.putted id at_ d so co)::F)):=by
 refine Ct.of func54 rR 75 ntmps54 (by simp) λw0=>?_;refine eQ b z ?_;intro bs so co bv rs rm;refine gS (gQ (gS (gM (gV aa (gF 2 VG rfl Xc (gL (.map (some rs)) Xj (gM (gV (d8 (v:= .pointer ((gk z.ses id).map λe=>⟨e.a,0,none⟩)) (bb:=(gk z.ses id).isSome) Xk Vf X8 (by rw[nw];cases gk z.ses id <;> rfl) (by rw[nw,ka5])) (gM (gX (.pointer ((gk z.ses id).map λe=>⟨e.a,0,none⟩)) (gX (Bo (gk z.ses id).isSome) (gA (gQ (ac (gS (gM (gV cE (ab ?_))))))))))))))))));apply ah<;>intro Z
 ·have hno:gk z.ses id=none:=(by simpa using Z);refine gS (gQ ?_);refine cq b (z) bs so co bv rs rm ?_;exact an (ez b (z)::F) rfl (have ho:dQ z id at_ d=5:=by unfold dQ;rw[hno]
   .inl ⟨by rw[ho];decide,by rw[ho];rfl,rfl⟩)
 ·simp at Z;obtain ⟨e,R⟩:=kaG.1 Z;obtain ⟨he,hek,hi⟩:=pf R;rw[show (Value.pointer ((gk z.ses id).map λe=>⟨e.a,0,none⟩))=ptr e.a 0 by rw[R];rfl];refine ai (ac (ac ?_));refine Hb z.ses _ he ?_;refine am (gM (gV aI (gM (gK aq (gK aq (gK aa (gK (aw 2 W8 rR Vb) (gK (az (v:=I e.size) Vc) (gK j6 (gV cu (ab ?_)))))))))));apply ah<;>intro h33
  ·have X:at_<0\/e.size<=at_:=(by simp at h33;omega);refine gS (gQ ?_);refine de (f:=mF) z.ses (wF z.ses id) e [pt e.a (.cells #[I e.base,I e.disk,I e.size,sl e.so e.puts.length e.co] 219 (0,0)),bi 86 2 e.so e.co (cZ e.puts)] hi ?_;rw[eG he];refine cq b (z) bs so co bv rs rm ?_;have ho:dQ z id at_ d=1:=(by unfold dQ;rw[R];simp only;rw[YB X]);exact an (ez b z::F) rfl (.inl ⟨by rw[ho];decide,by rw[ho];rfl,rfl⟩)
  ·have X:¬(at_<0\/e.size<=at_):=(by simp at h33;omega);refine ai (ac (gS (gM (gV (cW Vg) (gV aT (ab ?_))))));apply ah<;>intro h36
   ·have h6:6<d.length:=(by simp at h36;omega);refine gS (gQ ?_);refine de (f:=mF) z.ses (wF z.ses id) e [pt e.a (.cells #[I e.base,I e.disk,I e.size,sl e.so e.puts.length e.co] 219 (0,0)),bi 86 2 e.so e.co (cZ e.puts)] hi ?_;rw[eG he];refine cq b (z) bs so co bv rs rm ?_;have ho:dQ z id at_ d=2:=(by unfold dQ;rw[R];simp only;rw[YC X,YB h6]);exact an (ez b z::F) rfl (.inl ⟨by rw[ho];decide,by rw[ho];rfl,rfl⟩)
   ·have h6:¬6<d.length:=(by simp at h36;omega);have hps:=(hR.rok.putS e (YW he)).1;have Y:∀k,((e.puts.take k).filter λy=>!decide (y.at_=at_)).length<=16:=λk=>Yj (kam _ _) (by rw[Y8];omega);have hflk:=Y e.puts.length;refine ai (gS (gQ (ac (ac ?_))));refine bH 86 2 (cZ ((e.puts.take 0).filter λy=>!decide (y.at_=at_))) (hr:=by simp[cZ]) ?_;refine am (gQ (al ?_));refine aM (α:=Nat×Option Addr×Nat) (λy=>y.1<=e.puts.length) (λy=>U [(0,ptr b 0),(1,I id),(2,I at_),(3,aC d),(9,ptr e.a 0),(11,sl y.2.1 ((e.puts.take y.1).filter λy=>!decide (y.at_=at_)).length y.2.2),(12,I y.1)]) (λy=>bi 86 2 y.2.1 y.2.2 (cZ (((e.puts.take y.1).filter λy=>!decide (y.at_=at_))))::pt e.a (.cells #[I e.base,I e.disk,I e.size,sl e.so (e.puts.length) e.co] 219 (0,0))::bi 86 2 e.so e.co (cZ (e.puts))::big mF (z.ses.eraseIdx (wF z.ses id))::pt b (.cells #[ptr bs 0,ptr bv 0, .map (some rs), .map (some rm),I (z.next)] 46 (0,0))::pt bs (.cells #[sl so (z.rows.length) co,I ((z.used:Int)),I ((200 - 122:Nat):Int)] 91 (0,0))::roL 3 so (bx z.rows)::mO bv z.S z.L z.n::mp rs (fp z.ses)::mp rm (fq z.mou)::big nA z.mou::F) (λy=>e.puts.length - y.1) (0,none,0) (by simp) [0,1,2,3,9,11,12] rfl ?_;rintro ⟨k,s11,c11⟩ hk;simp only[] at hk ⊢;refine ac (gS (gM (gM (gV aa (gF 3 W8 rR WB (gL (sl e.so e.puts.length e.co) W5 (gV (aX VQ) (gV aI (ab ?_)))))))));apply ah<;>intro h43
    ·simp at h43;have V:k<e.puts.length:=(by omega);obtain ⟨x,hx⟩:∃x,e.puts[k]? =some x:=⟨_,Zu V⟩;have hfk:=Y k;refine ai (ac (al (gS (gM (gV aa (gF 3 W8 rR WB (gL (sl e.so e.puts.length e.co) W5 (gM (gV (ay k VQ VT V (by rw[db];exact V)) (gV (aE (j:=k) 0 WA rR Vb (by rw[db];exact V)) (gV (bC (v:=I x.at_) Vc (ji hx)) (gM (gV fZ (ab ?_))))))))))))));apply ah<;>intro h55
     ·have hxa:¬x.at_=at_:=(by simpa using h55);refine am (gM (gM (gV aa (gF 3 W8 rR WB (gL (sl e.so e.puts.length e.co) W5 (gM (gV (ay k VQ VT V (by rw[db];exact V)) (gV (bJ (row:=iV x) XC VT (ji hx)) (gI (av (cZ [x]) VQ VT W7 (by simp[cZ,iV])) ?_)))))))));rintro _ _ ⟨b64,rfl,rfl⟩;refine gI (bo VQ VT W7 Tryz.typeInfo86 (hn:=by exact db _) (by simp[cZ,iV]) (by simp[cZ,iV,Go.Sl.ones,Go.Sl.one]) ⟨by omega,by decide,by decide⟩) ?_;rintro _ _ ⟨s65,c65,rfl,rfl⟩;rw[show cZ ((e.puts.take k).filter λy=>!decide (y.at_=at_))++cZ [x]=cZ (((e.puts.take k).filter λy=>!decide (y.at_=at_))++ [x]) by simp[cZ],show ((e.puts.take k).filter λy=>!decide (y.at_=at_)).length+1=(((e.puts.take k).filter λy=>!decide (y.at_=at_))++ [x]).length by simp,show ((e.puts.take k).filter λy=>!decide (y.at_=at_))++ [x]=((e.puts.take (k+1)).filter λy=>!decide (y.at_=at_)) by rw[BI hx,YC hxa]];refine gQ (aG (am (gM (gV (bO (r:=((k+1:Nat):Int)) (da (by omega))) (gQ ?_)))));exact ap (k+1,s65,c65) (by simp only[];omega) (by simp only[];omega) [0,1,2,3,9,11,12] rfl
     ·have hxa:x.at_=at_:=(by simpa using h55);refine ai (aG (am (gM (gV (bO (r:=((k+1:Nat):Int)) (da (by omega))) (gQ ?_)))));rw[show ((e.puts.take k).filter λy=>!decide (y.at_=at_))=((e.puts.take (k+1)).filter λy=>!decide (y.at_=at_)) by rw[BI hx,YB hxa,kaE]];exact ap (k+1,s11,c11) (by simp only[];omega) (by simp only[];omega) [0,1,2,3,9,11,12] rfl
    ·simp at h43;obtain rfl:k=e.puts.length:=(by omega);refine aF ?_;refine gS (gM (gM (gM (gM (gV (aR (IE at_ d)) (gI (av (cZ [⟨at_,d⟩]) VQ VT W7 (by simp[cZ,iV])) ?_))))));rintro _ _ ⟨b71,rfl,rfl⟩;refine gI (bo VQ VT W7 Tryz.typeInfo86 (hn:=by exact db _) (by simp[cZ,iV]) (by simp[cZ,iV,Go.Sl.ones,Go.Sl.one]) ⟨by omega,by decide,by decide⟩) ?_;rintro _ _ ⟨O,J,rfl,rfl⟩;refine gV aa (gF 3 W8 rR WB (gU (aK #[I e.base,I e.disk,I e.size,sl O (((e.puts.take e.puts.length).filter λy=>!decide (y.at_=at_)).length+1) J] WB (by simp)) (ab (gS (gQ ?_)))));rw[show cZ ((e.puts.take e.puts.length).filter λy=>!decide (y.at_=at_))++cZ [⟨at_,d⟩]=cZ (iP e.puts at_ d) by simp[cZ,iP],show ((e.puts.take e.puts.length).filter λy=>!decide (y.at_=at_)).length+1=(iP e.puts at_ d).length by simp[iP]];refine de (f:=mF) z.ses (wF z.ses id) (⟨e.key,e.a,O,J,e.base,e.disk,e.size,iP e.puts at_ d⟩:SeE) [pt e.a (.cells #[I e.base,I e.disk,I e.size,sl O ((iP e.puts at_ d).length) J] 219 (0,0)),bi 86 2 O J (cZ (iP e.puts at_ d))] hi ?_;rw[<-Fh (e':=(⟨e.key,e.a,O,J,e.base,e.disk,e.size,iP e.puts at_ d⟩:SeE)) he rfl rfl];refine cq b (⟨z.h,z.used,z.rows,z.S,z.L,z.n,z.ses.set (wF z.ses id) ⟨e.key,e.a,O,J,e.base,e.disk,e.size,iP e.puts at_ d⟩,z.mou,z.next⟩) bs so co bv rs rm ?_;exact an (ez b ⟨z.h,z.used,z.rows,z.S,z.L,z.n,z.ses.set (wF z.ses id) ⟨e.key,e.a,O,J,e.base,e.disk,e.size,iP e.puts at_ d⟩,z.mou,z.next⟩::F) rfl (.inr ⟨by unfold dQ;rw[R];simp only;rw[YC X,YC h6],O,J,rfl,by rw[Bu R];rfl⟩)
def um (b:Nat)(z:RpM)(id:Int)(X:RrO z)(F:List ag):Ct Tryz.prog 55 [ptr b 0,I id] (ez b z::F) (λv L'=>∃n e z2,ot z.lr id=(z2.lr,n,e)/\RrO z2/\z2.next=z.next/\v= .tuple #[I n,I e]/\L'=ez b z2::F):=by
 obtain ⟨G0,hC⟩:=X.rok.con;have hlen:=hC.v.len;refine Ct.of func55 rR 62 ntmps55 (by simp) λw0=>?_;refine eQ b z ?_;intro bs so co bv rs rm;refine gS (gA (gQ (gS (gM (gV aa (gF 2 VG rfl Xc (gL (.map (some rs)) Xj (gM (gV (d8 (v:= .pointer ((gk z.ses id).map λe=>⟨e.a,0,none⟩)) (bb:=(gk z.ses id).isSome) Xk Vf X8 (by rw[nw];cases gk z.ses id <;> rfl) (by rw[nw,ka5])) (gM (gX (.pointer ((gk z.ses id).map λe=>⟨e.a,0,none⟩)) (gX (Bo (gk z.ses id).isSome) (gA (gQ (ac (gS (gM (gV cE (ab ?_)))))))))))))))))));apply ah<;>intro O
 ·have hno:gk z.ses id=none:=(by simpa using O);refine gS (gA (gQ ?_));refine cq b (z) bs so co bv rs rm ?_;exact an (ez b z::F) rfl ⟨0,5,z,by unfold ot;rw[show z.lr.ses=z.ses.map sS from rfl,pG,hno];rfl,X,rfl,rfl,rfl⟩
 ·simp at O;obtain ⟨e,J⟩:=kaG.1 O;obtain ⟨he,hek,hi⟩:=pf J;rw[show (Value.pointer ((gk z.ses id).map λe=>⟨e.a,0,none⟩))=ptr e.a 0 by rw[J];rfl];refine ai (ac ?_);have hps:=X.rok.putS e (YW he);refine am (gM (gV aa (gF 1 VG rR WM (gL (ptr bv 0) W0 (gI (uB call128 (sw bv z.S z.L z.n (by omega))) ?_)))));rintro _ _ ⟨q,rfl,rfl⟩;refine gQ (ac ?_);refine Hb z.ses _ he ?_;refine cO (Lf:=[pt e.a (.cells #[I e.base,I e.disk,I e.size,sl e.so (e.puts.length) e.co] 219 (0,0))]) jX ?_;refine dM rR (dM rR (dV rR aa (dF rR 0 W8 rR Vb (dL rR (I e.base) Vc (dM rR (dV rR aa (dF rR 1 W8 rR Vb (dL rR (I e.disk) Vc (dM rR (dV rR aa (dF rR 2 W8 rR Vb (dL rR (I e.size) Vc (dM rR (dV rR aa (dF rR 3 W8 rR WB (dL rR (sl e.so e.puts.length e.co) W5 (d7 rR (uC call129 (Ap q z.S z.L z.n e.base e.disk e.size e.puts e.so e.co G0 hC.v (by omega) (λp hp=>by have:=hps.2 p hp;omega))) ?_)))))))))))))))));rintro v L' hv;unfold vR at hv;rcases hr:ig z.S z.L z.n e.base e.disk e.size e.puts with e0 | ⟨S1,L1,n1,r1⟩ <;> rw[hr] at hv <;> obtain ⟨rfl,rfl⟩:=hv
  ·have he0:=qg hr;refine dM rR (dV rR (aH (v:=I 0)) (dV rR (aH (v:=I e0)) (dV rR aD (dV rR aD ?_))));refine aP ?_;refine ac (gS (gM (gV bT (ab ?_))));apply ah<;>intro R
   ·simp at R;omega
   ·refine ai (ac (gS (gM (gV aT (ab ?_)))));apply ah<;>intro V
    ·refine gS (gM (gA (gQ ?_)));refine de (f:=mF) z.ses (wF z.ses id) e [pt e.a (.cells #[I e.base,I e.disk,I e.size,sl e.so e.puts.length e.co] 219 (0,0)),bi 86 2 e.so e.co (cZ e.puts)] hi ?_;rw[eG he];refine cq b (z) bs so co bv rs rm ?_;exact an (ez b z::F) rfl ⟨0,e0,z,by unfold ot;rw[show z.lr.ses=z.ses.map sS from rfl,pG,J];dsimp only[Option.map_some,sS,RpM.lr];rw[hr],X,rfl,rfl,rfl⟩
    ·simp at V;omega
  ·obtain ⟨G1,Y⟩:=qk hC hr;refine dM rR (dV rR (aH (v:=I r1)) (dV rR (aH (v:=I 0)) (dV rR aD (dV rR aD ?_))));refine aP ?_;refine ac (gS (gM (gV bT (ab ?_))));apply ah<;>intro R
   ·refine de (f:=mF) z.ses (wF z.ses id) e [pt e.a (.cells #[I e.base,I e.disk,I e.size,sl e.so e.puts.length e.co] 219 (0,0)),bi 86 2 e.so e.co (cZ e.puts)] hi ?_;rw[eG he];refine cq b (z) bs so co bv rs rm ?_;refine am (gM (gM (gI (uC call130 (sy b q z S1 L1 L1 n1 G1 X Y (Nt hC hr).1 (Nt hC hr).2 (λp hp=>hp))) ?_)));rintro _ _ ⟨Z,hu2,rfl,rfl⟩;refine gQ (ac (gS (gM (gV aT (ab ?_)))));apply ah<;>intro V
    ·simp at V
    ·refine ai (ac ?_);change Go.Sl.G _ _ _ (ez b ⟨z.h,Z,bD S1 L1 n1,S1,L1,n1,z.ses,z.mou,z.next⟩::F);refine eQ b ⟨z.h,Z,bD S1 L1 n1,S1,L1,n1,z.ses,z.mou,z.next⟩ ?_;intro bs so co bv rs rm;dsimp only;refine am (gM (gV aa (gF 2 VG rR Xc (gL (.map (some rs)) Xj (gM (ir (iv Xk Vf) ?_))))));rintro _ _ ⟨rfl,rfl⟩;rw[tZ];refine nJ (f:=mF) z.ses (lR z.ses id) ZE ?_;refine ab (gS (gM (gA (gQ ?_))));refine cq b (⟨z.h,Z,bD S1 L1 n1,S1,L1,n1,lR z.ses id,z.mou,z.next⟩) bs so co bv rs rm ?_;exact an (ez b ⟨z.h,Z,bD S1 L1 n1,S1,L1,n1,lR z.ses id,z.mou,z.next⟩::F) rfl ⟨r1,0,⟨z.h,Z,bD S1 L1 n1,S1,L1,n1,lR z.ses id,z.mou,z.next⟩,by unfold ot;rw[show z.lr.ses=z.ses.map sS from rfl,pG,J];dsimp only[Option.map_some,sS,RpM.lr];rw[hr];dsimp only;rw[Bv],(X.vau Y hu2).ses (lR z.ses id) (λx hx=>(ZV.1 hx).1),rfl,rfl,rfl⟩
   ·simp at R
def FB (b:Nat)(z:RpM)(id:Int)(V:RrO z)(F:List ag):Ct Tryz.prog 57 [ptr b 0,I id] (ez b z::F) (λv L'=>∃n e z2,Am z.lr id=(z2.lr,n,e)/\RrO z2/\z2.next=z.next/\v= .tuple #[I n,I e]/\L'=ez b z2::F):=by
 obtain ⟨G0,hC⟩:=V.rok.con;have Y:=hC.v.len;refine Ct.of func57 rR 29 ntmps57 (by simp) λw0=>?_;refine gS (gA (gQ (ac ?_)));refine eQ b z ?_;intro bs so co bv rs rm;refine am (gM (gV aa (gF 1 VG rR WM (gL (ptr bv 0) W0 (gI (uB call128 (sw bv z.S z.L z.n (by omega))) ?_)))));rintro _ _ ⟨q,rfl,rfl⟩;refine gQ ?_;refine cq b (z) bs so co bv rs rm ?_;refine gS (gM (gM (gI (uB call131 (FA q z.S z.L z.n id G0 hC.v)) ?_)));rintro v L' hv;unfold vR at hv;rcases hr:lM z.S z.L z.n id with e0 | ⟨S1,L1,n1,r1⟩ <;> rw[hr] at hv <;> obtain ⟨rfl,rfl⟩:=hv
 ·have he0:=zh hr;refine gM (gX (I 0) (gX (I e0) (gA (gQ (ac (gS (gM (gV bT (ab ?_)))))))));apply ah<;>intro J
  ·simp at J;omega
  ·refine ai (ac (gS (gM (gV aT (ab ?_)))));apply ah<;>intro O
   ·refine gS (gM (gA (gQ ?_)));exact an (ez b z::F) rfl ⟨0,e0,z,by unfold Am;dsimp only[RpM.lr];rw[hr],V,rfl,rfl,rfl⟩
   ·simp at O;omega
 ·obtain ⟨G1,R⟩:=ql hC hr;refine gM (gX (I r1) (gX (I 0) (gA (gQ (ac (gS (gM (gV bT (ab ?_)))))))));apply ah<;>intro J
  ·refine am (gM (gM (gI (uC call130 (sy b q z S1 L1 L1 n1 G1 V R (Ns hC hr).1 (Ns hC hr).2 (λp hp=>hp))) ?_)));rintro _ _ ⟨Z,X,rfl,rfl⟩;refine gQ (ac (gS (gM (gV aT (ab ?_)))));apply ah<;>intro O
   ·simp at O
   ·refine ai (gS (gM (gA (gQ ?_))));exact an (ez b (z.vau Z S1 L1 n1)::F) rfl ⟨r1,0,z.vau Z S1 L1 n1,by unfold Am;dsimp only[RpM.lr];rw[hr];rfl,V.vau R X,rfl,rfl,rfl⟩
  ·simp at J
def Aq (b:Nat)(z:RpM)(id:Int)(Y:RrO z)(F:List ag):Ct Tryz.prog 60 [ptr b 0,I id] (ez b z::F) (λv L'=>(e9 z id≠0/\v= .tuple #[I 0,I (e9 z id)]/\L'=ez b z::F)\/(e9 z id=0/\∃a r,v= .tuple #[I z.next,I 0]/\L'=ez b (z.mounted a r id)::F)):=by
 obtain ⟨G0,hC⟩:=Y.rok.con;have hlen:=hC.v.len;have hnx:=Y.rok.next;refine Ct.of func60 rR 49 ntmps60 (by simp) λw0=>?_;refine eQ b z ?_;intro bs so co bv rs rm;refine gS (gA (gQ (gS (gM (gV aa (gF 1 VG rR WM (gL (ptr bv 0) W0 (gM (gR (vB call127 (jr bv z.S z.L z.n id (by omega))) (gM (gX (.agg (aY ((bg z.L id).getD i6)).toArray) (gX (Bo (bg z.L id).isSome) (gI (aO #[I 0,I 0,I 0,I 0] VJ) ?_)))))))))))));rintro _ _ ⟨b6,rfl,rfl⟩;refine gU (ax (cs:=#[I 0,I 0,I 0,I 0]) (vs:=aY (((bg z.L id).getD i6))) (aY (((bg z.L id).getD i6))).toArray Vk (by simp) (hcs:=by exact aJ)) (gQ (ac (gS (gM (gV cE (ab ?_))))));apply ah<;>intro V
 ·simp at V;refine gS (gA (gQ ?_));refine cq b (z) bs so co bv rs rm ?_;exact an (ez b (z)::F) rfl (have ho:e9 z id=5:=by unfold e9;rw[V]
   .inl ⟨by rw[ho];decide,by rw[ho];rfl,rfl⟩)
 ·simp at V;obtain ⟨p,Z⟩:=kaG.1 V;rw[show (bg z.L id).getD i6=p by rw[Z];rfl];refine ai (ac (gS (gM (gV aa (gF 3 VG rR Xl (gL (.map (some rm)) Xs (gV (lh Xt) (gV bT (ab ?_)))))))));apply ah<;>intro X
  ·have O:z.mou.length=3:=(by simp[fq] at X;omega);refine gS (gA (gQ ?_));refine cq b (z) bs so co bv rs rm ?_;exact an (ez b (z)::F) rfl (have ho:e9 z id=8:=by unfold e9;rw[Z];simp only;rw[YB O]
    .inl ⟨by rw[ho];decide,by rw[ho];rfl,rfl⟩)
  ·have O:¬z.mou.length=3:=(by simp[fq] at X;omega);refine ai (ac (gD (Lf:=[pt b (.cells #[ptr bs 0,ptr bv 0, .map (some rs), .map (some rm),I (z.next)] 46 (0,0))]) [(0,false),(1,false),(2,false),(3,false),(4,false),(5,false),(6,false),(7,false),(8,false),(9,true),(10,false),(11,true),(12,true)] (dM rR (dV rR aa (dF rR 3 VG rR Xl (dL rR (.map (some rm)) Xs (dM rR (dV rR aa (dF rR 4 VG rR Vb (dL rR (I z.next) Vc (dM rR (d7 rR (fw) ?_))))))))))));rintro _ _ ⟨J,rfl,rfl⟩;refine dV rR (aR (SA id J)) (d7 rR (di #[I id, .map (some J)]) ?_);rintro _ _ ⟨R,rfl,rfl⟩;refine rc rR (cn Xt Vf) ?_;rintro _ _ rfl;rw[Ff (l:=z.mou) (e:=(⟨z.next,R,J,id,[]⟩:MoE)) (λx hx=>by have:=Y.rok.keyM x hx;show x.key≠z.next;omega)];refine th (f:=nA) z.mou (⟨z.next,R,J,id,[]⟩:MoE) [pt R (.cells #[I id, .map (some J)] 225 (0,0)),mp J []] rfl ?_;refine aP ?_;refine gS (gM (gV aa (gF 4 VG rfl Vb (gL (I z.next) Vc (gV (bO (r:=z.next+1) (da (by omega))) (gV aa (gF 4 VG rfl Vb (gU (aK #[ptr bs 0,ptr bv 0, .map (some rs), .map (some rm),I (z.next+1)] Vb (by simp)) (ab (gS (gM (gV aa (gF 4 VG rfl Vb (gL (I (z.next+1)) Vc (gV (fe (r:=z.next) (by rw[show z.next+1 - 1=z.next by omega];exact da (by omega))) (gA (gQ ?_)))))))))))))))));refine cq b (⟨z.h,z.used,z.rows,z.S,z.L,z.n,z.ses,z.mou++ [⟨z.next,R,J,id,[]⟩],z.next+1⟩) bs so co bv rs rm ?_;exact an (ez b (⟨z.h,z.used,z.rows,z.S,z.L,z.n,z.ses,z.mou++ [⟨z.next,R,J,id,[]⟩],z.next+1⟩)::F) rfl (.inr ⟨by unfold e9;rw[Z];simp only;rw[YC O],R,J,rfl,rfl⟩)
def Ar (b:Nat)(z:RpM)(id:Int)(F:List ag):Ct Tryz.prog 61 [ptr b 0,I id] (ez b z::F) (λv L'=>(ng z.mou id=none/\v=I 5/\L'=ez b z::F)\/(∃e,ng z.mou id=some e/\v=I 0/\L'=ez b (z.moun (DL z.mou id))::F)):=by
 refine Ct.of func61 rR 23 ntmps61 (by simp) λw0=>?_;refine eQ b z ?_;intro bs so co bv rs rm;refine gS (gQ (gS (gM (gV aa (gF 3 VG rfl Xl (gL (.map (some rm)) Xs (gM (gV (d8 (v:= .pointer ((ng z.mou id).map λe=>⟨e.a,0,none⟩)) (bb:=(ng z.mou id).isSome) Xt Vf X9 (by rw[pd];cases ng z.mou id <;> rfl) (by rw[pd,ka5])) (gM (gX (.pointer ((ng z.mou id).map λe=>⟨e.a,0,none⟩)) (gX (Bo (ng z.mou id).isSome) (gA (gQ (ac (gS (gM (gV cE (ab ?_))))))))))))))))));apply ah<;>intro J
 ·have R:ng z.mou id=none:=(by simpa using J);refine gS (gQ ?_);refine cq b (z) bs so co bv rs rm ?_;exact an (ez b (z)::F) rfl (.inl ⟨R,rfl,rfl⟩)
 ·simp at J;obtain ⟨e,O⟩:=kaG.1 J;obtain ⟨he,V,hi⟩:=ph O;rw[show (Value.pointer ((ng z.mou id).map λe=>⟨e.a,0,none⟩))=ptr e.a 0 by rw[O];rfl];refine ai (gS (gM (gV aa (gF 3 VG rR Xl (gL (.map (some rm)) Xs (gM (ir (iv Xt Vf) ?_)))))));rintro _ _ ⟨rfl,rfl⟩;rw[Fg];refine nJ (f:=nA) z.mou (DL z.mou id) ZE ?_;refine ab (gS (gQ ?_));refine cq b (⟨z.h,z.used,z.rows,z.S,z.L,z.n,z.ses,DL z.mou id,z.next⟩) bs so co bv rs rm ?_;exact an (ez b (⟨z.h,z.used,z.rows,z.S,z.L,z.n,z.ses,DL z.mou id,z.next⟩)::F) rfl (.inr ⟨e,O,rfl,rfl⟩)
def Hd {l:List Int}{k:Nat}{id:Int}{z:RpM}(h:l[k]? =some id)(J:eW z id=true):keepL (l.drop k) z.lr=keepL (l.drop (k+1)) z.lr:=by
 simp_all[gE,keepL,xx]
def He {l:List Int}{k:Nat}{id e:Int}{z z2:RpM}(h:l[k]? =some id)(J:eW z id=false)(hd:mE z.lr id=(z2.lr,e)):keepL (l.drop k) z.lr=((keepL (l.drop (k+1)) z2.lr).1,id::(keepL (l.drop (k+1)) z2.lr).2):=by
 simp_all[gE,keepL,xx]
def Nu {z z2:RpM}{id e:Int}(X:(bg z.L id).isSome=true)(Y:eW z id=false)(hd:mE z.lr id=(z2.lr,e)):e=0/\z2.L=z.L.filter (λx=>!decide (x.id=id)):=by
 have O:fI z id=0:=by
  grind[fI,Option.isNone_iff_eq_none]
 obtain ⟨p,V,L',_,_,J⟩:=GU O;unfold mE at hd;rw[qs,YC (by omega)] at hd;dsimp only[RpM.lr] at hd;rw[J] at hd;injection hd with h1 R;have S:=Yg LR.L h1;refine ⟨R.symm,?_⟩;rw[<-(IJ J).1];exact S.symm
def zP (b:Nat)(z:RpM)(id:Int)(F:List ag):Ct Tryz.prog 132 [ptr b 0,I id] (ez b z::F) (R1 (Bo (eW z id)) (ez b z::F)):=by
 refine Ct.of func132 rR 47 ntmps132 (by simp) λw0=>?_;refine eQ b z ?_;intro bs so co bv rs rm;refine gv rs (λhnS=>?_);refine gv rm (λhnM=>?_);refine gS (gQ (gS (gQ (ac (ac ?_)))));refine fj rs ?_;intro es clk;refine am (gM (gV aa (gF 2 VG rR Xc (gL (.map (some rs)) Xj (gI (ii Xk) ?_)))));rintro _ _ ⟨Y,rfl,rfl⟩;refine ab (al ?_);refine aM (α:=MM×MM×Option (Int×Value)×Bool) (λy=>(y.2.1++y.1).Perm (fp z.ses)/\(y.2.2.2=true ↔ ∃e∈z.ses,(e.key,ptr e.a 0)∈y.2.1/\e.base=id)) (λy=>U [(0,ptr b 0),(1,I id),(5,Bo y.2.2.2),(14,ptr Y 0)]) (λy=>x9 Y rs es clk y.1 y.2.2.1::sH rs es clk (fp z.ses)::pt b (.cells #[ptr bs 0,ptr bv 0, .map (some rs), .map (some rm),I (z.next)] 46 (0,0))::pt bs (.cells #[sl so (z.rows.length) co,I ((z.used:Int)),I ((200 - 122:Nat):Int)] 91 (0,0))::roL 3 so (bx z.rows)::mO bv z.S z.L z.n::big mF z.ses::mp rm (fq z.mou)::big nA z.mou::F) (λy=>y.1.length) (fp z.ses,[],none,false) ⟨.refl _,by simp⟩ [0,1,5,14] rfl ?_;rintro ⟨rest,done,cur,f⟩ ⟨hp,V⟩;simp only[] at hp V ⊢;refine gS (gI j9 ?_);rintro _ _ (⟨hr,rfl,rfl⟩ | ⟨p,O,hq,rfl,rfl⟩)
 ·subst hr;have hS:f=(z.ses.any λe=>decide (e.base=id)):=by
   rw[Bool.eq_iff_iff,V,Y4];constructor
   ·rintro ⟨x,hx,_,J⟩;exact ⟨x,hx,by simpa using J⟩
   ·rintro ⟨x,hx,J⟩;exact ⟨x,hx,(by have:=hp.mem_iff (a:=(x.key,ptr x.a 0));rw[kaE] at this;exact this.2 (Zz.2 ⟨x,hx,rfl⟩)),by simpa using J⟩
  subst hS;refine gV aH (ab (ac ?_));refine dW ?_;refine aF ?_;refine ac (ac ?_);refine bQ rs ?_;refine fj rm ?_;intro es2 R;refine am (gM (gV aa (gF 3 VG rR Xl (gL (.map (some rm)) Xs (gI (ii Xt) ?_)))));rintro _ _ ⟨Z,rfl,rfl⟩;refine ab (al ?_);refine aM (α:=MM×MM×Option (Int×Value)×Bool) (λy=>(y.2.1++y.1).Perm (fq z.mou)/\(y.2.2.2=true ↔ ((z.ses.any λe=>decide (e.base=id))=true\/∃e∈z.mou,(e.key,ptr e.a 0)∈y.2.1/\e.point=id))) (λy=>U [(0,ptr b 0),(1,I id),(5,Bo y.2.2.2),(32,ptr Z 0)]) (λy=>x9 Z rm es2 R y.1 y.2.2.1::sH rm es2 R (fq z.mou)::pt b (.cells #[ptr bs 0,ptr bv 0, .map (some rs), .map (some rm),I (z.next)] 46 (0,0))::pt bs (.cells #[sl so (z.rows.length) co,I ((z.used:Int)),I ((200 - 122:Nat):Int)] 91 (0,0))::roL 3 so (bx z.rows)::mO bv z.S z.L z.n::big mF z.ses::mp rs (fp z.ses)::big nA z.mou::F) (λy=>y.1.length) (fq z.mou,[],none,(z.ses.any λe=>decide (e.base=id))) ⟨.refl _,by simp⟩ [0,1,5,32] rfl ?_;rintro ⟨rest,done,cur,f⟩ ⟨hp,V⟩;simp only[] at hp V ⊢;refine gS (gI j9 ?_);rintro _ _ (⟨hr,rfl,rfl⟩ | ⟨p,O,hq,rfl,rfl⟩)
  ·subst hr;have hM:f=eW z id:=by
    unfold eW;rw[Bool.eq_iff_iff,V,Zi,Y4 (l:=z.mou)];constructor
    ·rintro (J | ⟨x,hx,_,J⟩)
     ·exact .inl J
     ·exact .inr ⟨x,hx,by simpa using J⟩
    ·rintro (J | ⟨x,hx,J⟩)
     ·exact .inl J
     ·exact .inr ⟨x,hx,(by have:=hp.mem_iff (a:=(x.key,ptr x.a 0));rw[kaE] at this;exact this.2 (Zz.2 ⟨x,hx,rfl⟩)),by simpa using J⟩
   refine gV aH (ab (ac ?_));refine dW ?_;refine aF ?_;refine gS (gM (gQ ?_));refine bQ rm ?_;refine cq b (z) bs so co bv rs rm ?_;exact ao rfl rfl (by show Bo f=_;rw[hM])
  ·obtain ⟨⟨i,e,he,rfl,hi⟩,X⟩:=MY hnM hp hq;refine gV aH (ab (ac ?_));refine eH ?_;refine ai (al (gS (gV ij (gX (ptr e.a 0) (gQ ?_)))));refine Hc z.mou i he ?_;refine am (gM (gM (gK aq (gK aa (gK (aw 0 XW rR Vb) (gK (az (v:=I e.point) Vc) (gK aq (gK bT (gV cu (gQ ?_))))))))));refine de (f:=nA) z.mou i e [pt e.a (.cells #[I e.point, .map (some e.r)] 225 (0,0)),mp e.r (Al e.over)] hi ?_;rw[eG he];refine aG ?_;refine ap (O,done++ [(e.key,ptr e.a 0)],some (e.key,ptr e.a 0),f || decide (e.point=id)) ⟨X,?_⟩ (by have:=hq.length_eq;simp at this;simp;omega) [0,1,5,32] rfl;rw[Zi,V,decide_eq_true_eq];constructor
   ·rintro ((J | ⟨x,hx,hm,J⟩) | J)
    ·exact .inl J
    ·exact .inr ⟨x,hx,kbc _ hm,J⟩
    ·exact .inr ⟨e,YW he,by simp,J⟩
   ·rintro (J | ⟨x,hx,hm,J⟩)
    ·exact .inl (.inl J)
    ·rcases Zn.1 hm with hm | hm
     ·exact .inl (.inr ⟨x,hx,hm,J⟩)
     ·have hk:x.key=e.key:=(by simp at hm;exact hm.1);rw[C7 hnM hx (YW he) hk] at J;exact .inr J
 ·obtain ⟨⟨i,e,he,rfl,hi⟩,X⟩:=MX hnS hp hq;refine gV aH (ab (ac ?_));refine eH ?_;refine ai (al (gS (gV ij (gX (ptr e.a 0) (gQ ?_)))));refine Hb z.ses i he ?_;refine am (gM (gM (gK aq (gK aa (gK (aw 0 W8 rR Vb) (gK (az (v:=I e.base) Vc) (gK aq (gK bT (gV cu (gQ ?_))))))))));refine de (f:=mF) z.ses i e [pt e.a (.cells #[I e.base,I e.disk,I e.size,sl e.so e.puts.length e.co] 219 (0,0)),bi 86 2 e.so e.co (cZ e.puts)] hi ?_;rw[eG he];refine aG ?_;refine ap (O,done++ [(e.key,ptr e.a 0)],some (e.key,ptr e.a 0),f || decide (e.base=id)) ⟨X,?_⟩ (by have:=hq.length_eq;simp at this;simp;omega) [0,1,5,14] rfl;rw[Zi,V,decide_eq_true_eq];constructor
  ·rintro (⟨x,hx,hm,J⟩ | J)
   ·exact ⟨x,hx,kbc _ hm,J⟩
   ·exact ⟨e,YW he,by simp,J⟩
  ·rintro ⟨x,hx,hm,J⟩;rcases Zn.1 hm with hm | hm
   ·exact .inl ⟨x,hx,hm,J⟩
   ·have hk:x.key=e.key:=(by simp at hm;exact hm.1);rw[C6 hnS hx (YW he) hk] at J;exact .inr J
def zQ (b:Nat)(z:RpM)(id:Int)(Z:RrO z)(F:List ag):Ct Tryz.prog 58 [ptr b 0,I id] (ez b z::F) (λv L'=>∃e z2,mE z.lr id=(z2.lr,e)/\RrO z2/\z2.ses=z.ses/\z2.mou=z.mou/\z2.next=z.next/\v=I e/\L'=ez b z2::F):=by
 obtain ⟨G0,hC⟩:=Z.rok.con;have hlen:=hC.v.len;refine Ct.of func58 rR 35 ntmps58 (by simp) λw0=>?_;refine gS (gQ (ac ?_));refine eQ b z ?_;intro bs so co bv rs rm;refine am (gM (gV aa (gF 1 VG rR WM (gL (ptr bv 0) W0 (gM (gR (vB call127 (jr bv z.S z.L z.n id (by omega))) (gM (gX (.agg (aY ((bg z.L id).getD i6)).toArray) (gX (Bo (bg z.L id).isSome) (gI (aO #[I 0,I 0,I 0,I 0] VJ) ?_))))))))));rintro _ _ ⟨b5,rfl,rfl⟩;refine gU (ax (cs:=#[I 0,I 0,I 0,I 0]) (vs:=aY (((bg z.L id).getD i6))) (aY (((bg z.L id).getD i6))).toArray Vk (by simp) (hcs:=by exact aJ)) (gQ (ac (gS (gM (gV cE (ab ?_))))));apply ah<;>intro O
 ·simp at O;refine gS (gQ ?_);refine cq b (z) bs so co bv rs rm ?_;have J:fI z id=5:=(by unfold fI;rw[O];rfl);exact an (ez b z::F) rfl ⟨5,z,by unfold mE;rw[qs,YB (by omega),J],Z,rfl,rfl,rfl,rfl,rfl⟩
 ·simp at O;obtain ⟨p,hf⟩:=kaG.1 O;rw[show (bg z.L id).getD i6=p by rw[hf];rfl];refine ai (ac ?_);refine cq b (z) bs so co bv rs rm ?_;refine am (gM (gM (gR (vB call132 (zP b z id)) (gQ (ac (gS (gM (ab ?_))))))));apply ah<;>intro X
  ·have V:eW z id=true:=X;refine gS (gQ ?_);have J:fI z id=6:=(by unfold fI;rw[hf,V];rfl);exact an (ez b z::F) rfl ⟨6,z,by unfold mE;rw[qs,YB (by omega),J],Z,rfl,rfl,rfl,rfl,rfl⟩
  ·have V:eW z id=false:=(by simpa using X);have J:fI z id=0:=(by unfold fI;rw[hf,V];rfl);refine ai (ac ?_);refine eQ b z ?_;intro bs so co bv rs rm;refine am (gM (gV aa (gF 1 VG rR WM (gL (ptr bv 0) W0 (gI (uB call128 (sw bv z.S z.L z.n (by omega))) ?_)))));rintro _ _ ⟨q,rfl,rfl⟩;refine gQ ?_;refine cq b (z) bs so co bv rs rm ?_;refine gS (gM (gM (gI (uB call133 (G9 q z.S z.L z.n id G0 hC.v)) ?_)));obtain ⟨p1,S1,L1,hf1,hus1,R⟩:=GU (z:=z) (id:=id) J;obtain ⟨G1,Y⟩:=zj hC R;rintro v L' hv;unfold S0 at hv;rw[R] at hv;obtain ⟨rfl,rfl⟩:=hv;refine ab (gS (gM (gM (gI (uC call130 (sy b q z S1 L1 z.L z.n G1 Z Y (by omega) (λp hp=>hp) (λp hp=>by rw[(IJ R).1] at hp;exact (ZV.1 hp).1))) ?_))));rintro _ _ ⟨u2,hu2,rfl,rfl⟩;refine gQ ?_;exact an (ez b (z.vau u2 S1 L1 z.n)::F) rfl ⟨0,(z.vau u2 S1 L1 z.n),by unfold mE;rw[qs,YC (by omega)];dsimp only[RpM.lr];rw[R];rfl,Z.vau Y hu2,rfl,rfl,rfl,rfl,rfl⟩
def Hf (b:Nat)(z0:RpM)(disk many:Int)(hR0:RrO z0)(hm:many<=9223372036854775807)(F:List ag):Ct Tryz.prog 59 [ptr b 0,I disk,I many] (ez b z0::F) (λv L'=>(many<0/\v= .tuple #[sl none 0 0,I 1]/\L'=ez b z0::F)\/(0<=many/\∃gone z2 s c,keepL (eP z0.L disk many) z0.lr=(z2.lr,gone)/\RrO z2/\z2.next=z0.next/\v= .tuple #[sl s gone.length c,I 0]/\L'=bi 3 1 s c (bz gone)::ez b z2::F)):=by
 obtain ⟨G0,hC⟩:=hR0.rok.con;have hlen:=hC.v.len;have hel:=q6 z0.L disk many hlen;obtain ⟨hnd,hin0⟩:=Nb hC.v disk many;refine Ct.of func59 rR 52 ntmps59 (by simp) λw0=>?_;refine gS (gA (gQ (ac (gS (gM (gV aI (ab ?_)))))));apply ah<;>intro h14
 ·have hmn:many<0:=(by simpa using h14);refine gS (gA (gQ ?_));exact an (ez b z0::F) rfl (.inl ⟨hmn,rfl,rfl⟩)
 ·have hmn:¬many<0:=(by simpa using h14);refine ai (gS (gQ (ac ?_)));refine eQ b z0 ?_;intro bs so co bv rs rm;refine am (gM (gV aa (gF 1 VG rR WM (gL (ptr bv 0) W0 (gM (gM (gI (uB call134 (Dt bv z0.S z0.L z0.n disk many (by omega) hm)) ?_)))))));rintro _ _ ⟨s21,c21,rfl,rfl⟩;refine bR s21 ?_;refine gQ ?_;refine cq b (z0) bs so co bv rs rm ?_;refine bH 3 1 (bz []) ?_;refine ac (gS (gQ (al ?_)));refine aM (α:=Nat×RpM×List Int×Option Addr×Nat) (λy=>y.1<=(eP z0.L disk many).length/\y.2.2.1.length<=y.1/\RrO y.2.1/\y.2.1.next=z0.next/\(∀q∈(eP z0.L disk many).drop y.1,(bg y.2.1.L q).isSome=true)/\keepL (eP z0.L disk many) z0.lr=((keepL ((eP z0.L disk many).drop y.1) y.2.1.lr).1,y.2.2.1++(keepL ((eP z0.L disk many).drop y.1) y.2.1.lr).2)) (λy=>U [(0,ptr b 0),(8,sl y.2.2.2.1 y.2.2.1.length y.2.2.2.2),(9,sl s21 (eP z0.L disk many).length c21),(10,I y.1)]) (λy=>bi 3 1 y.2.2.2.1 y.2.2.2.2 (bz y.2.2.1)::ez b y.2.1::roL 1 s21 (bz (eP z0.L disk many))::F) (λy=>(eP z0.L disk many).length - y.1) (0,z0,[],none,0) ⟨by simp,by simp,hR0,rfl,by simpa using hin0,by simp⟩ [0,8,9,10] rfl ?_;rintro ⟨k,z,gone,s8,c8⟩ ⟨hk,hgl,hR,V,R,Z⟩;simp only[] at hk hgl hR V R Z ⊢;refine ac (gS (gM (gM (gV (aX Vi) (gV aI (ab ?_))))));apply ah<;>intro h25
  ·simp at h25;have O:k<(eP z0.L disk many).length:=(by omega);obtain ⟨id,J⟩:∃id,(eP z0.L disk many)[k]? =some id:=⟨_,Zu O⟩;refine ai (ac (al (gS (gM (gM (gM (gV (ay k Vi Vb O (by rw[bW];exact O)) (gV (bI (v:=I id) Vc (by exact dN J) rR) (gR (vB call132 (zP b z id)) (gQ (ac (gS (gM (ab ?_))))))))))))));apply ah<;>intro h34
   ·have X:eW z id=true:=h34;refine aF ?_;refine am (gM (gV (bO (r:=((k+1:Nat):Int)) (da (by omega))) (gQ ?_)));exact ap (k+1,z,gone,s8,c8) ⟨by simp only[];omega,by simp only[];omega,hR,V,(λq hq=>R q (by rw[gE J];exact kac _ hq)),by rw[Z,Hd J X]⟩ (by simp only[];omega) [0,8,9,10] rfl
   ·have X:eW z id=false:=(by simpa using h34);refine ai (ac (gS (gM (gM (gM (gV (ay k Vi Vb O (by rw[bW];exact O)) (gV (bI (v:=I id) Vc (by exact dN J) rR) (gI (uB call58 (zQ b z id hR)) ?_))))))));rintro _ _ ⟨e,z2,hdr,hR2,hs2,hm2,hx2,rfl,rfl⟩;obtain ⟨rfl,hL2⟩:=Nu (R id (by rw[gE J];simp)) X hdr;refine gQ (gS (gM (gV aT (ab ?_))));apply ah<;>intro h42
    ·simp at h42
    ·refine ai (am (gM (gM (gM (gV (ay k Vi Vb O (by rw[bW];exact O)) (gV (bI (v:=I id) Vc (by exact dN J) rR) (gI (av [[I id]] Vi Vb VL (by simp)) ?_)))))));rintro _ _ ⟨b49,rfl,rfl⟩;refine gI (bo Vi Vb VL Tryz.typeInfo3 (hn:=by exact bW _) (by simp) (by intro r hr;simp at hr;subst hr;rfl) ⟨by omega,by decide,by decide⟩) ?_;rintro _ _ ⟨s50,c50,rfl,rfl⟩;rw[show bz gone++ [[I id]]=bz (gone++ [id]) by simp[bz],show gone.length+1=(gone++ [id]).length by simp];refine gQ (aG (am (gM (gV (bO (r:=((k+1:Nat):Int)) (da (by omega))) (gQ ?_)))));exact ap (k+1,z2,gone++ [id],s50,c50) ⟨by simp only[];omega,by simp only[Z1,YF,kay];omega,hR2,hx2.trans V,(λq hq=>by
      have Y:((eP z0.L disk many).drop k).Nodup:=hnd.sublist (List.drop_sublist _ _);rw[gE J,ZL] at Y;obtain ⟨p,hp,hpq⟩:=find_is.1 (R q (by rw[gE J];exact kac _ hq));exact find_is.2 ⟨p,by rw[hL2];exact ZV.2 ⟨hp,by simp;intro e;exact Y.1 (by rw[<-e,hpq];exact hq)⟩,hpq⟩),by rw[Z,He J X hdr];simp⟩ (by simp only[];omega) [0,8,9,10] rfl
  ·simp at h25;obtain rfl:k=(eP z0.L disk many).length:=(by omega);rw[kah] at Z;have Z:keepL (eP z0.L disk many) z0.lr=(z.lr,gone):=(by rw[Z];show (z.lr,gone++ [])=_;rw[kaE]);refine aF ?_;refine gS (gM (gA (gQ ?_)));exact an (bi 3 1 s8 c8 (bz gone)::ez b z::F) rfl (.inr ⟨by omega,gone,z,s8,c8,Z,hR,V,rfl,rfl⟩)
def Hg (S:SI)(L:List Pt)(id at_:Int):0<=(py S L id at_).2:=by
 grind[py]
def Dw (b J:Nat)(S:SI)(L:List Pt)(n:Int)(X:Gh)(V:Vok S L n X)(F:List ag):Ct Tryz.prog 15 [ptr b 0,ptr J 0] (gO b S L n::mO J S L n::F) (R1 (Bo true) (gO b S L n::mO J S L n::F)):=by
 have hok:=kM V;have Y:=V.len;refine Ct.of func15 rR 35 ntmps15 (by simp) λw0=>?_;refine ik b S L n ?_;intro x s c;refine gY J S L n ?_;intro O s2 c2;refine gS (gQ (ac (ac (gD (Lf:=[pt b (.cells #[ptr x 0,sl s (L).length c,I (n)] 123 (0,0)),pt J (.cells #[ptr O 0,sl s2 (L).length c2,I (n)] 126 (0,0))]) [(0,false),(1,false),(2,false),(3,false),(4,false),(5,false),(6,false),(7,false),(8,true),(9,false),(10,false),(11,false),(12,false),(13,false),(14,false),(15,false),(16,false),(17,false),(18,false),(19,false),(20,false)] (dM rR (dV rR aa (dF rR 0 Vr rR VK (dL rR (ptr x 0) VN (dM rR (dV rR aa (dF rR 0 VE rR WD (dL rR (ptr O 0) WL (d7 rR (uC call64 (Du x O S 200 hok (by decide))) ?_)))))))))))));rintro _ _ ⟨rfl,rfl⟩;refine dV rR cE (dM rR (aN rR (hw:=by simp) aq (aN rR (hw:=by simp) aa (aN rR (hw:=by simp) (aw 2 Vr rR Vb) (aN rR (hw:=by simp) (az (v:=I n) Vc) (aN rR (hw:=by simp) aq (aN rR (hw:=by simp) aa (aN rR (hw:=by simp) (aw 2 VE rR Vb) (aN rR (hw:=by simp) (az (v:=I n) Vc) (aN rR (hw:=by simp) fZ (dV rR cu ?_)))))))))));refine aP ?_;apply ah<;>intro R
 ·simp at R
 ·refine ai (ac (gD (Lf:=[pt b (.cells #[ptr x 0,sl s (L).length c,I (n)] 123 (0,0)),pt J (.cells #[ptr O 0,sl s2 (L).length c2,I (n)] 126 (0,0))]) [(0,false),(1,false),(2,false),(3,false),(4,false),(5,false),(6,false),(7,false),(8,true),(9,false)] (dM rR (dV rR aa (dF rR 1 Vr rR Vx (dL rR (sl s (L).length c) VM (dM rR (dV rR aa (dF rR 1 VE rR Vx (dL rR (sl s2 L.length c2) VM (d7 rR (uC call65 (wG L L s s2 c c2 (by omega))) ?_)))))))))));rintro _ _ ⟨rfl,rfl⟩;refine dV rR aD ?_;refine aP ?_;refine el J O s2 c2 S L n ?_;refine cC b x s c S L n ?_
  first | exact ao rfl rfl (by simp[rN]) | exact fY rfl rfl (by simp[rN])
-- counterfoil/counterfoillaw.vaults is not in this seat
-- counterfoil/counterfoillaw.VaultSays is not in this seat
def Uf (bs bv rs rm:Nat)(w:World):(Instr.build 46 #[(0,ptr bs 0),(1,ptr bv 0),(2, .map (some rs)),(3, .map (some rm)),(4,I 1)]).run Tryz.prog w= .ok (.agg #[ptr bs 0,ptr bv 0, .map (some rs), .map (some rm),I 1]) w:=by
 simp[Instr.build,zeroValue46,runUnderlying46,Vb,XV,WM,Xc,Xl,Instr.fill,bB,show ∀k:Int,(I k).cells=#[I k] from λ_=>rfl,show ∀k:Nat,(ptr k 0).cells=#[ptr k 0] from λ_=>rfl,show ∀r:Nat,(Value.map (some r)).cells=#[.map (some r)] from λ_=>rfl]
def Ug (n:Int)(w:World):(Instr.build 91 #[(2,I n)]).run Tryz.prog w= .ok (.agg #[sl none 0 0,I 0,I n]) w:=by
 simp[Instr.build,zeroValue91,runUnderlying91,Vb,Instr.fill,bB,sl,show ∀k:Int,(I k).cells=#[I k] from λ_=>rfl]
def Nv (z:RpM)(id at_:Int):0<=(dw z id at_).2:=by
 unfold dw;split
 ·decide
 ·split
  ·exact Hg _ _ _ _
  grind
def zR (b:Nat)(z:RpM)(id at_:Int)(hR:RrO z)(F:List ag):Ct Tryz.prog 62 [ptr b 0,I id,I at_] (ez b z::F) (R1 (.tuple #[aC (dw z id at_).1,I (dw z id at_).2]) (ez b z::F)):=by
 obtain ⟨Z,hC⟩:=hR.rok.con;have Y:=hC.v.len;refine Ct.of func62 rR 53 ntmps62 (by simp) λw0=>?_;refine eQ b z ?_;intro bs so co bv rs rm;refine gS (gA (gQ (gS (gM (gV aa (gF 3 VG rfl Xl (gL (.map (some rm)) Xs (gM (gV (d8 (v:= .pointer ((ng z.mou id).map λe=>⟨e.a,0,none⟩)) (bb:=(ng z.mou id).isSome) Xt Vf X9 (by rw[pd];cases ng z.mou id <;> rfl) (by rw[pd,ka5])) (gM (gX (.pointer ((ng z.mou id).map λe=>⟨e.a,0,none⟩)) (gX (Bo (ng z.mou id).isSome) (gA (gQ (ac (gS (gM (gV cE (ab ?_)))))))))))))))))));apply ah<;>intro O
 ·have X:ng z.mou id=none:=(by simpa using O);refine gS (gA (gQ ?_));refine cq b (z) bs so co bv rs rm ?_;rw[show dw z id at_=([],5) by unfold dw;rw[X]];exact ao rfl rfl rfl
 ·simp at O;obtain ⟨e,J⟩:=kaG.1 O;obtain ⟨he,hek,hi⟩:=ph J;rw[show (Value.pointer ((ng z.mou id).map λe=>⟨e.a,0,none⟩))=ptr e.a 0 by rw[J];rfl];refine ai (ac ?_);refine Hc z.mou _ he ?_;refine cO (Lf:=[pt b (.cells #[ptr bs 0,ptr bv 0, .map (some rs), .map (some rm),I (z.next)] 46 (0,0)),pt e.a (.cells #[I e.point, .map (some e.r)] 225 (0,0))]) jO ?_;refine dM rR (dV rR aa (dF rR 1 VG rR WM (dL rR (ptr bv 0) W0 (dM rR (dV rR aa (dF rR 0 XW rR Vb (dL rR (I e.point) Vc (dM rR (d7 rR (uB call135 (Ha bv z.S z.L z.n e.point at_ Z hC.v)) ?_)))))))));rintro _ _ ⟨rfl,rfl⟩;refine dM rR (dV rR (aH (v:=aC (py z.S z.L e.point at_).1)) (dV rR (aH (v:=I (py z.S z.L e.point at_).2)) (dV rR aD (dV rR aD ?_))));refine aP ?_;refine ac (gS (gM (gV aT (ab ?_))));apply ah<;>intro R
  ·have hrd:(py z.S z.L e.point at_).2≠0:=(by simp at R;omega);refine gS (gM (gA (gQ ?_)));refine de (f:=nA) z.mou (DO z.mou id) e [pt e.a (.cells #[I e.point, .map (some e.r)] 225 (0,0)),mp e.r (Al e.over)] hi ?_;rw[eG he];refine cq b (z) bs so co bv rs rm ?_;rw[show dw z id at_=([],(py z.S z.L e.point at_).2) by unfold dw;rw[J];simp only;rw[YB hrd]];exact ao rfl rfl rfl
  ·have hrd:¬(py z.S z.L e.point at_).2≠0:=(by have:=Hg z.S z.L e.point at_;simp at R;omega);refine ai (gS (gM (gV aa (gF 1 XW rR XB (gL (.map (some e.r)) XT (gM (gV (d8 (v:=aC ((DK e.over at_).getD [])) (bb:=(DK e.over at_).isSome) XU Vf XG (IB _ _) (QJ _ _)) (gM (gX (aC ((DK e.over at_).getD [])) (gX (Bo (DK e.over at_).isSome) (gA (gQ (ac (gS (gM (ab ?_))))))))))))))));apply ah<;>intro V
   ·obtain ⟨t,ht⟩:=kaG.1 V;rw[ht];refine gS (gM (gA (gQ ?_)));refine de (f:=nA) z.mou (DO z.mou id) e [pt e.a (.cells #[I e.point, .map (some e.r)] 225 (0,0)),mp e.r (Al e.over)] hi ?_;rw[eG he];refine cq b (z) bs so co bv rs rm ?_;rw[show dw z id at_=(t,0) by unfold dw;rw[J];simp only;rw[YC hrd,ht]];exact ao rfl rfl rfl
   ·have ht:DK e.over at_=none:=(by simpa using V);refine ai (gS (gM (gA (gQ ?_))));refine de (f:=nA) z.mou (DO z.mou id) e [pt e.a (.cells #[I e.point, .map (some e.r)] 225 (0,0)),mp e.r (Al e.over)] hi ?_;rw[eG he];refine cq b (z) bs so co bv rs rm ?_;rw[show dw z id at_=((py z.S z.L e.point at_).1,0) by unfold dw;rw[J];simp only;rw[YC hrd,ht]];exact ao rfl rfl rfl
def FC (b:Nat)(z:RpM)(id at_:Int)(d:ak)(X:RrO z)(Y:d.length<=9223372036854775807)(F:List ag):Ct Tryz.prog 63 [ptr b 0,I id,I at_,aC d] (ez b z::F) (λv L'=>(ei z id at_ d≠0/\v=I (ei z id at_ d)/\L'=ez b z::F)\/(ei z id at_ d=0/\v=I 0/\L'=ez b (z.written id at_ d)::F)):=by
 refine Ct.of func63 rR 35 ntmps63 (by simp) λw0=>?_;refine gS (gQ (gS (gM (gM (gM (gR (vB call62 (zR b z id at_ X)) (gM (gX (aC (dw z id at_).1) (gX (I (dw z id at_).2) (gA (gQ (ac (gS (gM (gV aT (ab ?_))))))))))))))));apply ah<;>intro O
 ·have hrd:(dw z id at_).2≠0:=(by simp at O;omega);refine gS (gM (gQ ?_));exact an (ez b z::F) rfl (.inl ⟨by unfold ei;rw[YB hrd];exact hrd,by unfold ei;rw[YB hrd];rfl,rfl⟩)
 ·have hrd:(dw z id at_).2=0:=(by have:=Nv z id at_;simp at O;omega);refine ai (ac (gS (gM (gV (cW Vg) (gV aT (ab ?_))))));apply ah<;>intro R
  ·have V:6<d.length:=(by simp at R;omega);refine gS (gQ ?_);exact an (ez b z::F) rfl (.inl ⟨by unfold ei;rw[YC (by omega),YB V];decide,by unfold ei;rw[YC (by omega),YB V];rfl,rfl⟩)
  ·have V:¬6<d.length:=(by simp at R;omega);refine ai (ac ?_);refine eQ b z ?_;intro bs so co bv rs rm;obtain ⟨e,J⟩:∃e,ng z.mou id=some e:=by
    cases hq:ng z.mou id with
    | none=>exact absurd (show (dw z id at_).2=5 by unfold dw;rw[hq]) (by omega)
    | some e=>exact ⟨e,rfl⟩
   obtain ⟨he,Z,hi⟩:=ph J;refine Hc z.mou _ he ?_;refine am (gM (gV aa (gF 3 VG rR Xl (gL (.map (some rm)) Xs (gM (gV (cI (v:=ptr e.a 0) Xt Vf X9 (by rw[pd,J];rfl)) (gV aa (gF 1 XW rR XB (gL (.map (some e.r)) XT (gM (gM (ir (cn XU Vf) ?_))))))))))));rintro _ _ rfl;rw[IA];refine ab (gS (gQ ?_));refine de (f:=nA) z.mou (DO z.mou id) ⟨e.key,e.a,e.r,e.point,GT e.over at_ d⟩ [pt e.a (.cells #[I e.point, .map (some e.r)] 225 (0,0)),mp e.r (Al (GT e.over at_ d))] hi ?_;rw[<-Fj (e':=⟨e.key,e.a,e.r,e.point,GT e.over at_ d⟩) he rfl rfl];refine cq b (⟨z.h,z.used,z.rows,z.S,z.L,z.n,z.ses,z.mou.set (DO z.mou id) ⟨e.key,e.a,e.r,e.point,GT e.over at_ d⟩,z.next⟩) bs so co bv rs rm ?_;exact an (ez b ⟨z.h,z.used,z.rows,z.S,z.L,z.n,z.ses,z.mou.set (DO z.mou id) ⟨e.key,e.a,e.r,e.point,GT e.over at_ d⟩,z.next⟩::F) rfl (.inr ⟨by unfold ei;rw[YC (by omega),YC V],rfl,by rw[GY J];rfl⟩)
def Ks (bs bv:Nat)(F:List ag):Ct Tryz.prog 11 [ptr bs 0,ptr bv 0] (F) (λv L'=>∃b rs rm,v=ptr b 0/\L'=pt b (.cells #[ptr bs 0,ptr bv 0, .map (some rs), .map (some rm),I 1] 46 (0,0))::mp rs (fp [])::big mF []::mp rm (fq [])::big nA []::F):=by
 refine Ct.of func11 rR 11 ntmps11 (by simp) λw0=>?_;refine gS (gQ (gS (gM (gM (gI (fw) ?_)))));rintro _ _ ⟨O,rfl,rfl⟩;refine gI (fw) ?_;rintro _ _ ⟨R,rfl,rfl⟩;refine gV (aR (Uf bs bv O R)) (gI (di #[ptr bs 0,ptr bv 0, .map (some O), .map (some R),I 1]) ?_);rintro _ _ ⟨J,rfl,rfl⟩;refine gQ ?_;refine tg mF ?_;refine tg nA ?_;exact an (pt J (.cells #[ptr bs 0,ptr bv 0, .map (some O), .map (some R),I 1] 46 (0,0))::mp O []::big mF []::mp R []::big nA []::F) rfl ⟨J,O,R,rfl,rfl⟩
def cm_first:xf (200 - 122) [] (bD (bu gZ) [] 1)=0/\cU [] (bD (bu gZ) [] 1)=bD (bu gZ) [] 1:=by rw[Bs];decide
def vM:∀{l:List Int} {σ:LR},(keepL l σ).2.length<=l.length/\∀g∈(keepL l σ).2,g∈l
 | [],σ=>by simp[keepL]
 | id::l,σ=>by
  unfold keepL;split
  ·have:=vM (l:=l) (σ:=σ)
   grind
  ·have:=vM (l:=l) (σ:=(mE σ id).1)
   grind
def Dx {z:RpM}{k at_:Int}{d:ak}:(z.written k at_ d).next=z.next:=by
 unfold RpM.written;split <;> rfl
theorem RrO.mounted {z:RpM}(R:RrO z){a r:Nat}{id:Int}(hn:z.next<=999999):RrO (z.mounted a r id):=R.rest (by
 have J:=R.rok.next;refine ⟨R.rok.con,by show 1<=z.next+1/\z.next+1<=1000000;omega,λe he=>by have:=R.rok.keyS e he;show 1<=e.key/\e.key<z.next+1;omega,λe he=>?_,R.rok.sesS⟩;rcases Zn.1 he with he | he
 ·have:=R.rok.keyM e he;show 1<=e.key/\e.key<z.next+1;omega
 ·rw[kad] at he;subst he;show 1<=z.next/\z.next<z.next+1;omega) rfl rfl rfl rfl rfl
theorem RrO.written {z:RpM}(R:RrO z)(k at_:Int)(d:ak):RrO (z.written k at_ d):=by
 unfold RpM.written;split
 ·exact R
 ·rename_i m J;obtain ⟨hy,_,_⟩:=ph J;refine R.mou _ λe he=>?_;rcases q8 he with he | rfl
  ·exact R.rok.keyM e he
  ·exact R.rok.keyM m (YW hy)
def wH (F:List ag):Ct Tryz.prog 9 [I 78] (F) (λv L'=>∃b J,J<=200 - 122/\v=ptr b 0/\L'=ez b ⟨hd1,J,bD (bu gZ) [] 1,bu gZ,[],1,[],[],1⟩::F):=by
 refine Ct.of func9 rR 20 ntmps9 (by simp) λw0=>?_;refine gS (gQ (gS (gM (gV (aR (Ug 78)) (gI (di #[sl none 0 0,I 0,I 78]) ?_)))));rintro _ _ ⟨O,rfl,rfl⟩;refine gI (uA call38 (Ao)) ?_;rintro _ _ ⟨bv,rfl,rfl⟩;refine gI (uA call11 (Ks O bv)) ?_;rintro _ _ ⟨b,rs,rm,rfl,rfl⟩;refine gQ (ac ?_);refine cO (Lf:=[pt b (.cells #[ptr O 0,ptr bv 0, .map (some rs), .map (some rm),I 1] 46 (0,0))]) jS ?_;refine dM rR (dV rR aa (dF rR 0 VG rR XV (dL rR (ptr O 0) isAgg41 (dM rR (dV rR aa (dF rR 1 VG rR WM (dL rR (ptr bv 0) W0 (d7 rR (uB call40 (vL bv (bu gZ) [] 1 Con_z.sm)) ?_))))))));rintro _ _ ⟨V,X,rfl,rfl⟩;refine bR V ?_;refine sM 3 (bx []) ?_;rw[show (78:Int)=((200 - 122:Nat):Int) by decide];refine d7 rR (uD call39 (m8 O [] (bD (bu gZ) [] 1) none V 0 X 0 (200 - 122) (by decide) .nil (by rw[Bs];simp) ⟨by decide,by decide⟩)) ?_;rintro _ _ (⟨hne,_,_⟩ | ⟨_,s2,R,rfl,rfl⟩)
 ·exact absurd cm_first.1 hne
 rw[cm_first.2];have S:((if 200 - 122 - 0<(bD (bu gZ) [] 1).length+1 then 0 else 0)+(bD (bu gZ) [] 1).length+1)<=200 - 122:=(by rw[Bs];decide);generalize ((if 200 - 122 - 0<(bD (bu gZ) [] 1).length+1 then 0 else 0)+(bD (bu gZ) [] 1).length+1)=J at S ⊢;refine aP ?_;refine gS (gM (gQ ?_));refine cq b ⟨hd1,J,bD (bu gZ) [] 1,bu gZ,[],1,[],[],1⟩ O s2 R bv rs rm ?_;exact an (ez b ⟨hd1,J,bD (bu gZ) [] 1,bu gZ,[],1,[],[],1⟩::F) rfl ⟨b,J,S,rfl,rfl⟩
def Dy (b:Nat)(z:RpM)(x:ActM)(y:ActZ)(hR:RrO z)(hn:z.next<=999998)(hxs:x.s.length<=9223372036854775807)(hxb:x.b<=9223372036854775807)(F:List ag):Ct Tryz.prog 13 [ptr b 0, .agg (fP x y).toArray] (ez b z::F) (λv L'=>∃n s e z2,gW z.lr x=(z2.lr,n,s,e)/\RrO z2/\z2.next<=z.next+1/\v= .tuple #[I n,aC s,I e]/\L'=ez b z2::F):=by
 refine Ct.of func13 rR 156 ntmps13 (by simp) λw0=>?_;refine gS (gI (di (fP x y).toArray) ?_);rintro _ _ ⟨b3,rfl,rfl⟩;refine gA (gA (gQ (ac (gS (gF 0 Vm rR Vh (gL (aC x.kind) Vj (ab (al (gS (gV cj (gQ ?_)))))))))));apply ah<;>intro h23
 ·have J:x.kind=oa:=(by simpa [oa] using h23);refine gS (gM (gF 2 Vm rR Vb (gL (I x.a) Vc (gF 3 Vm rR Vb (gL (I x.b) Vc (gF 4 Vm rR Vb (gL (I x.c) Vc (gI (uB call53 (ws b z x.a x.b x.c hR)) ?_))))))));rintro _ _ (⟨he,rfl,rfl⟩ | ⟨he,a,rfl,rfl⟩)
  ·refine gM (gX (I 0) (gX (I (ce z x.a x.b x.c)) (gA (gQ (gS (gM (gM (gA (gA (gQ ?_))))))))));exact an (ez b (z)::F) rfl ⟨0,[],ce z x.a x.b x.c,z,by unfold gW;rw[YB J];rw[ku,YB he],hR,by show z.next<=_;omega,rfl,rfl⟩
  ·refine gM (gX (I z.next) (gX (I 0) (gA (gQ (gS (gM (gM (gA (gA (gQ ?_))))))))));exact an (ez b (z.begun a x.a x.b x.c)::F) rfl ⟨z.next,[],0,z.begun a x.a x.b x.c,by unfold gW;rw[YB J];rw[ku,YC (by omega),uh];rfl,hR.begun (by omega) he,kaH _,rfl,rfl⟩
 ·have J:¬x.kind=oa:=(by simpa [oa] using h23);refine gS (gV cj (gQ ?_));apply ah<;>intro h38
  ·have O:x.kind=oc:=(by simpa [oc] using h38);refine gS (gM (gF 2 Vm rR Vb (gL (I x.a) Vc (gF 3 Vm rR Vb (gL (I x.b) Vc (gF 1 Vm rR Vh (gL (aC x.s) Vj (gI (uB call54 (BJ b z x.a x.b x.s hR hxs)) ?_))))))));rintro _ _ (⟨he,rfl,rfl⟩ | ⟨he,so,co,rfl,rfl⟩)
   ·refine gA (gA (gQ ?_));exact an (ez b (z)::F) rfl ⟨0,[],dQ z x.a x.b x.s,z,by unfold gW;rw[YC J,YB O];rw[Dh,YB he],hR,by show z.next<=_;omega,rfl,rfl⟩
   ·refine gA (gA (gQ ?_));exact an (ez b (z.putted x.a x.b x.s so co)::F) rfl ⟨0,[],0,z.putted x.a x.b x.s so co,by unfold gW;rw[YC J,YB O];rw[Dh,YC (by omega),q9],hR.put he,by rw[(ld z x.a x.b x.s so co).2.2.2.2.2.2.2];omega,rfl,rfl⟩
  ·have O:¬x.kind=oc:=(by simpa [oc] using h38);refine gS (gV cj (gQ ?_));apply ah<;>intro h48
   ·have R:x.kind=od:=(by simpa [od] using h48);refine gS (gM (gF 2 Vm rR Vb (gL (I x.a) Vc (gI (uB call55 (um b z x.a hR)) ?_))));rintro _ _ ⟨n,e,z2,hf,hR2,hx2,rfl,rfl⟩
    ·refine gM (gX (I n) (gX (I e) (gA (gQ (gS (gM (gM (gA (gA (gQ ?_))))))))));exact an (ez b (z2)::F) rfl ⟨n,[],e,z2,by unfold gW;rw[YC J,YC O,YB R];rw[hf],hR2,by omega,rfl,rfl⟩
   ·have R:¬x.kind=od:=(by simpa [od] using h48);refine gS (gV cj (gQ ?_));apply ah<;>intro h59
    ·have V:x.kind=oe:=(by simpa [oe] using h59);refine gS (gM (gF 2 Vm rR Vb (gL (I x.a) Vc (gI (uB call56 (wt b z x.a)) ?_))));rintro _ _ (⟨he,rfl,rfl⟩ | ⟨w,he,rfl,rfl⟩)
     ·refine gA (gA (gQ ?_));exact an (ez b (z)::F) rfl ⟨0,[],5,z,by unfold gW;rw[YC J,YC O,YC R,YB V];unfold vx;rw[show z.lr.ses=z.ses.map sS from rfl,pG,he];rfl,hR,by show z.next<=_;omega,rfl,rfl⟩
     ·refine gA (gA (gQ ?_));exact an (ez b (z.sess (lR z.ses x.a))::F) rfl ⟨0,[],0,z.sess (lR z.ses x.a),by unfold gW;rw[YC J,YC O,YC R,YB V];unfold vx;rw[show z.lr.ses=z.ses.map sS from rfl,pG,he,xy,Bv];rfl,hR.ses _ (λq hq=>(ZV.1 hq).1),by show z.next<=_;omega,rfl,rfl⟩
    ·have V:¬x.kind=oe:=(by simpa [oe] using h59);refine gS (gV cj (gQ ?_));apply ah<;>intro h65
     ·have X:x.kind=og:=(by simpa [og] using h65);refine gS (gM (gF 2 Vm rR Vb (gL (I x.a) Vc (gI (uB call57 (FB b z x.a hR)) ?_))));rintro _ _ ⟨n,e,z2,hf,hR2,hx2,rfl,rfl⟩
      ·refine gM (gX (I n) (gX (I e) (gA (gQ (gS (gM (gM (gA (gA (gQ ?_))))))))));exact an (ez b (z2)::F) rfl ⟨n,[],e,z2,by unfold gW;rw[YC J,YC O,YC R,YC V,YB X];rw[hf],hR2,by omega,rfl,rfl⟩
     ·have X:¬x.kind=og:=(by simpa [og] using h65);refine gS (gV cj (gQ ?_));apply ah<;>intro h76
      ·have Y:x.kind=oh:=(by simpa [oh] using h76);refine gS (gM (gF 2 Vm rR Vb (gL (I x.a) Vc (gI (uB call58 (zQ b z x.a hR)) ?_))));rintro _ _ ⟨e,z2,hf,hR2,_,_,hx2,rfl,rfl⟩
       ·refine gA (gA (gQ ?_));exact an (ez b (z2)::F) rfl ⟨0,[],e,z2,by unfold gW;rw[YC J,YC O,YC R,YC V,YC X,YB Y];rw[hf],hR2,by omega,rfl,rfl⟩
      ·have Y:¬x.kind=oh:=(by simpa [oh] using h76);refine gS (gV cj (gQ ?_));apply ah<;>intro h82
       ·have Z:x.kind=ol:=(by simpa [ol] using h82);refine gS (gM (gF 2 Vm rR Vb (gL (I x.a) Vc (gF 3 Vm rR Vb (gL (I x.b) Vc (gI (uB call59 (Hf b z x.a x.b hR hxb)) ?_))))));rintro _ _ (⟨hm,rfl,rfl⟩ | ⟨hm,gone,z2,s90,c90,hkp,hR2,hx2,rfl,rfl⟩)
        ·obtain ⟨gone,hg0⟩:∃g:List Int,g=[]:=⟨_,rfl⟩;have hids:∀g∈gone,1<=g/\g<=999:=(by rw[hg0];simp);have hgl:gone.length<=6:=(by rw[hg0];simp);refine bH 3 1 (bz gone) (hr:=by rw[hg0];rfl) ?_;rw[show (sl none 0 0)=sl none gone.length 0 by rw[hg0];rfl];refine gM (gX (sl none gone.length 0) (gX (I 1) (gA (gQ (gS (gQ (ac (gS (gQ (al ?_))))))))));refine aM (α:=Nat) (λk=>k<=(gone).length) (λk=>U [(13,sl none (gone).length 0),(14,I 1),(15,I (kN ((gone).take k))),(16,I k)]) (λk=>bi 3 1 none 0 (bz (gone))::ez b z::F) (λk=>(gone).length - k) 0 (by simp) [13,14,15,16] rfl ?_;rintro k hk;refine ac (gS (gM (gM (gV (aX Vi) (gV aI (ab ?_))))));apply ah<;>intro h96
         ·simp at h96;have hkn:k<gone.length:=(by omega);obtain ⟨i,hik⟩:∃i,gone[k]? =some i:=⟨_,Zu hkn⟩;have hib:=hids i (YW hik);have hnb:=uf hids hgl k (by omega);have hpw:1000 ^ k<=1000 ^ 5:=Ze (by decide) (by omega);have hp5:1000 ^ 5=1000000000000000:=(by decide);rw[hp5] at hpw;refine ai (ac (al (am (gM (gV (j5 (r:=1000*kN (gone.take k)) (da (by omega))) (gM (gM (gV (ay k Vi Vb hkn (by rw[bW];exact hkn)) (gV (bI (v:=I i) Vc (by exact dN hik) rR) (gV (bO (r:=kN (gone.take (k+1))) (by rw[oq hik];exact da (by omega))) (gQ (aG (am (gM (gP (gQ ?_))))))))))))))));exact ap (k+1) (by omega) (by omega) [13,14,15,16] rfl
         ·simp at h96;obtain rfl:k=gone.length:=(by omega);refine aF ?_;refine gS (gM (gM (gA (gA (gQ ?_)))));exact an (ez b (z)::F) rfl ⟨kN (gone.take gone.length),[],1,z,by unfold gW;rw[YC J,YC O,YC R,YC V,YC X,YC Y,YB Z];rw[YB hm,hg0];rfl,hR,by show z.next<=_;omega,rfl,rfl⟩
        ·obtain ⟨G0,hC⟩:=hR.rok.con;have hel:=q6 z.L x.a x.b hC.v.len;have hks:=vM (l:=eP z.L x.a x.b) (σ:=z.lr);rw[hkp] at hks;have hgl:gone.length<=6:=(by have:=hks.1;simp only at this;omega);have hids:∀g∈gone,1<=g/\g<=999:=λg hg=>M9 hC g (hks.2 g hg);refine gM (gX (sl s90 gone.length c90) (gX (I 0) (gA (gQ (gS (gQ (ac (gS (gQ (al ?_))))))))));refine aM (α:=Nat) (λk=>k<=(gone).length) (λk=>U [(13,sl s90 (gone).length c90),(14,I 0),(15,I (kN ((gone).take k))),(16,I k)]) (λk=>bi 3 1 s90 c90 (bz (gone))::ez b z2::F) (λk=>(gone).length - k) 0 (by simp) [13,14,15,16] rfl ?_;rintro k hk;refine ac (gS (gM (gM (gV (aX Vi) (gV aI (ab ?_))))));apply ah<;>intro h96
         ·simp at h96;have hkn:k<gone.length:=(by omega);obtain ⟨i,hik⟩:∃i,gone[k]? =some i:=⟨_,Zu hkn⟩;have hib:=hids i (YW hik);have hnb:=uf hids hgl k (by omega);have hpw:1000 ^ k<=1000 ^ 5:=Ze (by decide) (by omega);have hp5:1000 ^ 5=1000000000000000:=(by decide);rw[hp5] at hpw;refine ai (ac (al (am (gM (gV (j5 (r:=1000*kN (gone.take k)) (da (by omega))) (gM (gM (gV (ay k Vi Vb hkn (by rw[bW];exact hkn)) (gV (bI (v:=I i) Vc (by exact dN hik) rR) (gV (bO (r:=kN (gone.take (k+1))) (by rw[oq hik];exact da (by omega))) (gQ (aG (am (gM (gP (gQ ?_))))))))))))))));exact ap (k+1) (by omega) (by omega) [13,14,15,16] rfl
         ·simp at h96;obtain rfl:k=gone.length:=(by omega);refine aF ?_;refine gS (gM (gM (gA (gA (gQ ?_)))));exact an (ez b (z2)::F) rfl ⟨kN (gone.take gone.length),[],0,z2,by unfold gW;rw[YC J,YC O,YC R,YC V,YC X,YC Y,YB Z];rw[YC (by omega)];show ((keepL (eP z.L x.a x.b) z.lr).1,kN (keepL (eP z.L x.a x.b) z.lr).2,_,_)=_;rw[hkp,Y3],hR2,by omega,rfl,rfl⟩
       ·have Z:¬x.kind=ol:=(by simpa [ol] using h82);refine gS (gV cj (gQ ?_));apply ah<;>intro h108
        ·have hkMou:x.kind=om:=(by simpa [om] using h108);refine gS (gM (gF 2 Vm rR Vb (gL (I x.a) Vc (gI (uB call60 (Aq b z x.a hR)) ?_))));rintro _ _ (⟨he,rfl,rfl⟩ | ⟨he,a,r,rfl,rfl⟩)
         ·refine gM (gX (I 0) (gX (I (e9 z x.a)) (gA (gQ (gS (gM (gM (gA (gA (gQ ?_))))))))));exact an (ez b (z)::F) rfl ⟨0,[],e9 z x.a,z,by unfold gW;rw[YC J,YC O,YC R,YC V,YC X,YC Y,YC Z,YB hkMou];rw[zF,YB he],hR,by show z.next<=_;omega,rfl,rfl⟩
         ·refine gM (gX (I z.next) (gX (I 0) (gA (gQ (gS (gM (gM (gA (gA (gQ ?_))))))))));exact an (ez b (z.mounted a r x.a)::F) rfl ⟨z.next,[],0,z.mounted a r x.a,by unfold gW;rw[YC J,YC O,YC R,YC V,YC X,YC Y,YC Z,YB hkMou];rw[zF,YC (by omega),zG];rfl,hR.mounted (by omega),kaH _,rfl,rfl⟩
        ·have hkMou:¬x.kind=om:=(by simpa [om] using h108);refine gS (gV cj (gQ ?_));apply ah<;>intro h119
         ·have hkUnm:x.kind=oo:=(by simpa [oo] using h119);refine gS (gM (gF 2 Vm rR Vb (gL (I x.a) Vc (gI (uB call61 (Ar b z x.a)) ?_))));rintro _ _ (⟨he,rfl,rfl⟩ | ⟨w,he,rfl,rfl⟩)
          ·refine gA (gA (gQ ?_));exact an (ez b (z)::F) rfl ⟨0,[],5,z,by unfold gW;rw[YC J,YC O,YC R,YC V,YC X,YC Y,YC Z,YC hkMou,YB hkUnm];unfold Kl;rw[show z.lr.mou=z.mou.map mS from rfl,Fs,he];rfl,hR,by show z.next<=_;omega,rfl,rfl⟩
          ·refine gA (gA (gQ ?_));exact an (ez b (z.moun (DL z.mou x.a))::F) rfl ⟨0,[],0,z.moun (DL z.mou x.a),by unfold gW;rw[YC J,YC O,YC R,YC V,YC X,YC Y,YC Z,YC hkMou,YB hkUnm];unfold Kl;rw[show z.lr.mou=z.mou.map mS from rfl,Fs,he,IQ,QP];rfl,hR.mou _ (λq hq=>hR.rok.keyM q (ZV.1 hq).1),by show z.next<=_;omega,rfl,rfl⟩
         ·have hkUnm:¬x.kind=oo:=(by simpa [oo] using h119);refine gS (gV cj (gQ ?_));apply ah<;>intro h125
          ·have hkRea:x.kind=pC:=(by simpa [pC] using h125);refine gS (gM (gF 2 Vm rR Vb (gL (I x.a) Vc (gF 3 Vm rR Vb (gL (I x.b) Vc (gR (vB call62 (zR b z x.a x.b hR)) ?_))))))
           ·refine gM (gX (aC (dw z x.a x.b).1) (gX (I (dw z x.a x.b).2) (gA (gQ (gS (gM (gM (gA (gA (gQ ?_))))))))));exact an (ez b (z)::F) rfl ⟨0,(dw z x.a x.b).1,(dw z x.a x.b).2,z,by unfold gW;rw[YC J,YC O,YC R,YC V,YC X,YC Y,YC Z,YC hkMou,YC hkUnm,YB hkRea];rw[Dg],hR,by show z.next<=_;omega,rfl,rfl⟩
          ·have hkRea:¬x.kind=pC:=(by simpa [pC] using h125);refine gS (gV cj (gQ ?_));apply ah<;>intro h138
           ·have hkWri:x.kind=pE:=(by simpa [pE] using h138);refine gS (gM (gF 2 Vm rR Vb (gL (I x.a) Vc (gF 3 Vm rR Vb (gL (I x.b) Vc (gF 1 Vm rR Vh (gL (aC x.s) Vj (gI (uB call63 (FC b z x.a x.b x.s hR hxs)) ?_))))))));rintro _ _ (⟨he,rfl,rfl⟩ | ⟨he,rfl,rfl⟩)
            ·refine gA (gA (gQ ?_));exact an (ez b (z)::F) rfl ⟨0,[],ei z x.a x.b x.s,z,by unfold gW;rw[YC J,YC O,YC R,YC V,YC X,YC Y,YC Z,YC hkMou,YC hkUnm,YC hkRea,YB hkWri];rw[zH,YB he],hR,by show z.next<=_;omega,rfl,rfl⟩
            ·refine gA (gA (gQ ?_));exact an (ez b (z.written x.a x.b x.s)::F) rfl ⟨0,[],0,z.written x.a x.b x.s,by unfold gW;rw[YC J,YC O,YC R,YC V,YC X,YC Y,YC Z,YC hkMou,YC hkUnm,YC hkRea,YB hkWri];rw[zH,YC (by omega),zI],hR.written _ _ _,by rw[Dx];omega,rfl,rfl⟩
           ·have hkWri:¬x.kind=pE:=(by simpa [pE] using h138);refine gS (gV cj (gQ ?_));apply ah<;>intro h148
            ·have hkSav:x.kind=qr:=(by simpa [qr] using h148);refine eQ b z ?_;intro bs so co bv rs rm;refine am (gM (gV aa (gF 0 VG rR XV (gL (ptr bs 0) isAgg41 (gV aa (gF 1 WV rR Vb (gU (aK #[sl so z.rows.length co,I 0,I ((200 - 122:Nat):Int)] Vb (by simp)) (ab ?_))))))));refine cq b ⟨z.h,0,z.rows,z.S,z.L,z.n,z.ses,z.mou,z.next⟩ bs so co bv rs rm ?_;refine aG (gS (gA (gA (gQ ?_))));exact an (ez b (⟨z.h,0,z.rows,z.S,z.L,z.n,z.ses,z.mou,z.next⟩)::F) rfl ⟨0,[],0,⟨z.h,0,z.rows,z.S,z.L,z.n,z.ses,z.mou,z.next⟩,by unfold gW;rw[YC J,YC O,YC R,YC V,YC X,YC Y,YC Z,YC hkMou,YC hkUnm,YC hkRea,YC hkWri];rfl,⟨⟨hR.rok.con,hR.rok.next,hR.rok.keyS,hR.rok.keyM,hR.rok.sesS⟩,hR.rows,by show 0<=200 - 122;omega⟩,by show z.next<=_;omega,rfl,rfl⟩
            ·have hkSav:¬x.kind=qr:=(by simpa [qr] using h148);refine ai (aG (gS (gA (gA (gQ ?_)))));exact an (ez b (z)::F) rfl ⟨0,[],0,z,by unfold gW;rw[YC J,YC O,YC R,YC V,YC X,YC Y,YC Z,YC hkMou,YC hkUnm,YC hkRea,YC hkWri];done,hR,by show z.next<=_;omega,rfl,rfl⟩
-- counterfoil/counterfoiltop.played is not in this seat
def SB (L:List Pt)(base disk:Int):0<=Ad L base disk:=by
 grind[Ad]
def P3 (σ:LR)(x:ActM):0<=(gW σ x).2.2.2:=by
 unfold gW;by_cases O:x.kind=oa
 ·rw[YB O];split
  ·show 0<=ny σ x.a x.b x.c;unfold ny;have:=SB σ.L x.a x.b
   grind
  ·exact kaH 0
 rw[YC O];by_cases Z:x.kind=oc
 ·grind[Ft]
 rw[YC Z];by_cases R:x.kind=od
 ·rw[YB R];show 0<=(ot σ x.a).2.2;unfold ot;split
  ·grind
  ·split
   ·rename_i hr;exact kbd (qg hr)
   ·exact kaH 0
 rw[YC R];by_cases S:x.kind=oe
 ·grind[vx]
 rw[YC S];by_cases J:x.kind=og
 ·rw[YB J];show 0<=(Am σ x.a).2.2;unfold Am;split
  ·rename_i hr;exact kbd (zh hr)
  ·exact kaH 0
 rw[YC J];by_cases V:x.kind=oh
 ·grind[mE,zE,mz]
 rw[YC V];by_cases X:x.kind=ol
 ·grind
 rw[YC X];by_cases Y:x.kind=om
 ·grind[zC]
 rw[YC Y];by_cases hUnm:x.kind=oo
 ·grind[Kl]
 rw[YC hUnm];have hrd:∀q w,0<=(wq σ q w).2:=λq w=>by
  unfold wq;split
  ·grind
  ·split
   ·exact Hg _ _ _ _
   grind
 grind[zD]
def xD {z z2:RpM}(h:z2.lr=z.lr):z2.S=z.S/\z2.L=z.L/\z2.n=z.n/\z2.next=z.next:=⟨Yg LR.S h,Yg LR.L h,Yg LR.n h,Yg LR.next h⟩
structure SnapM where
 id:Int
 time:Int
 size:Int
 blocks:Nat->ak
 dirty:Nat->Bool
structure VdM where
 size:Int
 blocks:Nat->ak
 dirty:Nat->Bool
 time:Int
 next:Int
 snaps:List SnapM
abbrev sC:=Option Addr×Nat
abbrev FT (B:Nat->ak):List Value:=[aC (B 0),aC (B 1),aC (B 2),aC (B 3),aC (B 4),aC (B 5),aC (B 6),aC (B 7),aC (B 8),aC (B 9),aC (B 10),aC (B 11),aC (B 12),aC (B 13),aC (B 14),aC (B 15)]
abbrev m16 (m:Nat->Bool):List Value:=[Bo (m 0),Bo (m 1),Bo (m 2),Bo (m 3),Bo (m 4),Bo (m 5),Bo (m 6),Bo (m 7),Bo (m 8),Bo (m 9),Bo (m 10),Bo (m 11),Bo (m 12),Bo (m 13),Bo (m 14),Bo (m 15)]
def Nw (m:Nat->Bool):m16 m=bL m:=rfl
def jZ (sz:Int)(B:Nat->ak)(sd:Value)(tm nx:Int)(ss:Value):Array Value:=#[I sz,aC (B 0),aC (B 1),aC (B 2),aC (B 3),aC (B 4),aC (B 5),aC (B 6),aC (B 7),aC (B 8),aC (B 9),aC (B 10),aC (B 11),aC (B 12),aC (B 13),aC (B 14),aC (B 15),sd,I tm,I nx,ss]
def IY (x:SnapM)(sd:Value):List Value:=let B:=x.blocks; [I x.id,I x.time,I x.size,aC (B 0),aC (B 1),aC (B 2),aC (B 3),aC (B 4),aC (B 5),aC (B 6),aC (B 7),aC (B 8),aC (B 9),aC (B 10),aC (B 11),aC (B 12),aC (B 13),aC (B 14),aC (B 15),sd]
instance {x:SnapM}{d:Value}{i:Nat}{v:Value}[h:NT [I x.id,I x.time,I x.size,aC (x.blocks 0),aC (x.blocks 1),aC (x.blocks 2),aC (x.blocks 3),aC (x.blocks 4),aC (x.blocks 5),aC (x.blocks 6),aC (x.blocks 7),aC (x.blocks 8),aC (x.blocks 9),aC (x.blocks 10),aC (x.blocks 11),aC (x.blocks 12),aC (x.blocks 13),aC (x.blocks 14),aC (x.blocks 15),d] i v]:NT (IY x d) i v:=⟨h.p⟩
def sE (x:SnapM×sC):List Value:=IY x.1 (sl x.2.1 (dp x.1.dirty).length x.2.2)
instance {x:SnapM×sC}{i:Nat}{v:Value}[h:NT (IY x.1 (sl x.2.1 (dp x.1.dirty).length x.2.2)) i v]:NT (sE x) i v:=⟨h.p⟩
def cD (l:List (SnapM×sC)):List (List Value):=l.map sE
def eX (l:List (SnapM×sC)):(cD l).length=l.length:=by simp[cD]
def g9 {l:List (SnapM×sC)}{k:Nat}{x:SnapM×sC}(h:l[k]? =some x):(cD l)[k]? =some (sE x):=by simp[cD,h]
def FD (x:SnapM×sC):(sE x).length=20:=rfl
def upd (B:Nat->ak)(j:Nat)(x:ak):Nat->ak:=λi=>if i=j then x else B i
def sF (m:Nat->Bool)(j:Nat):Nat->Bool:=λi=>m i || decide (i=j)
def Nx (sz x S J:Int)(B:Nat->ak)(O R:Value):(jZ sz B O S J R).setIfInBounds 0 (I x)=jZ x B O S J R:=rfl
def ra (sz S O:Int)(B:Nat->ak)(V J R:Value):(jZ sz B V S O R).setIfInBounds 17 J=jZ sz B J S O R:=rfl
def Ny (sz x S J:Int)(B:Nat->ak)(O R:Value):(jZ sz B O S J R).setIfInBounds 18 (I x)=jZ sz B O x J R:=rfl
def NA (sz x R S:Int)(B:Nat->ak)(J O:Value):(jZ sz B J R S O).setIfInBounds 19 (I x)=jZ sz B J R x O:=rfl
def BK (sz S O:Int)(B:Nat->ak)(R V J:Value):(jZ sz B R S O V).setIfInBounds 20 J=jZ sz B R S O J:=rfl
def kv (sz S J:Int)(B:Nat->ak)(O R:Value):(jZ sz B O S J R).size=21:=rfl
def IZ (sz S J:Int)(B:Nat->ak)(O R:Value)(x:ak):∀j,j<16->(jZ sz B O S J R).setIfInBounds (0+1+j*1) (aC x)=jZ sz (upd B j x) O S J R
 :=λj h=>match j,h with
  | 0,_=>rfl
  | 1,_=>rfl
  | 2,_=>rfl
  | 3,_=>rfl
  | 4,_=>rfl
  | 5,_=>rfl
  | 6,_=>rfl
  | 7,_=>rfl
  | 8,_=>rfl
  | 9,_=>rfl
  | 10,_=>rfl
  | 11,_=>rfl
  | 12,_=>rfl
  | 13,_=>rfl
  | 14,_=>rfl
  | 15,_=>rfl
  | k+16,h=>absurd h (by omega)
def Kt (m:Res):Res:=λb=>match m b with
 | some (o,true)=>some (o,true)
 | _=>none
def P4 {m:Res}{b:Nat}{o:Obj}(h:m b=some (o,true)):Kt m b=some (o,true):=by simp[Kt,h]
def NB {sz:Nat}{s:Option Addr}{rows:List (List Value)}{m:Res}(h:roL sz s rows m):roL sz s rows (Kt m):=by
 rcases h with h | ⟨b,off,o,h1,J,O⟩
 ·exact .inl h
 ·exact .inr ⟨b,off,o,h1,P4 J,O⟩
def iD (l:List (SnapM×sC)):ag:=λm=>∀x∈l,roL 2 x.2.1 (aS (dp x.1.dirty)) m
def Hh (l:List (SnapM×sC)):Pers (iD l):=λm h=>by
 refine ⟨Kt m,λb x hx=>?_,λb x hx=>?_,λx hx=>NB (h x hx)⟩
 ·grind[Kt]
 grind[Kt]
def FE {sz:Nat}{s:Option Addr}{rows:List (List Value)}{m n:Res}(h:roL sz s rows m)(hs:Res.sub m n):roL sz s rows n:=by
 rcases h with h | ⟨b,off,o,h1,J,O⟩
 ·exact .inl h
 ·exact .inr ⟨b,off,o,h1,hs b _ J,O⟩
def U4 (b:Nat)(D:VdM)(z:sC×sC×List (SnapM×sC)):List ag:=
 [pt b (.cells (jZ D.size D.blocks (sl z.1.1 (dp D.dirty).length z.1.2) D.time D.next (sl z.2.1.1 z.2.2.length z.2.1.2)) 134 (0,0)),roL 2 z.1.1 (aS (dp D.dirty)),bi 239 20 z.2.1.1 z.2.1.2 (cD z.2.2),iD z.2.2,kz (z.2.2.map Prod.fst=D.snaps)]
def fV (b:Nat)(D:VdM):ag:=hx (U4 b D)
section
variable {c:Cx}{E:dr}{L:List ag}{K:List KI}
def iE {F:List ag}(b:Nat)(D:VdM)[R:Rem L (fV b D) F](k:∀O cd S cs J,J.map Prod.fst=D.snaps->G c K E (pt b (.cells (jZ D.size D.blocks (sl O (dp D.dirty).length cd) D.time D.next (sl S J.length cs)) 134 (0,0))::roL 2 O (aS (dp D.dirty))::bi 239 20 S cs (cD J)::iD J::F)):G c K E L:=λa w Y Z=>by
 obtain ⟨z,hz⟩:=(R.sat Z).hx;obtain ⟨⟨O,cd⟩,⟨S,cs⟩,J⟩:=z;have X:Sat c.w0 w (pt b (.cells (jZ D.size D.blocks (sl O (dp D.dirty).length cd) D.time D.next (sl S J.length cs)) 134 (0,0))::roL 2 O (aS (dp D.dirty))::bi 239 20 S cs (cD J)::iD J::kz (J.map Prod.fst=D.snaps)::F):=hz;have r:Rem (pt b (.cells (jZ D.size D.blocks (sl O (dp D.dirty).length cd) D.time D.next (sl S J.length cs)) 134 (0,0))::roL 2 O (aS (dp D.dirty))::bi 239 20 S cs (cD J)::iD J::kz (J.map Prod.fst=D.snaps)::F) (kz (J.map Prod.fst=D.snaps)) (pt b (.cells (jZ D.size D.blocks (sl O (dp D.dirty).length cd) D.time D.next (sl S J.length cs)) 134 (0,0))::roL 2 O (aS (dp D.dirty))::bi 239 20 S cs (cD J)::iD J::F):=inferInstance;have V:=r.sat X;exact k _ _ _ _ _ V.pure_.1 a w Y V.pure_.2
def em {F:List ag}(C:Array Value)(Y rs:List (List Value))(O:Option Addr)(cd:Nat)(R:Option Addr)(cs:Nat)(J:List (SnapM×sC))(b:Nat)(D:VdM)(V:J.map Prod.fst=D.snaps)[S:Split L [pt b (.cells C 134 (0,0)),roL 2 O Y,bi 239 20 R cs rs,iD J] F](k:G c K E (fV b D::F))(hC:C=jZ D.size D.blocks (sl O (dp D.dirty).length cd) D.time D.next (sl R J.length cs):=by exact rfl)(hrd:Y=aS (dp D.dirty):=by exact rfl)(X:rs=cD J:=by exact rfl):G c K E L:=λa w hE hS=>by
 subst hC hrd X;refine k a w hE ?_;have h1:Sat c.w0 w ([pt b (.cells (jZ D.size D.blocks (sl O (dp D.dirty).length cd) D.time D.next (sl R J.length cs)) 134 (0,0)),roL 2 O (aS (dp D.dirty)),bi 239 20 R cs (cD J),iD J]++F):=S.sat hS;have Z:=Sat.pure_mk V h1;have sp:Split (kz (J.map Prod.fst=D.snaps)::pt b (.cells (jZ D.size D.blocks (sl O (dp D.dirty).length cd) D.time D.next (sl R J.length cs)) 134 (0,0))::roL 2 O (aS (dp D.dirty))::bi 239 20 R cs (cD J)::iD J::F) [pt b (.cells (jZ D.size D.blocks (sl O (dp D.dirty).length cd) D.time D.next (sl R J.length cs)) 134 (0,0)),roL 2 O (aS (dp D.dirty)),bi 239 20 R cs (cD J),iD J,kz (J.map Prod.fst=D.snaps)] F:=inferInstance;exact Sat.hx_mk (A:=U4 b D) ((O,cd),(R,cs),J) (sp.sat Z)
def NC (k:G c K E (iD []::L)):G c K E L:=λa w J O=>k a w J ((Sat.pure_mk (φ:=True) trivial O).weak λm _=>λx hx=>nomatch hx)
def Hi {F:List ag}(O J:List (SnapM×sC))(h:∀x∈J,x∈O)[R:Rem L (iD O) F](k:G c K E (iD J::F)):G c K E L:=λa w S V=>k a w S ((R.sat V).weak λm hm x hx=>hm x (h x hx))
def rb {F:List ag}(J:List (SnapM×sC)){x:SnapM×sC}(h:x∈J)[R:Rem L (iD J) F](k:G c K E (roL 2 x.2.1 (aS (dp x.1.dirty))::iD J::F)):G c K E L:=λa w O S=>k a w O (((R.sat S).dup (Hh J)).weak λm hm=>hm x h)
def zS {F S:List ag}(J O:List (SnapM×sC))(x:SnapM×sC)(h:∀y∈O,y∈J\/y=x)[R:Rem L (iD J) F][R2:Rem F (roL 2 x.2.1 (aS (dp x.1.dirty))) S](k:G c K E (iD O::S)):G c K E L:=λa w X Y=>by
 have h1:=R.sat Y;have r2:Rem (iD J::F) (roL 2 x.2.1 (aS (dp x.1.dirty))) (iD J::S):=inferInstance;have V:Sat c.w0 w (roL 2 x.2.1 (aS (dp x.1.dirty))::iD J::S):=r2.sat h1;refine k a w X (V.two.weak λm hm=>?_);obtain ⟨m1,m2,hd,s1,s2,Z,hb⟩:=hm;intro y hy;rcases h y hy with hy | rfl
 ·exact FE (hb y hy) s2
 ·exact FE Z s1
end
def kB (n:Int):VdM:=⟨n,λ_=>[],λ_=>false,0,1,[]⟩
def I0 (ok:Prop)(Ev:Int->Value)(A:Nat->ag)(F:List ag):Value->List ag->Prop:=λv L'=>(¬ok/\v= .tuple #[.pointer none,Ev 1]/\L'=F)\/(ok/\∃b,v= .tuple #[ptr b 0,Ev 0]/\L'=A b::F)
section
variable {c:Cx}{E:dr}{L:List ag}{K:List KI}
def zT {J:Int->Value}{ok:Prop}{A:Nat->ag}{F:List ag}{vs:List Value}(V:c.R=I0 ok J A F)(hr:gm E c.fn.results.toList=some vs)(hn:¬ok)(hv:rN vs= .tuple #[.pointer none,J 1])[S:Sub L F](hds:c.n.ds=[]:=by rfl):G c (.code .ret::K) E L:=
 λa w O X=>wp_ret (bX (aW (hds:=hds) hr O (S.sat X) (by rw[V];exact .inl ⟨hn,hv,rfl⟩)))
def zU {J:Int->Value}{ok:Prop}{A:Nat->ag}{F:List ag}{vs:List Value}(b:Nat)(V:c.R=I0 ok J A F)(hr:gm E c.fn.results.toList=some vs)(hn:ok)(hv:rN vs= .tuple #[ptr b 0,J 0])[S:Sub L (A b::F)](hds:c.n.ds=[]:=by rfl):G c (.code .ret::K) E L:=
 λa w O X=>wp_ret (bX (aW (hds:=hds) hr O (S.sat X) (by rw[V];exact .inr ⟨hn,b,hv,rfl⟩)))
end
def FF (l:List SnapM)(id:Int):Nat:=l.findIdx λs=>decide (s.id=id)
def dE (l:List SnapM)(id:Int):Int:=if FF l id<l.length then (FF l id:Int) else -1
def BL {l:List SnapM}{id:Int}{k:Nat}{s:SnapM}(J:∀j,j<k->∀t,l[j]? =some t->t.id≠id)(hs:l[k]? =some s)(he:s.id=id):dE l id=k:=by
 grind[FF,List.findIdx_eq,dE]
def zV {l:List SnapM}{id:Int}(J:∀j,j<l.length->∀t,l[j]? =some t->t.id≠id):dE l id= -1:=by
 unfold dE;rw[YC];intro h;have:=kaJ (w:=h);simp at this;exact J _ h _ (Zu h) this
def hO {l:List SnapM}{id:Int}(h:¬dE l id<0):∃i s,dE l id=((i:Nat):Int)/\l[i]? =some s/\s.id=id/\i<l.length:=by
 unfold dE at h ⊢;split at h
 ·rename_i hl;refine ⟨FF l id,l[FF l id],by rw[YB hl],Zu hl,?_,hl⟩;have:=kaJ (w:=hl);simp only[decide_eq_true_eq] at this;exact this
 ·omega
def zW {J:List (SnapM×sC)}{l:List SnapM}(h:J.map Prod.fst=l){i:Nat}{s:SnapM}(hs:l[i]? =some s):∃q,J[i]? =some (s,q):=by
 grind
def vN {J:List (SnapM×sC)}{l:List SnapM}(h:J.map Prod.fst=l):J.length=l.length:=by subst h;simp
def Oh (D:VdM):VdM:=⟨D.size,D.blocks,λ_=>false,D.time+1,D.next,D.snaps⟩
def fJ (m:Nat->Bool)(fr mn:Int):Nat->Bool:=λp=>m p || decide (fr<=(p:Int)/\(p:Int)<fr+mn)
def ND (m:Nat->Bool)(fr J:Int):dp (sQ (mk (dp m)) (mk [⟨fr,J⟩]))=dp (fJ m fr J):=BE λp hp=>by
 grind[sQ,fJ,sx,mk]
def markD (D:VdM)(fr mn:Int):VdM:=if 0<mn then ⟨D.size,D.blocks,fJ D.dirty fr mn,D.time,D.next,D.snaps⟩ else D
def un (s:ak):Int:=if 6<s.length then 2 else 0
def FG (D:VdM)(n:Int)(s:ak):Int:=if n<0\/D.size<=n then 1 else un s
def zX (D:VdM)(n:Int)(s:ak):VdM:=if FG D n s=0 then ⟨D.size,upd D.blocks n.toNat s,fJ D.dirty n 1,D.time,D.next,D.snaps⟩ else D
def uo (n:Int)(F:List ag):Ct Tryz.prog 18 [I n] (F) (I0 (1<=n/\n<=16) bM (λb=>fV b (kB n)) F):=by
 refine Ct.of func18 rR 14 ntmps18 (by simp) λw0=>?_;refine gS (gA (gQ (ac (gS (gM (gV aI (gM (gK aq (gK aT (gV cu (ab ?_)))))))))));apply ah<;>intro O
 ·simp at O;refine gS (gV (aZ Vn) (gA (gQ ?_)));exact zT rfl rfl (by omega) rfl
 ·simp at O;refine ai (gS (gM (gV (aR (F3 _ rR _ rR)) (gI (di (jZ n (λ_=>[]) (sl none 0 0) 0 1 (sl none 0 0))) ?_))));rintro _ _ ⟨J,rfl,rfl⟩;refine gA (gQ ?_);refine sM 2 (aS (dp λ_=>false)) ?_;refine bH 239 20 (cD []) ?_;refine NC ?_;refine em (jZ n (λ_=>[]) (sl none 0 0) 0 1 (sl none 0 0)) (aS (dp λ_=>false)) (cD []) none 0 none 0 ([]) J ((kB n)) rR ?_;exact zU J rfl rfl (by omega) rfl
-- (*counterfoil/vdisk.Disk).Size is not in this seat
def wI (b:Nat)(D:VdM)(ht: -9223372036854775808<=D.time/\D.time<9223372036854775807)(F:List ag):Ct Tryz.prog 75 [ptr b 0] (fV b (D)::F) (R1 (.tuple #[]) (fV b (Oh D)::F)):=by
 refine Ct.of func75 rR 12 ntmps75 (by simp) λw0=>?_;refine iE b (D) ?_;intro S cd O cs J R;refine gS (gM (gV aa (gF 18 VF rR Vb (gL (I D.time) Vc (gP (gV aa (gF 18 VF rR Vb (gU (aK (jZ ((D).size) ((D).blocks) (sl S (dp (D).dirty).length cd) (D.time+1) ((D).next) (sl O J.length cs)) Vb (by rw[kv];decide) (hcs:=by exact Ny _ _ _ _ _ _ _)) (ab (am (gM (gV aa (gF 17 VF rR Ww (gU (aK (jZ ((D).size) ((D).blocks) (sl none 0 0) (D.time+1) ((D).next) (sl O J.length cs)) Ww (by rw[kv];decide) (hcs:=by exact ra _ _ _ _ _ _ _)) (ab ?_)))))))))))))));refine sM 2 (aS (dp λ_=>false)) ?_;refine em (jZ ((D).size) ((D).blocks) (sl none 0 0) (D.time+1) ((D).next) (sl O J.length cs)) (aS (dp λ_=>false)) (cD J) none 0 O cs (J) b ((Oh D)) R ?_;exact fY rfl rfl rfl
def zY (s:ak)(F:List ag):Ct Tryz.prog 141 [aC s] (F) (R1 (bM (un s)) F):=by
 refine Ct.of func141 rR 7 ntmps141 (by simp) λw0=>?_;refine gS (gQ (ac (gS (gM (gV (cW Vg) (gV aT (ab ?_)))))));apply ah<;>intro J
 ·simp at J;refine gS (gV (aZ Vn) (gQ ?_));refine ao rR rR ?_;show _=bM _;rw[show un s=2 by unfold un;rw[YB (by omega)]]
  rfl
 ·simp at J;refine ai (gS (gQ ?_));refine ao rR rR ?_;show _=bM _;rw[show un s=0 by unfold un;rw[YC (by omega)]]
  rfl
def zZ (x:SnapM×sC)(q:Nat)(id:Int)(F:List ag):Ct Tryz.prog 216 [.agg (sE x).toArray,ptr q 0] (pt q (.cells #[I id] 3 (0,0))::F) (R1 (Bo (decide (x.1.id=id))) (pt q (.cells #[I id] 3 (0,0))::F)):=by
 refine Ct.of func216 rR 8 ntmps216 (by simp) λw0=>?_;refine gS (gI (di (sE x).toArray) ?_);rintro _ _ ⟨J,rfl,rfl⟩;refine gQ (gS (gF 0 WN rR Vb (gL (I x.1.id) Vc (gL (I id) Vc (gV bT (gQ ?_))))));refine ao rR rR ?_;exact rfl
def uq (J:List (SnapM×sC))(X:Option Addr)(cs q:Nat)(id:Int)(hgl:J.length<=1000000)(F:List ag):Ct Tryz.prog 215 [sl X J.length cs, .func (.func 216) #[] #[ptr q 0]] (bi 239 20 X cs (cD J)::pt q (.cells #[I id] 3 (0,0))::F) (R1 (I (dE (J.map Prod.fst) id)) (bi 239 20 X cs (cD J)::pt q (.cells #[I id] 3 (0,0))::F)):=by
 refine Ct.of func215 rR 19 ntmps215 (by simp) λw0=>?_;refine gS (gQ (ac (gS (gM (gV (aX V8) (gM (ab (al ?_))))))));refine aM (α:=Nat) (λk=>k<=J.length/\∀j,j<k->∀t,(J.map Prod.fst)[j]? =some t->t.id≠id) (λk=>U [(0,sl X J.length cs),(1, .func (.func 216) #[] #[ptr q 0]),(7,I J.length),(8,I k)]) (λ_=>bi 239 20 X cs (cD J)::pt q (.cells #[I id] 3 (0,0))::F) (λk=>J.length - k) 0 ⟨by simp,λj hj=>absurd hj (by omega)⟩ [0,1,7,8] rfl ?_;rintro k ⟨hk,S⟩;refine gS (gV aI (ab (ac ?_)));apply ah<;>intro Z
 ·simp at Z;have R:k<J.length:=(by omega);obtain ⟨x,hx⟩:∃x,J[k]? =some x:=⟨_,Zu R⟩;have Y:k<(cD J).length:=(by rw[eX];exact R);have V:(J.map Prod.fst)[k]? =some x.1:=(by simp[hx]);refine ai (ac (al (gS (gM (gQ (gS (gM (gM (gM (gV (ay k V8 Wg R Y) (gV (bJ (row:=sE x) isAgg239 Wg (g9 hx)) ?_)))))))))));refine gI (fW (fi:=[]) (cap:=[ptr q 0]) (Pre:=[pt q (.cells #[I id] 3 (0,0))]) call216 rR rR (zZ x q id)) ?_;rintro _ _ ⟨rfl,rfl⟩;refine ab ?_;apply ah<;>intro O
  ·simp at O;refine gS (gM (gQ ?_));refine ao rR rR ?_;show I _=I _;rw[BL S V O]
  ·simp at O;refine ai (aG (am (gP (gM (ab ?_)))));exact ap (k+1) ⟨by omega,λj hj t ht=>by
    rcases YL j k with h | h
    ·exact S j h t ht
    ·obtain rfl:j=k:=(by omega);rw[V] at ht;injection ht with ht;rw[<-ht];exact O⟩ (by omega) [0,1,7,8] rfl
 ·simp at Z;obtain rfl:k=J.length:=(by omega);refine aF ?_;refine gS (gQ ?_);refine ao rR rR ?_;show I _=I _;rw[zV (by simpa using S)]
def jg (b:Nat)(D:VdM)(id:Int)(hs:D.snaps.length<=1000000)(F:List ag):Ct Tryz.prog 149 [ptr b 0,I id] (fV b (D)::F) (R1 (I (dE D.snaps id)) (fV b (D)::F)):=by
 refine Ct.of func149 rR 11 ntmps149 (by simp) λw0=>?_;refine iE b (D) ?_;intro S cd R cs O J;have X:=vN J;refine gS (gI (di #[I id]) ?_);rintro _ _ ⟨V,rfl,rfl⟩;refine gQ (gS (gM (gV aa (gF 20 VF rR Wh (gL (sl R O.length cs) WE (gV fK (gR (vC call215 (uq O R cs V id (by omega))) ?_)))))));rw[J];refine gQ ?_;refine em (jZ ((D).size) ((D).blocks) (sl S (dp (D).dirty).length cd) ((D).time) ((D).next) (sl R O.length cs)) (aS (dp (D).dirty)) (cD O) S cd R cs (O) b ((D)) J ?_;exact ao rfl rfl rfl
def rI (b:Nat)(D:VdM)(fr J:Int)(h0:0<=fr)(h1:fr+J<=16)(F:List ag):Ct Tryz.prog 142 [ptr b 0,I fr,I J] (fV b (D)::F) (R1 (.tuple #[]) (fV b (markD D fr J)::F)):=by
 refine Ct.of func142 rR 20 ntmps142 (by simp) λw0=>?_;refine iE b (D) ?_;intro sd cd Z cs S Y;refine gS (gM (gV aT (ab ?_)));apply ah<;>intro X
 ·simp at X;refine am (gM (gM (gV aa (gF 17 VF rR Ww (gL (sl sd (dp D.dirty).length cd) XD (gM (gM (gV (aR (rT _ rR _ rR)) (gI (av (aS [⟨fr,J⟩]) Wn Wo WX (by simp[aS,F6])) ?_)))))))));rintro _ _ ⟨V,rfl,rfl⟩;refine bR (some ⟨V,0,none⟩) ?_;refine gI (uC call150 (kV (dp D.dirty) [⟨fr,J⟩] sd (some ⟨V,0,none⟩) cd 1 (kX _) (by simp) (k6 _) (by simp[DH];omega))) ?_;rintro _ _ ⟨O,R,rfl,rfl⟩;rw[ND];refine bR O ?_;refine gV aa (gF 17 VF rR Ww (gU (aK (jZ ((D).size) ((D).blocks) (sl O (dp (fJ D.dirty fr J)).length R) ((D).time) ((D).next) (sl Z S.length cs)) Ww (by rw[kv];decide) (hcs:=by exact ra _ _ _ _ _ _ _)) (ab ?_)));refine em (jZ ((D).size) ((D).blocks) (sl O (dp (fJ D.dirty fr J)).length R) ((D).time) ((D).next) (sl Z S.length cs)) (aS (dp (fJ D.dirty fr J))) (cD S) O R Z cs (S) b ((markD D fr J)) (hC:=by unfold markD;rw[YB X]) (hrd:=by unfold markD;rw[YB X]) (by unfold markD;rw[YB X];exact Y) ?_;exact fY rfl rfl rfl
 ·simp at X;refine ai ?_;refine em (jZ ((D).size) ((D).blocks) (sl sd (dp (D).dirty).length cd) ((D).time) ((D).next) (sl Z S.length cs)) (aS (dp (D).dirty)) (cD S) sd cd Z cs (S) b ((D)) Y ?_;rw[show fV b D=fV b (markD D fr J) by unfold markD;rw[YC (by omega)]];exact fY rfl rfl rfl
def qw (b:Nat)(D:VdM)(n:Int)(s:ak)(hz:D.size<=16)(F:List ag):Ct Tryz.prog 67 [ptr b 0,I n,aC s] (fV b (D)::F) (R1 (bM (FG D n s)) (fV b (zX D n s)::F)):=by
 refine Ct.of func67 rR 33 ntmps67 (by simp) λw0=>?_;refine iE b (D) ?_;intro sd cd ss cs gl hgl;refine gS (gQ (ac (gS (gM (gV aI (gM (gK aq (gK aq (gK aa (gK (aw 0 VF rR Vb) (gK (az (v:=I D.size) Vc (hv:=⟨rfl⟩)) (gK j6 (gV cu (ab ?_))))))))))))));apply ah<;>intro h17
 ·simp at h17;have hw:FG D n s=1:=(by unfold FG;rw[YB (by omega)]);refine gS (gV (aZ Vn) (gQ ?_));refine em (jZ ((D).size) ((D).blocks) (sl sd (dp (D).dirty).length cd) ((D).time) ((D).next) (sl ss gl.length cs)) (aS (dp (D).dirty)) (cD gl) sd cd ss cs (gl) b ((D)) hgl ?_;rw[show fV b D=fV b (zX D n s) by unfold zX;rw[YC (by omega)]];exact ao rfl rfl (by rw[hw];rfl)
 ·simp at h17;have hw:FG D n s=un s:=(by unfold FG;rw[YC (by omega)]);refine ai (gS (gM (gR (vA call141 (zY s)) (gQ (ac (gS (gM (gV (fO Vl) (ab ?_)))))))));apply ah<;>intro h22
  ·simp at h22;refine gS (gM (gM (gM (gV aa (gF 1 VF rR WF (gV (ba n.toNat Xu Vh (hj:=by omega) (by omega)) (gU (aK (jZ ((D).size) (upd D.blocks n.toNat s) (sl sd (dp (D).dirty).length cd) ((D).time) ((D).next) (sl ss gl.length cs)) Vh (by rw[kv];omega) (hcs:=by exact IZ _ _ _ _ _ _ _ _ (by omega))) (ab ?_))))))));refine em (jZ ((D).size) (upd D.blocks n.toNat s) (sl sd (dp (D).dirty).length cd) ((D).time) ((D).next) (sl ss gl.length cs)) (aS (dp D.dirty)) (cD gl) sd cd ss cs (gl) b ((⟨D.size,upd D.blocks n.toNat s,D.dirty,D.time,D.next,D.snaps⟩)) hgl ?_;refine am (gM (gM (gR (vB call142 (rI b ⟨D.size,upd D.blocks n.toNat s,D.dirty,D.time,D.next,D.snaps⟩ n 1 (by omega) (by omega))) (ab (gS (gM (gQ ?_)))))));rw[show markD ⟨D.size,upd D.blocks n.toNat s,D.dirty,D.time,D.next,D.snaps⟩ n 1=zX D n s by unfold markD zX;rw[YB (by decide),YB (by omega)]];exact ao rfl rfl (by rw[hw];rfl)
  ·simp at h22;refine ai (gS (gM (gQ ?_)));refine em (jZ ((D).size) ((D).blocks) (sl sd (dp (D).dirty).length cd) ((D).time) ((D).next) (sl ss gl.length cs)) (aS (dp (D).dirty)) (cD gl) sd cd ss cs (gl) b ((D)) hgl ?_;rw[show fV b D=fV b (zX D n s) by unfold zX;rw[YC (by omega)]];exact ao rfl rfl (by rw[hw];rfl)
end Go.Proofs.YthdjckbjjfiopabGreatDoor