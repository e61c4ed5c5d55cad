/- Several texts in one: walks and rules used by them. No condition. -/
import Derived.Test.YthdjckbjjfiopabGreatDoorCartB
import Derived.Test.YthdjckbjjfiopabGreatDoorCartA
import Derived.Lib.Bytealg
set_option linter.unusedSimpArgs false
set_option linter.unusedVariables false
set_option synthInstance.maxSize 9999
set_option synthInstance.maxHeartbeats 0
set_option linter.defProp false
set_option maxHeartbeats 800000
namespace Go.Proofs.YthdjckbjjfiopabGreatDoor
open _root_.Go.Proofs.Tryz
open Go.Sl Go.Proofs
structure DiskM where
 kept:List ak
 now:List ak
 wait:List (Nat×ak)
 fuse:Int
 down:Bool
def fT (l:List (Nat×ak)):List (List Value):=l.map λt=>[I t.1,aC t.2]
def Jw (l:List (Nat×ak)):(fT l).length=l.length:=by simp[fT]
def pW (T TT b:Nat)(D:DiskM)(z:(Option Addr×Nat)×(Option Addr×Nat)×(Option Addr×Nat)):List ag:=
 [pt b (.cells #[sl z.1.1 D.kept.length z.1.2,sl z.2.1.1 D.now.length z.2.1.2,sl z.2.2.1 D.wait.length z.2.2.2,I D.fuse,Bo D.down] T (0,0)),bi 9 1 z.1.1 z.1.2 (dx D.kept),bi 9 1 z.2.1.1 z.2.1.2 (dx D.now),bi TT 2 z.2.2.1 z.2.2.2 (fT D.wait)]
def cf (T TT b:Nat)(D:DiskM):ag:=hx (pW T TT b D)
def dm (D:DiskM):Int:=if D.down=true\/D.fuse=0 then 9 else 0
def du (D:DiskM):DiskM:=if D.down=true then D else if D.fuse=0 then ⟨D.kept,D.now,D.wait, -1,true⟩ else ⟨D.kept,D.now,D.wait,if D.fuse - 1< -1 then -1 else D.fuse - 1,D.down⟩
def pX (D:DiskM)(n:Int):ak×Int:=if D.down=true then ([],9) else if n<0\/(D.now.length:Int)<=n then ([],1) else ((D.now[n.toNat]?).getD [],0)
def Gu {D:DiskM}{n:Int}(h:D.down=true):pX D n=([],9):=by grind[pX]
def Jx {D:DiskM}{n:Int}(h:D.down=false)(hn:n<0\/(D.now.length:Int)<=n):pX D n=([],1):=by grind[pX]
def ti {D:DiskM}{n:Int}{x:ak}(h:D.down=false)(hn:¬(n<0\/(D.now.length:Int)<=n))(hx:D.now[n.toNat]? =some x):pX D n=(x,0):=by grind[pX]
def Cg {l:List ak}{k:Nat}{x:ak}(h:l[k]? =some x):(dx l)[k]? =some [aC x]:=by simp[dx,h]
def nK (D:DiskM)(n:Int)(s:ak):Prop:=n<0\/(D.now.length:Int)<=n\/80<s.length
instance (D:DiskM)(n:Int)(s:ak):Decidable (nK D n s):=by unfold nK;infer_instance
def dt (D:DiskM)(n:Int)(s:ak):Int:=if nK D n s then 1 else dm D
def eu (D:DiskM)(n:Int)(s:ak):DiskM:=⟨D.kept,D.now.set n.toNat (bV s),D.wait++ [(n.toNat,bV s)],D.fuse,D.down⟩
def cG (D:DiskM)(n:Int)(s:ak):DiskM:=if nK D n s then D else if dm D=0 then eu (du D) n s else du D
theorem fk (D:DiskM):(du D).now=D.now:=by grind[du]
theorem eb (D:DiskM):(du D).kept=D.kept:=by grind[du]
theorem eY (D:DiskM):(du D).wait=D.wait:=by grind[du]
def Lp (l:List ak)(j:Nat)(x y:ak):(dx l).set j ([aC x].set 0 (aC y))=dx (l.set j y):=by simp[dx,Y1]
def Jy (l:List (Nat×ak)){n:Int}(h:0<=n)(x:ak):fT l++ [[I n,aC x]]=fT (l++ [(n.toNat,x)]):=by simp[fT,Z7 h]
def tj (b:Nat)(D:DiskM)(Y: -1<=D.fuse/\D.fuse<=9223372036854775807)(F:List ag):Ct Tryz.prog 238 [ptr b 0] (cf 179 319 b (D)::F) (R1 (bM (dm D)) (cf 179 319 b (du D)::F)):=by
 refine Ct.of func238 rR 35 ntmps238 (by simp) λw0=>?_;refine jl (cf 179 319 b (D)) rR ?_;rintro ⟨⟨O,c1⟩,⟨s2,c2⟩,⟨R,c3⟩⟩;show G _ _ _ (pt b (.cells #[sl O (D.kept).length c1,sl s2 (D.now).length c2,sl R (D.wait).length c3,I (D.fuse),Bo (D.down)] 179 (0,0))::bi 9 1 O c1 (dx (D.kept))::bi 9 1 s2 c2 (dx (D.now))::bi 319 2 R c3 (fT (D.wait))::F);refine gS (gQ (ac (gS (gM (gV aa (gF 4 Wi rR Vt (gV (az V6) (gV cE (gM (gK aq (gK aa (gK (aw 3 Wi rR Vb) (gK (az Vc) (gK bT (gV dD (ab ?_))))))))))))))));apply ah<;>intro S
 ·simp at S;obtain ⟨X,V⟩:=S;refine am (gM (gM (gV aa (gF 4 Wi rR Vt (gU (aK #[sl O (D.kept).length c1,sl s2 (D.now).length c2,sl R (D.wait).length c3,I (D.fuse),Bo (true)] Vt (by simp)) (gV aa (gF 3 Wi rR Vb (gU (aK #[sl O (D.kept).length c1,sl s2 (D.now).length c2,sl R (D.wait).length c3,I (-1),Bo (true)] Vb (by simp)) (ab (ac (gS (gM (gV aa (gF 4 Wi rR Vt (gV (az V6) (ab ?_))))))))))))))));apply ah<;>intro J
  ·refine gS (gV (aZ Vn) (gQ ?_));refine ic (A:=pW 179 319 b ⟨D.kept,D.now,D.wait, -1,true⟩) [pt b (.cells #[sl O (D.kept).length c1,sl s2 (D.now).length c2,sl R (D.wait).length c3,I (-1),Bo (true)] 179 (0,0)),bi 9 1 O c1 (dx (D.kept)),bi 9 1 s2 c2 (dx (D.now)),bi 319 2 R c3 (fT (D.wait))] (cf 179 319 b (⟨D.kept,D.now,D.wait, -1,true⟩)) ((O,c1),(s2,c2),(R,c3)) ?_;rw[show (⟨D.kept,D.now,D.wait, -1,true⟩:DiskM)=du D by simp[du,X,V]];exact ao rfl rfl (by rw[show dm D=9 by simp[dm,V]];rfl)
  ·cases J
 ·simp at S;refine ai (ac (gS (gM (gV aa (gF 4 Wi rR Vt (gV (az V6) (ab ?_)))))));apply ah<;>intro J
  ·refine gS (gV (aZ Vn) (gQ ?_));refine ic (A:=pW 179 319 b ⟨D.kept,D.now,D.wait,D.fuse,D.down⟩) [pt b (.cells #[sl O (D.kept).length c1,sl s2 (D.now).length c2,sl R (D.wait).length c3,I (D.fuse),Bo (D.down)] 179 (0,0)),bi 9 1 O c1 (dx (D.kept)),bi 9 1 s2 c2 (dx (D.now)),bi 319 2 R c3 (fT (D.wait))] (cf 179 319 b (⟨D.kept,D.now,D.wait,D.fuse,D.down⟩)) ((O,c1),(s2,c2),(R,c3)) ?_;rw[show (⟨D.kept,D.now,D.wait,D.fuse,D.down⟩:DiskM)=du D by unfold du;rw[YB J]];exact ao rfl rfl (by rw[show dm D=9 by simp[dm,J]];rfl)
  ·refine ai (gS (gM (gM (gV aa (gF 3 Wi rR Vb (gV (az Vc) (gV (fe (da (by omega))) (gV (AD rR rR) (gV aa (gF 3 Wi rR Vb (gU (aK #[sl O (D.kept).length c1,sl s2 (D.now).length c2,sl R (D.wait).length c3,I (if D.fuse - 1< -1 then -1 else D.fuse - 1),Bo (D.down)] Vb (by simp)) (ab (gS (gQ ?_))))))))))))));refine ic (A:=pW 179 319 b ⟨D.kept,D.now,D.wait,if D.fuse - 1< -1 then -1 else D.fuse - 1,D.down⟩) [pt b (.cells #[sl O (D.kept).length c1,sl s2 (D.now).length c2,sl R (D.wait).length c3,I (if D.fuse - 1< -1 then -1 else D.fuse - 1),Bo (D.down)] 179 (0,0)),bi 9 1 O c1 (dx (D.kept)),bi 9 1 s2 c2 (dx (D.now)),bi 319 2 R c3 (fT (D.wait))] (cf 179 319 b (⟨D.kept,D.now,D.wait,if D.fuse - 1< -1 then -1 else D.fuse - 1,D.down⟩)) ((O,c1),(s2,c2),(R,c3)) ?_;rw[show (⟨D.kept,D.now,D.wait,if D.fuse - 1< -1 then -1 else D.fuse - 1,D.down⟩:DiskM)=du D by simp[du,J,S J]];exact ao rfl rfl (by rw[show dm D=0 by simp[dm,J,S J]];rfl)
def eo (b:Nat)(D:DiskM)(F:List ag):Ct Tryz.prog 112 [ptr b 0] (cf 179 319 b (D)::F) (R1 (I D.now.length) (cf 179 319 b (D)::F)):=by
 refine Ct.of func112 rR 8 ntmps112 (by simp) λw0=>?_;refine jl (cf 179 319 b (D)) rR ?_;rintro ⟨⟨J,c1⟩,⟨s2,c2⟩,⟨O,c3⟩⟩;show G _ _ _ (pt b (.cells #[sl J (D.kept).length c1,sl s2 (D.now).length c2,sl O (D.wait).length c3,I (D.fuse),Bo (D.down)] 179 (0,0))::bi 9 1 J c1 (dx (D.kept))::bi 9 1 s2 c2 (dx (D.now))::bi 319 2 O c3 (fT (D.wait))::F);refine gS (gQ (gS (gM (gV aa (gF 1 Wi rR W9 (gV (az Xe) (gV (aX Wx) (gQ ?_))))))));refine ic (A:=pW 179 319 b ⟨D.kept,D.now,D.wait,D.fuse,D.down⟩) [pt b (.cells #[sl J (D.kept).length c1,sl s2 (D.now).length c2,sl O (D.wait).length c3,I (D.fuse),Bo (D.down)] 179 (0,0)),bi 9 1 J c1 (dx (D.kept)),bi 9 1 s2 c2 (dx (D.now)),bi 319 2 O c3 (fT (D.wait))] (cf 179 319 b (⟨D.kept,D.now,D.wait,D.fuse,D.down⟩)) ((J,c1),(s2,c2),(O,c3)) ?_;show G _ _ _ (cf 179 319 b (D)::F);exact ao rfl rfl rfl
def tk (b:Nat)(D:DiskM)(F:List ag):Ct Tryz.prog 111 [ptr b 0] (cf 179 319 b (D)::F) (R1 (Bo D.down) (cf 179 319 b (D)::F)):=by
 refine Ct.of func111 rR 7 ntmps111 (by simp) λw0=>?_;refine jl (cf 179 319 b (D)) rR ?_;rintro ⟨⟨J,c1⟩,⟨s2,c2⟩,⟨O,c3⟩⟩;show G _ _ _ (pt b (.cells #[sl J (D.kept).length c1,sl s2 (D.now).length c2,sl O (D.wait).length c3,I (D.fuse),Bo (D.down)] 179 (0,0))::bi 9 1 J c1 (dx (D.kept))::bi 9 1 s2 c2 (dx (D.now))::bi 319 2 O c3 (fT (D.wait))::F);refine gS (gQ (gS (gM (gV aa (gF 4 Wi rR Vt (gV (az V6) (gQ ?_)))))));refine ic (A:=pW 179 319 b ⟨D.kept,D.now,D.wait,D.fuse,D.down⟩) [pt b (.cells #[sl J (D.kept).length c1,sl s2 (D.now).length c2,sl O (D.wait).length c3,I (D.fuse),Bo (D.down)] 179 (0,0)),bi 9 1 J c1 (dx (D.kept)),bi 9 1 s2 c2 (dx (D.now)),bi 319 2 O c3 (fT (D.wait))] (cf 179 319 b (⟨D.kept,D.now,D.wait,D.fuse,D.down⟩)) ((J,c1),(s2,c2),(O,c3)) ?_;show G _ _ _ (cf 179 319 b (D)::F);exact ao rfl rfl rfl
def oK (b:Nat)(D:DiskM)(n:Int)(F:List ag):Ct Tryz.prog 113 [ptr b 0,I n] (cf 179 319 b (D)::F) (R1 (.tuple #[aC (pX D n).1,bM (pX D n).2]) (cf 179 319 b (D)::F)):=by
 refine Ct.of func113 rR 30 ntmps113 (by simp) λw0=>?_;refine jl (cf 179 319 b (D)) rR ?_;rintro ⟨⟨J,c1⟩,⟨s2,c2⟩,⟨O,c3⟩⟩;show G _ _ _ (pt b (.cells #[sl J (D.kept).length c1,sl s2 (D.now).length c2,sl O (D.wait).length c3,I (D.fuse),Bo (D.down)] 179 (0,0))::bi 9 1 J c1 (dx (D.kept))::bi 9 1 s2 c2 (dx (D.now))::bi 319 2 O c3 (fT (D.wait))::F);refine gS (gA (gQ (ac (gS (gM (gV aa (gF 4 Wi rR Vt (gV (az V6) (ab ?_)))))))));apply ah<;>intro Y
 ·refine gS (gV (aZ Vn) (gA (gQ ?_)));refine ic (A:=pW 179 319 b ⟨D.kept,D.now,D.wait,D.fuse,D.down⟩) [pt b (.cells #[sl J (D.kept).length c1,sl s2 (D.now).length c2,sl O (D.wait).length c3,I (D.fuse),Bo (D.down)] 179 (0,0)),bi 9 1 J c1 (dx (D.kept)),bi 9 1 s2 c2 (dx (D.now)),bi 319 2 O c3 (fT (D.wait))] (cf 179 319 b (⟨D.kept,D.now,D.wait,D.fuse,D.down⟩)) ((J,c1),(s2,c2),(O,c3)) ?_;show G _ _ _ (cf 179 319 b (D)::F);exact ao rfl rfl (by rw[Gu Y];rfl)
 ·refine ai (ac (gS (gM (gV aI (gM (gK aq (gK aq (gK aa (gK (aw 1 Wi rR W9) (gK (az Xe) (gK (aX Wx) (gK j6 (gV cu (ab ?_))))))))))))));apply ah<;>intro R
  ·simp at R;refine gS (gV (aZ Vn) (gA (gQ ?_)));refine ic (A:=pW 179 319 b ⟨D.kept,D.now,D.wait,D.fuse,D.down⟩) [pt b (.cells #[sl J (D.kept).length c1,sl s2 (D.now).length c2,sl O (D.wait).length c3,I (D.fuse),Bo (D.down)] 179 (0,0)),bi 9 1 J c1 (dx (D.kept)),bi 9 1 s2 c2 (dx (D.now)),bi 319 2 O c3 (fT (D.wait))] (cf 179 319 b (⟨D.kept,D.now,D.wait,D.fuse,D.down⟩)) ((J,c1),(s2,c2),(O,c3)) ?_;show G _ _ _ (cf 179 319 b (D)::F);exact ao rfl rfl (by rw[Jx Y (by omega)];rfl)
  ·simp at R;have Z:¬(n<0\/(D.now.length:Int)<=n):=(by omega);obtain ⟨x,hx⟩:∃x,D.now[n.toNat]? =some x:=⟨_,Zu (by omega)⟩;have X:=Cg hx;have S:n.toNat<D.now.length:=(by omega);have V:n.toNat<(dx D.now).length:=(by rw[sV];exact S);refine ai (gS (gM (gV aa (gF 1 Wi rR W9 (gV (az Xe) (gM (gV (ay n.toNat Wx Vh (hj:=by omega) S V) (gV (bI Vj (by exact X) rR) (gA (gQ ?_))))))))));refine ic (A:=pW 179 319 b ⟨D.kept,D.now,D.wait,D.fuse,D.down⟩) [pt b (.cells #[sl J (D.kept).length c1,sl s2 (D.now).length c2,sl O (D.wait).length c3,I (D.fuse),Bo (D.down)] 179 (0,0)),bi 9 1 J c1 (dx (D.kept)),bi 9 1 s2 c2 (dx (D.now)),bi 319 2 O c3 (fT (D.wait))] (cf 179 319 b (⟨D.kept,D.now,D.wait,D.fuse,D.down⟩)) ((J,c1),(s2,c2),(O,c3)) ?_;show G _ _ _ (cf 179 319 b (D)::F);exact ao rfl rfl (by rw[ti Y Z hx];rfl)
-- (*counterfoil/counterfoilref.Disk).Read is not in this seat
-- (*counterfoil/counterfoilref.Disk).step is not in this seat
def ff (b:Nat)(D:DiskM)(n:Int)(s:ak)(hf: -1<=D.fuse/\D.fuse<=9223372036854775807)(hw:D.wait.length<=1000000)(F:List ag):Ct Tryz.prog 175 [ptr b 0,I n,aC s] (cf 179 319 b (D)::F) (R1 (bM (dt D n s)) (cf 179 319 b (cG D n s)::F)):=by
 refine Ct.of func175 rR 56 ntmps175 (by simp) λw0=>?_;refine jl (cf 179 319 b (D)) rR ?_;rintro ⟨⟨O,c1⟩,⟨s2,c2⟩,⟨R,c3⟩⟩;show G _ _ _ (pt b (.cells #[sl O (D.kept).length c1,sl s2 (D.now).length c2,sl R (D.wait).length c3,I (D.fuse),Bo (D.down)] 179 (0,0))::bi 9 1 O c1 (dx (D.kept))::bi 9 1 s2 c2 (dx (D.now))::bi 319 2 R c3 (fT (D.wait))::F);refine gS (gQ (ac (gS (gM (gV aI (gM (gK aq (gK aq (gK aa (gK (aw 1 Wi rR W9) (gK (az Xe) (gK (aX Wx) (gK j6 (gV cu (gM (gK aq (gK (cW Vg) (gK aT (gV cu (ab ?_))))))))))))))))))));apply ah<;>intro Z
 ·simp at Z;have J:nK D n s:=(by unfold nK;omega);refine gS (gV (aZ Vn) (gQ ?_));refine ic (A:=pW 179 319 b ⟨D.kept,D.now,D.wait,D.fuse,D.down⟩) [pt b (.cells #[sl O (D.kept).length c1,sl s2 (D.now).length c2,sl R (D.wait).length c3,I (D.fuse),Bo (D.down)] 179 (0,0)),bi 9 1 O c1 (dx (D.kept)),bi 9 1 s2 c2 (dx (D.now)),bi 319 2 R c3 (fT (D.wait))] (cf 179 319 b (⟨D.kept,D.now,D.wait,D.fuse,D.down⟩)) ((O,c1),(s2,c2),(R,c3)) ?_;show G _ _ _ (cf 179 319 b (D)::F);have eD:cG D n s=D:=(by unfold cG;rw[YB J]);rw[show cf 179 319 b (D)=cf 179 319 b (cG D n s) by rw[eD]];exact ao rfl rfl (by rw[show dt D n s=1 by unfold dt;rw[YB J]];rfl)
 ·simp at Z;have J:¬nK D n s:=(by unfold nK;omega);refine ai (gS (gM ?_));refine ic (A:=pW 179 319 b ⟨D.kept,D.now,D.wait,D.fuse,D.down⟩) [pt b (.cells #[sl O (D.kept).length c1,sl s2 (D.now).length c2,sl R (D.wait).length c3,I (D.fuse),Bo (D.down)] 179 (0,0)),bi 9 1 O c1 (dx (D.kept)),bi 9 1 s2 c2 (dx (D.now)),bi 319 2 R c3 (fT (D.wait))] (cf 179 319 b (⟨D.kept,D.now,D.wait,D.fuse,D.down⟩)) ((O,c1),(s2,c2),(R,c3)) ?_;show G _ _ _ (cf 179 319 b (D)::F);refine gR (vB call238 (tj b D hf)) ?_;have hnow:=fk D;have hwait:=eY D;generalize hD1:du D=D1 at*;refine gQ (ac (gS (gM (gV (fO Vl) (ab ?_)))));apply ah<;>intro X
  ·simp at X;have he0:dm D=0:=X;refine jl (cf 179 319 b (D1)) rR ?_;rintro ⟨⟨O,c1⟩,⟨s2,c2⟩,⟨R,c3⟩⟩;show G _ _ _ (pt b (.cells #[sl O (D1.kept).length c1,sl s2 (D1.now).length c2,sl R (D1.wait).length c3,I (D1.fuse),Bo (D1.down)] 179 (0,0))::bi 9 1 O c1 (dx (D1.kept))::bi 9 1 s2 c2 (dx (D1.now))::bi 319 2 R c3 (fT (D1.wait))::F);rw[<-hnow] at Z;rw[<-hwait] at hw;obtain ⟨x,hx⟩:∃x,D1.now[n.toNat]? =some x:=⟨_,Zu (by omega)⟩;have hrow:=Cg hx;have S:n.toNat<D1.now.length:=(by omega);have hlt2:n.toNat<(dx D1.now).length:=(by rw[sV];exact S);have hy:(D1.now.set n.toNat (bV s))[n.toNat]? =some (bV s):=(by simp[S]);have hrow2:=Cg hy;refine ac ?_;refine eU (Lf:=pt b (.cells #[sl O (D1.kept).length c1,sl s2 (D1.now).length c2,sl R (D1.wait).length c3,I (D1.fuse),Bo (D1.down)] 179 (0,0))::bi 9 1 s2 c2 (dx (D1.now))::F) jD 8 ?_;refine dM rR (dV rR aa (dF rR 1 Wi rR W9 (dV rR (az Xe) (dM rR (dM rR (d7 rR (uA call100 (sX s (by omega))) ?_))))));rintro _ _ ⟨rfl,rfl⟩;refine dV rR (ay n.toNat Wx Vh (hj:=by omega) S hlt2) ?_;refine aP ?_;refine ir (Jk (row:=[aC x]) Vh rR rR rR hrow (by decide)) ?_;rintro _ _ rfl;rw[Lp];refine ab ?_;refine eU (Lf:=pt b (.cells #[sl O (D1.kept).length c1,sl s2 (D1.now).length c2,sl R (D1.wait).length c3,I (D1.fuse),Bo (D1.down)] 179 (0,0))::bi 9 1 s2 c2 (dx (D1.now.set n.toNat (bV s)))::F) [(0,false),(1,false),(2,false),(3,false),(4,false),(5,false),(6,false),(7,false),(8,false),(9,false),(10,false),(11,false),(12,false),(13,false),(14,true),(15,true),(16,false),(17,false)] 18 ?_;refine dM rR (dM rR (dV rR aa (dF rR 2 Wi rR Xw (dV rR (az isAgg177) (dM rR (dM rR (dV rR aa (dF rR 1 Wi rR W9 (dV rR (az Xe) (dM rR (dV rR (ay n.toNat Wx Vh (hj:=by omega) S (by rw[sV,Z8];exact S)) (dV rR (bI Vj (by exact hrow2) rR) (dV rR (aR (F5 _ rR _ rR)) (d7 rR (av [[I n,aC (bV s)]] underlying177 sizeOf319 XX (by simp)) ?_))))))))))))));rintro _ _ ⟨b51,rfl,rfl⟩;refine d7 rR (bo underlying177 sizeOf319 XX Tryz.typeInfo319 (hn:=by exact Jw _) (by simp) (by simp[ones,one]) ⟨by omega,by decide,by decide⟩) ?_;rintro _ _ ⟨Y,V,rfl,rfl⟩;rw[Jy _ (by omega)];refine dV rR aa (dF rR 2 Wi rR Xw ?_);refine aP ?_
   refine gU (aK #[sl O (D1.kept).length c1,sl s2 (D1.now).length c2,sl Y (D1.wait.length+1) V,I (D1.fuse),Bo (D1.down)] Xw (by simp)) (ab (gS (gM (gQ ?_))));refine ic (A:=pW 179 319 b (eu D1 n s)) [pt b (.cells #[sl O (D1.kept).length c1,sl s2 (D1.now).length c2,sl Y (D1.wait.length+1) V,I (D1.fuse),Bo (D1.down)] 179 (0,0)),bi 9 1 O c1 (dx (D1.kept)),bi 9 1 s2 c2 (dx (D1.now.set n.toNat (bV s))),bi 319 2 Y V (fT (D1.wait++ [(n.toNat,bV s)]))] (cf 179 319 b (eu D1 n s)) ((O,c1),(s2,c2),(Y,V)) (hA:=by simp[pW,eu]) ?_;rw[show eu D1 n s=cG D n s by unfold cG;rw[YC J,YB he0,hD1]];exact ao rfl rfl (by rw[show dt D n s=dm D by unfold dt;rw[YC J]];rfl)
  ·simp at X;have he0:¬dm D=0:=X;refine ai (gS (gM (gQ ?_)));rw[show D1=cG D n s by unfold cG;rw[YC J,YC he0,hD1]];exact ao rfl rfl (by rw[show dt D n s=dm D by unfold dt;rw[YC J]];rfl)
def iy (D:DiskM):DiskM:=⟨D.now,D.now,[],D.fuse,D.down⟩
def cJ (D:DiskM):DiskM:=if dm D=0 then iy (du D) else du D
def Lq {r1 r2:List ak}(h:r1.length=r2.length):(dx r1).take 0++((dx r2).drop 0).take (Nat.min r2.length r1.length)++(dx r1).drop (0+Nat.min r2.length r1.length)=dx r2:=by
 grind[dx,List.drop_of_length_le]
def Ek (D:DiskM):dm D=0\/dm D=9:=by grind[dm]
-- counterfoil/counterfoilref.noughts is not in this seat
-- (*counterfoil/counterfoilref.Disk).Write is not in this seat
def hG (b:Nat)(D:DiskM)(Z: -1<=D.fuse/\D.fuse<=9223372036854775807)(hk:D.kept.length=D.now.length)(hn:D.now.length<=1000000)(F:List ag):Ct Tryz.prog 176 [ptr b 0] (cf 179 319 b (D)::F) (R1 (bM (dm D)) (cf 179 319 b (cJ D)::F)):=by
 refine Ct.of func176 rR 21 ntmps176 (by simp) λw0=>?_;refine gS (gQ (gS (gM (gR (vB call238 (tj b D Z)) ?_))));have R:=fk D;have S:=eb D;have hsc:=Ek D;generalize V:du D=D1 at*;rw[<-R,<-S] at hk;rw[<-R] at hn;refine gQ (ac (gS (gM (gV (fO Vl) (ab ?_)))));apply ah<;>intro X
 ·simp at X;have J:dm D=0:=X;refine jl (cf 179 319 b (D1)) rR ?_;rintro ⟨⟨O,c1⟩,⟨s2,c2⟩,⟨Y,c3⟩⟩;show G _ _ _ (pt b (.cells #[sl O (D1.kept).length c1,sl s2 (D1.now).length c2,sl Y (D1.wait).length c3,I (D1.fuse),Bo (D1.down)] 179 (0,0))::bi 9 1 O c1 (dx (D1.kept))::bi 9 1 s2 c2 (dx (D1.now))::bi 319 2 Y c3 (fT (D1.wait))::F);refine ac ?_;refine cO (Lf:=pt b (.cells #[sl O (D1.kept).length c1,sl s2 (D1.now).length c2,sl Y (D1.wait).length c3,I (D1.fuse),Bo (D1.down)] 179 (0,0))::F) jK ?_;refine dM rR (dV rR aa (dF rR 0 Wi rR W9 (dV rR (az Xe) (dM rR (dV rR aa (dF rR 1 Wi rR W9 (dV rR (az Xe) ?_)))))));refine d7 rR (uP (s:=O) (s2:=s2) (l:=0) (p:=0) Wx Vh (by decide) rR rR (.inl ⟨rfl,rfl⟩) (.inl ⟨rfl,rfl⟩) (by simp[dx]) (by simp[dx]) (by simp[dx]) (by simp[dx,ones,one])) ?_;rintro _ _ ⟨rfl,rfl⟩;refine kE O (dx D1.now) (Lq hk) ?_;refine aP ?_;refine am (gM (gV aa (gF 2 Wi rR Xw (gU (aK #[sl O (D1.kept).length c1,sl s2 (D1.now).length c2,sl none 0 0,I (D1.fuse),Bo (D1.down)] Xw (by simp)) (ab ?_)))));refine bH 319 2 (fT []) ?_;refine ac ?_;skip;refine am (gM (gQ ?_));refine ic (A:=pW 179 319 b (iy D1)) [pt b (.cells #[sl O (D1.kept).length c1,sl s2 (D1.now).length c2,sl none 0 0,I (D1.fuse),Bo (D1.down)] 179 (0,0)),bi 9 1 O c1 (dx D1.now),bi 9 1 s2 c2 (dx D1.now),bi 319 2 none 0 (fT [])] (cf 179 319 b (iy D1)) ((O,c1),(s2,c2),(none,0)) (hA:=by simp[pW,iy,hk]) ?_;rw[show iy D1=cJ D by unfold cJ;rw[YB J,V]];exact ao rfl rfl (by rw[J];rfl)
 ·simp at X;have J:¬dm D=0:=X;refine ai (ac ?_);skip;refine am (gM (gQ ?_));rw[show D1=cJ D by unfold cJ;rw[YC J,V]];exact ao rfl rfl rfl
-- (*counterfoil/counterfoilref.Disk).Flush is not in this seat
def dX (c:ChangeM):Int:=if c.key=[]\/(c.gone=true/\c.val≠ []) then 3 else if 8<c.key.length\/48<c.val.length then 2 else 0
def Ch (c:ChangeM):0<=dX c:=by grind[dX]
theorem qK {c:ChangeM}(h:dX c=0):c.key≠ []/\(c.gone=true->c.val=[])/\c.key.length<=8/\c.val.length<=48:=by
 grind[dX]
def nM (c:ChangeM):ak:=[if c.gone then 1 else 0,UInt8.ofNat c.key.length]
def pK (c:ChangeM):ak:=nM c++c.key++c.val
def El (c:ChangeM):ak×Int:=if dX c=0 then (pK c,0) else ([],dX c)
def AP:ChangeM:=⟨[],[],false⟩
def pY (x0 x1:UInt8)(r:ak):ChangeM:=⟨r.take x1.toNat,r.drop x1.toNat,decide ((x0.toNat:Int)=1)⟩
def uJ:ak->ChangeM×Int
 | x0::x1::r=>if 1<x0.toNat\/r.length<x1.toNat then (AP,4) else if dX (pY x0 x1 r)=0 then (pY x0 x1 r,0) else (AP,4)
 | _=>(AP,4)
def wY (J O:UInt8)(r:ak):uJ (J::O::r)=if 1<J.toNat\/r.length<O.toNat then (AP,4) else if dX (pY J O r)=0 then (pY J O r,0) else (AP,4):=rfl
def yh {c:ChangeM}(h:c.key.length<=8):[[By (if c.gone then 1 else 0)],[By (c.key.length:Int)]]=aA (nM c):=by
 have e:(UInt8.ofNat c.key.length).toNat=c.key.length:=(by rw[UInt8.toNat_ofNat'];omega);unfold aA nM;rw[Yw,Yw,Yx,e];cases c.gone <;> rfl
def Lr (w:World):(Instr.build 174 #[]).run Tryz.prog w= .ok (.agg (aV AP).toArray) w:=by
 simp[Instr.build,Vo,Xv,Vt,Vh,Instr.fill,bB,aV,AP]
def Jz {s:ak}(h:¬s.length<2):∃J O r,s=J::O::r:=by
 match s,h with
 | J::O::r,_=>exact ⟨J,O,r,rfl⟩
 | [x],h=>simp at h
 | [],h=>simp at h
def ke (c:ChangeM)(F:List ag):Ct Tryz.prog 178 [.agg (aV c).toArray] (F) (R1 (bM (dX c)) F):=by
 refine Ct.of func178 rR 27 ntmps178 (by simp) λw0=>?_;refine gS (gI (di (aV c).toArray) ?_);rintro _ _ ⟨b1,rfl,rfl⟩;refine gQ (ac (gS (gF 0 Vp rR Vh (gL (aC c.key) Vj (gV cj (gM ?_))))));by_cases hk:c.key=[]
 ·refine bE (hw:=by rw[Zv hk];rfl) (bE (hw:=by rw[Zv hk];rfl) (bE (hw:=by rw[Zv hk];rfl) (bE (bE (bE (bE (hw:=by rw[Zv hk];rfl) (gV (fl (hq:=by exact Zv hk)) (ab ?_))))))));apply ah<;>intro O
  ·refine gS (gV (aZ Vn) (gQ ?_));refine ao rR rR ?_;show _=bM _;rw[show dX c=3 by unfold dX;rw[YB (.inl hk)]]
   rfl
  ·exact absurd O (by simp)
 ·refine bc (hw:=by exact Zt hk) (aw 2 Vp rR Vt) (bc (hw:=by exact Zt hk) (az (v:=Bo c.gone) V6) (bc (hw:=by exact Zt hk) aq (gK (aw 1 Vp rR Vh) (gK (az (v:=aC c.val) Vj) (gK np (bc (hw:=by exact Zt hk) dD (gV cu (ab ?_))))))));apply ah<;>intro O
  ·simp at O;have J:c.gone=true/\c.val≠ []:=(by rcases O with h | h;exact absurd h hk;exact h);refine gS (gV (aZ Vn) (gQ ?_));refine ao rR rR ?_;show _=bM _;rw[show dX c=3 by unfold dX;rw[YB (.inr J)]]
   rfl
  ·simp at O;have J:¬(c.key=[]\/(c.gone=true/\c.val≠ [])):=λhh=>(by rcases hh with h | h;exact hk h;exact h.2 (O.2 h.1));refine ai (ac (gS (gF 0 Vp rR Vh (gL (aC c.key) Vj (gV (cW Vg) (gV aT (gM (gK (aw 1 Vp rR Vh) (gK (az (v:=aC c.val) Vj) (gK (cW Vg) (gK aT (gV cu (ab ?_)))))))))))));apply ah<;>intro R
   ·simp at R;refine gS (gV (aZ Vn) (gQ ?_));refine ao rR rR ?_;show _=bM _;rw[show dX c=2 by unfold dX;rw[YC J,YB (by omega)]]
    rfl
   ·simp at R;refine ai (gS (gQ ?_));refine ao rR rR ?_;show _=bM _;rw[show dX c=0 by unfold dX;rw[YC J,YC (by omega)]]
    rfl
def uY (c:ChangeM)(F:List ag):Ct Tryz.prog 106 [.agg (aV c).toArray] (F) (R1 (I (dX c)) F):=by
 refine Ct.of func106 rR 25 ntmps106 (by simp) λw0=>?_;refine gS (gI (di (aV c).toArray) ?_);rintro _ _ ⟨b1,rfl,rfl⟩;refine gQ (ac (gS (gF 0 Vp rR Vh (gL (aC c.key) Vj (gV cj (gM ?_))))));by_cases hk:c.key=[]
 ·refine bE (hw:=by rw[Zv hk];rfl) (bE (hw:=by rw[Zv hk];rfl) (bE (hw:=by rw[Zv hk];rfl) (bE (bE (bE (bE (hw:=by rw[Zv hk];rfl) (gV (fl (hq:=by exact Zv hk)) (ab ?_))))))));apply ah<;>intro O
  ·refine gS (gQ ?_);refine ao rR rR ?_;show _=I _;rw[show dX c=3 by unfold dX;rw[YB (.inl hk)]]
   rfl
  ·exact absurd O (by simp)
 ·refine bc (hw:=by exact Zt hk) (aw 2 Vp rR Vt) (bc (hw:=by exact Zt hk) (az (v:=Bo c.gone) V6) (bc (hw:=by exact Zt hk) aq (gK (aw 1 Vp rR Vh) (gK (az (v:=aC c.val) Vj) (gK np (bc (hw:=by exact Zt hk) dD (gV cu (ab ?_))))))));apply ah<;>intro O
  ·simp at O;have J:c.gone=true/\c.val≠ []:=(by rcases O with h | h;exact absurd h hk;exact h);refine gS (gQ ?_);refine ao rR rR ?_;show _=I _;rw[show dX c=3 by unfold dX;rw[YB (.inr J)]]
   rfl
  ·simp at O;have J:¬(c.key=[]\/(c.gone=true/\c.val≠ [])):=λhh=>(by rcases hh with h | h;exact hk h;exact h.2 (O.2 h.1));refine ai (ac (gS (gF 0 Vp rR Vh (gL (aC c.key) Vj (gV (cW Vg) (gV aT (gM (gK (aw 1 Vp rR Vh) (gK (az (v:=aC c.val) Vj) (gK (cW Vg) (gK aT (gV cu (ab ?_)))))))))))));apply ah<;>intro R
   ·simp at R;refine gS (gQ ?_);refine ao rR rR ?_;show _=I _;rw[show dX c=2 by unfold dX;rw[YC J,YB (by omega)]]
    rfl
   ·simp at R;refine ai (gS (gQ ?_));refine ao rR rR ?_;show _=I _;rw[show dX c=0 by unfold dX;rw[YC J,YC (by omega)]]
    rfl
def Ci (c:ChangeM)(F:List ag):Ct Tryz.prog 267 [.agg (aV c).toArray] (F) (R1 (.tuple #[aC (El c).1,bM (El c).2]) F):=by
 refine Ct.of func267 rR 26 ntmps267 (by simp) λw0=>?_;refine gS (gI (di (aV c).toArray) ?_);rintro _ _ ⟨b1,rfl,rfl⟩;refine gA (gQ (gS (gV (aU (vs:=aV (c)) Vz Vd bp) (gR (vA call178 (ke c)) (gQ (ac (gS (gM (gV (ck Vl) (ab ?_))))))))));apply ah<;>intro V
 ·simp at V;have R:El c=([],dX c):=(by unfold El;rw[YC (by omega)]);refine gS (gM (gA (gQ ?_)));exact ao rfl rfl (by rw[R];rfl)
 ·simp at V;have h0:dX c=0:=(by have:=Ch c;omega);have R:El c=(pK c,0):=(by unfold El;rw[YB h0]);obtain ⟨_,_,O,X⟩:=qK h0;refine ai (gS (gQ (ac (gS (gF 2 Vp rR Vt (gL (Bo c.gone) V6 (ab ?_)))))));apply ah<;>intro J
  ·refine am (gQ (gS (gM (gF 0 Vp rR Vh (gL (aC c.key) Vj (gV (cW Vg) (gV (cP Vf Vq (w8 (by omega))) (gI (av (aA (nM c)) Vs VP V0 (hr:=by have hr:=yh O;rw[J] at hr;exact hr) (by simp[aA])) ?_))))))));rintro _ _ ⟨S,rfl,rfl⟩;refine gV (cg (l:=nM c) Vs Vq Vg rR) (gF 0 Vp rR Vh (gL (aC c.key) Vj (gV (cS (by simp[nM];omega)) (gF 1 Vp rR Vh (gL (aC c.val) Vj (gV (cS (by simp[nM];omega)) (gA (gQ ?_))))))));exact ao rfl rfl (by rw[R];rfl)
  ·refine ai (gS (gM (gF 0 Vp rR Vh (gL (aC c.key) Vj (gV (cW Vg) (gV (cP Vf Vq (w8 (by omega))) (gI (av (aA (nM c)) Vs VP V0 (hr:=by have hr:=yh O;rw[J] at hr;exact hr) (by simp[aA])) ?_)))))));rintro _ _ ⟨S,rfl,rfl⟩;refine gV (cg (l:=nM c) Vs Vq Vg rR) (gF 0 Vp rR Vh (gL (aC c.key) Vj (gV (cS (by simp[nM];omega)) (gF 1 Vp rR Vh (gL (aC c.val) Vj (gV (cS (by simp[nM];omega)) (gA (gQ ?_))))))));exact ao rfl rfl (by rw[R];rfl)
-- counterfoil/counterfoilref.ChangeBytes is not in this seat
def Cj (s:ak)(hs:s.length<=4611686018427387904)(F:List ag):Ct Tryz.prog 185 [aC s] (F) (R1 (.tuple #[.agg (aV (uJ s).1).toArray,bM (uJ s).2]) F):=by
 refine Ct.of func185 rR 45 ntmps185 (by simp) λw0=>?_;refine gS (gI (aO #[aC [],aC [],Bo false] Vo) ?_);rintro _ _ ⟨b2,rfl,rfl⟩;refine gQ (ac (gS (gM (gV (cW Vg) (gV aI (gM ?_))))));by_cases Y:s.length<2
 ·have hp:uJ s=(AP,4):=(by match s,Y with | [],_=>rfl | [_],_=>rfl);refine bE (hw:=by rw[Zv (by omega)];rfl) (bE (hw:=by rw[Zv (by omega)];rfl) (bE (hw:=by rw[Zv (by omega)];rfl) (gV (fl (hq:=by simp;omega)) (gM (bE (hw:=by rfl) (bE (hw:=by rfl) (bE (hw:=by rfl) (bE (hw:=by rfl) (bE (hw:=by rfl) (bE (hw:=by rfl) (bE (hw:=by rfl) (gV fl (ab ?_)))))))))))));apply ah<;>intro R
  ·refine gS (gV (aR Lr) (gV (aZ Vn) (gU (ax (cs:=#[aC [],aC [],Bo false]) (vs:=aV AP) (aV AP).toArray Vd (by decide) (hcs:=by exact bk)) (gQ ?_))));exact mV (aV AP) (by rw[hp] <;> rfl) rfl rfl rfl Vz Vd rfl bp
  ·exact absurd R (by simp)
 ·obtain ⟨O,J,r,rfl⟩:=Jz Y;have hx0:=O.toNat_lt;have hx1:=J.toNat_lt;refine bc (hw:=by exact Zt (by omega)) aq (bc (hw:=by exact Zt (by omega)) (cr (r:=O) 0 Vg (by rfl)) (bc (hw:=by exact Zt (by omega)) aT (gV cu (gM (gK aq (gK (cr (r:=J) 1 Vg (by rfl)) (gK (cP Vq Vf (da (by omega))) (Jd (λZ=>bO (da (by simp at Z;omega))) (gK aq (gK (cW Vg) (gK aT (gV cu (ab ?_)))))))))))));apply ah<;>intro R
  ·simp at R;have hp:uJ (O::J::r)=(AP,4):=(by rw[wY,YB (by omega)]);refine gS (gV (aR Lr) (gV (aZ Vn) (gU (ax (cs:=#[aC [],aC [],Bo false]) (vs:=aV AP) (aV AP).toArray Vd (by decide) (hcs:=by exact bk)) (gQ ?_))));exact mV (aV AP) (by rw[hp] <;> rfl) rfl rfl rfl Vz Vd rfl bp
  ·simp at R;have S:¬(1<O.toNat\/r.length<J.toNat):=(by omega);refine ai (gS (gM (gV (cr (r:=J) 1 Vg (by rfl)) (gV (cP Vq Vf (da (by omega))) (gP (gQ (ac ?_)))))));refine cV jL ?_;refine dM rR (dM rR (dV rR (gc (l:=2) (h:=J.toNat+2) Vg (hm2:=by omega) (by omega) (hh:=by simp;omega)) (dM rR (dM rR (dV rR (wU (l:=J.toNat+2) Vg (hm:=by omega) (by simp;omega)) (dM rR (dV rR (cr (r:=O) 0 Vg (by rfl)) (dV rR bT (dV rR (aR (BV _ rR _ rR _ rR)) (d7 rR (aO #[aC [],aC [],Bo false] Vo) ?_))))))))));rintro _ _ ⟨b5,rfl,rfl⟩;refine rc rR (ax (cs:=#[aC [],aC [],Bo false]) (vs:=aV (pY O J r)) (aV (pY O J r)).toArray Vd (by decide) (hcs:=by exact bk)) ?_;rintro _ _ rfl;refine aP ?_;refine ac (gS (gV (aU (vs:=aV (pY O J r)) Vz Vd bp) (gR (vA call178 (ke (pY O J r))) (gV (ck Vl) (ab ?_)))));apply ah<;>intro V
   ·simp at V;have hp:uJ (O::J::r)=(AP,4):=(by rw[wY,YC S,YC (by omega)]);refine gS (gV (aR Lr) (gV (aZ Vn) (gU (ax (cs:=#[aC [],aC [],Bo false]) (vs:=aV AP) (aV AP).toArray Vd (by decide) (hcs:=by exact bk)) (gQ ?_))));exact mV (aV AP) (by rw[hp] <;> rfl) rfl rfl rfl Vz Vd rfl bp
   ·simp at V;have X:dX (pY O J r)=0:=(by have:=Ch (pY O J r);omega);have hp:uJ (O::J::r)=(pY O J r,0):=(by rw[wY,YC S,YB X]);refine ai (gS (gV (aU (vs:=aV (pY O J r)) Vz Vd bp) (gU (ax (cs:=#[aC [],aC [],Bo false]) (vs:=aV (pY O J r)) (aV (pY O J r)).toArray Vd (by decide) (hcs:=by exact bk)) (gQ ?_))));exact mV (aV (pY O J r)) (by rw[hp] <;> rfl) rfl rfl rfl Vz Vd rfl bp
-- counterfoil/counterfoilref.ChangeOf is not in this seat
open Go Go.Sl Go.Proofs
def AQ (a b:ChangeM)(w:World):(Op.equal 174 (.agg (aV a).toArray) (.agg (aV b).toArray)).run Tryz.prog w= .ok (decide (a=b)) w:=by
 have h1:=BU (P:=Tryz.prog) (w:=w) (a:=a.key) (b:=b.key) 9998 Vg;have Y:=BU (P:=Tryz.prog) (w:=w) (a:=a.val) (b:=b.val) 9998 Vg;have Z:=Ok (P:=Tryz.prog) (w:=w) (a:=a.gone) (b:=b.gone) 9998 underlying4;show (Op.equalIn (9999+1) _ _ _).run _ _=_;unfold Op.equalIn;simp[aV,underlying,program,Sem.run,Vp,stoodInHeld174,part,Vj,V6,h1,Y,Z];cases a;cases b;rename_i J a2 a3 b1 O R;by_cases S:J=b1 <;> by_cases V:a2=O <;> by_cases X:a3=R <;> simp[S,V,X]
-- counterfoil/counterfoilref.SameChanges is not in this seat
end Go.Proofs.YthdjckbjjfiopabGreatDoor
namespace Go.Proofs.YthdjckbjjfiopabGreatDoor
open Go.Sl Go.Proofs
def kb (keep:Int)(i:Nat):Bool:=decide (keep.fdiv (2 ^ (i % 64)) % 2=1)
def pr (keep:Int)(w:List (Nat×ak))(l:List ak):Nat->List ak
 | 0=>l
 | k+1=>match w[k]? with
  | some t=>if kb keep k=true then (pr keep w l k).set t.1 t.2 else pr keep w l k
  | none=>pr keep w l k
def qL (keep:Int)(w:List (Nat×ak))(l:List ak):∀k,(pr keep w l k).length=l.length
 | 0=>rfl
 | k+1=>by
  unfold pr;split
  ·split
   ·rw[Z8,qL keep w l k]
   ·exact qL keep w l k
  ·exact qL keep w l k
def iz (keep:Int)(D:DiskM):List ak:=pr keep D.wait D.kept D.wait.length
def tl (keep:Int)(D:DiskM):DiskM:=⟨iz keep D,iz keep D,[], -1,false⟩
open _root_.Go.Proofs.Tryz
def lH (n:Nat):DiskM:=⟨List.replicate n (i8 80),List.replicate n (i8 80),[], -1,false⟩
def Rl (E:Int->Value)(T TT:Nat)(n:Int)(F:List ag):Value->List ag->Prop:=λv L'=>(¬(1<=n/\n<=260)/\v= .tuple #[.pointer none,E 1]/\L'=F)\/((1<=n/\n<=260)/\∃b,v= .tuple #[ptr b 0,E 0]/\L'=cf T TT b (lH n.toNat)::F)
section
variable {c:Cx}{E:dr}{L:List ag}{K:List KI}
def JA {J:Int->Value}{T TT:Nat}{n:Int}{F:List ag}{vs:List Value}(V:c.R=Rl J T TT n F)(hr:gm E c.fn.results.toList=some vs)(hn:¬(1<=n/\n<=260))(hv:rN vs= .tuple #[.pointer none,J 1])[S:Sub L F](hds:c.n.ds=[]:=by rfl):G c (.code .ret::K) E L:=
 λa w O X=>wp_ret (bX (aW (hds:=hds) hr O (S.sat X) (by rw[V];exact .inl ⟨hn,hv,rfl⟩)))
def JB {J:Int->Value}{T TT:Nat}{n:Int}{F:List ag}{vs:List Value}(b:Nat)(V:c.R=Rl J T TT n F)(hr:gm E c.fn.results.toList=some vs)(hn:1<=n/\n<=260)(hv:rN vs= .tuple #[ptr b 0,J 0])[S:Sub L (cf T TT b (lH n.toNat)::F)](hds:c.n.ds=[]:=by rfl):G c (.code .ret::K) E L:=
 λa w O X=>wp_ret (bX (aW (hds:=hds) hr O (S.sat X) (by rw[V];exact .inr ⟨hn,b,hv,rfl⟩)))
end
def Em (n:Int)(F:List ag):Ct Tryz.prog 36 [I n] (F) (Rl bM 179 319 n F):=by
 refine Ct.of func36 rR 21 ntmps36 (by simp) λw0=>?_;refine gS (gA (gQ (ac (gS (gM (gV aI (gM (gK aq (gK aT (gV cu (ab ?_)))))))))));apply ah<;>intro Y
 ·simp at Y;refine gS (gV (aZ Vn) (gA (gQ ?_)));exact JA rfl rfl (by omega) rfl
 ·simp at Y;refine ai (gS (gR (vA call100 (sX [] (by decide))) ?_));rw[show bV []=i8 80 from rfl];refine gI (av [[aC (i8 80)]] Wx Vh XG (by simp)) ?_;rintro _ _ ⟨X,rfl,rfl⟩;refine gM ?_;refine bR (some ⟨X,0,none⟩) ?_;refine gI (uB call99 (by have:=Ah (i8 80) (some ⟨X,0,none⟩) 1 n.toNat (by omega);rwa [Z7 (by omega)] at this)) ?_;rintro _ _ ⟨Z,O,rfl,rfl⟩;refine BR (φ:=∃a,Z=some a) (λw hS=>?_) (λha=>?_)
  ·rcases dz hS with ⟨_,h,_,_⟩ | ⟨b,cs,h,_⟩
   ·exfalso;have h2:=Yg List.length h;simp[dx] at h2;omega
   ·exact ⟨_,h⟩
  obtain ⟨J,rfl⟩:=ha;refine gQ (gS (gM (gM (gI (uB call101 (by have:=B8 (List.replicate n.toNat (i8 80)) J O (by simp;omega);rw[ZA] at this;exact this)) ?_))));rintro _ _ ⟨V,S,rfl,rfl⟩;refine gV (aR (BW _ rR _ rR _ rR)) (gI (di #[sl (some J) n.toNat O,sl V n.toNat S,sl none 0 0,I (-1),Bo false]) ?_);rintro _ _ ⟨R,rfl,rfl⟩;refine gA (gQ ?_);refine bH 319 2 (fT []) ?_;refine ic (A:=pW 179 319 R (lH n.toNat)) [pt R (.cells #[sl (some J) n.toNat O,sl V n.toNat S,sl none 0 0,I (-1),Bo false] 179 (0,0)),bi 9 1 (some J) O (dx (List.replicate n.toNat (i8 80))),bi 9 1 V S (dx (List.replicate n.toNat (i8 80))),bi 319 2 none 0 (fT [])] (cf 179 319 R (lH n.toNat)) ((some J,O),(V,S),(none,0)) (hA:=by simp[pW,lH]) ?_;exact JB R rfl rfl (by omega) rfl
-- counterfoil/counterfoilref.NewDisk is not in this seat
def bj (n:Nat):ak:=[UInt8.ofNat n,UInt8.ofNat (n / 256),UInt8.ofNat (n / 65536),UInt8.ofNat (n / 16777216)]
def dY (kind:UInt8)(n:Nat)(s:ak):ak:=kind::(bj n++([UInt8.ofNat s.length,UInt8.ofNat (s.length / 256)]++s))
def sk (s:ak)(i:Nat):UInt8:=(s[i]?).getD 0
def JC (s:ak):Nat:=(sk s 5).toNat+256*(sk s 6).toNat
def fC (num:Nat)(s:ak):Option (UInt8×ak):=if (s.take 5).drop 1=bj num/\(sk s 0=111\/sk s 0=99)/\JC s<=73 then some (sk s 0,(s.take (7+JC s)).drop 7) else none
abbrev dc:=List (List ChangeM)
def dh (first:Nat)(sec:Nat->ak):Nat->Nat->dc->List ChangeM->Nat->dc×Nat
 | 0,_,out,_,used=>(out,used)
 | f+1,i,out,deed,used=>match fC (first+i) (sec i) with
  | none=>(out,used)
  | some (k,t)=>if k=99 then (if t=bj deed.length then dh first sec f (i+1) (out++ [deed]) [] (i+1) else (out,used)) else if (uJ t).2=0 then dh first sec f (i+1) out (deed++ [(uJ t).1]) used else (out,used)
def mX {s:ak}{i:Nat}(h:i<s.length:=by omega):s[i]? =some (sk s i):=by grind[sk]
theorem mY {n:Nat}(h:n<256):(UInt8.ofNat n).toNat=n:=by simp_all
theorem uZ {kind:UInt8}{num:Nat}{s:ak}(hk:kind=111\/kind=99)(hs:s.length<=73):fC num (bV (dY kind num s))=some (kind,s):=by
 have e:bV (dY kind num s)=kind::(UInt8.ofNat num::UInt8.ofNat (num / 256)::UInt8.ofNat (num / 65536)::UInt8.ofNat (num / 16777216)::UInt8.ofNat s.length::UInt8.ofNat (s.length / 256)::(s++i8 (80 - (dY kind num s).length))):=by
  unfold bV dY bj;simp
 rw[e];generalize i8 (80 - (dY kind num s).length)=z;unfold fC;have J:JC (kind::(UInt8.ofNat num::UInt8.ofNat (num / 256)::UInt8.ofNat (num / 65536)::UInt8.ofNat (num / 16777216)::UInt8.ofNat s.length::UInt8.ofNat (s.length / 256)::(s++z)))=s.length:=by
  show (UInt8.ofNat s.length).toNat+256*(UInt8.ofNat (s.length / 256)).toNat=s.length
  grind[mY]
 rw[J,YB ⟨rfl,hk,by omega⟩];congr 2;rw[show 7+s.length=s.length+7 by omega]
 simp_all
theorem mc (num:Nat):fC num (bV [])=none:=by
 unfold fC;rw[YC];intro h;have:sk (bV []) 0=0:=by decide
 grind
def Rm {c:ChangeM}(h:dX c=0):uJ (pK c)=(c,0):=by
 obtain ⟨_,_,hk,hv⟩:=qK h;unfold pK nM;show uJ ((if c.gone then 1 else 0)::UInt8.ofNat c.key.length::(c.key++c.val))=_;rw[wY];have J:(UInt8.ofNat c.key.length).toNat=c.key.length:=mY (by omega);have R:((if c.gone=true then (1:UInt8) else 0)).toNat<=1:=(by split <;> decide);rw[YC (by rw[J];simp;omega)];have O:pY (if c.gone=true then 1 else 0) (UInt8.ofNat c.key.length) (c.key++c.val)=c:=by
  unfold pY;rw[J,kaa,kab];cases c with
  | mk k v g=>cases g <;> rfl
 rw[O,YB h]
theorem wZ {c:ChangeM}(h:dX c=0):(pK c).length<=58:=by
 grind[qK,pK,nM]
theorem yi (k:UInt8)(n:Nat)(s:ak):(dY k n s).length=7+s.length:=by grind[dY,bj]
theorem ll (first:Nat)(O:Nat->ak)(f i:Nat)(out:dc)(J:List ChangeM)(used:Nat):dh first O (f+1) i out J used=match fC (first+i) (O i) with
 | none=>(out,used)
 | some (k,t)=>if k=99 then (if t=bj J.length then dh first O f (i+1) (out++ [J]) [] (i+1) else (out,used)) else if (uJ t).2=0 then dh first O f (i+1) out (J++ [(uJ t).1]) used else (out,used):=rfl
def pZ {first:Nat}{R:Nat->ak}:∀(f i:Nat) (out:dc) (O:List ChangeM) (used:Nat) (o:dc) (u:Nat),dh first R f i out O used=(o,u)->(u=used/\o=out)\/
  ((i<u/\u<=i+f)/\∀J:Nat->ak,(∀j,i<=j->j<u->J j=R j)->dh first J f i out O used=dh first J (i+f - u) u o [] u)
 | 0,i,out,O,used,o,u,e=>by
  injection e with V X;exact .inl ⟨X.symm,V.symm⟩
 | f+1,i,out,O,used,o,u,e=>by
  rw[ll] at e;cases hl:fC (first+i) (R i) with
  | none=>grind
  | some Z=>
   obtain ⟨k,t⟩:=Z;rw[hl] at e;simp only at e;by_cases hk:k=99
   ·rw[YB hk] at e;by_cases ht:t=bj O.length
    ·rw[YB ht] at e;right;have step:∀J:Nat->ak,J i=R i->dh first J (f+1) i out O used=dh first J f (i+1) (out++ [O]) [] (i+1):=λJ hs=>by
      grind[ll]
     rcases pZ f (i+1) (out++ [O]) [] (i+1) o u e with ⟨h1,S⟩ | ⟨⟨h1,S⟩,Y⟩
     ·grind
     grind
    grind
   ·rw[YC hk] at e;by_cases hp:(uJ t).2=0
    ·rw[YB hp] at e;have step:∀J:Nat->ak,J i=R i->dh first J (f+1) i out O used=dh first J f (i+1) out (O++ [(uJ t).1]) used:=λJ hs=>by
      grind[ll]
     rcases pZ f (i+1) out (O++ [(uJ t).1]) used o u e with h | ⟨⟨h1,S⟩,Y⟩
     ·exact .inl h
     grind
    grind
def AR {first:Nat}{O:Nat->ak}{f:Nat}:∀(c:List ChangeM) (i:Nat) (out:dc) (J:List ChangeM) (used:Nat),(∀x∈c,dX x=0)->(∀k x,c[k]? =some x->O (i+k)=bV (dY 111 (first+(i+k)) (pK x)))->
  dh first O (c.length+f) i out J used=dh first O f (i+c.length) out (J++c) used
 | [],i,out,J,used,_,_=>by simp
 | x::c,i,out,J,used,R,hs=>by
  have h0:=hs 0 x rfl;have hx:=R x (by simp);rw[show (x::c).length+f=(c.length+f)+1 by simp;omega];rw[ll,show O i=_ from h0,Zm,uZ (.inl rfl) (by have:=wZ hx;omega)];simp only;rw[YC (by decide),Rm hx,YB rfl,AR c (i+1) out (J++ [x]) used (λy hy=>R y (kac _ hy)) (λk y hy=>by have:=hs (k+1) y (by simpa using hy);grind)]
  grind
def En {first many:Nat}{O J:Nat->ak}{out:dc}{used:Nat}{c:List ChangeM}(h:dh first O many 0 [] [] 0=(out,used))(Y:∀x∈c,dX x=0)(hr:used+c.length+1<=many)(R:c.length<=72)
  (h1:∀j,j<used->J j=O j) (V:∀k x,c[k]? =some x->J (used+k)=bV (dY 111 (first+(used+k)) (pK x))) (X:J (used+c.length)=bV (dY 99 (first+(used+c.length)) (bj c.length)))
  (Z:used+c.length+1<many->J (used+c.length+1)=bV []):dh first J many 0 [] [] 0=(out++ [c],used+c.length+1):=by
 have S:=pZ many 0 [] [] 0 out used h;have e:dh first J many 0 [] [] 0=dh first J (many - used) used out [] used:=by
  grind
 rw[e,show many - used=c.length+((many - used - c.length - 1)+1) by omega,AR c used out [] used Y V];rw[ll,X,uZ (.inr rfl) (by simp[bj])];simp only[Zg,if_true];cases hf:many - used - c.length - 1 with
 | zero=>rfl
 | succ f=>
  grind[ll,mc]
abbrev u0:=Option Addr×Nat
def dR (gl:List (List ChangeM×u0)):List (List Value):=gl.map λx=>[sl x.2.1 x.1.length x.2.2]
def Ls (J:List (List ChangeM×u0)):(dR J).length=J.length:=by simp[dR]
def Tk {J:List (List ChangeM×u0)}{k:Nat}{x:List ChangeM×u0}(h:J[k]? =some x):(dR J)[k]? =some [sl x.2.1 x.1.length x.2.2]:=by simp[dR,h]
def re (gl:List (List ChangeM×u0)):ag:=λm=>∀x∈gl,roL 3 x.2.1 (bx x.1) m
theorem HB {sz:Nat}{s:Option Addr}{rows:List (List Value)}{m n:Res}(h:roL sz s rows m)(hs:Res.sub m n):roL sz s rows n:=by
 rcases h with h | ⟨b,off,o,h1,J,O⟩
 ·exact .inl h
 ·exact .inr ⟨b,off,o,h1,hs b _ J,O⟩
def JD (J:List (List ChangeM×u0)):Pers (re J):=λm h=>by
 refine ⟨Ow m,λb x hx=>?_,λb x hx=>?_,λx hx=>wW (h x hx)⟩
 ·grind[Ow]
 grind[Ow]
section
variable {c:Cx}{E:dr}{L:List ag}{K:List KI}
def ON (k:G c K E (re []::L)):G c K E L:=λa w J O=>k a w J ((Sat.pure_mk (φ:=True) trivial O).weak λm _=>λx hx=>nomatch hx)
def Lt {F:List ag}(J:List (List ChangeM×u0)){x:List ChangeM×u0}(h:x∈J)[R:Rem L (re J) F](k:G c K E (roL 3 x.2.1 (bx x.1)::re J::F)):G c K E L:=λa w O S=>k a w O (((R.sat S).dup (JD J)).weak λm hm=>hm x h)
def JE {F O:List ag}(J:List (List ChangeM×u0))(d:List ChangeM)(s:Option Addr)(n:Nat)[R:Rem L (re J) F][Z:Rem F (roL 3 s (bx d)) O](k:G c K E (re (J++ [(d,s,n)])::O)):G c K E L:=λa w V X=>by
 have h1:=R.sat X;have r2:Rem (re J::F) (roL 3 s (bx d)) (re J::O):=inferInstance;have S:Sat c.w0 w (roL 3 s (bx d)::re J::O):=r2.sat h1;refine k a w V (S.two.weak λm hm=>?_);obtain ⟨m1,m2,hd,s1,s2,ha,Y⟩:=hm;intro y hy;rcases Zn.1 hy with hy | hy
 ·exact HB (Y y hy) s2
 grind[HB]
end
def nO (N i:Nat)(D:DiskM):Prop:=D.kept.length=N/\D.now.length=N/\(-1<=D.fuse/\D.fuse<=9223372036854775807)/\(∀t∈D.wait,t.1<N)/\D.wait.length<=i
def HC (N:Nat):nO N 0 (lH N):=⟨by simp[lH],by simp[lH],by simp[lH],by simp[lH],by simp[lH]⟩
def yj {N i:Nat}{D:DiskM}(h:nO N i D):nO N (i+1) D:=⟨h.1,h.2.1,h.2.2.1,h.2.2.2.1,by have:=h.2.2.2.2;omega⟩
def tn {N i:Nat}{D:DiskM}(h:nO N i D):nO N i (du D):=by
 obtain ⟨h1,J,S,O,R⟩:=h;unfold du;split
 ·exact ⟨h1,J,S,O,R⟩
 ·split
  ·exact ⟨h1,J,by simp,O,R⟩
  ·refine ⟨h1,J,?_,O,R⟩
   grind
def AU {N i:Nat}{D:DiskM}(h:nO N i D)(n:Int)(s:ak):nO N (i+1) (cG D n s):=by
 unfold cG;split
 ·exact yj h
 ·rename_i V;split
  ·obtain ⟨h1,J,O,R,S⟩:=tn h;refine ⟨h1,by simp[eu,J],O,λt ht=>?_,by simp[eu];exact S⟩;simp only[eu,Zn,kad] at ht;rcases ht with ht | rfl
   ·exact R t ht
   ·have:=h.2.1
    grind[nK]
  ·exact yj (tn h)
def qM {N i:Nat}{D:DiskM}(h:nO N i D):nO N (i+1) (cJ D):=by
 unfold cJ;split
 ·obtain ⟨h1,J,O,R,S⟩:=tn h;exact ⟨J,J,O,by simp[iy],by simp[iy]⟩
 ·exact yj (tn h)
theorem go (D:DiskM):dm D=0\/dm D=9:=by grind[dm]
abbrev mG:=Option (Nat×ak)
def Gv (D:DiskM):mG->Int
 | some x=>dt D x.1 x.2
 | none=>dm D
def Gw (D:DiskM):mG->DiskM
 | some x=>cG D x.1 x.2
 | none=>cJ D
def cv:DiskM->List mG->Int×DiskM
 | D,[]=>(0,D)
 | D,x::r=>if Gv D x=0 then cv (Gw D x) r else (Gv D x,Gw D x)
theorem lm {D:DiskM}{x:mG}{r:List mG}(h:Gv D x=0):cv D (x::r)=cv (Gw D x) r:=by rw[cv,YB h]
theorem kY {D:DiskM}{x:mG}{r:List mG}(h:¬Gv D x=0):cv D (x::r)=(Gv D x,Gw D x):=by rw[cv,YC h]
def qN {D:DiskM}{n:Nat}{s:ak}{r:List mG}(h:dt D n s=0):cv D (some (n,s)::r)=cv (cG D n s) r:=lm h
theorem nP {D:DiskM}{n:Nat}{s:ak}{r:List mG}(h:¬dt D n s=0):cv D (some (n,s)::r)=(dt D n s,cG D n s):=kY h
theorem mZ {D:DiskM}{r:List mG}(h:dm D=0):cv D (none::r)=cv (cJ D) r:=lm h
theorem md {D:DiskM}{r:List mG}(h:¬dm D=0):cv D (none::r)=(dm D,cJ D):=kY h
theorem qO (D:DiskM):cv D []=(0,D):=rfl
theorem oL:∀(l r:List mG) (D:DiskM),cv D (l++r)=if (cv D l).1=0 then cv (cv D l).2 r else cv D l
 | [],r,D=>by simp[cv]
 | x::l,r,D=>by
  rw[Zh];by_cases h:Gv D x=0
  ·rw[lm h,lm h,oL l r]
  grind[kY]
def Gx {N i:Nat}{D:DiskM}(h:nO N i D)(x:mG):nO N (i+1) (Gw D x):=by
 cases x with
 | none=>exact qM h
 | some x=>exact AU h _ _
theorem jm {N i j:Nat}{D:DiskM}(h:nO N i D)(J:i<=j):nO N j D:=⟨h.1,h.2.1,h.2.2.1,h.2.2.2.1,by have:=h.2.2.2.2;omega⟩
def iK {N:Nat}:∀(l:List mG) (i:Nat) (D:DiskM),nO N i D->nO N (i+l.length) (cv D l).2
 | [],i,D,h=>h
 | x::l,i,D,h=>by
  by_cases h0:Gv D x=0
  ·rw[lm h0];have:=iK l (i+1) _ (Gx h x)
   grind
  ·rw[kY h0];exact jm (Gx h x) (by simp)
def k8 (from_ first used:Nat):Nat->List ChangeM->List mG
 | _,[]=>[]
 | k,x::c=>some (from_+used+k,dY 111 (first+used+k) (pK x))::k8 from_ first used (k+1) c
def oM (from_ many used len:Nat):List mG:=if used+len+1<many then [some (from_+(used+len+1),[])] else []
def ns (from_ many first used:Nat)(c:List ChangeM):List mG:=k8 from_ first used 0 c++oM from_ many used c.length
def p4 (from_ first used len:Nat):mG:=some (from_+(used+len),dY 99 (first+(used+len)) (bj len))
def kF (from_ many first used:Nat)(c:List ChangeM):List mG:=ns from_ many first used c++ [none,p4 from_ first used c.length,none]
theorem Eo (from_ first used:Nat):∀(c:List ChangeM) (k:Nat),(k8 from_ first used k c).length=c.length
 | [],_=>rfl
 | x::c,k=>by simp[k8,Eo from_ first used c]
theorem Lu (from_ many used len:Nat):(oM from_ many used len).length<=1:=by grind[oM]
theorem Ep (from_ many first used:Nat)(c:List ChangeM):(ns from_ many first used c).length<=c.length+1:=by
 grind[Lu,ns,Eo]
def AV {from_ first used k:Nat}{c:List ChangeM}{x:ChangeM}(h:c[k]? =some x):k8 from_ first used k (c.drop k)=some (from_+used+k,dY 111 (first+used+k) (pK x))::k8 from_ first used (k+1) (c.drop (k+1)):=by
 obtain ⟨hk,rfl⟩:=Yh.1 h;rw[kae hk]
 rfl
def kG:List ChangeM->Int
 | []=>0
 | x::c=>if dX x=0 then kG c else dX x
def tq {c:List ChangeM}{k:Nat}{x:ChangeM}(h:c[k]? =some x):kG (c.drop k)=if dX x=0 then kG (c.drop (k+1)) else dX x:=by
 obtain ⟨hk,rfl⟩:=Yh.1 h;rw[kae hk]
 rfl
theorem Ck:∀{c:List ChangeM},kG c=0->∀x∈c,dX x=0
 | [],_,x,hx=>by simp at hx
 | y::c,h,x,hx=>by
  unfold kG at h;split at h
  ·rename_i h0;rcases Y5.1 hx with rfl | hx
   ·exact h0
   ·exact Ck h x hx
  grind
def mH (many used:Nat)(c:List ChangeM):Int:=if 72<c.length then 2 else if many - used<c.length+1 then 8 else kG c
def oN (from_ many first used:Nat)(c:List ChangeM)(D:DiskM):Int:=if mH many used c=0 then (cv D (kF from_ many first used c)).1 else mH many used c
def iL (from_ many first used:Nat)(c:List ChangeM)(D:DiskM):DiskM:=if mH many used c=0 then (cv D (kF from_ many first used c)).2 else D
def mI (from_ many first used:Nat)(c:List ChangeM)(D:DiskM):Nat:=if oN from_ many first used c D=0 then used+c.length+1 else used
def oO {many used:Nat}{c:List ChangeM}(h:mH many used c=0):c.length<=72/\c.length+1<=many - used/\∀x∈c,dX x=0:=by
 grind[mH,Ck]
theorem Cl {many used:Nat}{c:List ChangeM}(h1:c.length<=72)(J:c.length+1<=many - used):mH many used c=kG c:=by grind[mH]
def yk {from_ many first used:Nat}{c:List ChangeM}{D:DiskM}{e:Int}(h:mH many used c=e)(he:e≠0):oN from_ many first used c D=e/\iL from_ many first used c D=D/\mI from_ many first used c D=used:=by
 grind[oN,iL,mI]
def tr {from_ many first used:Nat}{c:List ChangeM}{D J:DiskM}{e:Int}(h:mH many used c=0)(hr:cv D (kF from_ many first used c)=(e,J))(he:e≠0):oN from_ many first used c D=e/\iL from_ many first used c D=J/\mI from_ many first used c D=used:=by
 grind[oN,iL,mI]
def OO {from_ many first used:Nat}{c:List ChangeM}{D J:DiskM}(h:mH many used c=0)(hr:cv D (kF from_ many first used c)=(0,J)):oN from_ many first used c D=0/\iL from_ many first used c D=J/\mI from_ many first used c D=used+c.length+1:=by
 grind[oN,iL,mI]
def ju (from_ many first used:Nat)(c:List ChangeM):Nat->List mG
 | 0=>ns from_ many first used c++ [none,p4 from_ first used c.length,none]
 | 1=>[none,p4 from_ first used c.length,none]
 | 2=>[p4 from_ first used c.length,none]
 | 3=>[none]
 | _=>[]
def u1 (D:DiskM):Prop:=D.down=false/\D.fuse= -1
theorem Er {D:DiskM}(h:u1 D):dm D=0/\du D=D:=by
 obtain ⟨k,n,w,f,d⟩:=D;obtain ⟨h1,J⟩:=h;simp at h1 J;subst h1 J;exact ⟨rfl,rfl⟩
def JF {D:DiskM}(h:u1 D){n:Int}{s:ak}(J:¬nK D n s):dt D n s=0/\cG D n s=eu D n s:=by
 grind[Er,dt,cG]
def JG {D:DiskM}(h:u1 D):dm D=0/\cJ D=iy D:=by
 grind[Er,cJ]
def jv (N:Nat):mG->Prop
 | some x=>x.1<N/\x.2.length<=80
 | none=>True
def ed:List ak->List mG->List ak
 | L,[]=>L
 | L,some x::r=>ed (L.set x.1 (bV x.2)) r
 | L,none::r=>ed L r
theorem ja:∀(l r:List mG) (L:List ak),ed L (l++r)=ed (ed L l) r
 | [],r,L=>rfl
 | some x::l,r,L=>ja l r _
 | none::l,r,L=>ja l r L
def iA:∀(l:List mG) (L:List ak),(ed L l).length=L.length
 | [],L=>rfl
 | some x::l,L=>by rw[ed,iA l,Z8]
 | none::l,L=>iA l L
def yl {s:ak}(h:s.length<=80):(bV s).length=80:=by grind[bV,i8]
def Cm {N:Nat}:∀(l:List mG) (L:List ak),(∀x∈L,x.length=80)->(∀x∈l,jv N x)->∀x∈ed L l,x.length=80
 | [],L,h,_=>h
 | some y::l,L,h,ho=>Cm l _ (λx hx=>by
  rcases Y0 hx with J | J
  ·exact h x J
  ·rw[J];exact yl (ho _ (Z2 ..)).2) (λx hx=>ho x (kac _ hx))
 | none::l,L,h,ho=>Cm l L h (λx hx=>ho x (kac _ hx))
def oP:∀(l:List mG) (D:DiskM),u1 D->(∀x∈l,jv D.now.length x)->(cv D l).1=0/\u1 (cv D l).2/\(cv D l).2.now=ed D.now l
 | [],D,h,_=>⟨rfl,h,rfl⟩
 | none::l,D,h,ho=>by
  have h1:=JG h;rw[mZ h1.1,h1.2];exact oP l (iy D) h (λx hx=>ho x (kac _ hx))
 | some y::l,D,h,ho=>by
  obtain ⟨n,s⟩:=y;have hy:=ho _ (Z2 ..);have h1:=JF h (n:=(n:Int)) (s:=s) (by unfold nK;have h1:=hy.1;have J:=hy.2;simp only at h1 J;omega);rw[qN h1.1,h1.2];have:=oP l (eu D n s) h (λx hx=>by
   grind[eu])
  rw[this.2.2];exact ⟨this.1,this.2.1,rfl⟩
theorem gH {L:List ak}{n m:Nat}{x:ak}:(L.set n x).getD m []=if n=m/\n<L.length then x else L.getD m []:=by
 grind
theorem qP {from_ first used:Nat}:∀(c:List ChangeM) (k:Nat) (L:List ak) (m:Nat),(m<from_+used+k\/from_+used+k+c.length<=m)->(ed L (k8 from_ first used k c)).getD m []=L.getD m []
 | [],k,L,m,_=>rfl
 | x::c,k,L,m,h=>by
  rw[k8,ed,qP c (k+1) _ m (by simp at h;omega),gH,YC (by simp at h;omega)]
def Gy {from_ first used:Nat}:∀(c:List ChangeM) (k:Nat) (L:List ak) (j:Nat) (x:ChangeM),from_+used+k+c.length<=L.length->c[j]? =some x->(ed L (k8 from_ first used k c)).getD (from_+used+k+j) []=bV (dY 111 (first+used+k+j) (pK x))
 | [],k,L,j,x,_,h=>by simp at h
 | y::c,k,L,0,x,hl,h=>by
  grind[k8,ed,qP]
 | y::c,k,L,j+1,x,hl,h=>by
  simp at h hl;rw[k8,ed];have:=Gy (from_:=from_) (first:=first) (used:=used) c (k+1) (L.set (from_+used+k) (bV (dY 111 (first+used+k) (pK y)))) j x (by simp;omega) h
  grind
def HD {from_ first used N:Nat}:∀(c:List ChangeM) (k:Nat),from_+used+k+c.length<=N->(∀x∈c,dX x=0)->∀x∈k8 from_ first used k c,jv N x
 | [],k,_,_,x,h=>by simp[k8] at h
 | y::c,k,J,O,x,h=>by
  simp at J;rw[k8] at h;rcases Y5.1 h with rfl | h
  ·exact ⟨by simp only;omega,by grind[yi,wZ]⟩
  ·exact HD c (k+1) (by omega) (λx hx=>O x (kac _ hx)) x h
def w9 {from_ many first used N:Nat}{c:List ChangeM}(R:from_+many<=N)(hv:mH many used c=0):∀x∈kF from_ many first used c,jv N x:=by
 obtain ⟨h1,O,J⟩:=oO hv;intro x hx;unfold kF ns at hx;simp only[Zn,Y5,kaf,or_false] at hx;rcases hx with (hx | hx) | rfl | rfl | rfl
 ·exact HD c 0 (by omega) J x hx
 ·unfold oM at hx;split at hx
  ·simp only[kad] at hx;subst hx;exact ⟨by simp only;omega,by simp⟩
  ·simp at hx
 ·trivial
 ·exact ⟨by simp only;omega,by rw[yi];simp[bj]⟩
 ·trivial
def Rn {from_ many first used:Nat}{c:List ChangeM}{D:DiskM}(hu:u1 D)(Z:∀x∈D.now,x.length=80)(Y:from_+many<=D.now.length)(hv:mH many used c=0){out:dc}(O:dh first (λi=>D.now.getD (from_+i) []) many 0 [] [] 0=(out,used)):
  oN from_ many first used c D=0/\u1 (iL from_ many first used c D)/\(∀x∈(iL from_ many first used c D).now,x.length=80)/\(iL from_ many first used c D).now.length=D.now.length/\
   dh first (λi=>(iL from_ many first used c D).now.getD (from_+i) []) many 0 [] [] 0=(out++ [c],used+c.length+1):=by
 obtain ⟨h1,h2,R⟩:=oO hv;have hok:=w9 (first:=first) Y hv;obtain ⟨r1,r2,r3⟩:=oP _ D hu hok;have V:oN from_ many first used c D=0:=by grind[oN]
 have S:iL from_ many first used c D=(cv D (kF from_ many first used c)).2:=by grind[iL]
 rw[S,r3];refine ⟨V,r2,Cm _ _ Z hok,iA _ _,?_⟩;have X:ed D.now (kF from_ many first used c)=ed (ed (ed D.now (k8 from_ first used 0 c)) (oM from_ many used c.length)) [p4 from_ first used c.length]:=by
  unfold kF ns;rw[ja,ja];rfl
 rw[X];generalize J:ed D.now (k8 from_ first used 0 c)=L1;have l1:L1.length=D.now.length:=(by rw[<-J,iA]);have hb:∀m,m≠from_+(used+c.length+1)->(ed L1 (oM from_ many used c.length)).getD m []=L1.getD m []:=λm hm=>by
  grind[oM,ed]
 have he:∀(L:List ak) m,(ed L [p4 from_ first used c.length]).getD m []=if from_+(used+c.length)=m/\from_+(used+c.length)<L.length then bV (dY 99 (first+(used+c.length)) (bj c.length)) else L.getD m []:=λL m=>by
  grind[p4,ed]
 have l2:(ed L1 (oM from_ many used c.length)).length=L1.length:=iA _ _;refine En O R (by omega) (by omega) (λj hj=>?_) (λk x hx=>?_) ?_ (λhm=>?_)
 ·grind[qP]
 ·have hk:=(Yh.1 hx).1;rw[he,YC (by omega),hb _ (by omega),<-J,show from_+(used+k)=from_+used+0+k by omega,Gy c 0 _ k x (by omega) hx,show first+used+0+k=first+(used+k) by omega]
 ·grind
 grind[oM,ed]
def wc (first j:Nat)(s:ak):Prop:=∃t,fC (first+j) s=some (99,t)
def me (K:List ak)(from_ i:Nat):ak:=K.getD (from_+i) []
def oQ (from_ many first:Nat)(K:List ak)(ds:dc)(used:Nat):Prop:=dh first (me K from_) many 0 [] [] 0=(ds,used)/\∀j,used<=j->j<many->¬wc first j (me K from_ j)
theorem u3 {first:Nat}{O:Nat->ak}:∀(f i:Nat) (out:dc) (J:List ChangeM) (used:Nat),(∀j,i<=j->j<i+f->¬wc first j (O j))->dh first O f i out J used=(out,used)
 | 0,i,out,J,used,_=>rfl
 | f+1,i,out,J,used,h=>by
  have h0:=h i (by omega) (by omega);rw[ll];cases hl:fC (first+i) (O i) with
  | none=>rfl
  | some R=>
   obtain ⟨k,t⟩:=R;simp only;split
   ·rename_i hk;subst hk;exact absurd ⟨t,hl⟩ h0
   ·split
    ·exact u3 f (i+1) out _ used (λj h1 S=>h j (by omega) (by omega))
    ·rfl
def AW {first:Nat}{J:Nat->ak}{many:Nat}{ds:dc}{used:Nat}(h:dh first J many 0 [] [] 0=(ds,used)):used<=many:=by
 rcases pZ many 0 [] [] 0 ds used h with ⟨h1,_⟩ | ⟨h1,_⟩ <;> omega
theorem Cn {from_ many first:Nat}{K J:List ak}{ds:dc}{used:Nat}(h:oQ from_ many first K ds used)(h1:∀j,j<used->me J from_ j=me K from_ j)(O:∀j,used<=j->j<many->me J from_ j=me K from_ j\/¬wc first j (me J from_ j)):oQ from_ many first J ds used:=by
 have R:∀j,used<=j->j<many->¬wc first j (me J from_ j):=λj a b=>by
  rcases O j a b with e | e
  ·rw[e];exact h.2 j a b
  ·exact e
 refine ⟨?_,R⟩;have Y:=AW h.1;rcases pZ many 0 [] [] 0 ds used h.1 with ⟨S,V⟩ | ⟨_,X⟩
 ·grind[u3]
 grind[u3]
def qQ {keep:Int}{w:List (Nat×ak)}{K:List ak}:∀k (m:Nat),(pr keep w K k).getD m []=K.getD m []\/∃t∈w,t.1=m/\(pr keep w K k).getD m []=t.2
 | 0,m=> .inl rfl
 | k+1,m=>by
  have J:=qQ (keep:=keep) (w:=w) (K:=K) k m
  grind[pr]
def Gz (from_ first used:Nat)(t:Nat×ak):Prop:=∃j,used<=j/\t.1=from_+j/\¬wc first j t.2
def AX {from_ many first:Nat}{D:DiskM}{ds:dc}{used:Nat}(keep:Int)(h:oQ from_ many first D.kept ds used)(hw:∀t∈D.wait,Gz from_ first used t):oQ from_ many first (iz keep D) ds used:=by
 refine Cn h (λj hj=>?_) (λj h1 X=>?_)
 ·rcases qQ (keep:=keep) (w:=D.wait) (K:=D.kept) D.wait.length (from_+j) with e | ⟨t,ht,e,_⟩
  ·exact e
  ·obtain ⟨R,J,O,_⟩:=hw t ht;omega
 ·rcases qQ (keep:=keep) (w:=D.wait) (K:=D.kept) D.wait.length (from_+j) with e | ⟨t,ht,e,S⟩
  ·exact .inl e
  ·obtain ⟨R,J,O,V⟩:=hw t ht
   grind[me,iz]
def ym {D:DiskM}(h:dm D=0):D.down=false/\(du D).down=false:=by
 grind[dm,du]
def yn {from_ first used:Nat}:∀(l:List mG) (D:DiskM) (e:Int) (J:DiskM),(∀x∈l,jv D.now.length x)->(∀x∈l,∃t,x=some t/\Gz from_ first used (t.1,bV t.2))->(∀t∈D.wait,Gz from_ first used t)->D.down=false->cv D l=(e,J)->
  (e=0\/e=9)/\J.kept=D.kept/\(∀t∈J.wait,Gz from_ first used t)/\(e=0->J.now=ed D.now l/\J.down=false)
 | [],D,e,J,_,_,hw,hd,h=>by injection h with h1 S;subst h1 S;exact ⟨.inl rfl,rfl,hw,λ_=>⟨rfl,hd⟩⟩
 | none::l,D,e,J,_,ht,_,_,_=>by grind[List.mem_cons_self]
 | some y::l,D,e,J,ho,ht,hw,hd,h=>by
  obtain ⟨n,s⟩:=y;have hy:=ho _ (Z2 ..);obtain ⟨t,R,Z⟩:=ht _ (Z2 ..);injection R with R;subst R;have hb:¬nK D (n:Int) s:=(by unfold nK;have h1:=hy.1;have S:=hy.2;simp only at h1 S;omega);by_cases h0:dm D=0
  ·have X:dt D (n:Int) s=0:=(by grind[dt]);have V:cG D (n:Int) s=eu (du D) n s:=(by grind[cG]);rw[qN X,V] at h;have O:(eu (du D) n s).now=D.now.set n (bV s):=(by simp[eu,fk]);have:=yn l (eu (du D) n s) e J (λx hx=>by grind) (λx hx=>ht x (kac _ hx)) (λt Y=>by
    grind[eu,eY]) (ym h0).2 h
   rw[O,show (eu (du D) n s).kept=D.kept from eb D] at this;exact this
  grind[dt,cG,nP,go,eb,eY]
def Es {from_ first used:Nat}:∀(c:List ChangeM) (k:Nat),(∀x∈c,dX x=0)->∀x∈k8 from_ first used k c,∃t,x=some t/\Gz from_ first used (t.1,bV t.2)
 | [],k,_,x,h=>by simp[k8] at h
 | y::c,k,J,x,h=>by
  rw[k8] at h;rcases Y5.1 h with rfl | h
  ·refine ⟨_,rfl,used+k,by omega,YE _ _ _,λhs=>?_⟩;obtain ⟨t,ht⟩:=hs
   grind[uZ,wZ]
  ·exact Es c (k+1) (λx hx=>J x (kac _ hx)) x h
def JH {from_ many first used:Nat}{c:List ChangeM}(J:∀x∈c,dX x=0):∀x∈ns from_ many first used c,∃t,x=some t/\Gz from_ first used (t.1,bV t.2):=by
 intro x hx;unfold ns at hx;rcases Zn.1 hx with hx | hx
 ·exact Es c 0 J x hx
 ·unfold oM at hx;split at hx
  ·rw[kad] at hx;subst hx;exact ⟨_,rfl,used+c.length+1,by omega,rfl,λhs=>by obtain ⟨t,ht⟩:=hs;grind[mc]⟩
  ·simp at hx
def AY {from_ first used:Nat}:∀(l:List mG) (K:List ak),(∀x∈l,∃t,x=some t/\Gz from_ first used (t.1,bV t.2))->(∀j,j<used->me (ed K l) from_ j=me K from_ j)/\(∀j,used<=j->me (ed K l) from_ j=me K from_ j\/¬wc first j (me (ed K l) from_ j))
 | [],K,_=>⟨λ_ _=>rfl,λ_ _=> .inl rfl⟩
 | none::l,K,h=>by grind[List.mem_cons_self]
 | some y::l,K,h=>by
  obtain ⟨n,s⟩:=y;obtain ⟨t,J,X,S,O,R⟩:=h _ (Z2 ..);injection J with J;subst J;simp only at O R;have V:=AY l (K.set n (bV s)) (λx hx=>h x (kac _ hx))
  grind[me,ed]
def calm (D:DiskM):Prop:=D.kept=D.now/\D.wait=[]/\D.down=false
theorem kH {D:DiskM}(h:dm D=0):calm (cJ D)/\(cJ D).now=D.now:=by
 unfold cJ;rw[YB h];exact ⟨⟨rfl,rfl,(ym h).2⟩,fk D⟩
def JI {from_ many first used:Nat}{c:List ChangeM}{D:DiskM}{ds:dc}(hq:calm D)(hN:from_+many<=D.now.length)(hv:mH many used c=0)(hs:oQ from_ many first D.now ds used){e:Int}{Z:DiskM}(hr:cv D (kF from_ many first used c)=(e,Z)):
  (e=0/\calm Z/\oQ from_ many first Z.now (ds++ [c]) (used+c.length+1))\/(e=9/\∀keep,∃u,oQ from_ many first (iz keep Z) ds u\/oQ from_ many first (iz keep Z) (ds++ [c]) u):=by
 obtain ⟨v1,v2,v3⟩:=oO hv;have hok:=w9 (first:=first) hN hv;have hokL:∀x∈ns from_ many first used c,jv D.now.length x:=λx hx=>hok x (by grind[kF])
 have htm:=JH (from_:=from_) (many:=many) (first:=first) (used:=used) v3;cases O:cv D (ns from_ many first used c) with
 | mk e1 D1=>
  obtain ⟨hc1,hk1,hw1,ho1⟩:=yn _ D e1 D1 hokL htm (by rw[hq.2.1];intro t ht;cases ht) hq.2.2 O;have hs1:oQ from_ many first D1.kept ds used:=by rw[hk1,hq.1];exact hs
  have crash:∀J:DiskM,J.kept=D1.kept->J.wait=D1.wait->∀keep,∃u,oQ from_ many first (iz keep J) ds u\/oQ from_ many first (iz keep J) (ds++ [c]) u:=λJ a b keep=>
   ⟨used, .inl (AX keep (by rw[a];exact hs1) (by rw[b];exact hw1))⟩
  unfold kF at hr;rw[oL,O] at hr;simp only at hr;by_cases he1:e1=0
  ·rw[YB he1] at hr;obtain ⟨V,hdn⟩:=ho1 he1;by_cases h2:dm D1=0
   ·rw[mZ h2] at hr;obtain ⟨R,hn2⟩:=kH h2;generalize hD2:cJ D1=J at*;have hl2:J.now.length=D.now.length:=(by rw[hn2,V,iA]);have hs2:oQ from_ many first J.now ds used:=by
     rw[hn2,V];have:=AY _ D.now htm
     grind[Cn]
    have hfin:oQ from_ many first (J.now.set (from_+(used+c.length)) (bV (dY 99 (first+(used+c.length)) (bj c.length)))) (ds++ [c]) (used+c.length+1):=by
     have hg:∀m,(J.now.set (from_+(used+c.length)) (bV (dY 99 (first+(used+c.length)) (bj c.length)))).getD m []=if from_+(used+c.length)=m/\from_+(used+c.length)<J.now.length then bV (dY 99 (first+(used+c.length)) (bj c.length)) else J.now.getD m []:=λm=>gH
     have hn:J.now=ed (ed D.now (k8 from_ first used 0 c)) (oM from_ many used c.length):=(by grind[ns,ja]);have hb:∀m,m≠from_+(used+c.length+1)->J.now.getD m []=(ed D.now (k8 from_ first used 0 c)).getD m []:=λm hm=>by
      grind[oM,ed]
     have hbl:used+c.length+1<many->J.now.getD (from_+(used+c.length+1)) []=bV []:=λhm=>by
      grind[oM,ed]
     refine ⟨?_,λj h1 h2'=>?_⟩
     ·refine En hs.1 v3 (by omega) (by omega) (λj hj=>?_) (λk x hx=>?_) ?_ (λhm=>?_)
      ·show List.getD _ _ _=List.getD _ _ _
       grind[qP]
      ·have hk:=(Yh.1 hx).1;show List.getD _ _ _=_;rw[hg,YC (by omega),hb _ (by omega),show from_+(used+k)=from_+used+0+k by omega,Gy c 0 _ k x (by omega) hx,show first+used+0+k=first+(used+k) by omega]
      ·show List.getD _ _ _=_
       grind
      ·show List.getD _ _ _=_
       grind
     ·show ¬wc first j (List.getD _ _ _)
      rw[hg,YC (by omega)];exact hs2.2 j (by omega) h2'
    have hb3:¬nK J ((from_+(used+c.length):Nat):Int) (dY 99 (first+(used+c.length)) (bj c.length)):=(by grind[nK,yi,bj]);unfold p4 at hr;by_cases h3:dm J=0
    ·have S:dt J ((from_+(used+c.length):Nat):Int) (dY 99 (first+(used+c.length)) (bj c.length))=0:=(by grind[dt]);rw[qN S] at hr;have Y:cG J ((from_+(used+c.length):Nat):Int) (dY 99 (first+(used+c.length)) (bj c.length))=eu (du J) ((from_+(used+c.length):Nat):Int) (dY 99 (first+(used+c.length)) (bj c.length)):=(by grind[cG]);rw[Y] at hr;have hn3:(eu (du J) ((from_+(used+c.length):Nat):Int) (dY 99 (first+(used+c.length)) (bj c.length))).now=J.now.set (from_+(used+c.length)) (bV (dY 99 (first+(used+c.length)) (bj c.length))):=by
      show (du J).now.set (((from_+(used+c.length):Nat):Int)).toNat _=_;rw[fk,kag]
     have hk3:(eu (du J) ((from_+(used+c.length):Nat):Int) (dY 99 (first+(used+c.length)) (bj c.length))).kept=J.now:=(by rw[<-R.1];exact eb J);have hw3:(eu (du J) ((from_+(used+c.length):Nat):Int) (dY 99 (first+(used+c.length)) (bj c.length))).wait=[(from_+(used+c.length),bV (dY 99 (first+(used+c.length)) (bj c.length)))]:=by
      show (du J).wait++ [((((from_+(used+c.length):Nat):Int)).toNat,_)]=_;rw[eY,R.2.1,kag]
      rfl
     generalize eu (du J) ((from_+(used+c.length):Nat):Int) (dY 99 (first+(used+c.length)) (bj c.length))=D3 at*;by_cases h4:dm D3=0
     ·grind[mZ,qO,kH]
     ·rw[md h4] at hr;injection hr with O X;subst O X;right;have hst:cJ D3=du D3:=(by grind[cJ]);refine ⟨by grind[go],λkeep=>?_⟩;rw[hst];have hres:iz keep (du D3)=J.now\/iz keep (du D3)=J.now.set (from_+(used+c.length)) (bV (dY 99 (first+(used+c.length)) (bj c.length))):=by
       grind[iz,eY,eb,pr]
      grind
    ·have S:dt J ((from_+(used+c.length):Nat):Int) (dY 99 (first+(used+c.length)) (bj c.length))=dm J:=(by grind[dt]);have Y:cG J ((from_+(used+c.length):Nat):Int) (dY 99 (first+(used+c.length)) (bj c.length))=du J:=(by grind[cG]);rw[nP (by rw[S];exact h3),S,Y] at hr;injection hr with O X;subst O X;right;refine ⟨by grind[go],λkeep=>⟨used, .inl ?_⟩⟩;exact AX keep (by rw[eb,R.1];exact hs2) (by rw[eY,R.2.1];intro t ht;cases ht)
   grind[md,cJ,go,eb,eY]
  grind
def JJ (n:Nat):IntKind.u8.wrap (n:Int)=((n % 256:Nat):Int):=by
 show (n:Int) % 2 ^ 8=_;omega
def wd (n k:Nat):((n:Int)).fdiv (k:Int)=((n / k:Nat):Int):=by
 grind
def yo (n:Nat):[[By ((n % 256:Nat):Int)],[By ((n / 256 % 256:Nat):Int)],[By ((n / 65536 % 256:Nat):Int)],[By ((n / 16777216 % 256:Nat):Int)]]=aA (bj n):=by
 simp only[aA,bj,Yw,Yx,UInt8.toNat_ofNat']
def p5 (n:Nat):[[By ((n % 256:Nat):Int)],[By ((n / 256 % 256:Nat):Int)]]=aA [UInt8.ofNat n,UInt8.ofNat (n / 256)]:=by
 grind[aA,UInt8.toNat_ofNat']
def Tl:Option (UInt8×ak)->Value
 | none=> .tuple #[By 0,aC [],Bo false]
 | some (k,t)=> .tuple #[By k.toNat,aC t,Bo true]
abbrev ge (bd from_ many first next:Nat):Array Value:=#[ptr bd 0,I from_,I many,I first,I next]
def xb {l:List ak}{i:Nat}(h:i<l.length):l[i]? =some (l.getD i []):=by grind
def p6 {l:List ak}{i:Nat}(h:i<l.length)(J:∀x∈l,x.length=80):(l.getD i []).length=80:=J _ (YW (xb h))
def Ro (s:ak):JC s<=65535:=by unfold JC;have:=(sk s 5).toNat_lt;have:=(sk s 6).toNat_lt;omega
def Qy (s:ak)(i:Nat)(k:UInt8):((sk s i).toNat:Int)=(k.toNat:Int) ↔ sk s i=k:=by
 constructor
 ·intro h;exact UInt8.toNat_inj.1 (by omega)
 ·intro h;rw[h]
def gp (n:Nat)(F:List ag):Ct Tryz.prog 184 [I n] (F) (R1 (aC (bj n)) F):=by
 refine Ct.of func184 rR 16 ntmps184 (by simp) λw0=>?_;refine gS (gQ (gS (gM (gV (cP (r:=((n % 256:Nat):Int)) Vf Vq (JJ _)) (gM (gV (lU (r:=((n / 256:Nat):Int)) (wd n 256)) (gV (cP (r:=((n / 256 % 256:Nat):Int)) Vf Vq (JJ _)) (gM (gV (lU (r:=((n / 65536:Nat):Int)) (wd n 65536)) (gV (cP (r:=((n / 65536 % 256:Nat):Int)) Vf Vq (JJ _)) (gM (gV (lU (r:=((n / 16777216:Nat):Int)) (wd n 16777216)) (gV (cP (r:=((n / 16777216 % 256:Nat):Int)) Vf Vq (JJ _)) (gI (av (aA (bj n)) Vs VP V0 (hr:=by exact yo n) (by simp[aA])) ?_))))))))))))));rintro _ _ ⟨J,rfl,rfl⟩;refine gV (cg (l:=bj n) Vs Vq Vg rR) (gQ ?_);refine ao rR rR ?_;exact rfl
-- counterfoil/counterfoilref.four is not in this seat
def we (kind:UInt8)(n:Nat)(s:ak)(hs:s.length<=1000000)(F:List ag):Ct Tryz.prog 243 [By kind.toNat,I n,aC s] (F) (R1 (aC (dY kind n s)) F):=by
 refine Ct.of func243 rR 25 ntmps243 (by simp) λw0=>?_;refine gS (gQ (ac ?_));refine qI (Lf:=[]) (.q 0 (.q 3 (.q 6 (.q 7 (.q 8 (.q 9 (.q 10 (.q 11 (.q 12 (.q 16 (.alt (.l 1 (.c (.q 2 (.alt (.l 4 (.q 5 (.l 13 (.c (.q 14 (.q 15 (.q 17 (.q 18 (.nil))))))))) (.l 13 (.c (.q 14 (.l 4 (.q 5 (.q 15 (.q 17 (.q 18 (.nil))))))))))))) (.alt (.l 4 (.alt (.l 1 (.c (.q 2 (.q 5 (.l 13 (.c (.q 14 (.q 15 (.q 17 (.q 18 (.nil))))))))))) (.l 13 (.c (.q 14 (.l 1 (.c (.q 2 (.q 5 (.q 15 (.q 17 (.q 18 (.nil))))))))))))) (.l 13 (.c (.q 14 (.alt (.l 1 (.c (.q 2 (.l 4 (.q 5 (.q 15 (.q 17 (.q 18 (.nil))))))))) (.l 4 (.l 1 (.c (.q 2 (.q 5 (.q 15 (.q 17 (.q 18 (.nil))))))))))))))))))))))))) ?_;refine eA rR aq ?_;refine eA rR aq ?_;refine eA rR aq ?_;refine eA rR (cW Vg) ?_;refine eA rR (cP (r:=((s.length % 256:Nat):Int)) Vf Vq (JJ _)) ?_;refine eA rR aq ?_;refine eA rR (cW Vg) ?_;refine eA rR (lU (r:=((s.length / 256:Nat):Int)) (wd s.length 256)) ?_;refine eA rR (cP (r:=((s.length / 256 % 256:Nat):Int)) Vf Vq (JJ _)) ?_;refine eA rR aq ?_;refine nI ?_ ?_
 ·refine lu rR (av (aA ([kind])) Vs VP V0 (hr:=by exact rR) (by simp[aA])) ?_;rintro _ _ ⟨O,rfl,rfl⟩;refine lx ([bi 5 1 (some ⟨O,0,none⟩) 1 (aA [kind])]) ?_;refine eA rR (cg (l:=[kind]) Vs Vq Vg rR) ?_;refine nI ?_ ?_
  ·refine lu rR (uA call184 (gp n)) ?_;rintro _ _ ⟨rfl,rfl⟩;refine eA rR (cS (by simp[bj] <;> omega)) ?_;refine lu rR (av (aA ([UInt8.ofNat s.length,UInt8.ofNat (s.length / 256)])) Vs VP V0 (hr:=by exact p5 s.length) (by simp[aA])) ?_;rintro _ _ ⟨J,rfl,rfl⟩;refine lx ([bi 5 1 (some ⟨J,0,none⟩) 2 (aA [UInt8.ofNat s.length,UInt8.ofNat (s.length / 256)]),bi 5 1 (some ⟨O,0,none⟩) 1 (aA [kind])]) ?_;refine eA rR (cg (l:=[UInt8.ofNat s.length,UInt8.ofNat (s.length / 256)]) Vs Vq Vg rR) ?_;refine eA rR (cS (by simp[bj])) ?_;refine eA rR (cS (by simp[bj];omega)) ?_;refine eA rR aD ?_;refine kc ?_;refine ao rR rR ?_;exact rfl
  ·refine lu rR (av (aA ([UInt8.ofNat s.length,UInt8.ofNat (s.length / 256)])) Vs VP V0 (hr:=by exact p5 s.length) (by simp[aA])) ?_;rintro _ _ ⟨J,rfl,rfl⟩;refine lx ([bi 5 1 (some ⟨J,0,none⟩) 2 (aA [UInt8.ofNat s.length,UInt8.ofNat (s.length / 256)]),bi 5 1 (some ⟨O,0,none⟩) 1 (aA [kind])]) ?_;refine eA rR (cg (l:=[UInt8.ofNat s.length,UInt8.ofNat (s.length / 256)]) Vs Vq Vg rR) ?_;refine lu rR (uA call184 (gp n)) ?_;rintro _ _ ⟨rfl,rfl⟩;refine eA rR (cS (by simp[bj] <;> omega)) ?_;refine eA rR (cS (by simp[bj])) ?_;refine eA rR (cS (by simp[bj];omega)) ?_;refine eA rR aD ?_;refine kc ?_;refine ao rR rR ?_;exact rfl
 refine nI ?_ ?_
 ·refine lu rR (uA call184 (gp n)) ?_;rintro _ _ ⟨rfl,rfl⟩;refine nI ?_ ?_
  ·refine lu rR (av (aA ([kind])) Vs VP V0 (hr:=by exact rR) (by simp[aA])) ?_;rintro _ _ ⟨O,rfl,rfl⟩;refine lx ([bi 5 1 (some ⟨O,0,none⟩) 1 (aA [kind])]) ?_;refine eA rR (cg (l:=[kind]) Vs Vq Vg rR) ?_;refine eA rR (cS (by simp[bj] <;> omega)) ?_;refine lu rR (av (aA ([UInt8.ofNat s.length,UInt8.ofNat (s.length / 256)])) Vs VP V0 (hr:=by exact p5 s.length) (by simp[aA])) ?_;rintro _ _ ⟨J,rfl,rfl⟩;refine lx ([bi 5 1 (some ⟨J,0,none⟩) 2 (aA [UInt8.ofNat s.length,UInt8.ofNat (s.length / 256)]),bi 5 1 (some ⟨O,0,none⟩) 1 (aA [kind])]) ?_;refine eA rR (cg (l:=[UInt8.ofNat s.length,UInt8.ofNat (s.length / 256)]) Vs Vq Vg rR) ?_;refine eA rR (cS (by simp[bj])) ?_;refine eA rR (cS (by simp[bj];omega)) ?_;refine eA rR aD ?_;refine kc ?_;refine ao rR rR ?_;exact rfl
  ·refine lu rR (av (aA ([UInt8.ofNat s.length,UInt8.ofNat (s.length / 256)])) Vs VP V0 (hr:=by exact p5 s.length) (by simp[aA])) ?_;rintro _ _ ⟨J,rfl,rfl⟩;refine lx ([bi 5 1 (some ⟨J,0,none⟩) 2 (aA [UInt8.ofNat s.length,UInt8.ofNat (s.length / 256)])]) ?_;refine eA rR (cg (l:=[UInt8.ofNat s.length,UInt8.ofNat (s.length / 256)]) Vs Vq Vg rR) ?_;refine lu rR (av (aA ([kind])) Vs VP V0 (hr:=by exact rR) (by simp[aA])) ?_;rintro _ _ ⟨O,rfl,rfl⟩;refine lx ([bi 5 1 (some ⟨O,0,none⟩) 1 (aA [kind]),bi 5 1 (some ⟨J,0,none⟩) 2 (aA [UInt8.ofNat s.length,UInt8.ofNat (s.length / 256)])]) ?_;refine eA rR (cg (l:=[kind]) Vs Vq Vg rR) ?_;refine eA rR (cS (by simp[bj] <;> omega)) ?_;refine eA rR (cS (by simp[bj])) ?_;refine eA rR (cS (by simp[bj];omega)) ?_;refine eA rR aD ?_;refine kc ?_;refine ao rR rR ?_;exact rfl
 ·refine lu rR (av (aA ([UInt8.ofNat s.length,UInt8.ofNat (s.length / 256)])) Vs VP V0 (hr:=by exact p5 s.length) (by simp[aA])) ?_;rintro _ _ ⟨J,rfl,rfl⟩;refine lx ([bi 5 1 (some ⟨J,0,none⟩) 2 (aA [UInt8.ofNat s.length,UInt8.ofNat (s.length / 256)])]) ?_;refine eA rR (cg (l:=[UInt8.ofNat s.length,UInt8.ofNat (s.length / 256)]) Vs Vq Vg rR) ?_;refine nI ?_ ?_
  ·refine lu rR (av (aA ([kind])) Vs VP V0 (hr:=by exact rR) (by simp[aA])) ?_;rintro _ _ ⟨O,rfl,rfl⟩;refine lx ([bi 5 1 (some ⟨O,0,none⟩) 1 (aA [kind]),bi 5 1 (some ⟨J,0,none⟩) 2 (aA [UInt8.ofNat s.length,UInt8.ofNat (s.length / 256)])]) ?_;refine eA rR (cg (l:=[kind]) Vs Vq Vg rR) ?_;refine lu rR (uA call184 (gp n)) ?_;rintro _ _ ⟨rfl,rfl⟩;refine eA rR (cS (by simp[bj] <;> omega)) ?_;refine eA rR (cS (by simp[bj])) ?_;refine eA rR (cS (by simp[bj];omega)) ?_;refine eA rR aD ?_;refine kc ?_;refine ao rR rR ?_;exact rfl
  ·refine lu rR (uA call184 (gp n)) ?_;rintro _ _ ⟨rfl,rfl⟩;refine lu rR (av (aA ([kind])) Vs VP V0 (hr:=by exact rR) (by simp[aA])) ?_;rintro _ _ ⟨O,rfl,rfl⟩;refine lx ([bi 5 1 (some ⟨O,0,none⟩) 1 (aA [kind]),bi 5 1 (some ⟨J,0,none⟩) 2 (aA [UInt8.ofNat s.length,UInt8.ofNat (s.length / 256)])]) ?_;refine eA rR (cg (l:=[kind]) Vs Vq Vg rR) ?_;refine eA rR (cS (by simp[bj] <;> omega)) ?_;refine eA rR (cS (by simp[bj])) ?_;refine eA rR (cS (by simp[bj];omega)) ?_;refine eA rR aD ?_;refine kc ?_;refine ao rR rR ?_;exact rfl
def wg (bl J from_ many first next:Nat)(O:next<=many/\many<=1000000)(F:List ag):Ct Tryz.prog 179 [ptr bl 0] (pt bl (.cells (ge J from_ many first (next)) 273 (0,0))::F) (R1 (I ((many - next:Nat):Int)) (pt bl (.cells (ge J from_ many first (next)) 273 (0,0))::F)):=by
 refine Ct.of func179 rR 12 ntmps179 (by simp) λw0=>?_;refine gS (gQ (ac ?_));refine cV jE ?_;refine dM rfl (dV rfl aa (dF rfl 2 V9 rfl Vb (dL rfl (I many) Vc (dM rfl (dV rfl aa (dF rfl 4 V9 rfl Vb (dL rfl (I next) Vc (dV rfl (fe (r:=((many - next:Nat):Int)) (by rw[show (many:Int) - (next:Int)=((many - next:Nat):Int) by omega];exact da (by omega))) (dV rfl aD ?_)))))))));refine aP ?_;refine ao rR rR ?_;exact rfl
def wh (bl J from_ many first next:Nat)(O:many<=1000000/\first<=1000000000000)(F:List ag):Ct Tryz.prog 200 [ptr bl 0] (pt bl (.cells (ge J from_ many first (next)) 273 (0,0))::F) (R1 (I ((first+many:Nat):Int)) (pt bl (.cells (ge J from_ many first (next)) 273 (0,0))::F)):=by
 refine Ct.of func200 rR 12 ntmps200 (by simp) λw0=>?_;refine gS (gQ (ac ?_));refine cV jE ?_;refine dM rfl (dV rfl aa (dF rfl 3 V9 rfl Vb (dL rfl (I first) Vc (dM rfl (dV rfl aa (dF rfl 2 V9 rfl Vb (dL rfl (I many) Vc (dV rfl (bO (r:=((first+many:Nat):Int)) (by rw[show (first:Int)+(many:Int)=((first+many:Nat):Int) by omega];exact da (by omega))) (dV rfl aD ?_)))))))));refine aP ?_;refine ao rR rR ?_;exact rfl
def Et (bl S from_ many first next:Nat)(D:DiskM)(i:Nat)(hi:i<many)(Z:D.down=false)(hS:∀x∈D.now,x.length=80)(hfm:from_+many<=D.now.length)(hbd:D.now.length<=1000000/\first<=1000000000000)(F:List ag):Ct Tryz.prog 183 [ptr bl 0,I i] (pt bl (.cells (ge S from_ many first (next)) 273 (0,0))::cf 179 319 S (D)::F) (R1 (Tl (fC (first+i) (D.now.getD (from_+i) []))) (pt bl (.cells (ge S from_ many first (next)) 273 (0,0))::cf 179 319 S (D)::F)):=by
 have Y:from_+i<D.now.length:=(by omega);have hlen:=p6 Y hS;have hrd:pX D ((from_:Int)+(i:Int))=((D.now.getD (from_+i) []),0):=ti Z (by omega) (by rw[show ((from_:Int)+(i:Int)).toNat=from_+i by omega];exact xb Y);have hn5:=Ro (D.now.getD (from_+i) []);generalize D.now.getD (from_+i) []=J at*;refine Ct.of func183 rR 64 ntmps183 (by simp) λw0=>?_;refine gS (gA (gA (gQ (ac (gD (Lf:=[pt bl (.cells (ge S from_ many first (next)) 273 (0,0))]) [(0,false),(1,false),(2,false),(3,false),(4,false),(5,false),(6,false),(7,false),(8,false),(9,false),(10,true),(11,false),(12,false),(13,false),(14,false),(15,false)] (dM rfl (dV rfl aa (dF rfl 0 V9 rfl WG (dL rfl (ptr S 0) WO (dM rfl (dV rfl aa (dF rfl 1 V9 rfl Vb (dL rfl (I from_) Vc (dM rfl (dV rfl (bO (r:=(from_:Int)+(i:Int)) (da (by omega))) (d7 rfl (uB call113 (oK S D ((from_:Int)+(i:Int)))) ?_))))))))))))))));rintro _ _ ⟨rfl,rfl⟩;rw[hrd];refine dM rR (dV rR (aH (v:=aC J)) (dV rR (aH (v:=bM 0)) (dV rR aD (dV rR aD ?_))));refine aP ?_;refine ac (ac (gD (Lf:=[pt bl (.cells (ge S from_ many first (next)) 273 (0,0))]) [(0,false),(1,false),(2,false),(3,false),(4,false),(5,false),(6,false),(7,false),(8,false),(9,false),(10,false),(11,true),(12,false),(13,false),(14,false),(15,false),(16,false),(17,false),(18,false),(19,false),(20,false),(21,false),(22,false),(23,false)] (dM rfl (dV rfl (ck Vl) (dM rfl (aN rfl (hw:=by simp) aq (aN rfl (hw:=by simp) (gc (l:=1) (h:=5) Vg (by decide)) (aN rfl (hw:=by simp) aq (aN rfl (hw:=by simp) aa (aN rfl (hw:=by simp) (aw 3 V9 rfl Vb) (aN rfl (hw:=by simp) (az (v:=I first) Vc) (aN rfl (hw:=by simp) aq (aN rfl (hw:=by simp) (bO (r:=((first+i:Nat):Int)) (by rw[show (first:Int)+(i:Int)=((first+i:Nat):Int) by omega];exact da (by omega))) ?_)))))))))))));refine Gc rfl (hw:=by simp) (cX (Pre:=[]) call184 (gp (first+i))) ?_;rintro _ _ ⟨rfl,rfl⟩;refine aN rR (hw:=by simp) np (dV rR cu (dM rR ?_));by_cases R:(J.take 5).drop 1=bj (first+i)
 ·have hq:=Zv R;refine aN rR (hw:=by rw[hq];rfl) aq (aN rR (hw:=by rw[hq];rfl) (cr (r:=sk J 0) 0 Vg (by exact mX)) (aN rR (hw:=by rw[hq];rfl) fZ (aN rR (hw:=by rw[hq];rfl) aq (dJ rR aq (dJ rR (cr (r:=sk J 0) 0 Vg (by exact mX)) (dJ rR fZ (aN rR (hw:=by rw[hq];rfl) dD (dV rR cu ?_))))))));refine aP ?_;apply ah<;>intro O
  ·rw[hq] at O;simp at O;have V:¬(sk J 0=111\/sk J 0=99):=λh=>(by rcases h with h | h <;> rw[h] at O <;> simp at O);refine gS (gA (gA (gQ ?_)));rw[show fC (first+i) J=none by unfold fC;rw[YC (λh=>V h.2.1)]];exact ao rfl rfl rfl
  ·rw[hq] at O;simp at O;have V:sk J 0=111\/sk J 0=99:=by
    by_cases h1:sk J 0=111
    ·exact .inl h1
    ·right;have h2:=O (λh=>h1 ((Qy _ _ 111).1 h));exact (Qy _ _ 99).1 h2
   refine ai (ac ?_);refine cV jB ?_;refine dM rfl (dV rfl (cr (r:=sk J 5) 5 Vg (by exact mX)) (dV rfl (cP (r:=((sk J 5).toNat:Int)) Vq Vf (da (by have:=(sk J 5).toNat_lt;omega))) (dM rfl (dV rfl (cr (r:=sk J 6) 6 Vg (by exact mX)) (dV rfl (cP (r:=((sk J 6).toNat:Int)) Vq Vf (da (by have:=(sk J 6).toNat_lt;omega))) (dV rfl (j5 (da (by have:=(sk J 6).toNat_lt;omega))) (dV rfl (bO (r:=((JC J:Nat):Int)) (by rw[show ((sk J 5).toNat:Int)+256*((sk J 6).toNat:Int)=((JC J:Nat):Int) by unfold JC;omega];exact da (by omega))) (dV rfl aD ?_))))))));refine aP ?_;refine ac (gS (gM (gV aT (ab ?_))));apply ah<;>intro X
   ·simp at X;refine gS (gA (gA (gQ ?_)));rw[show fC (first+i) J=none by unfold fC;rw[YC (λh=>by have:=h.2.2;omega)]];exact ao rfl rfl rfl
   ·simp at X;refine ai (ac ?_);refine cV jB ?_;refine dM rfl (dV rfl (cr (r:=sk J 0) 0 Vg (by exact mX)) (dM rfl (dM rfl (dV rfl (bO (r:=((7+JC J:Nat):Int)) (by rw[show (7:Int)+((JC J:Nat):Int)=((7+JC J:Nat):Int) by omega];exact da (by omega))) (dV rfl (gc (l:=7) (h:=7+JC J) Vg (by omega)) (dV rfl aD (dV rfl aD (dV rfl aD ?_))))))));refine aP ?_;rw[show fC (first+i) J=some (sk J 0,(J.take (7+JC J)).drop 7) by unfold fC;rw[YB ⟨R,V,by omega⟩]];exact ao rfl rfl rfl
 ·have hq:=Zt R;refine aL rR (hw:=by rw[hq];rfl) (aL rR (hw:=by rw[hq];rfl) (aL rR (hw:=by rw[hq];rfl) (aL rR (hw:=by rw[hq];rfl) (aL rR (aL rR (aL rR (aL rR (hw:=by rw[hq];rfl) (dV rR (fl (hq:=by rw[hq];rfl)) ?_))))))));refine aP ?_;refine eH ?_;refine gS (gA (gA (gQ ?_)));rw[show fC (first+i) J=none by unfold fC;rw[YC (λh=>R h.1)]];exact ao rfl rfl rfl
def GA (bl O from_ many first used:Nat)(c:List ChangeM)(s:Option Addr)(cap N i:Nat)(D:DiskM)(hok:nO N i D)(hN:N<=1000000/\i<=999000)(hb:many<=1000000/\first<=1000000000000/\from_<=1000000/\used<=many)(hc:∀x∈c,dX x=0)(hlen:c.length<=72/\used+c.length+1<=many)(F:List ag):Ct Tryz.prog 241 [ptr bl 0,sl s c.length cap] (pt bl (.cells (ge O from_ many first (used)) 273 (0,0))::cf 179 319 O (D)::roL 3 s (bx c)::F) (R1 (bM (cv D (ns from_ many first used c)).1) (pt bl (.cells (ge O from_ many first (used)) 273 (0,0))::cf 179 319 O ((cv D (ns from_ many first used c)).2)::roL 3 s (bx c)::F)):=by
 refine Ct.of func241 rR 85 ntmps241 (by simp) λw0=>?_;refine gS (gQ (ac ?_));refine cO (Lf:=[pt bl (.cells (ge O from_ many first (used)) 273 (0,0))]) jE ?_;refine dM rfl (dV rfl aa (dF rfl 1 V9 rfl Vb (dL rfl (I from_) Vc (dM rfl (dV rfl aa (dF rfl 4 V9 rfl Vb (dL rfl (I used) Vc (dV rfl (bO (r:=((from_+used:Nat):Int)) (by rw[show ((from_:Nat):Int)+((used:Nat):Int)=((from_+used:Nat):Int) by omega];exact da (by omega))) (dV rfl aD ?_)))))))));refine aP ?_;refine ac (gS (gM (gV (aX Ve) (gM (ab (al ?_))))));refine aM (α:=Nat×DiskM) (λz=>z.1<=c.length/\nO N (i+z.1) z.2/\cv D (ns from_ many first used c)=cv z.2 (k8 from_ first used z.1 (c.drop z.1)++oM from_ many used c.length)) (λz=>U [(0,ptr bl 0),(1,sl s c.length cap),(5,I ((from_+used:Nat):Int)),(20,sl s c.length cap),(21,I c.length),(22,I z.1)]) (λz=>pt bl (.cells (ge O from_ many first (used)) 273 (0,0))::cf 179 319 O (z.2)::roL 3 s (bx c)::F) (λz=>c.length - z.1) (0,D) ⟨by simp,hok,rfl⟩ [0,1,5,20,21,22] rfl ?_;rintro ⟨k,X⟩ ⟨hk,S,J⟩;simp only[] at hk S J ⊢;have hfx:=S.2.2.1;have hwx:X.wait.length<=1000000:=(by have:=S.2.2.2.2;omega);refine gS (gV aI (ab (ac ?_)));apply ah<;>intro Y
 ·simp at Y;have V:k<c.length:=(by omega);obtain ⟨x,hx⟩:∃x,c[k]? =some x:=⟨_,Zu V⟩;have hkr:k<(bx c).length:=(by rw[aQ];exact V);have hx0:=hc x (YW hx);have hrl:=wZ hx0;refine ai (ac (al (gS (gM (gV (ay k Ve Vd V hkr) (gV (bJ (row:=aV x) Vz Vd (cY hx)) (gI (aO #[aC [],aC [],Bo false] Vo) ?_)))))));rintro _ _ ⟨b7,rfl,rfl⟩;refine gA (gU (ax (cs:=#[aC [],aC [],Bo false]) (vs:=aV x) (aV x).toArray Vd (by decide) (hcs:=by exact bk)) (ab (gS (gV (aU (vs:=aV (x)) Vz Vd bp) (gR (vA call267 (Ci x)) ?_)))));rw[show El x=(pK x,0) by unfold El;rw[YB hx0]];refine gM (gX (aC (pK x)) (gX (bM 0) (gA (gQ (ac (gS (gM (gV (ck Vl) (ab ?_)))))))));apply ah<;>intro h33
  ·simp at h33
  ·refine ai (ac (gD (Lf:=[pt bl (.cells (ge O from_ many first (used)) 273 (0,0))]) [(0,false),(1,false),(2,false),(3,false),(4,false),(5,false),(6,false),(7,false),(8,false),(9,false),(10,false),(11,false),(12,false),(13,false),(14,false),(15,false),(16,false),(17,false),(18,false),(19,true),(20,true),(21,false)] (dM rfl (dV rfl aa (dF rfl 0 V9 rfl WG (dL rfl (ptr O 0) WO (dM rfl (dM rfl (dV rfl (bO (r:=((from_+used+k:Nat):Int)) (by rw[show ((from_+used:Nat):Int)+((k:Nat):Int)=((from_+used+k:Nat):Int) by omega];exact da (by omega))) (dM rfl (dV rfl aa (dF rfl 3 V9 rfl Vb (dL rfl (I first) Vc (dM rfl (dV rfl aa (dF rfl 4 V9 rfl Vb (dL rfl (I used) Vc (dV rfl (bO (r:=((first+used:Nat):Int)) (by rw[show ((first:Nat):Int)+((used:Nat):Int)=((first+used:Nat):Int) by omega];exact da (by omega))) (dM rfl (dV rfl (bO (r:=((first+used+k:Nat):Int)) (by rw[show ((first+used:Nat):Int)+((k:Nat):Int)=((first+used+k:Nat):Int) by omega];exact da (by omega))) (dM rfl (d7 rfl (uA call243 (we 111 (first+used+k) (pK x) (by omega))) ?_))))))))))))))))))))));rintro _ _ ⟨rfl,rfl⟩;refine d7 rfl (uB call175 (ff O X ((from_+used+k:Nat):Int) (dY 111 (first+used+k) (pK x)) hfx hwx)) ?_;rintro _ _ ⟨rfl,rfl⟩;refine dV rR aD ?_;refine aP ?_;refine gS (gM (gV (ck Vl) (ab ?_)));apply ah<;>intro R
   ·simp at R;refine gS (gM (gQ ?_));rw[J,AV hx,Zh,nP R];dsimp only;exact ao rfl rfl rfl
   ·simp at R;refine ai (aG (am (gP (gM (ab ?_)))));refine ap (k+1,cG X ((from_+used+k:Nat):Int) (dY 111 (first+used+k) (pK x))) ⟨by simp;omega,?_,?_⟩ (by simp;omega) [0,1,5,20,21,22] rfl
    ·exact AU S _ _
    ·simp only[];rw[J,AV hx,Zh,lm (show Gv X (some (from_+used+k,dY 111 (first+used+k) (pK x)))=0 from R)]
     rfl
 ·simp at Y;obtain rfl:k=c.length:=(by omega);rw[kah,show k8 from_ first used c.length []=[] from rfl,Zg] at J;refine aF ?_;refine ac (gS (gM (gV aa (gF 4 V9 rfl Vb (gL (I used) Vc (gM (gV (aX Ve) (gV (bO (r:=((used+c.length:Nat):Int)) (by rw[show ((used:Nat):Int)+((c.length:Nat):Int)=((used+c.length:Nat):Int) by omega];exact da (by omega))) (gV (bO (r:=((used+c.length+1:Nat):Int)) (by rw[show ((used+c.length:Nat):Int)+1=((used+c.length+1:Nat):Int) by omega];exact da (by omega))) (gQ (gS (gM (gM (gV aa (gF 2 V9 rfl Vb (gL (I many) Vc (gV aI (ab ?_))))))))))))))))));apply ah<;>intro Z
  ·simp at Z;refine ac (gD (Lf:=[pt bl (.cells (ge O from_ many first (used)) 273 (0,0))]) [(0,false),(1,false),(2,false),(3,false),(4,false),(5,false),(6,false),(7,false),(8,false),(9,false),(10,true),(11,false)] (dM rfl (dV rfl aa (dF rfl 0 V9 rfl WG (dL rfl (ptr O 0) WO (dM rfl (dV rfl aa (dF rfl 1 V9 rfl Vb (dL rfl (I from_) Vc (dM rfl (dV rfl (bO (r:=((from_+(used+c.length+1):Nat):Int)) (by rw[show ((from_:Nat):Int)+((used+c.length+1:Nat):Int)=((from_+(used+c.length+1):Nat):Int) by omega];exact da (by omega))) (d7 rfl (uB call175 (ff O X ((from_+(used+c.length+1):Nat):Int) [] hfx hwx)) ?_))))))))))));rintro _ _ ⟨rfl,rfl⟩;refine dV rR aD ?_;refine aP ?_;rw[J,show oM from_ many used c.length=[some (from_+(used+c.length+1),[])] by unfold oM;rw[YB (by omega)]];by_cases h0:dt X ((from_+(used+c.length+1):Nat):Int) []=0
   ·rw[qN h0,qO];dsimp only;exact ao rfl rfl (Yg bM h0)
   ·rw[nP h0];dsimp only;exact ao rfl rfl rfl
  ·simp at Z;refine ai (gS (gQ ?_));rw[J,show oM from_ many used c.length=[] by unfold oM;rw[YC (by omega)],qO];dsimp only;exact ao rfl rfl rfl
def Eu (R S:Nat)(bl J from_ many first used:Nat)(c:List ChangeM)(s:Option Addr)(cap N i:Nat)(D:DiskM)(hok:nO N i D)(V:N<=1000000/\i<=999000)(X:many<=1000000/\first<=1000000000000/\from_<=1000000/\used<=many)(Y:∀x∈c,dX x=0)(O:c.length<=72/\used+c.length+1<=many)(F:List ag):Ct Tryz.prog 240 [ptr R 0,ptr S 0] (pt R (.cells #[ptr bl 0] 196 (0,0))::pt S (.cells #[sl s c.length cap] 33 (0,0))::pt bl (.cells (ge J from_ many first (used)) 273 (0,0))::cf 179 319 J (D)::roL 3 s (bx c)::F) (R1 (bM (cv D (ns from_ many first used c)).1) (pt R (.cells #[ptr bl 0] 196 (0,0))::pt S (.cells #[sl s c.length cap] 33 (0,0))::pt bl (.cells (ge J from_ many first (used)) 273 (0,0))::cf 179 319 J ((cv D (ns from_ many first used c)).2)::roL 3 s (bx c)::F)):=by
 refine Ct.of func240 rR 6 ntmps240 (by simp) λw0=>?_;refine gS (gQ (gS (gL (ptr bl 0) WU (gL (sl s c.length cap) WP (gR (vD call241 rfl (GA bl J from_ many first used c s cap N i D hok V X Y O)) (gQ ?_))))));refine ao rR rR ?_;exact rfl
def Ew (O S R:Nat)(bl J from_ many first used:Nat)(c:List ChangeM)(s:Option Addr)(cap N i:Nat)(D:DiskM)(hok:nO N i D)(X:N<=1000000/\i<=999000)(Y:many<=1000000/\first<=1000000000000/\from_<=1000000/\used<=many)(V:c.length<=72)(F:List ag):Ct Tryz.prog 242 [ptr O 0,ptr S 0,ptr R 0] (pt O (.cells #[ptr bl 0] 196 (0,0))::pt S (.cells #[I ((used+c.length:Nat):Int)] 3 (0,0))::pt R (.cells #[sl s c.length cap] 33 (0,0))::pt bl (.cells (ge J from_ many first (used)) 273 (0,0))::cf 179 319 J (D)::roL 3 s (bx c)::F) (R1 (bM (Gv D (p4 from_ first used c.length))) (pt O (.cells #[ptr bl 0] 196 (0,0))::pt S (.cells #[I ((used+c.length:Nat):Int)] 3 (0,0))::pt R (.cells #[sl s c.length cap] 33 (0,0))::pt bl (.cells (ge J from_ many first (used)) 273 (0,0))::cf 179 319 J (Gw D (p4 from_ first used c.length))::roL 3 s (bx c)::F)):=by
 refine Ct.of func242 rR 25 ntmps242 (by simp) λw0=>?_;refine gS (gQ (ac (gD (Lf:=[pt O (.cells #[ptr bl 0] 196 (0,0)),pt S (.cells #[I ((used+c.length:Nat):Int)] 3 (0,0)),pt R (.cells #[sl s c.length cap] 33 (0,0)),pt bl (.cells (ge J from_ many first (used)) 273 (0,0))]) [(0,false),(1,false),(2,false),(3,false),(4,false),(5,false),(6,false),(7,false),(8,false),(9,false),(10,false),(11,false),(12,false),(13,false),(14,false),(15,false),(16,false),(17,false),(18,true),(19,true),(20,true),(21,false)] (dL rfl (ptr bl 0) WU (dV rfl aa (dF rfl 0 V9 rfl WG (dL rfl (ptr J 0) WO (dL rfl (ptr bl 0) WU (dV rfl aa (dF rfl 1 V9 rfl Vb (dL rfl (I from_) Vc (dL rfl (I ((used+c.length:Nat):Int)) Vc (dV rfl (bO (r:=((from_+(used+c.length):Nat):Int)) (by rw[show ((from_:Nat):Int)+((used+c.length:Nat):Int)=((from_+(used+c.length):Nat):Int) by omega];exact da (by omega))) (dL rfl (ptr bl 0) WU (dV rfl aa (dF rfl 3 V9 rfl Vb (dL rfl (I first) Vc (dL rfl (I ((used+c.length:Nat):Int)) Vc (dV rfl (bO (r:=((first+(used+c.length):Nat):Int)) (by rw[show ((first:Nat):Int)+((used+c.length:Nat):Int)=((first+(used+c.length):Nat):Int) by omega];exact da (by omega))) (dL rfl (sl s c.length cap) WP (dV rfl (aX Ve) (d7 rfl (uA call184 (gp c.length)) ?_))))))))))))))))))))));rintro _ _ ⟨rfl,rfl⟩;refine d7 rfl (uA call243 (we 99 (first+(used+c.length)) (bj c.length) (by simp[bj]))) ?_;rintro _ _ ⟨rfl,rfl⟩;refine d7 rfl (uB call175 (ff J D ((from_+(used+c.length):Nat):Int) (dY 99 (first+(used+c.length)) (bj c.length)) hok.2.2.1 (by have:=hok.2.2.2.2;omega))) ?_;rintro _ _ ⟨rfl,rfl⟩;refine dV rR aD ?_;refine aP ?_;show G _ _ _ (cf 179 319 J (Gw D (p4 from_ first used c.length))::_);exact ao rfl rfl rfl
def GB (bl R from_ many first used:Nat)(c:List ChangeM)(s:Option Addr)(cap N i:Nat)(D:DiskM)(hok:nO N i D)(hN:N<=1000000/\i<=998000)(hb:many<=1000000/\first<=1000000000000/\from_<=1000000/\used<=many)(hl:c.length<=9223372036854775807)(F:List ag):Ct Tryz.prog 180 [ptr bl 0,sl s c.length cap] (pt bl (.cells (ge R from_ many first (used)) 273 (0,0))::cf 179 319 R (D)::roL 3 s (bx c)::F) (R1 (bM (oN from_ many first used c D)) (pt bl (.cells (ge R from_ many first (mI from_ many first used c D)) 273 (0,0))::cf 179 319 R (iL from_ many first used c D)::roL 3 s (bx c)::F)):=by
 refine Ct.of func180 rR 71 ntmps180 (by simp) λw0=>?_;refine gS (gI (di #[ptr bl 0]) ?_);rintro _ _ ⟨Y,rfl,rfl⟩;refine gI (di #[sl s c.length cap]) ?_;rintro _ _ ⟨Z,rfl,rfl⟩;refine gQ (ac (gS (gL (sl s c.length cap) WP (gV (aX Ve) (gV aT (ab ?_))))));apply ah<;>intro h14
 ·simp at h14;have hv:mH many used c=2:=(by unfold mH;rw[YB (by omega)]);refine gS (gV (aZ Vn) (gQ ?_));obtain ⟨ae,ad,au⟩:=yk (from_:=from_) (first:=first) (D:=D) hv (by decide);rw[ae,ad,au];exact ao rfl rfl rfl
 ·simp at h14;have hlen:c.length<=72:=(by omega);refine ai (ac (ac (gD (Lf:=[pt Y (.cells #[ptr bl 0] 196 (0,0)),pt Z (.cells #[sl s c.length cap] 33 (0,0))]) [(0,false),(1,false),(2,false),(3,false),(4,true),(5,false)] (dL rfl (sl s c.length cap) WP (dV rfl (aX Ve) (dV rfl (bO (r:=((c.length+1:Nat):Int)) (by rw[show (c.length:Int)+1=((c.length+1:Nat):Int) by omega];exact da (by omega))) (dL rfl (ptr bl 0) WU (d7 rfl (uB call179 (wg bl R from_ many first used ⟨hb.2.2.2,hb.1⟩)) ?_))))))));rintro _ _ ⟨rfl,rfl⟩;refine dV rR aT ?_;refine aP ?_;apply ah<;>intro h21
  ·simp at h21;have hv:mH many used c=8:=(by unfold mH;rw[YC (by omega),YB (by omega)]);refine gS (gV (aZ Vn) (gQ ?_));obtain ⟨ae,ad,au⟩:=yk (from_:=from_) (first:=first) (D:=D) hv (by decide);rw[ae,ad,au];exact ao rfl rfl rfl
  ·simp at h21;have hroom:c.length+1<=many - used:=(by omega);have hv0:=Cl hlen hroom;refine ai (ac (gS (gL (sl s c.length cap) WP (gV (aX Ve) (gM (ab (al ?_)))))));refine aM (α:=Nat) (λk=>k<=c.length/\kG c=kG (c.drop k)) (λk=>U [(2,ptr Y 0),(3,ptr Z 0),(23,sl s c.length cap),(24,I c.length),(25,I k)]) (λk=>pt Y (.cells #[ptr bl 0] 196 (0,0))::pt Z (.cells #[sl s c.length cap] 33 (0,0))::pt bl (.cells (ge R from_ many first (used)) 273 (0,0))::cf 179 319 R (D)::roL 3 s (bx c)::F) (λk=>c.length - k) 0 ⟨by simp,rfl⟩ [2,3,23,24,25] rfl ?_;rintro k ⟨hk,X⟩;refine gS (gV aI (ab (ac ?_)));apply ah<;>intro h26
   ·simp at h26;have hkn:k<c.length:=(by omega);obtain ⟨x,hx⟩:∃x,c[k]? =some x:=⟨_,Zu hkn⟩;have hkr:k<(bx c).length:=(by rw[aQ];exact hkn);refine ai (ac (al (gS (gV (ay k Ve Vd hkn hkr) (gV (bJ (row:=aV x) Vz Vd (cY hx)) (gI (aO #[aC [],aC [],Bo false] Vo) ?_))))));rintro _ _ ⟨b6,rfl,rfl⟩;refine gU (ax (cs:=#[aC [],aC [],Bo false]) (vs:=aV x) (aV x).toArray Vd (by decide) (hcs:=by exact bk)) (ab (gS (gV (aU (vs:=aV (x)) Vz Vd bp) (gR (vA call178 (ke x)) (gQ (gS (gM (gV (ck Vl) (ab ?_)))))))));apply ah<;>intro h32
    ·simp at h32;rw[tq hx,YC h32] at X;rw[X] at hv0;refine gS (gM (gQ ?_));obtain ⟨ae,ad,au⟩:=yk (from_:=from_) (first:=first) (D:=D) hv0 h32;rw[ae,ad,au];exact ao rfl rfl rfl
    ·simp at h32;refine ai (aG (am (gP (gM (ab ?_)))));exact ap (k+1) ⟨by omega,by rw[X,tq hx,YB h32]⟩ (by omega) [2,3,23,24,25] rfl
   ·simp at h26;obtain rfl:k=c.length:=(by omega);rw[kah,show kG []=0 from rfl] at X;rw[X] at hv0;have hc:=Ck X;refine aF ?_;refine ac ?_;refine eU (Lf:=[pt Y (.cells #[ptr bl 0] 196 (0,0)),pt Z (.cells #[sl s c.length cap] 33 (0,0)),pt bl (.cells (ge R from_ many first (used)) 273 (0,0))]) jQ 8 ?_;refine dL rfl (ptr bl 0) WU (dV rfl aa (dF rfl 4 V9 rfl Vb (dL rfl (I used) Vc (dL rfl (sl s c.length cap) WP (dV rfl (aX Ve) (dV rfl (bO (r:=((used+c.length:Nat):Int)) (by rw[show ((used:Nat):Int)+((c.length:Nat):Int)=((used+c.length:Nat):Int) by omega];exact da (by omega))) (d7 rfl (pQ (I 0) VL) ?_)))))));rintro _ _ ⟨b8,rfl,rfl⟩;refine aP ?_;refine gU (aK #[I ((used+c.length:Nat):Int)] Vb (by simp)) (ab (ac (ac (gD (Lf:=[pt Y (.cells #[ptr bl 0] 196 (0,0)),pt Z (.cells #[sl s c.length cap] 33 (0,0)),pt bl (.cells (ge R from_ many first (used)) 273 (0,0))]) [(0,false),(1,false),(2,false),(3,false),(4,false),(5,false),(6,false),(7,false),(8,false),(9,false),(10,false),(11,false),(14,false),(12,true),(13,false)] (dV rfl fK (dL rfl (ptr bl 0) WU (dV rfl aa (dF rfl 0 V9 rfl WG (dL rfl (ptr R 0) WO (dV rfl fK (dV rfl fK (dL rfl (ptr bl 0) WU (dV rfl aa (dF rfl 0 V9 rfl WG (dL rfl (ptr R 0) WO (dV rfl fK (dM rfl (d7 rfl (av [[.func (.func 240) #[] #[ptr Y 0,ptr Z 0]],[.func (.func 176) #[ptr R 0] #[]],[.func (.func 242) #[] #[ptr Y 0,ptr b8 0,ptr Z 0]],[.func (.func 176) #[ptr R 0] #[]]] Xy XH zeroValue108 (by simp)) ?_))))))))))))))))));rintro _ _ ⟨b54,rfl,rfl⟩;refine dV rR (aX Xy) ?_;refine aP ?_;refine al ?_;refine aM (α:=Nat×DiskM) (λz=>z.1<=4/\nO N (i+100*z.1) z.2/\cv D (kF from_ many first used c)=cv z.2 (ju from_ many first used c z.1)) (λz=>U [(2,ptr Y 0),(3,ptr Z 0),(8,ptr b8 0),(54,sl (some ⟨b54,0,none⟩) 4 4),(55,I 4),(56,I z.1)]) (λz=>pt Y (.cells #[ptr bl 0] 196 (0,0))::pt Z (.cells #[sl s c.length cap] 33 (0,0))::pt b8 (.cells #[I ((used+c.length:Nat):Int)] 3 (0,0))::pt bl (.cells (ge R from_ many first (used)) 273 (0,0))::cf 179 319 R (z.2)::roL 3 s (bx c)::bi 108 1 (some ⟨b54,0,none⟩) 4 [[.func (.func 240) #[] #[ptr Y 0,ptr Z 0]],[.func (.func 176) #[ptr R 0] #[]],[.func (.func 242) #[] #[ptr Y 0,ptr b8 0,ptr Z 0]],[.func (.func 176) #[ptr R 0] #[]]]::F) (λz=>4 - z.1) (0,D) ⟨by simp,hok,rfl⟩ [2,3,8,54,55,56] rfl ?_
    rintro ⟨k,D'⟩ ⟨hk,V,O⟩;simp only[] at hk V O ⊢;refine gS (gV aI (ab (ac ?_)));apply ah<;>intro h57
    ·simp at h57;refine ai (ac (al (gS ?_)));rcases (by omega:k=0\/k=1\/k=2\/k=3) with rfl | rfl | rfl | rfl
     ·refine gV (ay 0 Xy XH (by decide) (by simp)) (gV (bI (v:= .func (.func 240) #[] #[ptr Y 0,ptr Z 0]) XN (by rfl) rR) (gQ (gS (gM ?_))));refine gI (fW (fi:=[]) (cap:=[ptr Y 0,ptr Z 0]) (Pre:=[pt Y (.cells #[ptr bl 0] 196 (0,0)),pt Z (.cells #[sl s c.length cap] 33 (0,0)),pt bl (.cells (ge R from_ many first (used)) 273 (0,0)),cf 179 319 R (D'),roL 3 s (bx c)]) call240 rfl rfl (Eu Y Z bl R from_ many first used c s cap N (i+100*0) D' V ⟨hN.1,by omega⟩ hb hc ⟨hlen,by omega⟩)) ?_;rintro _ _ ⟨rfl,rfl⟩;refine gQ (gS (gM (gV (ck Vl) (ab ?_))));apply ah<;>intro J
      ·simp at J;rw[show ju from_ many first used c 0=ns from_ many first used c++ [none,p4 from_ first used c.length,none] from rfl,oL,YC J] at O;obtain ⟨ae,ad,au⟩:=tr hv0 O J;rw[ae,ad,au];refine gS (gM (gQ ?_));exact ao rfl rfl rfl
      ·simp at J;have S:cv D (kF from_ many first used c)=cv (cv D' (ns from_ many first used c)).2 (ju from_ many first used c 1):=(by rw[O,show ju from_ many first used c 0=ns from_ many first used c++ [none,p4 from_ first used c.length,none] from rfl,oL,YB J];rfl);have hll:=Ep from_ many first used c
       refine ai (aG (am (gP (gM (ab ?_)))));exact ap (1,(cv D' (ns from_ many first used c)).2) ⟨by simp,jm (iK _ _ _ V) (by simp only[];omega),S⟩ (by simp) [2,3,8,54,55,56] rfl
     ·refine gV (ay 1 Xy XH (by decide) (by simp)) (gV (bI (v:= .func (.func 176) #[ptr R 0] #[]) XN (by rfl) rR) (gQ (gS (gM ?_))));refine gI (fW (fi:=[ptr R 0]) (cap:=[]) (Pre:=[cf 179 319 R (D')]) call176 rR rR (hG R D' V.2.2.1 (by rw[V.1,V.2.1]) (by rw[V.2.1];omega))) ?_;rintro _ _ ⟨rfl,rfl⟩;refine gQ (gS (gM (gV (ck Vl) (ab ?_))));apply ah<;>intro J
      ·simp at J;rw[show ju from_ many first used c 1=none::ju from_ many first used c 2 from rfl,md J] at O;obtain ⟨ae,ad,au⟩:=tr hv0 O J;rw[ae,ad,au];refine gS (gM (gQ ?_));exact ao rfl rfl rfl
      ·simp at J;have S:cv D (kF from_ many first used c)=cv (cJ D') (ju from_ many first used c 2):=(by rw[O,show ju from_ many first used c 1=none::ju from_ many first used c 2 from rfl,mZ J]);refine ai (aG (am (gP (gM (ab ?_)))));exact ap (2,cJ D') ⟨by simp,jm (qM V) (by simp),S⟩ (by simp) [2,3,8,54,55,56] rfl
     ·refine gV (ay 2 Xy XH (by decide) (by simp)) (gV (bI (v:= .func (.func 242) #[] #[ptr Y 0,ptr b8 0,ptr Z 0]) XN (by rfl) rR) (gQ (gS (gM ?_))));refine gI (fW (fi:=[]) (cap:=[ptr Y 0,ptr b8 0,ptr Z 0]) (Pre:=[pt Y (.cells #[ptr bl 0] 196 (0,0)),pt b8 (.cells #[I ((used+c.length:Nat):Int)] 3 (0,0)),pt Z (.cells #[sl s c.length cap] 33 (0,0)),pt bl (.cells (ge R from_ many first (used)) 273 (0,0)),cf 179 319 R (D'),roL 3 s (bx c)]) call242 rfl rfl (Ew Y b8 Z bl R from_ many first used c s cap N (i+100*2) D' V ⟨hN.1,by omega⟩ hb hlen)) ?_;rintro _ _ ⟨rfl,rfl⟩;refine gQ (gS (gM (gV (ck Vl) (ab ?_))));apply ah<;>intro J
      ·simp at J;rw[show ju from_ many first used c 2=p4 from_ first used c.length::ju from_ many first used c 3 from rfl,kY J] at O;obtain ⟨ae,ad,au⟩:=tr hv0 O J;rw[ae,ad,au];refine gS (gM (gQ ?_));exact ao rfl rfl rfl
      ·simp at J;have S:cv D (kF from_ many first used c)=cv (Gw D' (p4 from_ first used c.length)) (ju from_ many first used c 3):=(by rw[O,show ju from_ many first used c 2=p4 from_ first used c.length::ju from_ many first used c 3 from rfl,lm J]);refine ai (aG (am (gP (gM (ab ?_)))));exact ap (3,Gw D' (p4 from_ first used c.length)) ⟨by simp,jm (Gx V _) (by simp),S⟩ (by simp) [2,3,8,54,55,56] rfl
     ·refine gV (ay 3 Xy XH (by decide) (by simp)) (gV (bI (v:= .func (.func 176) #[ptr R 0] #[]) XN (by rfl) rR) (gQ (gS (gM ?_))));refine gI (fW (fi:=[ptr R 0]) (cap:=[]) (Pre:=[cf 179 319 R (D')]) call176 rR rR (hG R D' V.2.2.1 (by rw[V.1,V.2.1]) (by rw[V.2.1];omega))) ?_;rintro _ _ ⟨rfl,rfl⟩;refine gQ (gS (gM (gV (ck Vl) (ab ?_))));apply ah<;>intro J
      ·simp at J;rw[show ju from_ many first used c 3=none::ju from_ many first used c 4 from rfl,md J] at O;obtain ⟨ae,ad,au⟩:=tr hv0 O J;rw[ae,ad,au];refine gS (gM (gQ ?_));exact ao rfl rfl rfl
      ·simp at J;have S:cv D (kF from_ many first used c)=cv (cJ D') (ju from_ many first used c 4):=(by rw[O,show ju from_ many first used c 3=none::ju from_ many first used c 4 from rfl,mZ J]);refine ai (aG (am (gP (gM (ab ?_)))));exact ap (4,cJ D') ⟨by simp,jm (qM V) (by simp),S⟩ (by simp) [2,3,8,54,55,56] rfl
    ·simp at h57;obtain rfl:k=4:=(by omega);rw[show ju from_ many first used c 4=[] from rfl,qO] at O;obtain ⟨ae,ad,au⟩:=OO hv0 O;rw[ae,ad,au];refine aF ?_;refine gS (gL (ptr bl 0) WU (gL (I ((used+c.length:Nat):Int)) Vc (gV (bO (r:=((used+c.length+1:Nat):Int)) (by rw[show ((used+c.length:Nat):Int)+1=((used+c.length+1:Nat):Int) by omega];exact da (by omega))) (gV aa (gF 4 V9 rfl Vb (gU (aK (ge R from_ many first (used+c.length+1)) Vb (by simp)) (ab (gS (gQ ?_)))))))));exact ao rfl rfl rfl
def yp (D:DiskM)(from_ many first:Int):Prop:=from_<0\/many<1\/(D.now.length:Int)<many\/(D.now.length:Int) - many<from_\/first<1
instance (D:DiskM)(from_ many first:Int):Decidable (yp D from_ many first):=by unfold yp;infer_instance
def oR (D:DiskM)(from_:Nat)(i:Nat):ak:=D.now.getD (from_+i) []
abbrev JK:=List (List ChangeM×u0)
def Tm (T TT TL TC bd:Nat)(D:DiskM)(from_ many first:Int)(F:List ag):Value->List ag->Prop:=λv L'=>
 (yp D from_ many first/\v= .tuple #[.pointer none,sl none 0 0,bM 1]/\L'=cf T TT bd D::F)\/
 (¬yp D from_ many first/\D.down=true/\v= .tuple #[.pointer none,sl none 0 0,bM 9]/\L'=cf T TT bd D::F)\/
 (¬yp D from_ many first/\D.down=false/\∃(bl:Nat) (gl:JK) (so:Option Addr) (co used:Nat),v= .tuple #[ptr bl 0,sl so gl.length co,bM 0]/\used<=many.toNat/\gl.length<=many.toNat/\
  dh first.toNat (oR D from_.toNat) many.toNat 0 [] [] 0=(gl.map (·.1),used)/\
  L'=pt bl (.cells (ge bd from_.toNat many.toNat first.toNat used) TL (0,0))::bi TC 1 so co (dR gl)::re gl::cf T TT bd D::F)
section
variable {c:Cx}{E:dr}{L:List ag}{K:List KI}
def an {vs:List Value}(L1:List ag)(hr:gm E c.fn.results.toList=some vs)(hp:c.R (rN vs) L1)[S:Sub L L1](hds:c.n.ds=[]:=by rfl):G c (.code .ret::K) E L:=
 λa w J O=>wp_ret (bX (aW (hds:=hds) hr J (S.sat O) hp))
end
def GC {num:Nat}{s:ak}{k:UInt8}{t:ak}(h:fC num s=some (k,t)):t.length<=s.length/\(k=111\/k=99):=by
 grind[fC]
def u99 {k:UInt8}:((k.toNat:Int)=99) ↔ k=99:=⟨λh=>UInt8.toNat_inj.1 (by grind),λh=>by rw[h];rfl⟩
theorem u4 {first:Nat}{O:Nat->ak}{f i used:Nat}{out:dc}{J:List ChangeM}(h:fC (first+i) (O i)=none):dh first O (f+1) i out J used=(out,used):=by rw[ll,h]
def JL {first:Nat}{O:Nat->ak}{f i used:Nat}{out:dc}{J:List ChangeM}{t:ak}(h:fC (first+i) (O i)=some (99,t))(ht:t=bj J.length):dh first O (f+1) i out J used=dh first O f (i+1) (out++ [J]) [] (i+1):=by grind[ll]
def Lv {first:Nat}{O:Nat->ak}{f i used:Nat}{out:dc}{J:List ChangeM}{t:ak}(h:fC (first+i) (O i)=some (99,t))(ht:¬t=bj J.length):dh first O (f+1) i out J used=(out,used):=by grind[ll]
def Lw {first:Nat}{O:Nat->ak}{f i used:Nat}{out:dc}{J:List ChangeM}{t:ak}{k:UInt8}(h:fC (first+i) (O i)=some (k,t))(hk:¬k=99)(hp:(uJ t).2=0):dh first O (f+1) i out J used=dh first O f (i+1) out (J++ [(uJ t).1]) used:=by grind[ll]
def Lx {first:Nat}{O:Nat->ak}{f i used:Nat}{out:dc}{J:List ChangeM}{t:ak}{k:UInt8}(h:fC (first+i) (O i)=some (k,t))(hk:¬k=99)(hp:¬(uJ t).2=0):dh first O (f+1) i out J used=(out,used):=by grind[ll]
def OP (J:JK)(d:List ChangeM)(s:Option Addr)(c:Nat):dR J++ [[sl s d.length c]]=dR (J++ [(d,(s,c))]):=by simp[dR]
def Ly (J:JK)(d:List ChangeM)(s:Option Addr)(c:Nat):(J++ [(d,(s,c))]).map (·.1)=J.map (·.1)++ [d]:=by simp
def JM (a:List ChangeM)(x:ChangeM):bx a++ [aV x]=bx (a++ [x]):=by simp[bx]
def wi (S:Nat)(D:DiskM)(from_ many first:Int)(hS:∀x∈D.now,x.length=80)(hbd:D.now.length<=1000000/\first<=1000000000000)(F:List ag):Ct Tryz.prog 116 [ptr S 0,I from_,I many,I first] (cf 179 319 S (D)::F) (Tm 179 319 273 33 S D from_ many first F):=by
 refine Ct.of func116 rR 103 ntmps116 (by simp) λw0=>?_;refine gS (gA (gA (gQ (ac (gS (gM (gV aI (gM (gK aq (gK aI (gV cu (gM (gK aq (gK aq ?_))))))))))))));refine Ol (λhg=>cX (Pre:=[cf 179 319 S (D)]) (R:=λF=>R1 (I (D.now.length:Int)) (cf 179 319 S (D)::F)) call112 (eo S D)) rR ?_;refine gK aT (gV cu (gM (gK aq (gK aq ?_))));refine Ol (λhg=>cX (Pre:=[cf 179 319 S (D)]) (R:=λF=>R1 (I (D.now.length:Int)) (cf 179 319 S (D)::F)) call112 (eo S D)) rR ?_;refine gK aq (Jd (λhg=>fe (r:=(D.now.length:Int) - many) (da (by simp at hg;omega))) (gK aT (gV cu (gM (gK aq (gK aI (gV cu (ab ?_))))))));apply ah<;>intro h43
 ·simp at h43;have V:yp D from_ many first:=by unfold yp;omega
  refine gS (gV (aZ Vn) (gA (gA (gQ ?_))));exact an (cf 179 319 S (D)::F) rfl (.inl ⟨V,rfl,rfl⟩)
 ·simp at h43;have V:¬yp D from_ many first:=by unfold yp;omega
  have hb2:¬(from_<0\/many<1\/(D.now.length:Int)<many\/(D.now.length:Int) - many<from_\/first<1):=V;refine ai (ac (gS (gM (gR (vB call111 (tk S D)) (ab ?_)))));apply ah<;>intro h46
  ·refine gS (gV (aZ Vn) (gA (gA (gQ ?_))));exact an (cf 179 319 S (D)::F) rfl (.inr (.inl ⟨V,h46,rfl,rfl⟩))
  ·have hdn:D.down=false:=(by simpa using h46);obtain ⟨from_,rfl⟩:=kai (show 0<=from_ by omega);obtain ⟨many,rfl⟩:=kai (show 0<=many by omega);obtain ⟨first,rfl⟩:=kai (show 0<=first by omega);refine ai (gS (gM (gM (gM (gM (gV (aR (xK _ rfl _ rfl _ rfl _ rfl)) (gI (di (ge S from_ many first 0)) ?_)))))));rintro _ _ ⟨X,rfl,rfl⟩;refine gQ (gS (gQ (gS (gQ (ac (ac ?_))))));refine bH 33 1 (dR []) ?_;refine bH 174 3 (bx []) ?_;refine ON ?_;refine am (gM (gM (ab (al ?_))));refine aM (α:=Nat×JK×List ChangeM×Nat×u0×u0) (λz=>z.1<=many/\dh first (oR D from_) many 0 [] [] 0=dh first (oR D from_) (many - z.1) z.1 (z.2.1.map (·.1)) z.2.2.1 z.2.2.2.1/\z.2.2.1.length<=z.1/\z.2.1.length<=z.1/\z.2.2.2.1<=z.1) (λz=>U [(0,ptr S 0),(11,ptr X 0),(12,sl z.2.2.2.2.1.1 z.2.1.length z.2.2.2.2.1.2),(13,sl z.2.2.2.2.2.1 z.2.2.1.length z.2.2.2.2.2.2),(54,I many),(55,I z.1)]) (λz=>pt X (.cells (ge S from_ many first z.2.2.2.1) 273 (0,0))::bi 33 1 z.2.2.2.2.1.1 z.2.2.2.2.1.2 (dR z.2.1)::bi 174 3 z.2.2.2.2.2.1 z.2.2.2.2.2.2 (bx z.2.2.1)::re z.2.1::cf 179 319 S (D)::F) (λz=>many - z.1) (0,[],[],0,(none,0),(none,0)) ⟨by simp,rfl,by simp,by simp,by simp⟩ [0,11,12,13,54,55] rfl ?_;rintro ⟨i,Z,J,used,⟨so,co⟩,⟨sd,cd⟩⟩ ⟨hi,hsc,hdl,hgl,hul⟩;simp only[] at hi hsc hdl hgl hul ⊢;refine gS (gV aI (ab (ac ?_)));apply ah<;>intro h56
   ·simp at h56;have him:i<many:=(by omega);have hso:dh first (oR D from_) many 0 [] [] 0=dh first (oR D from_) ((many - (i+1))+1) i (Z.map (·.1)) J used:=by rw[hsc,show (many - (i+1))+1=many - i by omega]
    refine ai (ac (al (gS (gM (gQ (gS (gM (gM (gR (vC call183 (Et X S from_ many first used D i (by omega) hdn hS (by omega) ⟨hbd.1,by omega⟩)) ?_)))))))));rw[show D.now.getD (from_+i) []=oR D from_ i from rfl];have hsl:(oR D from_ i).length=80:=p6 (by omega) hS;rcases hlk:fC (first+i) (oR D from_ i) with _ | ⟨k,t⟩;rotate_left;obtain ⟨hts,hk2⟩:=GC hlk;by_cases hk99:k=99
    ·subst hk99;refine gM (gX (By 99) (gX (aC t) (gX (Bo true) (gA (gA (gQ (ac (gS (gM (gV cE (gM (bc aq (bc bT (bc aq (bc aq (bc aq (bc (aX Ve) ?_)))))))))))))))));refine rQ (cX (Pre:=[]) call184 (gp J.length)) ?_;rintro _ _ ⟨rfl,rfl⟩;refine bc np (bc dD (gV cu (ab ?_)));apply ah<;>intro h77
     ·simp at h77;have Y:dh first (oR D from_) many 0 [] [] 0=(Z.map (·.1),used):=by rw[hso,Lv hlk h77]
      refine aF ?_;refine gS (gM (gM (gA (gA (gQ ?_)))));refine an (pt X (.cells (ge S from_ many first (used)) 273 (0,0))::bi 33 1 so co (dR Z)::re Z::cf 179 319 S (D)::F) rfl (.inr (.inr ⟨V,hdn,X,Z,so,co,used,rfl,(Yj hul (by omega)),(Yj hgl (by omega)),Y,rfl⟩))
     ·simp at h77;have ht:t=bj J.length:=h77;refine ai (ac (gS (gM (gV bT (ab ?_)))));refine eH ?_;refine gS (gM (gM (gM (gI (av [[sl sd J.length cd]] XO Wl zeroValue33 (by simp)) ?_))));rintro _ _ ⟨b83,rfl,rfl⟩;refine gI (bo XO Wl zeroValue33 Tryz.typeInfo33 (hn:=by exact Ls _) (by simp) (by simp[ones,one,sl]) ⟨by omega,by decide,by decide⟩) ?_;rintro _ _ ⟨s84,c84,rfl,rfl⟩;rw[OP,show Z.length+1=(Z++ [(J,(sd,cd))]).length by simp];refine gM (gV (bO (r:=((i+1:Nat):Int)) (by rw[show (i:Int)+1=((i+1:Nat):Int) by omega];exact da (by omega))) (gA (gA (gV aa (gF 4 V9 rfl Vb (gU (aK (ge S from_ many first (i+1)) Vb (by simp)) (ab ?_)))))));refine aF ?_;refine am (gV (bO (r:=((i+1:Nat):Int)) (by rw[show (i:Int)+1=((i+1:Nat):Int) by omega];exact da (by omega))) (gM (ab ?_)));refine bR (T:=174) (cap:=cd) sd ?_;refine JE Z J sd cd ?_;refine bH 174 3 (bx []) ?_;refine ap (i+1,Z++ [(J,(sd,cd))],[],i+1,(s84,c84),(none,0)) ⟨by simp;omega,?_,by simp,by simp;omega,by simp⟩ (by simp;omega) [0,11,12,13,54,55] rfl;simp only[];rw[hso,JL hlk ht,Ly]
    ·refine gM (gX (By k.toNat) (gX (aC t) (gX (Bo true) (gA (gA (gQ (ac (gS (gM (gV cE (gM ?_)))))))))));have O:¬((k.toNat:Int)=99):=λh=>hk99 (u99.1 h);refine bc aq (bc bT (bc aq (bE (hw:=by simp[xN,O]) (bE (hw:=by simp[xN,O]) (bE (hw:=by simp[xN,O]) (bE (hw:=by simp[xN,O]) (bE (hw:=by simp[xN,O]) (bc (eT (hq:=by simp[O])) (gV cu (ab ?_))))))))));apply ah<;>intro h77
     ·simp at h77
     ·refine ai (ac (gS (gM (gV bT (ab ?_)))));apply ah<;>intro h79
      ·simp at h79;exact absurd (u99.1 h79) hk99
      ·refine ai (gS (gM (gR (vA call185 (Cj t (by omega))) (gM (gX (.agg (aV (uJ t).1).toArray) (gX (bM (uJ t).2) (gI (aO #[aC [],aC [],Bo false] Vo) ?_)))))));rintro _ _ ⟨b18,rfl,rfl⟩;refine gU (ax (cs:=#[aC [],aC [],Bo false]) (vs:=aV (uJ t).1) (aV (uJ t).1).toArray Vd (by decide) (hcs:=by exact bk)) (gQ (ac (gS (gM (gV (ck Vl) (ab ?_))))));apply ah<;>intro h95
       ·simp at h95;have Y:dh first (oR D from_) many 0 [] [] 0=(Z.map (·.1),used):=by rw[hso,Lx hlk hk99 h95]
        refine aF ?_;refine gS (gM (gM (gA (gA (gQ ?_)))));refine an (pt X (.cells (ge S from_ many first (used)) 273 (0,0))::bi 33 1 so co (dR Z)::re Z::cf 179 319 S (D)::F) rfl (.inr (.inr ⟨V,hdn,X,Z,so,co,used,rfl,(Yj hul (by omega)),(Yj hgl (by omega)),Y,rfl⟩))
       ·simp at h95;have hpe:(uJ t).2=0:=h95;refine ai (am (gM (gV (aU (vs:=aV ((uJ t).1)) Vz Vd bp) (gI (av [aV (uJ t).1] Ve Vd Vo (by simp[aV])) ?_))));rintro _ _ ⟨b98,rfl,rfl⟩;refine gI (bo Ve Vd Vo Tryz.typeInfo174 (hn:=by exact aQ _) (by simp[aV]) (by simp[ones,one,aV]) ⟨by omega,by decide,by decide⟩) ?_;rintro _ _ ⟨s99,c99,rfl,rfl⟩;rw[JM,show J.length+1=(J++ [(uJ t).1]).length by simp];refine gQ (aG (am (gV (bO (r:=((i+1:Nat):Int)) (by rw[show (i:Int)+1=((i+1:Nat):Int) by omega];exact da (by omega))) (gM (ab ?_)))));refine ap (i+1,Z,J++ [(uJ t).1],used,(so,co),(s99,c99)) ⟨by simp;omega,?_,by simp;omega,by simp only[];omega,by simp only[];omega⟩ (by simp;omega) [0,11,12,13,54,55] rfl;simp only[];rw[hso,Lw hlk hk99 hpe]
    ·refine gM (gX (By 0) (gX (aC []) (gX (Bo false) (gA (gA (gQ (ac (gS (gM (gV cE (gM (bE (bE (bE (bE (bE (bE (bE (bE (bE (gV fl (ab ?_))))))))))))))))))))));refine eH ?_;refine aF ?_;refine gS (gM (gM (gA (gA (gQ ?_)))));have Y:dh first (oR D from_) many 0 [] [] 0=(Z.map (·.1),used):=by rw[hso,u4 hlk]
     refine an (pt X (.cells (ge S from_ many first (used)) 273 (0,0))::bi 33 1 so co (dR Z)::re Z::cf 179 319 S (D)::F) rfl (.inr (.inr ⟨V,hdn,X,Z,so,co,used,rfl,(Yj hul (by omega)),(Yj hgl (by omega)),Y,rfl⟩))
   ·simp at h56;obtain rfl:many=i:=(by omega);have Y:dh first (oR D from_) many 0 [] [] 0=(Z.map (·.1),used):=by rw[hsc,Nat.sub_self];rfl
    refine aF ?_;refine gS (gM (gM (gA (gA (gQ ?_)))));refine an (pt X (.cells (ge S from_ many first (used)) 273 (0,0))::bi 33 1 so co (dR Z)::re Z::cf 179 319 S (D)::F) rfl (.inr (.inr ⟨V,hdn,X,Z,so,co,used,rfl,(Yj hul (by omega)),(Yj hgl (by omega)),Y,rfl⟩))
open Go Go.Sl Go.Proofs
abbrev kl (a b:ak):Bool:=Op.bytesLess a b
theorem yq:∀a:ak,kl a a=false
 | []=>rfl
 | x::a=>by
  show (decide (x<x) || (x==x && Op.bytesLess a a))=false;rw[show Op.bytesLess a a=false from yq a]
  grind
theorem kf:∀{a b c:ak},kl a b=true->kl b c=true->kl a c=true
 | a,[],c,h1,R=>by cases a <;> cases h1
 | a,b,[],h1,R=>by cases b <;> cases R
 | [],y::b,z::c,h1,R=>rfl
 | x::a,y::b,z::c,h1,R=>by
  have O:(decide (x<y) || (x==y && Op.bytesLess a b))=true:=h1;have J:(decide (y<z) || (y==z && Op.bytesLess b c))=true:=R;show (decide (x<z) || (x==z && Op.bytesLess a c))=true;simp only[Zi,decide_eq_true_eq,Yr,beq_iff_eq,UInt8.lt_iff_toNat_lt] at O J ⊢;rcases O with O | ⟨rfl,O⟩
  ·grind
  ·rcases J with J | ⟨rfl,J⟩
   ·left;exact J
   ·exact .inr ⟨rfl,kf O J⟩
theorem sc:∀(a b:ak),kl a b=true\/a=b\/kl b a=true
 | [],[]=> .inr (.inl rfl)
 | [],_::_=> .inl rfl
 | _::_,[]=> .inr (.inr rfl)
 | x::a,y::b=>by
  show (decide (x<y) || (x==y && Op.bytesLess a b))=true\/x::a=y::b\/(decide (y<x) || (y==x && Op.bytesLess b a))=true;simp only[Zi,decide_eq_true_eq,Yr,beq_iff_eq,UInt8.lt_iff_toNat_lt];rcases Nat.lt_trichotomy x.toNat y.toNat with h | h | h
  ·exact .inl (.inl h)
  ·have e:x=y:=UInt8.toNat_inj.1 h;subst e;rcases sc a b with J | J | J
   ·exact .inl (.inr ⟨rfl,J⟩)
   ·exact .inr (.inl (by rw[J]))
   grind
  grind
theorem lI {a b:ak}(h:kl a b=true):kl b a=false:=by
 grind[kf,yq]
theorem mf {a b:ak}(h:kl a b=true):a≠b:=λe=>by grind[yq]
theorem wj:∀(a b:ak),(Lib.compareBytes a b<0 ↔ kl a b=true)/\(Lib.compareBytes a b=0 ↔ a=b)
 | [],[]=>by simp[Lib.compareBytes,kl,Op.bytesLess]
 | [],_::_=>by simp[Lib.compareBytes,kl,Op.bytesLess]
 | _::_,[]=>by simp[Lib.compareBytes,kl,Op.bytesLess]
 | x::a,y::b=>by
  have J:=wj a b
  grind[Op.bytesLess,Lib.compareBytes]
def srt (l:List ChangeM):Prop:=l.Pairwise λa b=>kl a.key b.key=true
def yr (k:ak):∀{l:List ChangeM},srt l->∃A B,l=A++B/\(∀a∈A,kl a.key k=true)/\((∃b O,B=b::O/\b.key=k/\∀x∈O,kl k x.key=true)\/∀x∈B,kl k x.key=true)
 | [],_=>⟨[],[],rfl,by simp, .inr (by simp)⟩
 | r::l,h=>by
  have h1:=(kaj.1 h).1;rcases sc r.key k with J | J | J
  ·obtain ⟨A,B,rfl,hA,R⟩:=yr k (kaj.1 h).2
   grind
  ·exact ⟨[],r::l,rfl,by simp, .inl ⟨r,l,rfl,J,λx hx=>by grind⟩⟩
  ·exact ⟨[],r::l,rfl,by simp, .inr λx hx=>by grind[kf]⟩
def ln (l:List ChangeM)(k:ak):Nat:=(l.filter λr=>kl r.key k).length
def uK (l:List ChangeM)(k:ak):Bool:=l.any λr=>decide (r.key=k)
def FQ (l:List ChangeM)(c:ChangeM):List ChangeM:=(l.filter λr=>kl r.key c.key)++(if c.gone then [] else [c])++l.filter λr=>kl c.key r.key
theorem Co {l:List ChangeM}{p:ChangeM->Bool}(h:∀x∈l,p x=true):l.filter p=l:=ZM.2 h
theorem HE {l:List ChangeM}{p:ChangeM->Bool}(h:∀x∈l,p x=false):l.filter p=[]:=kak.2 λx hx=>by rw[h x hx];simp
theorem parts {k:ak}{A B:List ChangeM}(hA:∀a∈A,kl a.key k=true)(O:(∃b J,B=b::J/\b.key=k/\∀x∈J,kl k x.key=true)\/∀x∈B,kl k x.key=true):
  (A++B).filter (λr=>kl r.key k)=A/\ln (A++B) k=A.length/\
  ((∃b J,B=b::J/\b.key=k/\uK (A++B) k=true/\(A++B).filter (λr=>kl k r.key)=J)\/(uK (A++B) k=false/\(A++B).filter (λr=>kl k r.key)=B)):=by
 have f1:A.filter (λr=>kl r.key k)=A:=Co hA;have f2:A.filter (λr=>kl k r.key)=[]:=HE λx hx=>lI (hA x hx);have X:A.any (λr=>decide (r.key=k))=false:=kal.2 λx hx=>(by grind[mf]);rcases O with ⟨b,J,rfl,V,O⟩ | O
 ·have R:(b::J).filter (λr=>kl r.key k)=[]:=HE λx hx=>by
   grind[lI]
  grind[Co,ln,uK]
 ·have R:B.filter (λr=>kl r.key k)=[]:=HE λx hx=>lI (O x hx);have S:B.filter (λr=>kl k r.key)=B:=Co O
  grind[ln,uK]
def Lz {l:List ChangeM}(h:srt l)(k:ak){j:Nat}{r:ChangeM}(hr:l[j]? =some r):kl r.key k=true ↔ j<ln l k:=by
 obtain ⟨A,B,rfl,hA,J⟩:=yr k h
 grind[parts,lI]
def HF (l:List ChangeM)(k:ak):ln l k<=l.length:=kam _ _
theorem yu {l:List ChangeM}(h:srt l)(k:ak):uK l k=(match l[ln l k]? with | some r=>decide (r.key=k) | none=>false):=by
 obtain ⟨A,B,rfl,hA,O⟩:=yr k h;obtain ⟨_,S,V⟩:=parts hA O;rw[S,YJ (Yf _),Nat.sub_self];rcases V with ⟨b,J,rfl,R,hi,_⟩ | ⟨hi,_⟩
 ·rw[hi];simp[R]
 ·rw[hi];cases B with
  | nil=>rfl
  | cons b J=>
   grind[uK]
theorem m7 {l:List ChangeM}(h:srt l)(c:ChangeM):FQ l c=if uK l c.key=true then (if c.gone=true then l.eraseIdx (ln l c.key) else l.set (ln l c.key) c) else (if c.gone=true then l else l.take (ln l c.key)++ [c]++l.drop (ln l c.key)):=by
 obtain ⟨A,B,rfl,hA,O⟩:=yr c.key h;obtain ⟨S,V,X⟩:=parts hA O;unfold FQ;rw[S,V];rcases X with ⟨b,Y,rfl,Z,hi,J⟩ | ⟨hi,J⟩
 ·rw[hi,J,YB rfl];by_cases R:c.gone=true
  ·grind
  grind
 ·rw[hi,J,YC (show ¬(false=true) by simp)];by_cases R:c.gone=true
  ·grind
  grind
theorem Rp {l:List ChangeM}(h:srt l)(c:ChangeM):srt (FQ l c):=by
 unfold FQ srt;rw[Zf];refine kan.2 ⟨h.sublist ZE,kan.2 ⟨by split <;> simp,h.sublist ZE,λa J b O=>?_⟩,λa J b O=>?_⟩
 ·grind
 grind[kf]
theorem Rq (l:List ChangeM)(c:ChangeM)(h:srt l):(FQ l c).length<=l.length+1:=by
 grind[m7]
def iB (c:ChangeM)(z:Bool×List ChangeM)(r:ChangeM):Bool×List ChangeM:=
 let y:=if (!z.1 && (kl c.key r.key || decide (c.key=r.key)))=true then (true,z.2++ [c]) else z
 if r.key≠c.key then (y.1,y.2++ [r]) else y
def AZ (c:ChangeM)(l:List ChangeM):Bool×List ChangeM:=l.foldl (iB c) (c.gone,[])
def Ex (c:ChangeM)(z:Bool×List ChangeM):List ChangeM:=if z.1=true then z.2 else z.2++ [c]
def OQ {c:ChangeM}{l:List ChangeM}{k:Nat}{r:ChangeM}(h:l[k]? =some r):AZ c (l.take (k+1))=iB c (AZ c (l.take k)) r:=by
 simp_all[AZ,lF]
def LA (c:ChangeM):∀(A:List ChangeM) (z:Bool×List ChangeM),(∀a∈A,kl a.key c.key=true)->A.foldl (iB c) z=(z.1,z.2++A)
 | [],z,_=>by simp
 | a::A,z,h=>by
  have J:=h a (by simp);have e:iB c z a=(z.1,z.2++ [a]):=by
   grind[iB,lI]
  rw[kao,e,LA c A _ λx hx=>h x (by simp[hx])];simp
def tt (c:ChangeM):∀(B:List ChangeM) (l:List ChangeM),(∀a∈B,kl c.key a.key=true)->B.foldl (iB c) (true,l)=(true,l++B)
 | [],z,_=>by simp
 | a::B,z,h=>by
  have J:=h a (by simp);have e:iB c (true,z) a=(true,z++ [a]):=by
   grind[iB,mf]
  rw[kao,e,tt c B _ λx hx=>h x (by simp[hx])];simp
def Rr {l:List ChangeM}(h:srt l)(c:ChangeM):Ex c (AZ c l)=FQ l c:=by
 obtain ⟨A,B,rfl,hA,J⟩:=yr c.key h;obtain ⟨Y,Z,p3⟩:=parts hA J;unfold FQ AZ;rw[Y,List.foldl_append,LA c A _ hA];simp only[Zg];rcases J with ⟨b,O,rfl,X,J⟩ | J
 ·have R:(A++b::O).filter (λr=>kl c.key r.key)=O:=by
   grind[uK]
  rw[R,kao];by_cases V:c.gone=true
  ·simp_all[iB,tt,Ex]
  simp_all[iB,tt,Ex]
 ·have R:(A++B).filter (λr=>kl c.key r.key)=B:=by
   grind[lI]
  rw[R];by_cases V:c.gone=true
  ·simp_all[tt,Ex]
  ·have S:c.gone=false:=(by simpa using V);rw[S,YC (by simp)];cases B with
   | nil=>simp[Ex]
   | cons b O=>
    have X:=J b (by simp);have e:iB c (false,A) b=(true,A++ [c]++ [b]):=by grind[iB,mf]
    simp_all[tt,Ex]
def cU (l:List ChangeM)(cs:List ChangeM):List ChangeM:=cs.foldl FQ l
def Ey {l cs:List ChangeM}{k:Nat}{r:ChangeM}(h:cs[k]? =some r):cU l (cs.take (k+1))=FQ (cU l (cs.take k)) r:=by
 simp_all[cU,lF]
end Go.Proofs.YthdjckbjjfiopabGreatDoor