/- Several texts in one: walks and rules used by them. No condition. -/
import Derived.Test.YthdjckbjjfiopabGreatDoorCartK
import Derived.Test.YthdjckbjjfiopabGreatDoorCartB
import Derived.Test.YthdjckbjjfiopabGreatDoorCartE
import Derived.Test.YthdjckbjjfiopabGreatDoorCartJ
import Derived.Test.YthdjckbjjfiopabGreatDoorCartI
set_option linter.unusedSimpArgs false
set_option linter.unusedVariables false
set_option synthInstance.maxSize 9999
set_option synthInstance.maxHeartbeats 0
set_option linter.defProp false
set_option maxHeartbeats 800000
namespace Go.Proofs.YthdjckbjjfiopabGreatDoor
open _root_.Go.Proofs.Tryz
open Go.Sl Go.Proofs
def Hj {m:Nat->Bool}{fr J:Int}(h:J<=0):fJ m fr J=m:=funext λp=>by
 grind[fJ]
def P5 (D:VdM)(fr J:Int):markD D fr J=⟨D.size,D.blocks,fJ D.dirty fr J,D.time,D.next,D.snaps⟩:=by
 simp_all[markD,Hj]
def BM (D:VdM):Int:=if D.snaps.length=5\/999<D.next then 8 else 0
def FU (D:VdM):Int:=if BM D=0 then D.next else 0
def Dz (D:VdM):VdM:=if BM D=0 then ⟨D.size,D.blocks,λ_=>false,D.time,D.next+1,D.snaps++ [⟨D.next,D.time,D.size,D.blocks,D.dirty⟩]⟩ else D
def FV (n:Int):Int:=if n<1\/16<n then 1 else 0
def wJ (B:Nat->ak)(lo hi:Int):Nat->ak:=λi=>if lo<=(i:Int)/\(i:Int)<hi then [] else B i
def j2 (D:VdM)(n:Int):Int:=if D.size<n then D.size else n
def lT (D:VdM)(n:Int):Int:=if n<D.size then D.size else n
def FH (D:VdM)(n:Int):VdM:=if FV n=0 then ⟨n,wJ D.blocks (j2 D n) (lT D n),fJ D.dirty (j2 D n) (lT D n - j2 D n),D.time,D.next,D.snaps⟩ else D
def NE (B:Nat->ak)(J:Int):wJ B J J=B:=funext λi=>by grind[wJ]
def NF {B:Nat->ak}{J z:Int}(h0:0<=z)(h1:J<=z):upd (wJ B J z) z.toNat []=wJ B J (z+1):=funext λi=>by
 grind[upd,wJ]
def NG {T:TypeId}{f:Nat×Nat}(sz S J:Int)(B:Nat->ak)(O R:Value):∀k v,(FT B)[k]? =some v->bG (.cells (jZ sz B O S J R) T f) (0+1+k)=some v
 :=λk v h=>match k,h with
  | 0,h=>h
  | 1,h=>h
  | 2,h=>h
  | 3,h=>h
  | 4,h=>h
  | 5,h=>h
  | 6,h=>h
  | 7,h=>h
  | 8,h=>h
  | 9,h=>h
  | 10,h=>h
  | 11,h=>h
  | 12,h=>h
  | 13,h=>h
  | 14,h=>h
  | 15,h=>h
  | k+16,h=>by simp[FT] at h
def P6 {T:TypeId}{f:Nat×Nat}(x:SnapM×sC):∀j,j<16->bG (.cells (sE x).toArray T f) (0+3+j*1)=some (aC (x.1.blocks j))
 :=λj h=>match j,h with
  | 0,_=>rfl
  | 1,_=>rfl
  | 2,_=>rfl
  | 3,_=>rfl
  | 4,_=>rfl
  | 5,_=>rfl
  | 6,_=>rfl
  | 7,_=>rfl
  | 8,_=>rfl
  | 9,_=>rfl
  | 10,_=>rfl
  | 11,_=>rfl
  | 12,_=>rfl
  | 13,_=>rfl
  | 14,_=>rfl
  | 15,_=>rfl
  | k+16,h=>absurd h (by omega)
def P7 (id O sz:Int)(B:Nat->ak)(m:Nat->Bool)(J:Value)(h:Go.Sl.one J=true)(w:World):(Instr.build 239 #[(0,I id),(1,I O),(2,I sz),(3, .agg (FT B).toArray),(4,J)]).run Tryz.prog w= .ok (.agg (IY ⟨id,O,sz,B,m⟩ J).toArray) w:=by
 simp[Instr.build,XJ,runUnderlying239,Vb,WF,Ww,Instr.fill,bB,sl,bP h,FT,IY,bP (show Go.Sl.one (I id)=true from rfl),bP (show Go.Sl.one (I O)=true from rfl),bP (show Go.Sl.one (I sz)=true from rfl)]
def cH (D:VdM)(i:Nat):SnapM:=(D.snaps[i]?).getD ⟨0,0,0,λ_=>[],λ_=>false⟩
def dG {D:VdM}{i:Nat}{s:SnapM}(h:D.snaps[i]? =some s):cH D i=s:=by grind[cH]
def jy (D:VdM)(id n:Int):ak×Int×Int:=if dE D.snaps id<0 then ([],0,5) else if n<0\/(cH D (dE D.snaps id).toNat).size<=n then ([],0,1) else ((cH D (dE D.snaps id).toNat).blocks n.toNat,(cH D (dE D.snaps id).toNat).size,0)
def ft (D:VdM)(id:Int):Int×Int:=if dE D.snaps id<0 then (0,5) else ((cH D (dE D.snaps id).toNat).size,0)
def NH (J:List (SnapM×sC))(i:Nat):(cD J).take i++((cD J).drop (i+1)).take (J.length - (i+1))=cD (J.eraseIdx i):=by
 simp_all[kaq,cD,kar]
def wK (b:Nat)(D:VdM)(n:Int)(hz:1<=D.size/\D.size<=16)(F:List ag):Ct Tryz.prog 73 [ptr b 0,I n] (fV b (D)::F) (R1 (bM (FV n)) (fV b (FH D n)::F)):=by
 refine Ct.of func73 rR 48 ntmps73 (by simp) λw0=>?_;refine iE b (D) ?_;intro O cd R cs J S;refine gS (gQ (ac (gS (gM (gV aI (gM (gK aq (gK aT (gV cu (ab ?_))))))))));apply ah<;>intro V
 ·simp at V;have hw:FV n=1:=(by unfold FV;rw[YB (by omega)]);refine gS (gV (aZ Vn) (gQ ?_));refine em (jZ ((D).size) ((D).blocks) (sl O (dp (D).dirty).length cd) ((D).time) ((D).next) (sl R J.length cs)) (aS (dp (D).dirty)) (cD J) O cd R cs (J) b ((D)) S ?_;rw[show fV b D=fV b (FH D n) by unfold FH;rw[YC (by omega)]];exact ao rfl rfl (by rw[hw];rfl)
 ·simp at V;have hw:FV n=0:=(by unfold FV;rw[YC (by omega)]);refine ai (ac ?_);refine cV jG ?_;refine dM rR (dM rR (dV rR aa (dF rR 0 VF rR Vb (dL rR (I D.size) Vc (dV rR (KV rR rR) (dM rR (dM rR (dV rR aa (dF rR 0 VF rR Vb (dL rR (I D.size) Vc (dV rR (AD rR rR) (dV rR aD (dV rR aD ?_)))))))))))));refine aP ?_;refine ac (ac ?_);have Y:1<=j2 D n/\j2 D n<=16/\j2 D n<=lT D n/\lT D n<=16:=(by unfold j2 lT;split <;> split <;> omega);rw[show jZ D.size D.blocks (sl O (dp D.dirty).length cd) D.time D.next (sl R J.length cs)=jZ D.size (wJ D.blocks (j2 D n) (j2 D n)) (sl O (dp D.dirty).length cd) D.time D.next (sl R J.length cs) by rw[NE]];refine am (gM (gQ (al ?_)));refine aM (α:=Int) (λz=>j2 D n<=z/\z<=lT D n) (λz=>U [(0,ptr b 0),(1,I n),(5,I (j2 D n)),(6,I (lT D n)),(7,I z)]) (λz=>pt b (.cells (jZ ((D).size) (wJ D.blocks (j2 D n) z) (sl O (dp (D).dirty).length cd) ((D).time) ((D).next) (sl R J.length cs)) 134 (0,0))::roL 2 O (aS (dp D.dirty))::bi 239 20 R cs (cD J)::iD J::F) (λz=>(lT D n - z).toNat) (j2 D n) (by omega) [0,1,5,6,7] rfl ?_;rintro z ⟨Z,hz2⟩;refine ac (gS (gM (gM (gV aI (ab ?_)))));apply ah<;>intro X
  ·simp at X;refine ai (ac (al (am (gM (gM (gV aa (gF 1 VF rR WF (gV (ba z.toNat Xu Vh (hj:=by omega) (by omega)) (gU (aK (jZ ((D).size) (wJ D.blocks (j2 D n) (z+1)) (sl O (dp (D).dirty).length cd) ((D).time) ((D).next) (sl R J.length cs)) Vh (by rw[kv];omega) (hcs:=by rw[IZ _ _ _ _ _ _ _ _ (by omega),NF (by omega) (by omega)])) (ab (aG (am (gM (gP (gQ ?_)))))))))))))));exact ap (z+1) (by omega) (by omega) [0,1,5,6,7] rfl
  ·simp at X;obtain rfl:z=lT D n:=(by omega);refine em (jZ ((D).size) (wJ D.blocks (j2 D n) (lT D n)) (sl O (dp (D).dirty).length cd) ((D).time) ((D).next) (sl R J.length cs)) (aS (dp D.dirty)) (cD J) O cd R cs (J) b ((⟨D.size,wJ D.blocks (j2 D n) (lT D n),D.dirty,D.time,D.next,D.snaps⟩)) S ?_;refine aF ?_;refine gS (gM (gM (gM (gM (gV (fe (da (by omega))) (gR (vB call142 (rI b ⟨D.size,wJ D.blocks (j2 D n) (lT D n),D.dirty,D.time,D.next,D.snaps⟩ (j2 D n) (lT D n - j2 D n) (by omega) (by omega))) ?_))))));rw[P5];clear S;refine iE b ⟨D.size,wJ D.blocks (j2 D n) (lT D n),fJ D.dirty (j2 D n) (lT D n - j2 D n),D.time,D.next,D.snaps⟩ ?_;intro O cd R cs J S;refine ab (gS (gM (gM (gV aa (gF 0 VF rR Vb (gU (aK (jZ n (wJ D.blocks (j2 D n) (lT D n)) (sl O (dp (fJ D.dirty (j2 D n) (lT D n - j2 D n))).length cd) D.time D.next (sl R J.length cs)) Vb (by rw[kv];decide) (hcs:=by exact Nx _ _ _ _ _ _ _)) (ab (gS (gQ ?_)))))))));refine em (jZ n (wJ D.blocks (j2 D n) (lT D n)) (sl O (dp (fJ D.dirty (j2 D n) (lT D n - j2 D n))).length cd) D.time D.next (sl R J.length cs)) (aS (dp (fJ D.dirty (j2 D n) (lT D n - j2 D n)))) (cD J) O cd R cs (J) b ((⟨n,wJ D.blocks (j2 D n) (lT D n),fJ D.dirty (j2 D n) (lT D n - j2 D n),D.time,D.next,D.snaps⟩)) S ?_;rw[show fV b ⟨n,wJ D.blocks (j2 D n) (lT D n),fJ D.dirty (j2 D n) (lT D n - j2 D n),D.time,D.next,D.snaps⟩=fV b (FH D n) by unfold FH;rw[YB hw]];exact ao rfl rfl (by rw[hw];rfl)
def rJ (b:Nat)(D:VdM)(hs:D.snaps.length<=1000000)(hn: -9223372036854775808<=D.next)(F:List ag):Ct Tryz.prog 68 [ptr b 0] (fV b (D)::F) (R1 (.tuple #[I (FU D),bM (BM D)]) (fV b (Dz D)::F)):=by
 refine Ct.of func68 rR 61 ntmps68 (by simp) λw0=>?_;refine iE b (D) ?_;intro sd cd ss cs gl hgl;have hln:=vN hgl;refine gS (gA (gQ (ac (gS (gM (gV aa (gF 20 VF rR Wh (gL (sl ss gl.length cs) WE (gV (aX V8) (gV bT (gM (gK aq (gK aa (gK (aw 19 VF rR Vb) (gK (az (v:=I D.next) Vc (hv:=⟨rfl⟩)) (gK aT (gV cu (ab ?_))))))))))))))))));apply ah<;>intro h17
 ·simp at h17;have hw:BM D=8:=(by unfold BM;rw[YB (by omega)]);refine gS (gV (aZ Vn) (gA (gQ ?_)));refine em (jZ ((D).size) ((D).blocks) (sl sd (dp (D).dirty).length cd) ((D).time) ((D).next) (sl ss gl.length cs)) (aS (dp (D).dirty)) (cD gl) sd cd ss cs (gl) b ((D)) hgl ?_;rw[show fV b D=fV b (Dz D) by unfold Dz;rw[YC (by omega)]];exact ao rfl rfl (by rw[show FU D=0 by unfold FU;rw[YC (by omega)],hw];rfl)
 ·simp at h17;have hw:BM D=0:=(by unfold BM;rw[YC (by omega)]);refine ai (gS (gM (gV aa (gF 19 VF rR Vb (gL (I D.next) Vc (gQ (gS (gM (gV aa (gF 19 VF rR Vb (gL (I D.next) Vc (gP (gV aa (gF 19 VF rR Vb (gU (aK (jZ ((D).size) ((D).blocks) (sl sd (dp (D).dirty).length cd) ((D).time) (D.next+1) (sl ss gl.length cs)) Vb (by rw[kv];decide) (hcs:=by exact NA _ _ _ _ _ _ _)) (ab (ac ?_)))))))))))))))));refine eU (Lf:=pt b (.cells (jZ ((D).size) ((D).blocks) (sl sd (dp (D).dirty).length cd) ((D).time) (D.next+1) (sl ss gl.length cs)) 134 (0,0))::F) [(0,false),(1,false),(2,false),(3,false),(4,false),(5,false),(6,false),(7,false),(8,false),(9,false),(10,false),(11,false),(12,false),(13,false),(14,false),(15,false),(16,false),(17,false),(18,false),(19,false),(20,false),(21,false),(22,false),(23,true),(24,true),(25,false),(26,false)] 27 ?_;refine dM rR (dM rR (dV rR aa (dF rR 20 VF rR Wh (dL rR (sl ss gl.length cs) WE (dM rR (dM rR (dV rR aa (dF rR 18 VF rR Vb (dL rR (I D.time) Vc (dM rR (dV rR aa (dF rR 0 VF rR Vb (dL rR (I D.size) Vc (dM rR (dV rR aa (dF rR 1 VF rR WF (dV rR (aU (vs:=FT D.blocks) isAgg130 WF (NG _ _ _ _ _ _)) (dM rR (dV rR aa (dF rR 17 VF rR Ww (dL rR (sl sd (dp D.dirty).length cd) XD (dV rR (aR (P7 D.next D.time D.size D.blocks D.dirty (sl sd (dp D.dirty).length cd) rR)) (d7 rR (av [sE (⟨D.next,D.time,D.size,D.blocks,D.dirty⟩,(sd,cd))] V8 Wg XJ (by simp[FD])) ?_)))))))))))))))))))))));rintro _ _ ⟨b53,rfl,rfl⟩;refine d7 rR (bo V8 Wg XJ Tryz.typeInfo239 (hn:=by rw[eX]) (by simp[FD]) (by simp[sE,IY,Go.Sl.ones,Go.Sl.one,sl]) ⟨by omega,by decide,by decide⟩) ?_;rintro _ _ ⟨s54,c54,rfl,rfl⟩;rw[show cD gl++ [sE (⟨D.next,D.time,D.size,D.blocks,D.dirty⟩,(sd,cd))]=cD (gl++ [(⟨D.next,D.time,D.size,D.blocks,D.dirty⟩,(sd,cd))]) by simp[cD]];refine dV rR aa (dF rR 20 VF rR Wh ?_);refine aP ?_;refine gU (aK (jZ ((D).size) ((D).blocks) (sl sd (dp (D).dirty).length cd) ((D).time) (D.next+1) (sl s54 (gl.length+1) c54)) Wh (by rw[kv];decide) (hcs:=by exact BK _ _ _ _ _ _ _)) (ab (gS (gM (gV aa (gF 17 VF rR Ww (gU (aK (jZ ((D).size) ((D).blocks) (sl none 0 0) ((D).time) (D.next+1) (sl s54 (gl.length+1) c54)) Ww (by rw[kv];decide) (hcs:=by exact ra _ _ _ _ _ _ _)) (ab (gS (gM (gA (gQ ?_)))))))))))
  refine zS gl (gl++ [(⟨D.next,D.time,D.size,D.blocks,D.dirty⟩,(sd,cd))]) (⟨D.next,D.time,D.size,D.blocks,D.dirty⟩,(sd,cd)) (λy hy=>by simpa using hy) ?_;refine sM 2 (aS (dp λ_=>false)) ?_;refine em (jZ ((D).size) ((D).blocks) (sl none 0 0) ((D).time) (D.next+1) (sl s54 (gl.length+1) c54)) (aS (dp λ_=>false)) (cD (gl++ [(⟨D.next,D.time,D.size,D.blocks,D.dirty⟩,(sd,cd))])) none 0 s54 c54 ((gl++ [(⟨D.next,D.time,D.size,D.blocks,D.dirty⟩,(sd,cd))])) b ((⟨D.size,D.blocks,λ_=>false,D.time,D.next+1,D.snaps++ [⟨D.next,D.time,D.size,D.blocks,D.dirty⟩]⟩)) (hC:=by simp[dp,fz,sl];try rfl) (by simp[hgl]) ?_;rw[show fV b ⟨D.size,D.blocks,λ_=>false,D.time,D.next+1,D.snaps++ [⟨D.next,D.time,D.size,D.blocks,D.dirty⟩]⟩=fV b (Dz D) by unfold Dz;rw[YB hw]];exact ao rfl rfl (by rw[show FU D=D.next by unfold FU;rw[YB hw],hw];rfl)
def Au (b:Nat)(D:VdM)(id n:Int)(hsl:D.snaps.length<=1000000)(hsz:∀s∈D.snaps,s.size<=16)(F:List ag):Ct Tryz.prog 212 [ptr b 0,I id,I n] (fV b (D)::F) (R1 (.tuple #[aC (jy D id n).1,I (jy D id n).2.1,bM (jy D id n).2.2]) (fV b (D)::F)):=by
 refine Ct.of func212 rR 39 ntmps212 (by simp) λw0=>?_;refine gS (gA (gA (gQ (gS (gM (gM (gR (vB call149 (jg b D id (by omega))) (gQ (ac (gS (gM (gV aI (ab ?_)))))))))))));apply ah<;>intro h15
 ·simp at h15;refine gS (gV (aZ Vn) (gA (gA (gQ ?_))));exact ao rfl rfl (by rw[show jy D id n=([],0,5) by unfold jy;rw[YB (by omega)]];rfl)
 ·simp at h15;obtain ⟨i,s,hfi,hs,hid,hil⟩:=hO (show ¬dE D.snaps id<0 by omega);rw[hfi];refine iE b (D) ?_;intro sd cd ss cs gl hgl;have hln:=vN hgl;obtain ⟨q,hx⟩:=zW hgl hs;have hkn:i<gl.length:=(by omega);have hkr:i<(cD gl).length:=(by rw[eX];exact hkn);refine ai (gS (gM (gV aa (gF 20 VF rR Wh (gL (sl ss gl.length cs) WE (gM (gV (ay i V8 Wg hkn hkr) (gV (bJ (row:=sE (s,q)) isAgg239 Wg (g9 hx)) (gI (aO #[I 0,I 0,I 0,aC [],aC [],aC [],aC [],aC [],aC [],aC [],aC [],aC [],aC [],aC [],aC [],aC [],aC [],aC [],aC [],sl none 0 0] XJ) ?_)))))))));rintro _ _ ⟨b10,rfl,rfl⟩;refine gU (ax (cs:=#[I 0,I 0,I 0,aC [],aC [],aC [],aC [],aC [],aC [],aC [],aC [],aC [],aC [],aC [],aC [],aC [],aC [],aC [],aC [],sl none 0 0]) (vs:=sE (s,q)) (sE (s,q)).toArray Wg (by simp) (hcs:=by exact bk)) (ab (ac (gS (gM (gV aI (gM (gK aq (gK (aw 2 WN rR Vb) (gK (az (v:=I s.size) Vc (hv:=⟨rfl⟩)) (gK j6 (gV cu (ab ?_))))))))))));apply ah<;>intro h31
  ·simp at h31;refine gS (gV (aZ Vn) (gA (gA (gQ ?_))));refine em (jZ ((D).size) ((D).blocks) (sl sd (dp (D).dirty).length cd) ((D).time) ((D).next) (sl ss gl.length cs)) (aS (dp (D).dirty)) (cD gl) sd cd ss cs (gl) b ((D)) hgl ?_;exact ao rfl rfl (by rw[show jy D id n=([],0,1) by unfold jy;rw[YC (by omega),hfi,kag,dG hs,YB (by omega)]];rfl)
  ·simp at h31;have hs16:=hsz s (YW hs);refine ai (ac ?_);refine cV jB ?_;refine dM rR (dF rR 3 WN rR WF (dV rR (ba n.toNat Xu Vh (hj:=by omega) (by omega)) (dV rR (az (v:=aC (s.blocks n.toNat)) Vj (hv:=⟨P6 _ _ (by omega)⟩)) (dF rR 2 WN rR Vb (dL rR (I s.size) Vc (dV rR aD (dV rR aD (dV rR aD ?_))))))));refine aP ?_;refine em (jZ ((D).size) ((D).blocks) (sl sd (dp (D).dirty).length cd) ((D).time) ((D).next) (sl ss gl.length cs)) (aS (dp (D).dirty)) (cD gl) sd cd ss cs (gl) b ((D)) hgl ?_;exact ao rfl rfl (by rw[show jy D id n=(s.blocks n.toNat,s.size,0) by unfold jy;rw[YC (by omega),hfi,kag,dG hs,YC (by omega)]];rfl)
def wL (b:Nat)(D:VdM)(id:Int)(hsl:D.snaps.length<=1000000)(F:List ag):Ct Tryz.prog 143 [ptr b 0,I id] (fV b (D)::F) (R1 (.tuple #[I (ft D id).1,bM (ft D id).2]) (fV b (D)::F)):=by
 refine Ct.of func143 rR 21 ntmps143 (by simp) λw0=>?_;refine gS (gA (gQ (gS (gM (gM (gR (vB call149 (jg b D id (by omega))) (gQ (ac (gS (gM (gV aI (ab ?_))))))))))));apply ah<;>intro h11
 ·simp at h11;refine gS (gV (aZ Vn) (gA (gQ ?_)));exact ao rfl rfl (by rw[show ft D id=(0,5) by unfold ft;rw[YB (by omega)]];rfl)
 ·simp at h11;obtain ⟨i,s,hfi,hs,hid,hil⟩:=hO (show ¬dE D.snaps id<0 by omega);rw[hfi];refine iE b (D) ?_;intro sd cd ss cs gl hgl;have hln:=vN hgl;obtain ⟨q,hx⟩:=zW hgl hs;have hkn:i<gl.length:=(by omega);have hkr:i<(cD gl).length:=(by rw[eX];exact hkn);refine ai (gS (gM (gV aa (gF 20 VF rR Wh (gL (sl ss gl.length cs) WE (gM (gV (ay i V8 Wg hkn hkr) (gV (aE (j:=_) 2 WN rR Vb (by assumption)) (gV (bC (v:=I s.size) Vc (g9 hx)) (gA (gQ ?_)))))))))));refine em (jZ ((D).size) ((D).blocks) (sl sd (dp (D).dirty).length cd) ((D).time) ((D).next) (sl ss gl.length cs)) (aS (dp (D).dirty)) (cD gl) sd cd ss cs (gl) b ((D)) hgl ?_;exact ao rfl rfl (by rw[show ft D id=(s.size,0) by unfold ft;rw[YC (by omega),hfi,kag,dG hs]];rfl)
-- (*counterfoil/vdisk.Disk).Snaps is not in this seat
def z6 (J:List (SnapM×sC))(R:Option Addr)(cs i:Nat)(hi:i<J.length)(hl:J.length<=1000000)(F:List ag):Ct Tryz.prog 153 [sl R J.length cs,I i,I ((i:Int)+1)] (bi 239 20 R cs (cD J)::F) (R1 (sl R (J.length - 1) cs) (bi 239 20 R cs (cD (J.eraseIdx i))::F)):=by
 refine Ct.of func153 rR 33 ntmps153 (by simp) λw0=>?_;refine BR (φ:=J.length<=cs) (λw Y=>by
  rcases dz Y with ⟨_,h,_,_⟩ | ⟨b,V,h,h1,X,_⟩
  ·have:=Yg List.length h;simp[cD] at this;rw[this] at hi;simp at hi
  ·simpa [cD] using X) (λO=>?_)
 refine gS (gQ (gS (gM (gM (gM (gM (gV (aX V8) (gV (La (l:=i) (h:=i+1) (q:=J.length) V8 Wg rR rR rR rR (by omega) rR rR (by omega) (by omega) O) (ab (ac (gS (gM (gM (gV bT (ab ?_)))))))))))))));apply ah<;>intro S
 ·simp at S;omega
 ·refine ai (gS (gM (gV (aX V8) (gQ (ac ?_)))));refine cO (Lf:=F) jD ?_;refine dM rfl (dM rfl (dV rfl (lX (h:=i) V8 Wg rfl rfl rfl (by omega)) (dM rfl (dM rfl (dV rfl (iU (l:=i+1) V8 Wg rfl rfl (by omega) (by omega)) (d7 rfl (xR (s:=R) (p:=i+1) V8 Wg (by decide) rfl rfl (by unfold At;split;exact .inr (.inr (by omega));exact .inr (.inl rfl)) (by rw[eX];omega) (by rw[eX];omega) (by rw[eX];omega) (by rw[eX];omega) (λr hr=>by simp only[cD,Zz] at hr;obtain ⟨x,_,rfl⟩:=hr;rfl)) ?_))))));rintro _ _ ⟨rfl,rfl⟩;rw[NH];refine dV rR aD ?_;refine aP ?_;refine gS (gM (gM (gV (aX V8) (gM (gV (D4 (l:=i+(J.length - (i+1))) (h:=J.length) V8 Wg rR rR rR rR rR (by omega) O) (ir (mU (sz:=20) (l:=i+(J.length - (i+1))) R V8 XJ rR rR (by unfold At;split;exact .inr (.inr (by omega));exact .inr (.inl rR)) (by rw[eX,kas];split <;> omega) (by omega)) ?_))))));rintro _ _ ⟨rfl,rfl⟩;refine ab (gS (gM (gQ ?_)));exact ao rfl rfl (by rw[show J.length - 1=i+(J.length - (i+1)) by omega];rfl)
def Hk (m n:Nat->Bool):dp (sQ (mk (dp m)) (mk (dp n)))=dp (sQ m n):=BE λp hp=>by
 grind[sQ,sx]
abbrev rK (s:SnapM)(m:Nat->Bool):SnapM:=⟨s.id,s.time,s.size,s.blocks,m⟩
def ov (D:VdM)(i:Nat):List SnapM:=if i+1<D.snaps.length/\(cH D (i+1)).time=(cH D i).time then D.snaps.set (i+1) (rK (cH D (i+1)) (sQ (cH D (i+1)).dirty (cH D i).dirty)) else D.snaps
def nC (D:VdM)(i:Nat):Nat->Bool:=if ¬(i+1<D.snaps.length)/\D.time=(cH D i).time then sQ D.dirty (cH D i).dirty else D.dirty
def I2 (D:VdM)(id:Int):Int:=if dE D.snaps id<0 then 5 else 0
def FI (D:VdM)(id:Int):VdM:=if dE D.snaps id<0 then D else ⟨D.size,D.blocks,nC D (dE D.snaps id).toNat,D.time,D.next,(ov D (dE D.snaps id).toNat).eraseIdx (dE D.snaps id).toNat⟩
def Av (D:VdM)(i:Nat):Nat->(Nat->Bool)
 | 0=>λ_=>false
 | c+1=>sQ (Av D i c) (cH D (i+1+c)).dirty
def ox (D:VdM)(x y:Int):Nat:=if dE D.snaps y<dE D.snaps x then (dE D.snaps y).toNat else (dE D.snaps x).toNat
def pk (D:VdM)(x y:Int):Nat:=if dE D.snaps x<dE D.snaps y then (dE D.snaps y).toNat else (dE D.snaps x).toNat
def pm (D:VdM)(x y:Int):Int:=if dE D.snaps x<0\/dE D.snaps y<0 then 5 else if (cH D (ox D x y)).time≠(cH D (pk D x y)).time then 7 else 0
def qx (D:VdM)(x y:Int):List Area:=if pm D x y=0 then dp (Av D (ox D x y) (pk D x y - ox D x y)) else []
def NI (J:List (SnapM×sC))(j:Nat)(s:SnapM)(q:sC)(m:Nat->Bool)(a:Option Addr)(c:Nat):(cD J).set j ((sE (s,q)).set 19 (sl a (dp m).length c))=cD (J.set j (rK s m,(a,c))):=by
 simp only[cD,Y1]
 rfl
def P8 (J:List (SnapM×sC))(j:Nat)(x:SnapM×sC):(J.set j x).map Prod.fst=(J.map Prod.fst).set j x.1:=by simp[Y1]
def Ku (J:List (SnapM×sC))(j:Nat):(J.eraseIdx j).map Prod.fst=(J.map Prod.fst).eraseIdx j:=by simp[kar]
def Aw (b:Nat)(D:VdM)(id:Int)(hsl:D.snaps.length<=1000000)(F:List ag):Ct Tryz.prog 74 [ptr b 0,I id] (fV b (D)::F) (R1 (bM (I2 D id)) (fV b (FI D id)::F)):=by
 refine Ct.of func74 rR 99 ntmps74 (by simp) λw0=>?_;refine gS (gQ (gS (gM (gM (gR (vB call149 (jg b D id (by omega))) (gQ (ac (gS (gM (gV aI (ab ?_)))))))))));apply ah<;>intro h11
 ·simp at h11;refine gS (gV (aZ Vn) (gQ ?_));rw[show fV b D=fV b (FI D id) by unfold FI;rw[YB (by omega)]];exact ao rfl rfl (by rw[show I2 D id=5 by unfold I2;rw[YB (by omega)]];rfl)
 ·simp at h11;obtain ⟨i,s,hfi,hs,hid,hil⟩:=hO (show ¬dE D.snaps id<0 by omega);rw[hfi];refine iE b (D) ?_;intro sd cd ss cs gl hgl;have hln:=vN hgl;obtain ⟨q,hx⟩:=zW hgl hs;have hkn:i<gl.length:=(by omega);have hkr:i<(cD gl).length:=(by rw[eX];exact hkn);have hsi:=dG hs;refine ai (gS (gM (gV aa (gF 20 VF rR Wh (gL (sl ss gl.length cs) WE (gM (gV (ay i V8 Wg hkn hkr) (gV (aE (j:=i) 19 WN rR Ww hkr) (gV (bC (v:=sl q.1 (dp s.dirty).length q.2) XD (g9 hx)) (gQ (ac (gS (gM (gP (gM (gV aa (gF 20 VF rR Wh (gL (sl ss gl.length cs) WE (gV (aX V8) (gV aI (ab ?_)))))))))))))))))))));refine ls (α:=List (SnapM×sC)×Option Addr×Nat) (λz=>z.1.map Prod.fst=ov D i) (λz=>U [(0,ptr b 0),(5,I i)]) (λz=>pt b (.cells (jZ D.size D.blocks (sl z.2.1 (dp (nC D i)).length z.2.2) D.time D.next (sl ss z.1.length cs)) 134 (0,0))::roL 2 z.2.1 (aS (dp (nC D i)))::bi 239 20 ss cs (cD z.1)::iD z.1::F) ?_ ?_
  ·apply ah<;>intro h28
   ·simp at h28;obtain ⟨s2,hs2⟩:∃s2,D.snaps[i+1]? =some s2:=⟨_,Zu (by omega)⟩;obtain ⟨q2,hx2⟩:=zW hgl hs2;have hkn2:i+1<gl.length:=(by omega);have hkr2:i+1<(cD gl).length:=(by rw[eX];exact hkn2);have hsi2:=dG hs2;refine ac ?_;refine cV jV ?_;refine dM rR (dV rR aa (dF rR 20 VF rR Wh (dL rR (sl ss gl.length cs) WE (dM rR (dV rR (bO (da (by omega))) (dV rR (ay (i+1) V8 Wg hkn2 hkr2) (dV rR (aE (j:=(i+1)) 1 WN rR Vb hkr2) (dV rR (bC (v:=I s2.time) Vc (g9 hx2)) (dM rR (dV rR aa (dF rR 20 VF rR Wh (dL rR (sl ss gl.length cs) WE (dM rR (dV rR (ay i V8 Wg hkn hkr) (dV rR (aE (j:=i) 1 WN rR Vb hkr) (dV rR (bC (v:=I s.time) Vc (g9 hx)) (dV rR bT ?_)))))))))))))))));refine aP ?_;apply ah<;>intro h46
    ·simp at h46;refine rb gl (x:=(s2,q2)) (YW hx2) ?_;refine rb gl (x:=(s,q)) (YW hx) ?_;refine eU (Lf:=pt b (.cells (jZ ((D).size) ((D).blocks) (sl sd (dp (D).dirty).length cd) ((D).time) ((D).next) (sl ss gl.length cs)) 134 (0,0))::bi 239 20 ss cs (cD gl)::F) [(0,false),(1,false),(2,false),(3,false),(4,false),(5,false),(6,false),(7,false),(8,false),(9,false),(10,false),(11,false),(12,false),(13,false),(14,false),(15,false),(16,true),(17,false),(18,false)] 19 ?_;refine dM rR (dV rR aa (dF rR 20 VF rR Wh (dL rR (sl ss gl.length cs) WE (dM rR (dV rR (bO (da (by omega))) (dM rR (dV rR aa (dF rR 20 VF rR Wh (dL rR (sl ss gl.length cs) WE (dM rR (dV rR (bO (da (by omega))) (dV rR (ay (i+1) V8 Wg hkn2 hkr2) (dV rR (aE (j:=(i+1)) 19 WN rR Ww hkr2) (dV rR (bC (v:=sl q2.1 (dp s2.dirty).length q2.2) XD (g9 hx2)) (dM rR (d7 rR (uC call150 (kV (dp s2.dirty) (dp s.dirty) q2.1 q.1 q2.2 q.2 (kX _) (kX _) (k6 _) (k6 _))) ?_))))))))))))))));rintro _ _ ⟨s63,c63,rfl,rfl⟩;rw[Hk];refine dV rR (ay (i+1) V8 Wg hkn2 hkr2) (dV rR (aE (j:=(i+1)) 19 WN rR Ww hkr2) ?_);refine aP ?_;refine ir (sK (row:=sE (s2,q2)) (f:=19) Ww (g9 hx2) (by decide)) ?_;rintro _ _ rfl;rw[NI];refine bR s63 ?_;refine ab ?_;rw[show gl.length=(gl.set (i+1) (rK s2 (sQ s2.dirty s.dirty),(s63,c63))).length by simp];refine zS gl (gl.set (i+1) (rK s2 (sQ s2.dirty s.dirty),(s63,c63))) (rK s2 (sQ s2.dirty s.dirty),(s63,c63)) (λy hy=>Y0 hy) ?_;have hp:nC D i=D.dirty:=(by unfold nC;rw[YC (by omega)]);exact cF (gl.set (i+1) (rK s2 (sQ s2.dirty s.dirty),(s63,c63)),sd,cd) (by rw[P8,hgl];unfold ov;rw[YB ⟨by omega,by rw[hsi,hsi2];exact h46⟩,hsi,hsi2]) [0,5] rfl (SL:=by simp only[hp];infer_instance)
    ·simp at h46;refine ai ?_;have hp:nC D i=D.dirty:=(by unfold nC;rw[YC (by omega)]);exact cF (gl,sd,cd) (by rw[hgl];unfold ov;rw[YC (λhh=>h46 (by rw[hsi,hsi2] at hh;exact hh.2))]) [0,5] rfl (SL:=by simp only[hp];infer_instance)
   ·simp at h28;refine ac ?_;refine cV jT ?_;refine dM rR (dV rR aa (dF rR 18 VF rR Vb (dL rR (I D.time) Vc (dM rR (dV rR aa (dF rR 20 VF rR Wh (dL rR (sl ss gl.length cs) WE (dM rR (dV rR (ay i V8 Wg hkn hkr) (dV rR (aE (j:=i) 1 WN rR Vb hkr) (dV rR (bC (v:=I s.time) Vc (g9 hx)) (dV rR bT ?_))))))))))));refine aP ?_;apply ah<;>intro h78
    ·simp at h78;refine rb gl (x:=(s,q)) (YW hx) ?_;refine am (gM (gM (gV aa (gF 17 VF rR Ww (gL (sl sd (dp D.dirty).length cd) XD (gM (gI (uC call150 (kV (dp D.dirty) (dp s.dirty) sd q.1 cd q.2 (kX _) (kX _) (k6 _) (k6 _))) ?_)))))));rintro _ _ ⟨s85,c85,rfl,rfl⟩;rw[Hk];refine bR s85 ?_;refine gV aa (gF 17 VF rR Ww (gU (aK (jZ ((D).size) ((D).blocks) (sl s85 (dp (sQ D.dirty s.dirty)).length c85) ((D).time) ((D).next) (sl ss gl.length cs)) Ww (by rw[kv];decide) (hcs:=by exact ra _ _ _ _ _ _ _)) (ab ?_)));have hp:nC D i=sQ D.dirty s.dirty:=(by unfold nC;rw[YB ⟨by omega,by rw[hsi];exact h78⟩,hsi]);exact cF (gl,s85,c85) (by rw[hgl];unfold ov;rw[YC (by omega)]) [0,5] rfl (SL:=by simp only[hp];infer_instance)
    ·simp at h78;refine ai ?_;have hp:nC D i=D.dirty:=(by unfold nC;rw[YC (λhh=>h78 (by rw[hsi] at hh;exact hh.2))]);exact cF (gl,sd,cd) (by rw[hgl];unfold ov;rw[YC (by omega)]) [0,5] rfl (SL:=by simp only[hp];infer_instance)
  rintro ⟨gl',sd',cd'⟩ hgl';simp only[] at hgl' ⊢;have hln':gl'.length=D.snaps.length:=(by rw[<-ZU (f:=Prod.fst),hgl'];unfold ov;split <;> simp);refine gS (gM (gM (gV aa (gF 20 VF rR Wh (gL (sl ss gl'.length cs) WE (gM (gM (gP (gR (vB call153 (z6 gl' ss cs i (by omega) (by omega))) (gV aa (gF 20 VF rR Wh (gU (aK (jZ D.size D.blocks (sl sd' (dp (nC D i)).length cd') D.time D.next (sl ss (gl'.length - 1) cs)) Wh (by rw[kv];decide) (hcs:=by exact BK _ _ _ _ _ _ _)) (ab (gS (gQ ?_)))))))))))))));refine Hi gl' (gl'.eraseIdx i) (λx hx=>kbe hx) ?_;refine em (jZ D.size D.blocks (sl sd' (dp (nC D i)).length cd') D.time D.next (sl ss (gl'.length - 1) cs)) (aS (dp (nC D i))) (cD (gl'.eraseIdx i)) sd' cd' ss cs (gl'.eraseIdx i) b ⟨D.size,D.blocks,nC D i,D.time,D.next,(ov D i).eraseIdx i⟩ (hC:=by rw[kas,YB (by omega)]) (by rw[Ku,hgl']) ?_;rw[show fV b ⟨D.size,D.blocks,nC D i,D.time,D.next,(ov D i).eraseIdx i⟩=fV b (FI D id) by unfold FI;rw[YC (by omega),hfi,kag]];exact ao rfl rfl (by rw[show I2 D id=0 by unfold I2;rw[YC (by omega)]];rfl)
def vO (b:Nat)(D:VdM)(x y:Int)(hsl:D.snaps.length<=1000000)(F:List ag):Ct Tryz.prog 71 [ptr b 0,I x,I y] (fV b (D)::F) (Ur (λv=> .tuple #[v,bM (pm D x y)]) 142 2 (qx D x y).length (aS (qx D x y)) (fV b (D)::F)):=by
 refine Ct.of func71 rR 67 ntmps71 (by simp) λw0=>?_;refine gS (gA (gQ (gS (gM (gM (gR (vB call149 (jg b D x (by omega))) (gM (gM (gR (vB call149 (jg b D y (by omega))) (gA (gQ (ac (gS (gM (gV aI (gM (gK aq (gK aI (gV cu (ab ?_))))))))))))))))))));apply ah<;>intro h23
 ·simp at h23;refine gS (gV (aZ Vn) (gA (gQ ?_)));have hE:pm D x y=5:=(by unfold pm;rw[YB (by omega)]);have hA:qx D x y=[]:=(by unfold qx;rw[YC (by omega)]);refine bH 142 2 (aS (qx D x y)) (hr:=by rw[hA];rfl) ?_;exact mR (f:=λv=> .tuple #[v,bM (pm D x y)]) rfl rfl (by rw[hA]) (by rw[hE];rfl)
 ·simp at h23;refine ai (ac ?_);obtain ⟨ia,sa,hfa,hsa,_,hla⟩:=hO (show ¬dE D.snaps x<0 by omega);obtain ⟨ib,sb,hfb,hsb,_,hlb⟩:=hO (show ¬dE D.snaps y<0 by omega);rw[hfa,hfb];refine am (gM (gM (gV (KV rR rR) (gM (gM (gV (AD rR rR) (gA (gQ (ac (ac ?_))))))))));rw[show (if (ib:Int)<ia then (ib:Int) else ia)=((ox D x y:Nat):Int) by unfold ox;rw[hfa,hfb];split <;> simp,show (if (ia:Int)<ib then (ib:Int) else ia)=((pk D x y:Nat):Int) by unfold pk;rw[hfa,hfb];split <;> simp];have hb1:ox D x y<D.snaps.length:=(by unfold ox;rw[hfa,hfb];split <;> rw[kag] <;> assumption);have hb2:pk D x y<D.snaps.length:=(by unfold pk;rw[hfa,hfb];split <;> rw[kag] <;> assumption);have hb3:ox D x y<=pk D x y:=(by unfold ox pk;rw[hfa,hfb];split <;> split <;> simp <;> omega);generalize hlo:ox D x y=lo at*;generalize hhi:pk D x y=hi at*;refine iE b (D) ?_;intro sd cd ss cs gl hgl;have hln:=vN hgl;obtain ⟨s1,hs1⟩:∃s,D.snaps[lo]? =some s:=⟨_,Zu hb1⟩;obtain ⟨s2,hs2⟩:∃s,D.snaps[hi]? =some s:=⟨_,Zu hb2⟩;obtain ⟨q1,hx1⟩:=zW hgl hs1;obtain ⟨q2,hx2⟩:=zW hgl hs2;have hkl:lo<gl.length:=(by omega);have hkh:hi<gl.length:=(by omega);have hkrl:lo<(cD gl).length:=(by rw[eX];exact hkl);have hkrh:hi<(cD gl).length:=(by rw[eX];exact hkh);have hse1:=dG hs1;have hse2:=dG hs2;refine cV jC ?_;refine dM rR (dV rR aa (dF rR 20 VF rR Wh (dL rR (sl ss gl.length cs) WE (dM rR (dV rR (ay lo V8 Wg hkl hkrl) (dV rR (aE (j:=lo) 1 WN rR Vb hkrl) (dV rR (bC (v:=I s1.time) Vc (g9 hx1)) (dM rR (dV rR aa (dF rR 20 VF rR Wh (dL rR (sl ss gl.length cs) WE (dM rR (dV rR (ay hi V8 Wg hkh hkrh) (dV rR (aE (j:=hi) 1 WN rR Vb hkrh) (dV rR (bC (v:=I s2.time) Vc (g9 hx2)) (dV rR fZ ?_))))))))))))))));refine aP ?_;apply ah<;>intro h47
  ·simp at h47;have hE:pm D x y=7:=(by unfold pm;rw[YC (by omega),hlo,hhi,hse1,hse2,YB h47]);have hA:qx D x y=[]:=(by unfold qx;rw[YC (by omega)]);refine gS (gV (aZ Vn) (gA (gQ ?_)));refine em (jZ ((D).size) ((D).blocks) (sl sd (dp (D).dirty).length cd) ((D).time) ((D).next) (sl ss gl.length cs)) (aS (dp (D).dirty)) (cD gl) sd cd ss cs (gl) b ((D)) hgl ?_;refine bH 142 2 (aS (qx D x y)) (hr:=by rw[hA];rfl) ?_;exact mR (f:=λv=> .tuple #[v,bM (pm D x y)]) rfl rfl (by rw[hA]) (by rw[hE];rfl)
  ·simp at h47;have hE:pm D x y=0:=(by unfold pm;rw[YC (by omega),hlo,hhi,hse1,hse2,YC (λhh=>hh h47)]);have hA:qx D x y=dp (Av D lo (hi - lo)):=(by unfold qx;rw[YB hE,hlo,hhi]);refine ai (gS (gQ (ac (gS (gM (gP (gQ ?_)))))));refine bH 142 2 (aS (dp (Av D lo 0))) ?_;refine al ?_;refine aM (α:=Nat×Option Addr×Nat) (λz=>z.1<=hi - lo) (λz=>U [(0,ptr b 0),(9,I hi),(10,sl z.2.1 (dp (Av D lo z.1)).length z.2.2),(11,I ((lo:Int)+1+z.1))]) (λz=>bi 142 2 z.2.1 z.2.2 (aS (dp (Av D lo z.1)))::pt b (.cells (jZ ((D).size) ((D).blocks) (sl sd (dp (D).dirty).length cd) ((D).time) ((D).next) (sl ss gl.length cs)) 134 (0,0))::roL 2 sd (aS (dp D.dirty))::bi 239 20 ss cs (cD gl)::iD gl::F) (λz=>hi - lo - z.1) (0,none,0) (by simp) [0,9,10,11] rfl ?_;rintro ⟨c,s,cap⟩ hc;simp only[] at hc ⊢;refine ac (gS (gM (gM (gV pP (ab ?_)))));apply ah<;>intro h53
   ·simp at h53;refine ai (ac (al ?_));obtain ⟨s3,hs3⟩:∃s,D.snaps[lo+1+c]? =some s:=⟨_,Zu (by omega)⟩;obtain ⟨q3,hx3⟩:=zW hgl hs3;have hkc:lo+1+c<gl.length:=(by omega);have hkrc:lo+1+c<(cD gl).length:=(by rw[eX];exact hkc);have hs3e:=dG hs3;refine bR s ?_;refine rb gl (x:=(s3,q3)) (YW hx3) ?_;refine am (gM (gM (gV aa (gF 20 VF rR Wh (gL (sl ss gl.length cs) WE (gM (gV (ay (lo+1+c) V8 Wg (hj:=by omega) hkc hkrc) (gV (aE (j:=(lo+1+c)) 19 WN rR Ww hkrc) (gV (bC (v:=sl q3.1 (dp s3.dirty).length q3.2) XD (g9 hx3)) (gI (uC call150 (kV (dp (Av D lo c)) (dp s3.dirty) s q3.1 cap q3.2 (kX _) (kX _) (k6 _) (k6 _))) ?_))))))))));rintro _ _ ⟨s65,c65,rfl,rfl⟩;rw[Hk,show sQ (Av D lo c) s3.dirty=Av D lo (c+1) by rw[<-hs3e];rfl];refine gQ (aG (am (gM (gP (gQ ?_)))));exact ap (c+1,s65,c65) (by simp only[];omega) (by simp only[];omega) [0,9,10,11] rfl (he:=by simp[U];try omega)
   ·simp at h53;obtain rfl:c=hi - lo:=(by omega);refine aF ?_;refine gS (gM (gA (gQ ?_)));refine em (jZ ((D).size) ((D).blocks) (sl sd (dp (D).dirty).length cd) ((D).time) ((D).next) (sl ss gl.length cs)) (aS (dp (D).dirty)) (cD gl) sd cd ss cs (gl) b ((D)) hgl ?_;rw[<-hA];exact mR (f:=λv=> .tuple #[v,bM (pm D x y)]) rfl rfl rfl (by rw[hE];rfl)
def kW:ak:=[119,114,105,116,101]
def kZ:ak:=[115,105,122,101]
def kS:ak:=[115,110,97,112]
def kU:ak:=[117,110,115,110,97,112]
def Uh:ak:=[102,111,114,103,101,116]
def js (D:VdM)(x:ActM):VdM:=if x.kind=kW then zX D x.a x.s else if x.kind=kZ then FH D x.a else if x.kind=kS then Dz D else if x.kind=kU then FI D x.a else if x.kind=Uh then Oh D else D
def DA (i:Nat)(D:VdM):Prop:=(1<=D.size/\D.size<=16)/\(1<=D.next/\D.next<=1000)/\(0<=D.time/\D.time<=i)/\D.snaps.length<=5/\∀s∈D.snaps,1<=s.size/\s.size<=16
theorem ur {i j:Nat}{D:VdM}(h:DA i D)(J:i<=j):DA j D:=⟨h.1,h.2.1,⟨h.2.2.1.1,by have:=h.2.2.1.2;omega⟩,h.2.2.2⟩
def P9 {n:Int}(h:1<=n/\n<=16):DA 0 (kB n):=⟨h,by simp[kB],by simp[kB],by simp[kB],by simp[kB]⟩
theorem SD {i:Nat}{D:VdM}(h:DA i D)(n:Int)(s:ak):DA i (zX D n s):=by
 unfold zX;split
 ·exact h
 ·exact h
theorem SE {i:Nat}{D:VdM}(h:DA i D)(n:Int):DA i (FH D n):=by
 unfold FH;split
 ·rename_i he;have:1<=n/\n<=16:=(by grind[FV]);exact ⟨this,h.2⟩
 ·exact h
theorem SF {i:Nat}{D:VdM}(h:DA i D):DA i (Dz D):=by
 unfold Dz;split
 ·rename_i he;have J:=h.2.2.2.1;have:D.snaps.length<=4/\D.next<=999:=(by grind[BM]);refine ⟨h.1,by have:=h.2.1;simp only;omega,h.2.2.1,by simp;omega,λs hs=>?_⟩;rcases Zn.1 hs with hs | hs
  ·exact h.2.2.2.2 s hs
  ·simp at hs;subst hs;exact h.1
 ·exact h
def z7 {D:VdM}{i:Nat}(h:i<D.snaps.length):cH D i∈D.snaps:=by
 simp_all[dG]
theorem SG {i:Nat}{D:VdM}(h:DA i D)(id:Int):DA i (FI D id):=by
 unfold FI;split
 ·exact h
 ·generalize (dE D.snaps id).toNat=k;refine ⟨h.1,h.2.1,h.2.2.1,?_,λs hs=>?_⟩
  ·have V:=h.2.2.2.1
   grind[ov]
  ·have J:=kbe hs;unfold ov at J;split at J
   ·rename_i S;rcases Y0 J with O | O
    ·exact h.2.2.2.2 s O
    ·subst O;have R:=h.2.2.2.2 _ (z7 S.1);exact R
   ·exact h.2.2.2.2 s J
theorem SH {i:Nat}{D:VdM}(h:DA i D):DA (i+1) (Oh D):=⟨h.1,h.2.1,by have:=h.2.2.1;simp only[Oh];omega,h.2.2.2⟩
def Qa {i:Nat}{D:VdM}(h:DA i D)(x:ActM):DA (i+1) (js D x):=by
 grind[js,ur,SD,SE,SF,SG,SH]
section
variable {c:Cx}{E:dr}{L:List ag}{K:List KI}
end
def iF (sz:Int)(B:Nat->ak)(m:Nat->Bool)(tm nx:Int)(ss:Value):Array Value:=#[I sz,aC (B 0),aC (B 1),aC (B 2),aC (B 3),aC (B 4),aC (B 5),aC (B 6),aC (B 7),aC (B 8),aC (B 9),aC (B 10),aC (B 11),aC (B 12),aC (B 13),aC (B 14),aC (B 15),Bo (m 0),Bo (m 1),Bo (m 2),Bo (m 3),Bo (m 4),Bo (m 5),Bo (m 6),Bo (m 7),Bo (m 8),Bo (m 9),Bo (m 10),Bo (m 11),Bo (m 12),Bo (m 13),Bo (m 14),Bo (m 15),I tm,I nx,ss]
def pn (x:SnapM):List Value:=let B:=x.blocks;let m:=x.dirty; [I x.id,I x.time,I x.size,aC (B 0),aC (B 1),aC (B 2),aC (B 3),aC (B 4),aC (B 5),aC (B 6),aC (B 7),aC (B 8),aC (B 9),aC (B 10),aC (B 11),aC (B 12),aC (B 13),aC (B 14),aC (B 15),Bo (m 0),Bo (m 1),Bo (m 2),Bo (m 3),Bo (m 4),Bo (m 5),Bo (m 6),Bo (m 7),Bo (m 8),Bo (m 9),Bo (m 10),Bo (m 11),Bo (m 12),Bo (m 13),Bo (m 14),Bo (m 15)]
instance {x:SnapM}{i:Nat}{v:Value}[h:NT [I x.id,I x.time,I x.size,aC (x.blocks 0),aC (x.blocks 1),aC (x.blocks 2),aC (x.blocks 3),aC (x.blocks 4),aC (x.blocks 5),aC (x.blocks 6),aC (x.blocks 7),aC (x.blocks 8),aC (x.blocks 9),aC (x.blocks 10),aC (x.blocks 11),aC (x.blocks 12),aC (x.blocks 13),aC (x.blocks 14),aC (x.blocks 15),Bo (x.dirty 0),Bo (x.dirty 1),Bo (x.dirty 2),Bo (x.dirty 3),Bo (x.dirty 4),Bo (x.dirty 5),Bo (x.dirty 6),Bo (x.dirty 7),Bo (x.dirty 8),Bo (x.dirty 9),Bo (x.dirty 10),Bo (x.dirty 11),Bo (x.dirty 12),Bo (x.dirty 13),Bo (x.dirty 14),Bo (x.dirty 15)] i v]:NT (pn x) i v:=⟨h.p⟩
def bS (l:List SnapM):List (List Value):=l.map pn
def fa (l:List SnapM):(bS l).length=l.length:=by simp[bS]
def gi {l:List SnapM}{k:Nat}{x:SnapM}(h:l[k]? =some x):(bS l)[k]? =some (pn x):=by simp[bS,h]
def FJ (x:SnapM):(pn x).length=35:=rfl
def NJ (sz x R J:Int)(B:Nat->ak)(m:Nat->Bool)(O:Value):(iF sz B m R J O).setIfInBounds 0 (I x)=iF x B m R J O:=rfl
def NK (sz x R J:Int)(B:Nat->ak)(m:Nat->Bool)(O:Value):(iF sz B m R J O).setIfInBounds 33 (I x)=iF sz B m x J O:=rfl
def NL (sz x O R:Int)(B:Nat->ak)(m:Nat->Bool)(J:Value):(iF sz B m O R J).setIfInBounds 34 (I x)=iF sz B m O x J:=rfl
def BN (sz R O:Int)(B:Nat->ak)(m:Nat->Bool)(S J:Value):(iF sz B m R O S).setIfInBounds 35 J=iF sz B m R O J:=rfl
def ip (sz R J:Int)(B:Nat->ak)(m:Nat->Bool)(O:Value):(iF sz B m R J O).size=36:=rfl
def DB (sz R J:Int)(B:Nat->ak)(m:Nat->Bool)(O:Value)(x:ak):∀j,j<16->(iF sz B m R J O).setIfInBounds (0+1+j*1) (aC x)=iF sz (upd B j x) m R J O
 :=λj h=>match j,h with
  | 0,_=>rfl
  | 1,_=>rfl
  | 2,_=>rfl
  | 3,_=>rfl
  | 4,_=>rfl
  | 5,_=>rfl
  | 6,_=>rfl
  | 7,_=>rfl
  | 8,_=>rfl
  | 9,_=>rfl
  | 10,_=>rfl
  | 11,_=>rfl
  | 12,_=>rfl
  | 13,_=>rfl
  | 14,_=>rfl
  | 15,_=>rfl
  | k+16,h=>absurd h (by omega)
def I3 (m:Nat->Bool)(i j:Nat):sF m j i=if i=j then true else m i:=by grind[sF]
def uu (sz R J:Int)(B:Nat->ak)(m:Nat->Bool)(O:Value):∀j,j<16->(iF sz B m R J O).setIfInBounds (0+17+j*1) (Bo true)=iF sz B (sF m j) R J O
 :=λj h=>by
  have e:sF m j=λi=>if i=j then true else m i:=funext λi=>I3 m i j
  rw[e];exact match j,h with
  | 0,_=>rfl
  | 1,_=>rfl
  | 2,_=>rfl
  | 3,_=>rfl
  | 4,_=>rfl
  | 5,_=>rfl
  | 6,_=>rfl
  | 7,_=>rfl
  | 8,_=>rfl
  | 9,_=>rfl
  | 10,_=>rfl
  | 11,_=>rfl
  | 12,_=>rfl
  | 13,_=>rfl
  | 14,_=>rfl
  | 15,_=>rfl
  | k+16,h=>absurd h (by omega)
def Ui (b:Nat)(D:VdM)(z:sC):List ag:=
 [pt b (.cells (iF D.size D.blocks D.dirty D.time D.next (sl z.1 D.snaps.length z.2)) 139 (0,0)),bi 247 35 z.1 z.2 (bS D.snaps)]
def iq (b:Nat)(D:VdM):ag:=hx (Ui b D)
section
variable {c:Cx}{E:dr}{L:List ag}{K:List KI}
def kw {F:List ag}(b:Nat)(D:VdM)[R:Rem L (iq b D) F](k:∀J cs,G c K E (pt b (.cells (iF D.size D.blocks D.dirty D.time D.next (sl J D.snaps.length cs)) 139 (0,0))::bi 247 35 J cs (bS D.snaps)::F)):G c K E L:=jl (iq b D) rfl λz=>k z.1 z.2
def eS {F:List ag}(C:Array Value)(rs:List (List Value))(O:Option Addr)(cs b:Nat)(D:VdM)[S:Split L [pt b (.cells C 139 (0,0)),bi 247 35 O cs rs] F](k:G c K E (iq b D::F))(hC:C=iF D.size D.blocks D.dirty D.time D.next (sl O D.snaps.length cs):=by exact rfl)(J:rs=bS D.snaps:=by exact rfl):G c K E L:=λa w R V=>by
 subst hC J;exact k a w R (Sat.hx_mk (A:=Ui b D) (O,cs) (S.sat V))
end
def Kv (m:Nat->Bool){n:Int}(h:0<=n):sF m n.toNat=fJ m n 1:=funext λi=>by
 grind[sF,fJ]
def DP (D:VdM)(n:Int)(k:Nat):Nat->ak:=λi=>if i<k/\j2 D n<=(i:Int)/\(i:Int)<lT D n then [] else D.blocks i
def DQ (D:VdM)(n:Int)(k:Nat):Nat->Bool:=λi=>D.dirty i || decide (i<k/\j2 D n<=(i:Int)/\(i:Int)<lT D n)
def I4 {D:VdM}{n:Int}{k:Nat}(h:j2 D n<=(k:Int)/\(k:Int)<lT D n):upd (DP D n k) k []=DP D n (k+1):=funext λi=>by
 grind[upd,DP]
def I5 {D:VdM}{n:Int}{k:Nat}(h:j2 D n<=(k:Int)/\(k:Int)<lT D n):sF (DQ D n k) k=DQ D n (k+1):=funext λi=>by
 grind[sF,DQ]
def NM {D:VdM}{n:Int}{k:Nat}(h:¬(j2 D n<=(k:Int)/\(k:Int)<lT D n)):DP D n k=DP D n (k+1):=funext λi=>by
 grind[DP]
def NN {D:VdM}{n:Int}{k:Nat}(h:¬(j2 D n<=(k:Int)/\(k:Int)<lT D n)):DQ D n k=DQ D n (k+1):=funext λi=>by
 grind[DQ]
def Qb {D:VdM}{n:Int}(h:lT D n<=16):DP D n 16=wJ D.blocks (j2 D n) (lT D n):=funext λi=>by
 grind[DP,wJ]
def Qc {D:VdM}{n:Int}(h:lT D n<=16):DQ D n 16=fJ D.dirty (j2 D n) (lT D n - j2 D n):=funext λi=>by
 grind[DQ,fJ]
def rz_iff {D:VdM}{n:Int}{k:Nat}:(n<=(k:Int)/\(k:Int)<D.size\/D.size<=(k:Int)/\(k:Int)<n) ↔ (j2 D n<=(k:Int)/\(k:Int)<lT D n):=by
 grind[j2,lT]
def FK (sz R J:Int)(B:Nat->ak)(m m':Nat->Bool)(O:Value):cT (iF sz B m R J O) (0+17) (m16 m')=iF sz B m' R J O:=by
 simp[cT,iF,m16]
def FL (w:World):(Instr.build 136 #[]).run Tryz.prog w= .ok (.agg (m16 λ_=>false).toArray) w:=by
 simp[Instr.build,XF,runUnderlying136,Vt,Instr.fill,bB,m16]
def NO (x:SnapM):∀j,j<16->(pn x)[3+j*1]? =some (aC (x.blocks j))
 :=λj h=>match j,h with
  | 0,_=>rfl
  | 1,_=>rfl
  | 2,_=>rfl
  | 3,_=>rfl
  | 4,_=>rfl
  | 5,_=>rfl
  | 6,_=>rfl
  | 7,_=>rfl
  | 8,_=>rfl
  | 9,_=>rfl
  | 10,_=>rfl
  | 11,_=>rfl
  | 12,_=>rfl
  | 13,_=>rfl
  | 14,_=>rfl
  | 15,_=>rfl
  | k+16,h=>absurd h (by omega)
def NP (x:SnapM):∀j,j<16->(pn x)[19+j*1]? =some (Bo (x.dirty j))
 :=λj h=>match j,h with
  | 0,_=>rfl
  | 1,_=>rfl
  | 2,_=>rfl
  | 3,_=>rfl
  | 4,_=>rfl
  | 5,_=>rfl
  | 6,_=>rfl
  | 7,_=>rfl
  | 8,_=>rfl
  | 9,_=>rfl
  | 10,_=>rfl
  | 11,_=>rfl
  | 12,_=>rfl
  | 13,_=>rfl
  | 14,_=>rfl
  | 15,_=>rfl
  | k+16,h=>absurd h (by omega)
def Qd {T:TypeId}{f:Nat×Nat}(x:SnapM):∀j,j<16->bG (.cells (pn x).toArray T f) (0+19+j*1)=some (Bo (x.dirty j))
 :=λj h=>match j,h with
  | 0,_=>rfl
  | 1,_=>rfl
  | 2,_=>rfl
  | 3,_=>rfl
  | 4,_=>rfl
  | 5,_=>rfl
  | 6,_=>rfl
  | 7,_=>rfl
  | 8,_=>rfl
  | 9,_=>rfl
  | 10,_=>rfl
  | 11,_=>rfl
  | 12,_=>rfl
  | 13,_=>rfl
  | 14,_=>rfl
  | 15,_=>rfl
  | k+16,h=>absurd h (by omega)
def NQ (x:SnapM):∀j,j<16->(pn x).set (19+j*1) (Bo true)=pn (rK x (sF x.dirty j))
 :=λj h=>by
  have e:sF x.dirty j=λi=>if i=j then true else x.dirty i:=funext λi=>I3 x.dirty i j
  rw[e];exact match j,h with
  | 0,_=>rfl
  | 1,_=>rfl
  | 2,_=>rfl
  | 3,_=>rfl
  | 4,_=>rfl
  | 5,_=>rfl
  | 6,_=>rfl
  | 7,_=>rfl
  | 8,_=>rfl
  | 9,_=>rfl
  | 10,_=>rfl
  | 11,_=>rfl
  | 12,_=>rfl
  | 13,_=>rfl
  | 14,_=>rfl
  | 15,_=>rfl
  | k+16,h=>absurd h (by omega)
def Ax (n:Int)(F:List ag):Ct Tryz.prog 19 [I n] (F) (I0 (1<=n/\n<=16) I (λb=>iq b (kB n)) F):=by
 refine Ct.of func19 rR 13 ntmps19 (by simp) λw0=>?_;refine gS (gA (gQ (ac (gS (gM (gV aI (gM (gK aq (gK aT (gV cu (ab ?_)))))))))));apply ah<;>intro O
 ·simp at O;refine gS (gA (gQ ?_));exact zT rfl rfl (by omega) rfl
 ·simp at O;refine ai (gS (gM (gV (aR (F4 _ rR _ rR)) (gI (di (iF n (λ_=>[]) (λ_=>false) 0 1 (sl none 0 0))) ?_))));rintro _ _ ⟨J,rfl,rfl⟩;refine gA (gQ ?_);refine bH 247 35 (bS []) ?_;refine eS (iF n (λ_=>[]) (λ_=>false) 0 1 (sl none 0 0)) (bS []) none 0 J (kB n) ?_;exact zU J rfl rfl (by omega) rfl
def vP (b:Nat)(D:VdM)(n:Int)(s:ak)(hz:D.size<=16)(F:List ag):Ct Tryz.prog 76 [ptr b 0,I n,aC s] (iq b (D)::F) (R1 (I (FG D n s)) (iq b (zX D n s)::F)):=by
 refine Ct.of func76 rR 31 ntmps76 (by simp) λw0=>?_;refine kw b (D) ?_;intro ss cs;refine gS (gQ (ac (gS (gM (gV aI (gM (gK aq (gK aq (gK aa (gK (aw 0 VB rR Vb) (gK (az (v:=I D.size) Vc (hv:=⟨rfl⟩)) (gK j6 (gV cu (ab ?_))))))))))))));apply ah<;>intro h16
 ·simp at h16;have hw:FG D n s=1:=(by unfold FG;rw[YB (by omega)]);refine gS (gQ ?_);refine eS (iF ((D).size) ((D).blocks) ((D).dirty) ((D).time) ((D).next) (sl ss (D).snaps.length cs)) (bS (D).snaps) ss cs b (D) ?_;rw[show iq b D=iq b (zX D n s) by unfold zX;rw[YC (by omega)]];exact ao rfl rfl (by rw[hw];rfl)
 ·simp at h16;have hw:FG D n s=un s:=(by unfold FG;rw[YC (by omega)]);refine ai (ac (gS (gM (gV (cW Vg) (gV aT (ab ?_))))));apply ah<;>intro h19
  ·simp at h19;have hw2:un s=2:=(by unfold un;rw[YB (by omega)]);refine gS (gQ ?_);refine eS (iF ((D).size) ((D).blocks) ((D).dirty) ((D).time) ((D).next) (sl ss (D).snaps.length cs)) (bS (D).snaps) ss cs b (D) ?_;rw[show iq b D=iq b (zX D n s) by unfold zX;rw[YC (by omega)]];exact ao rfl rfl (by rw[hw,hw2];rfl)
  ·simp at h19;have hw2:un s=0:=(by unfold un;rw[YC (by omega)]);refine ai (gS (gM (gM (gM (gV aa (gF 1 VB rR WF (gV (ba n.toNat Xu Vh (hj:=by omega) (by omega)) (gU (aK (iF ((D).size) (upd D.blocks n.toNat s) ((D).dirty) ((D).time) ((D).next) (sl ss (D).snaps.length cs)) Vh (by rw[ip];omega) (hcs:=by exact DB _ _ _ _ _ _ _ _ (by omega))) (ab (gS (gM (gM (gV aa (gF 17 VB rR Wj (gV (ba n.toNat WT Vt (hj:=by omega) (by omega)) (gU (aK (iF ((D).size) (upd D.blocks n.toNat s) (fJ D.dirty n 1) ((D).time) ((D).next) (sl ss (D).snaps.length cs)) Vt (by rw[ip];omega) (hcs:=by rw[uu _ _ _ _ _ _ _ (by omega),Kv _ h16.1])) (ab (gS (gQ ?_)))))))))))))))))));refine eS (iF ((D).size) (upd D.blocks n.toNat s) (fJ D.dirty n 1) ((D).time) ((D).next) (sl ss (D).snaps.length cs)) (bS D.snaps) ss cs b (⟨D.size,upd D.blocks n.toNat s,fJ D.dirty n 1,D.time,D.next,D.snaps⟩) ?_;rw[show iq b ⟨D.size,upd D.blocks n.toNat s,fJ D.dirty n 1,D.time,D.next,D.snaps⟩=iq b (zX D n s) by unfold zX;rw[YB (by omega)]];exact ao rfl rfl (by rw[hw,hw2];rfl)
def uv (b:Nat)(D:VdM)(n:Int)(hz:1<=D.size/\D.size<=16)(F:List ag):Ct Tryz.prog 77 [ptr b 0,I n] (iq b (D)::F) (R1 (I (FV n)) (iq b (FH D n)::F)):=by
 refine Ct.of func77 rR 54 ntmps77 (by simp) λw0=>?_;refine kw b (D) ?_;intro ss cs;rw[show iF D.size D.blocks D.dirty D.time D.next (sl ss D.snaps.length cs)=iF D.size (DP D n 0) (DQ D n 0) D.time D.next (sl ss D.snaps.length cs) by rw[show DP D n 0=D.blocks from funext λi=>by unfold DP;rw[YC (by omega)],show DQ D n 0=D.dirty from funext λi=>by unfold DQ;simp]];refine gS (gQ (ac (gS (gM (gV aI (gM (gK aq (gK aT (gV cu (ab ?_))))))))));apply ah<;>intro h11
 ·simp at h11;have hw:FV n=1:=(by unfold FV;rw[YB (by omega)]);refine gS (gQ ?_);rw[show DP D n 0=D.blocks from funext λi=>by unfold DP;rw[YC (by omega)],show DQ D n 0=D.dirty from funext λi=>by unfold DQ;simp];refine eS (iF ((D).size) ((D).blocks) ((D).dirty) ((D).time) ((D).next) (sl ss (D).snaps.length cs)) (bS (D).snaps) ss cs b (D) ?_;rw[show iq b D=iq b (FH D n) by unfold FH;rw[YC (by omega)]];exact ao rfl rfl (by rw[hw];rfl)
 ·simp at h11;have hw:FV n=0:=(by unfold FV;rw[YC (by omega)]);have hhi:lT D n<=16:=(by unfold lT;split <;> omega);refine ai (ac (gS (gQ (al ?_))));refine aM (α:=Nat) (λk=>k<=16) (λk=>U [(0,ptr b 0),(1,I n),(5,I k)]) (λk=>pt b (.cells (iF ((D).size) (DP D n k) (DQ D n k) ((D).time) ((D).next) (sl ss (D).snaps.length cs)) 139 (0,0))::bi 247 35 ss cs (bS D.snaps)::F) (λk=>16 - k) 0 (by simp) [0,1,5] rfl ?_;intro k hk16;refine ac (gS (gM (gV aI (ab ?_))));apply ah<;>intro h13
  ·simp at h13;have hk:k<16:=(by omega);refine ai (ac (al (gS (gM (gM (gV j6 (gM (gK aq (gK aq (gK aa (gK (aw 0 VB rR Vb) (gK (az (v:=I D.size) Vc (hv:=⟨rfl⟩)) (gK aI (gV dD (gM ?_)))))))))))))));by_cases hA:n<=(k:Int)/\(k:Int)<D.size
   ·have hAb:(decide (n<=(k:Int)) && decide ((k:Int)<D.size))=true:=(by simp[hA.1,hA.2]);refine bE (hw:=by rw[hAb];rfl) (bE (hw:=by rw[hAb];rfl) (bE (hw:=by rw[hAb];rfl) (bE (hw:=by rw[hAb];rfl) (bE (hw:=by rw[hAb];rfl) (bE (hw:=by rw[hAb];rfl) (bE (hw:=by rw[hAb];rfl) (bE (bE (bE (bE (hw:=by rw[hAb];rfl) (gV (fl (hq:=by exact hAb)) (ab ?_))))))))))));apply ah<;>intro h39
    ·have h39':=rz_iff.1 (.inl hA);refine gS (gM (gM (gV aa (gF 1 VB rR WF (gV (ba k Xu Vh hk) (gU (aK (iF ((D).size) (DP D n (k+1)) (DQ D n k) ((D).time) ((D).next) (sl ss (D).snaps.length cs)) Vh (by rw[ip];omega) (hcs:=by rw[DB _ _ _ _ _ _ _ _ hk,I4 h39'])) (ab (am (gM (gM (gV aa (gF 17 VB rR Wj (gV (ba k WT Vt hk) (gU (aK (iF ((D).size) (DP D n (k+1)) (DQ D n (k+1)) ((D).time) ((D).next) (sl ss (D).snaps.length cs)) Vt (by rw[ip];omega) (hcs:=by rw[uu _ _ _ _ _ _ _ hk,I5 h39'])) (ab (aG (am (gM (gP (gQ ?_))))))))))))))))))));exact ap (k+1) (by omega) (by omega) [0,1,5] rfl
    ·simp at h39
   ·have hAb:(decide (n<=(k:Int)) && decide ((k:Int)<D.size))=false:=(by rw[<-Bool.not_eq_true,Yr,decide_eq_true_eq,decide_eq_true_eq];exact hA);refine bc (hw:=by exact hAb) aq (bc (hw:=by exact hAb) aq (bc (hw:=by exact hAb) aa (bc (hw:=by exact hAb) (aw 0 VB rR Vb) (bc (hw:=by exact hAb) (az (v:=I D.size) Vc (hv:=⟨rfl⟩)) (bc (hw:=by exact hAb) j6 (bc (hw:=by exact hAb) aq (gK aq (gK aq (gK aI (bc (hw:=by exact hAb) dD (gV cu (ab ?_))))))))))));apply ah<;>intro h39
    ·have h39':=rz_iff.1 (by simpa using h39);refine gS (gM (gM (gV aa (gF 1 VB rR WF (gV (ba k Xu Vh hk) (gU (aK (iF ((D).size) (DP D n (k+1)) (DQ D n k) ((D).time) ((D).next) (sl ss (D).snaps.length cs)) Vh (by rw[ip];omega) (hcs:=by rw[DB _ _ _ _ _ _ _ _ hk,I4 h39'])) (ab (am (gM (gM (gV aa (gF 17 VB rR Wj (gV (ba k WT Vt hk) (gU (aK (iF ((D).size) (DP D n (k+1)) (DQ D n (k+1)) ((D).time) ((D).next) (sl ss (D).snaps.length cs)) Vt (by rw[ip];omega) (hcs:=by rw[uu _ _ _ _ _ _ _ hk,I5 h39'])) (ab (aG (am (gM (gP (gQ ?_))))))))))))))))))));exact ap (k+1) (by omega) (by omega) [0,1,5] rfl
    ·have h39':¬(j2 D n<=(k:Int)/\(k:Int)<lT D n):=λhh=>(by have:=rz_iff.2 hh;simp at h39;omega);refine ai (aG (am (gM (gP (gQ ?_)))));rw[NM h39',NN h39'];exact ap (k+1) (by omega) (by omega) [0,1,5] rfl
  ·simp at h13;obtain rfl:k=16:=(by omega);rw[Qb hhi,Qc hhi];refine aF ?_;refine gS (gM (gM (gV aa (gF 0 VB rR Vb (gU (aK (iF n (wJ D.blocks (j2 D n) (lT D n)) (fJ D.dirty (j2 D n) (lT D n - j2 D n)) D.time D.next (sl ss D.snaps.length cs)) Vb (by rw[ip];decide) (hcs:=by exact NJ _ _ _ _ _ _ _)) (ab (gS (gQ ?_))))))));refine eS (iF n (wJ D.blocks (j2 D n) (lT D n)) (fJ D.dirty (j2 D n) (lT D n - j2 D n)) D.time D.next (sl ss D.snaps.length cs)) (bS D.snaps) ss cs b (⟨n,wJ D.blocks (j2 D n) (lT D n),fJ D.dirty (j2 D n) (lT D n - j2 D n),D.time,D.next,D.snaps⟩) ?_;rw[show iq b ⟨n,wJ D.blocks (j2 D n) (lT D n),fJ D.dirty (j2 D n) (lT D n - j2 D n),D.time,D.next,D.snaps⟩=iq b (FH D n) by unfold FH;rw[YB hw]];exact ao rfl rfl (by rw[hw];rfl)
def uw (b:Nat)(D:VdM)(ht: -9223372036854775808<=D.time/\D.time<9223372036854775807)(F:List ag):Ct Tryz.prog 80 [ptr b 0] (iq b (D)::F) (R1 (.tuple #[]) (iq b (Oh D)::F)):=by
 refine Ct.of func80 rR 13 ntmps80 (by simp) λw0=>?_;refine kw b (D) ?_;intro J cs;refine gS (gM (gV aa (gF 33 VB rR Vb (gL (I D.time) Vc (gP (gV aa (gF 33 VB rR Vb (gU (aK (iF ((D).size) ((D).blocks) ((D).dirty) (D.time+1) ((D).next) (sl J (D).snaps.length cs)) Vb (by rw[ip];decide) (hcs:=by exact NK _ _ _ _ _ _ _)) (ab (am (gM (gV (aR FL) (gV aa (gF 17 VB rR Wj (gU (ax (cs:=iF ((D).size) ((D).blocks) ((D).dirty) (D.time+1) ((D).next) (sl J (D).snaps.length cs)) (vs:=m16 λ_=>false) (iF ((D).size) ((D).blocks) (λ_=>false) (D.time+1) ((D).next) (sl J (D).snaps.length cs)) Wj (by rw[ip];decide) (hcs:=by exact FK _ _ _ _ _ _ _)) (ab ?_))))))))))))))));refine eS (iF ((D).size) ((D).blocks) (λ_=>false) (D.time+1) ((D).next) (sl J (D).snaps.length cs)) (bS D.snaps) J cs b (Oh D) ?_;exact fY rfl rfl rfl
def jh (b:Nat)(D:VdM)(id:Int)(hsl:D.snaps.length<=1000000)(F:List ag):Ct Tryz.prog 151 [ptr b 0,I id] (iq b (D)::F) (R1 (I (dE D.snaps id)) (iq b (D)::F)):=by
 refine Ct.of func151 rR 26 ntmps151 (by simp) λw0=>?_;refine kw b (D) ?_;intro ss cs;refine gS (gQ (ac (gS (gQ (al ?_)))));refine aM (α:=Nat) (λk=>k<=D.snaps.length/\∀j,j<k->∀t,D.snaps[j]? =some t->t.id≠id) (λk=>U [(0,ptr b 0),(1,I id),(5,I k)]) (λ_=>pt b (.cells (iF ((D).size) ((D).blocks) ((D).dirty) ((D).time) ((D).next) (sl ss (D).snaps.length cs)) 139 (0,0))::bi 247 35 ss cs (bS D.snaps)::F) (λk=>D.snaps.length - k) 0 ⟨by simp,λj hj=>absurd hj (by omega)⟩ [0,1,5] rfl ?_;rintro k ⟨hk,hno⟩;refine ac (gS (gM (gM (gV aa (gF 35 VB rR Wd (gL (sl ss D.snaps.length cs) Wz (gV (aX Wq) (gV aI (ab ?_)))))))));apply ah<;>intro h12
 ·simp at h12;have hkn:k<D.snaps.length:=(by omega);obtain ⟨x,hx⟩:∃x,D.snaps[k]? =some x:=⟨_,Zu hkn⟩;have hkr:k<(bS D.snaps).length:=(by rw[fa];exact hkn);refine ai (ac (al (gS (gM (gV aa (gF 35 VB rR Wd (gL (sl ss D.snaps.length cs) Wz (gM (gV (ay k Wq Wv hkn hkr) (gV (aE (j:=k) 0 WR rR Vb hkr) (gV (bC (v:=I x.id) Vc (gi hx)) (gM (gV bT (ab ?_))))))))))))));apply ah<;>intro h24
  ·simp at h24;refine gS (gM (gQ ?_));refine eS (iF ((D).size) ((D).blocks) ((D).dirty) ((D).time) ((D).next) (sl ss (D).snaps.length cs)) (bS (D).snaps) ss cs b (D) ?_;exact ao rfl rfl (by rw[BL hno hx h24];rfl)
  ·simp at h24;refine ai (aG (am (gM (gP (gQ ?_)))));exact ap (k+1) ⟨by omega,λj hj t ht=>by
    rcases YL j k with h | h
    ·exact hno j h t ht
    ·obtain rfl:j=k:=(by omega);rw[hx] at ht;injection ht with ht;rw[<-ht];exact h24⟩ (by omega) [0,1,5] rfl
 ·simp at h12;obtain rfl:k=D.snaps.length:=(by omega);refine aF ?_;refine gS (gQ ?_);refine eS (iF ((D).size) ((D).blocks) ((D).dirty) ((D).time) ((D).next) (sl ss (D).snaps.length cs)) (bS (D).snaps) ss cs b (D) ?_;exact ao rfl rfl (by rw[zV hno];rfl)
def wM (b:Nat)(D:VdM)(id n:Int)(hsl:D.snaps.length<=1000000)(hsz:∀s∈D.snaps,s.size<=16)(F:List ag):Ct Tryz.prog 148 [ptr b 0,I id,I n] (iq b (D)::F) (R1 (.tuple #[aC (jy D id n).1,I (jy D id n).2.1,I (jy D id n).2.2]) (iq b (D)::F)):=by
 refine Ct.of func148 rR 47 ntmps148 (by simp) λw0=>?_;refine gS (gA (gA (gQ (gS (gM (gM (gR (vB call151 (jh b D id (by omega))) (gQ (ac (gS (gM (gV aI (ab ?_)))))))))))));apply ah<;>intro h14
 ·simp at h14;refine gS (gA (gA (gQ ?_)));exact ao rfl rfl (by rw[show jy D id n=([],0,5) by unfold jy;rw[YB (by omega)]];rfl)
 ·simp at h14;obtain ⟨i,s,hfi,hs,hid,hil⟩:=hO (show ¬dE D.snaps id<0 by omega);rw[hfi];refine kw b (D) ?_;intro ss cs;have hir:i<(bS D.snaps).length:=(by rw[fa];exact hil);refine ai (ac (gS (gM (gV aI (gM (gK aq (gK aq (gK aa (gK (aw 35 VB rR Wd) (gK (az (v:=sl ss D.snaps.length cs) Wz (hv:=⟨rfl⟩)) (gK aq (gK (ay i Wq Wv hil hir) (gK (aE (j:=i) 2 WR rR Vb hir) (gK (bC (v:=I s.size) Vc (gi hs)) (gK j6 (gV cu (ab ?_)))))))))))))))));apply ah<;>intro h28
  ·simp at h28;refine gS (gA (gA (gQ ?_)));refine eS (iF ((D).size) ((D).blocks) ((D).dirty) ((D).time) ((D).next) (sl ss (D).snaps.length cs)) (bS (D).snaps) ss cs b (D) ?_;exact ao rfl rfl (by rw[show jy D id n=([],0,1) by unfold jy;rw[YC (by omega),hfi,kag,dG hs,YB (by omega)]];rfl)
  ·simp at h28;have hs16:=hsz s (YW hs);refine ai (ac ?_);refine cV jR ?_;refine dM rR (dV rR aa (dF rR 35 VB rR Wd (dL rR (sl ss D.snaps.length cs) Wz (dM rR (dM rR (dV rR (ay i Wq Wv hil hir) (dV rR (aE (j:=i) 3 WR rR WF hir) (dV rR (xY (i:=i) (f:=3) n.toNat Xu Vh rR rR (by omega) (by omega) hir) (dV rR (bC (f:=3+n.toNat*1) (v:=aC (s.blocks n.toNat)) Vj (gi hs) (hv:=⟨NO _ _ (by omega)⟩)) (dM rR (dV rR aa (dF rR 35 VB rR Wd (dL rR (sl ss D.snaps.length cs) Wz (dM rR (dV rR (ay i Wq Wv hil hir) (dV rR (aE (j:=i) 2 WR rR Vb hir) (dV rR (bC (v:=I s.size) Vc (gi hs)) (dV rR aD (dV rR aD (dV rR aD ?_))))))))))))))))))));refine aP ?_;refine eS (iF ((D).size) ((D).blocks) ((D).dirty) ((D).time) ((D).next) (sl ss (D).snaps.length cs)) (bS (D).snaps) ss cs b (D) ?_;exact ao rfl rfl (by rw[show jy D id n=(s.blocks n.toNat,s.size,0) by unfold jy;rw[YC (by omega),hfi,kag,dG hs,YC (by omega)]];rfl)
def ux (b:Nat)(D:VdM)(id:Int)(hsl:D.snaps.length<=1000000)(F:List ag):Ct Tryz.prog 146 [ptr b 0,I id] (iq b (D)::F) (R1 (.tuple #[I (ft D id).1,I (ft D id).2]) (iq b (D)::F)):=by
 refine Ct.of func146 rR 20 ntmps146 (by simp) λw0=>?_;refine gS (gA (gQ (gS (gM (gM (gR (vB call151 (jh b D id (by omega))) (gQ (ac (gS (gM (gV aI (ab ?_))))))))))));apply ah<;>intro h11
 ·simp at h11;refine gS (gA (gQ ?_));exact ao rfl rfl (by rw[show ft D id=(0,5) by unfold ft;rw[YB (by omega)]];rfl)
 ·simp at h11;obtain ⟨i,s,hfi,hs,hid,hil⟩:=hO (show ¬dE D.snaps id<0 by omega);rw[hfi];refine kw b (D) ?_;intro ss cs;have hir:i<(bS D.snaps).length:=(by rw[fa];exact hil);refine ai (gS (gM (gV aa (gF 35 VB rR Wd (gL (sl ss D.snaps.length cs) Wz (gM (gV (ay i Wq Wv hil hir) (gV (aE (j:=i) 2 WR rR Vb hir) (gV (bC (v:=I s.size) Vc (gi hs)) (gA (gQ ?_)))))))))));refine eS (iF ((D).size) ((D).blocks) ((D).dirty) ((D).time) ((D).next) (sl ss (D).snaps.length cs)) (bS (D).snaps) ss cs b (D) ?_;exact ao rfl rfl (by rw[show ft D id=(s.size,0) by unfold ft;rw[YC (by omega),hfi,kag,dG hs]];rfl)
def Kw {sz R J:Int}{B:Nat->ak}{m m':Nat->Bool}{O:Value}(h:∀p,p<16->m p=m' p):iF sz B m R J O=iF sz B m' R J O:=by
 grind[iF]
def NR {m m':Nat->Bool}(h:∀p,p<16->m p=m' p):bA m=bA m':=by
 show (bL m).toArray=(bL m').toArray;rw[<-Nw,<-Nw]
 grind
def Kx {T:TypeId}{f:Nat×Nat}(sz R J:Int)(B:Nat->ak)(m:Nat->Bool)(O:Value):∀k v,(FT B)[k]? =some v->bG (.cells (iF sz B m R J O) T f) (0+1+k)=some v
 :=λk v h=>match k,h with
  | 0,h=>h
  | 1,h=>h
  | 2,h=>h
  | 3,h=>h
  | 4,h=>h
  | 5,h=>h
  | 6,h=>h
  | 7,h=>h
  | 8,h=>h
  | 9,h=>h
  | 10,h=>h
  | 11,h=>h
  | 12,h=>h
  | 13,h=>h
  | 14,h=>h
  | 15,h=>h
  | k+16,h=>by simp[FT] at h
def Ky {T:TypeId}{f:Nat×Nat}(sz R J:Int)(B:Nat->ak)(m:Nat->Bool)(O:Value):∀k v,(m16 m)[k]? =some v->bG (.cells (iF sz B m R J O) T f) (0+17+k)=some v
 :=λk v h=>match k,h with
  | 0,h=>h
  | 1,h=>h
  | 2,h=>h
  | 3,h=>h
  | 4,h=>h
  | 5,h=>h
  | 6,h=>h
  | 7,h=>h
  | 8,h=>h
  | 9,h=>h
  | 10,h=>h
  | 11,h=>h
  | 12,h=>h
  | 13,h=>h
  | 14,h=>h
  | 15,h=>h
  | k+16,h=>by simp[m16] at h
def NS (id J sz:Int)(B:Nat->ak)(m:Nat->Bool)(w:World):(Instr.build 247 #[(0,I id),(1,I J),(2,I sz),(3, .agg (FT B).toArray),(4, .agg (m16 m).toArray)]).run Tryz.prog w= .ok (.agg (pn ⟨id,J,sz,B,m⟩).toArray) w:=by
 simp[Instr.build,XE,runUnderlying247,Vb,WF,Wj,Instr.fill,bB,FT,m16,pn,bP (show Go.Sl.one (I id)=true from rfl),bP (show Go.Sl.one (I J)=true from rfl),bP (show Go.Sl.one (I sz)=true from rfl)]
def Kz (l:List SnapM)(i n:Nat)(hn:l.length=n):[]++((bS l).drop 0).take i++((bS l).drop (i+1)).take (n - (i+1))=bS (l.eraseIdx i):=by
 simp_all[kaq,bS,kar]
section
variable (D:VdM)(i:Nat)
def dK (k:Nat):Nat->Bool:=if ¬(i+1<D.snaps.length)/\D.time=(cH D i).time then λp=>D.dirty p || (decide (p<k) && (cH D i).dirty p) else D.dirty
def tK (k:Nat):SnapM:=if (cH D (i+1)).time=(cH D i).time then rK (cH D (i+1)) (λp=>(cH D (i+1)).dirty p || (decide (p<k) && (cH D i).dirty p)) else cH D (i+1)
def Ay (k:Nat):List SnapM:=if i+1<D.snaps.length then D.snaps.set (i+1) (tK D i k) else D.snaps
end
section
variable {D:VdM}{i k:Nat}
def uy:(Ay D i k).length=D.snaps.length:=by grind[Ay]
def Uu {m d:Nat->Bool}(h:d k=false):(λp=>m p || (decide (p<k) && d p))=λp=>m p || (decide (p<k+1) && d p):=funext λp=>by
 grind
def FM {m d:Nat->Bool}(h:d k=true):sF (λp=>m p || (decide (p<k) && d p)) k=λp=>m p || (decide (p<k+1) && d p):=funext λp=>by
 grind[sF]
def Uj (h:(cH D i).dirty k=false):dK D i k=dK D i (k+1):=by grind[dK]
def Hl (h:¬(¬(i+1<D.snaps.length)/\D.time=(cH D i).time)):dK D i k=dK D i (k+1):=by grind[dK]
def SJ (h1:¬(i+1<D.snaps.length))(J:D.time=(cH D i).time)(h:(cH D i).dirty k=true):sF (dK D i k) k=dK D i (k+1):=by
 unfold dK;rw[YB ⟨h1,J⟩,YB ⟨h1,J⟩];exact FM h
def I6:(tK D i k).time=(cH D (i+1)).time:=by unfold tK;split <;> rfl
def SK (h:(cH D i).dirty k=false):Ay D i k=Ay D i (k+1):=by
 grind[tK,Ay]
def DC (h:¬(i+1<D.snaps.length/\(cH D (i+1)).time=(cH D i).time)):Ay D i k=Ay D i (k+1):=by
 grind[Ay,tK]
def NU (h1:i+1<D.snaps.length):(Ay D i k)[i+1]? =some (tK D i k):=by
 grind[Ay]
def Qe (h1:i+1<D.snaps.length)(J:(cH D (i+1)).time=(cH D i).time)(h:(cH D i).dirty k=true)(hk:k<16):(bS (Ay D i k)).set (i+1) ((pn (tK D i k)).set (19+k*1) (Bo true))=bS (Ay D i (k+1)):=by
 rw[NQ _ _ hk];unfold Ay;rw[YB h1,YB h1];have:rK (tK D i k) (sF (tK D i k).dirty k)=tK D i (k+1):=by
  unfold tK;rw[YB J,YB J];show rK (cH D (i+1)) (sF (λp=>(cH D (i+1)).dirty p || (decide (p<k) && (cH D i).dirty p)) k)=_;rw[FM h]
 simp_all[bS]
def K_zero:dK D i 0=D.dirty/\Ay D i 0=D.snaps:=by
 constructor
 ·grind[dK]
 ·unfold Ay;split
  ·rename_i h;have e:tK D i 0=cH D (i+1):=by simp_all[tK]
   simp_all[dG]
  ·rfl
def NV {m d:Nat->Bool}{p:Nat}(hp:p<16):(m p || (decide (p<16) && d p))=sQ m d p:=by unfold sQ;simp[hp]
def SM {sz R J:Int}{B:Nat->ak}{O:Value}:iF sz B (dK D i 16) R J O=iF sz B (nC D i) R J O:=Kw λp hp=>by
 unfold dK nC;split
 ·exact NV hp
 ·rfl
def Qg:bS (Ay D i 16)=bS (ov D i):=by
 unfold Ay ov;by_cases h1:i+1<D.snaps.length
 ·rw[YB h1];by_cases J:(cH D (i+1)).time=(cH D i).time
  ·rw[YB ⟨h1,J⟩];unfold tK;rw[YB J];simp only[bS,Y1];congr 1
  ·rw[YC (λhh=>J hh.2)];have:tK D i 16=cH D (i+1):=by unfold tK;rw[YC J]
   simp_all[dG]
 grind
end
def Hm {l l':List SnapM}{i:Nat}(h:bS l=bS l'):bS (l.eraseIdx i)=bS (l'.eraseIdx i):=by
 grind[bS,List.eraseIdx_eq_take_drop_succ,List.map_take,List.map_drop]
def NW (m d:Nat->Bool)(k:Nat):Nat->Bool:=λp=>m p || (decide (p<k) && d p)
def NX (m d:Nat->Bool)(k:Nat):(λi=>if i=k then (NW m d k k || d k) else NW m d k i)=NW m d (k+1):=funext λp=>by
 grind[NW]
def NY (m d:Nat->Bool):NW m d 0=m:=funext λp=>by simp[NW]
def Qh (m d:Nat->Bool):bA (NW m d 16)=bA (sQ m d):=NR λp hp=>NV hp
def wN (b:Nat)(D:VdM)(hsl:D.snaps.length<=1000000)(hn: -9223372036854775808<=D.next)(F:List ag):Ct Tryz.prog 78 [ptr b 0] (iq b (D)::F) (R1 (.tuple #[I (FU D),I (BM D)]) (iq b (Dz D)::F)):=by
 refine Ct.of func78 rR 63 ntmps78 (by simp) λw0=>?_;refine kw b (D) ?_;intro ss cs;refine gS (gA (gQ (ac (gS (gM (gV aa (gF 35 VB rR Wd (gL (sl ss D.snaps.length cs) Wz (gV (aX Wq) (gV bT (gM (gK aq (gK aa (gK (aw 34 VB rR Vb) (gK (az (v:=I D.next) Vc (hv:=⟨rfl⟩)) (gK aT (gV cu (ab ?_))))))))))))))))));apply ah<;>intro h16
 ·simp at h16;have hw:BM D=8:=(by unfold BM;rw[YB (by omega)]);refine gS (gA (gQ ?_));refine eS (iF ((D).size) ((D).blocks) ((D).dirty) ((D).time) ((D).next) (sl ss (D).snaps.length cs)) (bS (D).snaps) ss cs b (D) ?_;rw[show iq b D=iq b (Dz D) by unfold Dz;rw[YC (by omega)]];exact ao rfl rfl (by rw[show FU D=0 by unfold FU;rw[YC (by omega)],hw];rfl)
 ·simp at h16;have hw:BM D=0:=(by unfold BM;rw[YC (by omega)]);refine ai (ac ?_);refine eU (Lf:=pt b (.cells (iF ((D).size) ((D).blocks) ((D).dirty) ((D).time) ((D).next) (sl ss (D).snaps.length cs)) 139 (0,0))::F) [(0,false),(1,false),(2,false),(3,false),(4,false),(5,false),(6,false),(7,false),(8,false),(9,false),(10,false),(11,false),(12,false),(13,false),(14,false),(15,false),(16,false),(17,false),(18,false),(19,false),(20,false),(21,false),(22,false),(23,false),(24,false),(25,false),(26,true),(27,true),(28,false),(29,false)] 30 ?_;refine dM rR (dM rR (dV rR aa (dF rR 35 VB rR Wd (dL rR (sl ss D.snaps.length cs) Wz (dM rR (dV rR aa (dF rR 34 VB rR Vb (dL rR (I D.next) Vc (dM rR (dV rR aa (dF rR 33 VB rR Vb (dL rR (I D.time) Vc (dM rR (dV rR aa (dF rR 0 VB rR Vb (dL rR (I D.size) Vc (dM rR (dV rR aa (dF rR 1 VB rR WF (dV rR (aU (vs:=FT D.blocks) isAgg130 WF (Kx _ _ _ _ _ _)) (dM rR (dV rR aa (dF rR 17 VB rR Wj (dV rR (aU (vs:=m16 D.dirty) XL Wj (Ky _ _ _ _ _ _)) (dV rR (aR (NS D.next D.time D.size D.blocks D.dirty)) (d7 rR (av [pn (⟨D.next,D.time,D.size,D.blocks,D.dirty⟩:SnapM)] Wq Wv XE (by simp[FJ])) ?_))))))))))))))))))))))))));rintro _ _ ⟨b43,rfl,rfl⟩;refine d7 rR (bo Wq Wv XE Tryz.typeInfo247 (hn:=by rw[fa]) (by simp[FJ]) (by simp[pn,Go.Sl.ones,Go.Sl.one]) ⟨by omega,by decide,by decide⟩) ?_;rintro _ _ ⟨s44,c44,rfl,rfl⟩;rw[show bS D.snaps++ [pn (⟨D.next,D.time,D.size,D.blocks,D.dirty⟩:SnapM)]=bS (D.snaps++ [(⟨D.next,D.time,D.size,D.blocks,D.dirty⟩:SnapM)]) by simp[bS]];refine dV rR aa (dF rR 35 VB rR Wd ?_);refine aP ?_;refine gU (aK (iF ((D).size) ((D).blocks) ((D).dirty) ((D).time) ((D).next) (sl s44 (D.snaps.length+1) c44)) Wd (by rw[ip];decide) (hcs:=by exact BN _ _ _ _ _ _ _)) (ab (gS (gM (gV (aR FL) (gV aa (gF 17 VB rR Wj (gU (ax (cs:=iF ((D).size) ((D).blocks) ((D).dirty) ((D).time) ((D).next) (sl s44 (D.snaps.length+1) c44)) (vs:=m16 λ_=>false) (iF ((D).size) ((D).blocks) (λ_=>false) ((D).time) ((D).next) (sl s44 (D.snaps.length+1) c44)) Wj (by rw[ip];decide) (hcs:=by exact FK _ _ _ _ _ _ _)) (ab (gS (gM (gV aa (gF 34 VB rR Vb (gL (I D.next) Vc (gP (gV aa (gF 34 VB rR Vb (gU (aK (iF ((D).size) ((D).blocks) (λ_=>false) ((D).time) (D.next+1) (sl s44 (D.snaps.length+1) c44)) Vb (by rw[ip];decide) (hcs:=by exact NL _ _ _ _ _ _ _)) (ab (gS (gM (gV aa (gF 34 VB rR Vb (gL (I (D.next+1)) Vc (gV (fe (da (by omega))) (gA (gQ ?_))))))))))))))))))))))))))
  refine eS (iF ((D).size) ((D).blocks) (λ_=>false) ((D).time) (D.next+1) (sl s44 (D.snaps.length+1) c44)) (bS (D.snaps++ [(⟨D.next,D.time,D.size,D.blocks,D.dirty⟩:SnapM)])) s44 c44 b (⟨D.size,D.blocks,λ_=>false,D.time,D.next+1,D.snaps++ [⟨D.next,D.time,D.size,D.blocks,D.dirty⟩]⟩) (hC:=by simp) ?_;rw[show iq b ⟨D.size,D.blocks,λ_=>false,D.time,D.next+1,D.snaps++ [⟨D.next,D.time,D.size,D.blocks,D.dirty⟩]⟩=iq b (Dz D) by unfold Dz;rw[YB hw]];exact ao rfl rfl (by rw[show FU D=D.next+1 - 1 by unfold FU;rw[YB hw];omega,hw];rfl)
def wO (b:Nat)(D:VdM)(id:Int)(hsl:D.snaps.length<=1000000)(F:List ag):Ct Tryz.prog 79 [ptr b 0,I id] (iq b (D)::F) (R1 (I (I2 D id)) (iq b (FI D id)::F)):=by
 refine Ct.of func79 rR 89 ntmps79 (by simp) λw0=>?_;refine gS (gQ (gS (gM (gM (gR (vB call151 (jh b D id (by omega))) (gQ (ac (gS (gM (gV aI (ab ?_)))))))))));apply ah<;>intro h12
 ·simp at h12;refine gS (gQ ?_);rw[show iq b D=iq b (FI D id) by unfold FI;rw[YB (by omega)]];exact ao rfl rfl (by rw[show I2 D id=5 by unfold I2;rw[YB (by omega)]];rfl)
 ·simp at h12;obtain ⟨i,s,hfi,hs,hid,hil⟩:=hO (show ¬dE D.snaps id<0 by omega);rw[hfi];refine kw b (D) ?_;intro ss cs;have hir:i<(bS D.snaps).length:=(by rw[fa];exact hil);have hsi:=dG hs;refine ta ss λhcap=>?_;rw[fa] at hcap;refine ai (gS (gM (gV aa (gF 35 VB rR Wd (gL (sl ss D.snaps.length cs) Wz (gM (gV (ay i Wq Wv hil hir) (gV (bJ (row:=pn s) isAgg247 Wv (gi hs)) (gI (aO #[I 0,I 0,I 0,aC [],aC [],aC [],aC [],aC [],aC [],aC [],aC [],aC [],aC [],aC [],aC [],aC [],aC [],aC [],aC [],Bo false,Bo false,Bo false,Bo false,Bo false,Bo false,Bo false,Bo false,Bo false,Bo false,Bo false,Bo false,Bo false,Bo false,Bo false,Bo false] XE) ?_)))))))));rintro _ _ ⟨b6,rfl,rfl⟩;refine gU (ax (cs:=#[I 0,I 0,I 0,aC [],aC [],aC [],aC [],aC [],aC [],aC [],aC [],aC [],aC [],aC [],aC [],aC [],aC [],aC [],aC [],Bo false,Bo false,Bo false,Bo false,Bo false,Bo false,Bo false,Bo false,Bo false,Bo false,Bo false,Bo false,Bo false,Bo false,Bo false,Bo false]) (vs:=pn s) (pn s).toArray Wv (by simp) (hcs:=by exact bk)) (ab (ac (ac ?_)));rw[show iF D.size D.blocks D.dirty D.time D.next (sl ss D.snaps.length cs)=iF D.size D.blocks (dK D i 0) D.time D.next (sl ss D.snaps.length cs) by rw[K_zero.1],show bS D.snaps=bS (Ay D i 0) by rw[K_zero.2]];refine am (gQ (al ?_));refine aM (α:=Nat) (λk=>k<=16) (λk=>U [(0,ptr b 0),(5,I i),(6,ptr b6 0),(7,I k)]) (λk=>pt b6 (.cells (pn s).toArray 247 (0,0))::pt b (.cells (iF ((D).size) ((D).blocks) (dK D i k) ((D).time) ((D).next) (sl ss (D).snaps.length cs)) 139 (0,0))::bi 247 35 ss cs (bS (Ay D i k))::F) (λk=>16 - k) 0 (by simp) [0,5,6,7] rfl ?_;intro k hk16;refine ac (gS (gM (gV aI (ab ?_))));apply ah<;>intro h21
  ·simp at h21;have hk:k<16:=(by omega);refine ai (ac (al (ac (gS (gM (gF 19 WR rR Wj (gV (ba k WT Vt hk) (gV (az (v:=Bo (s.dirty k)) V6 (hv:=⟨Qd _ _ hk⟩)) (gV cE (ab ?_))))))))));apply ah<;>intro h28
   ·simp at h28;refine aF ?_;refine am (gM (gP (gQ ?_)));rw[Uj (by rw[hsi];exact h28),SK (by rw[hsi];exact h28)];exact ap (k+1) (by omega) (by omega) [0,5,6,7] rfl
   ·simp at h28;refine ai (gS (gM (gP (gM (gV aa (gF 35 VB rR Wd (gL (sl ss D.snaps.length cs) Wz (gV (aX Wq) (gV bT (ab ?_))))))))));apply ah<;>intro h36
    ·simp at h36;have h36':¬(i+1<D.snaps.length):=(by omega);refine ac ?_;refine cV jN ?_;refine dM rR (dV rR aa (dF rR 33 VB rR Vb (dL rR (I D.time) Vc (dF rR 1 WR rR Vb (dL rR (I s.time) Vc (dV rR bT ?_))))));refine aP ?_;apply ah<;>intro h43
     ·simp at h43;refine am (gM (gM (gV aa (gF 17 VB rR Wj (gV (ba k WT Vt hk) (gU (aK (iF ((D).size) ((D).blocks) (dK D i (k+1)) ((D).time) ((D).next) (sl ss (D).snaps.length cs)) Vt (by rw[ip];omega) (hcs:=by rw[uu _ _ _ _ _ _ _ hk,SJ h36' (by rw[hsi];exact h43) (by rw[hsi];exact h28)])) (ab (aG (am (gM (gP (gQ ?_))))))))))));rw[DC (k:=k) (λhh=>h36' hh.1)];exact ap (k+1) (by omega) (by omega) [0,5,6,7] rfl
     ·simp at h43;refine ai (aG (am (gM (gP (gQ ?_)))));rw[DC (k:=k) (λhh=>h36' hh.1),Hl (k:=k) (λhh=>h43 (by rw[hsi] at hh;exact hh.2))];exact ap (k+1) (by omega) (by omega) [0,5,6,7] rfl
    ·simp at h36;have h36':i+1<D.snaps.length:=(by omega);have hir2:i+1<(bS (Ay D i k)).length:=(by rw[fa,uy];exact h36');refine ac ?_;refine cV jH ?_;refine dM rR (dV rR aa (dF rR 35 VB rR Wd (dL rR (sl ss D.snaps.length cs) Wz (dM rR (dV rR (bO (da (by omega))) (dV rR (ay (i+1) Wq Wv h36' hir2) (dV rR (aE (j:=(i+1)) 1 WR rR Vb hir2) (dV rR (bC (v:=I (tK D i k).time) Vc (gi (NU h36'))) (dF rR 1 WR rR Vb (dL rR (I s.time) Vc (dV rR bT ?_)))))))))));refine aP ?_;apply ah<;>intro h60
     ·simp at h60;refine am (gM (gV aa (gF 35 VB rR Wd (gL (sl ss D.snaps.length cs) Wz (gM (gP (gM (gV (ay (i+1) Wq Wv h36' hir2) (gV (aE (j:=(i+1)) 19 WR rR Wj hir2) (gV (xY (i:=i+1) (f:=19) k WT Vt rR rR rR hk hir2) (ir (sK (row:=pn (tK D i k)) (f:=19+k*1) Vt (gi (NU h36')) (by omega)) ?_)))))))))));rintro _ _ rfl;rw[Qe h36' (by rw[hsi];rw[<-I6 (k:=k)];exact h60) (by rw[hsi];exact h28) hk];refine ab (aG (am (gM (gP (gQ ?_)))));rw[Hl (k:=k) (λhh=>hh.1 h36')];exact ap (k+1) (by omega) (by omega) [0,5,6,7] rfl
     ·simp at h60;refine ai (aG (am (gM (gP (gQ ?_)))));rw[Hl (k:=k) (λhh=>hh.1 h36'),DC (k:=k) (λhh=>h60 (by rw[I6];rw[hsi] at hh;exact hh.2))];exact ap (k+1) (by omega) (by omega) [0,5,6,7] rfl
  ·simp at h21;obtain rfl:k=16:=(by omega);refine aF ?_;refine ac ?_;refine bH 247 35 [] ?_;refine eU (Lf:=pt b (.cells (iF ((D).size) ((D).blocks) (dK D i 16) ((D).time) ((D).next) (sl ss (D).snaps.length cs)) 139 (0,0))::F) [(0,false),(1,false),(2,false),(3,false),(4,false),(5,false),(6,false),(8,false),(9,false),(10,false),(11,false),(12,false),(13,false),(14,false),(7,true),(15,true),(16,false),(17,false)] 18 ?_;refine dM rfl (dM rfl (dV rfl aa (dF rfl 35 VB rfl Wd (dL rfl (sl ss D.snaps.length cs) Wz (dM rfl (dV rfl (lX (h:=i) Wq Wv rfl rfl rfl (by omega)) (dM rfl (dV rfl aa (dF rfl 35 VB rfl Wd (dL rfl (sl ss D.snaps.length cs) Wz (dM rfl (dV rfl (bO (da (by omega))) (dV rfl (iU (l:=i+1) Wq Wv rfl rfl (by omega) (by omega)) (d7 rfl (xX (s2:=ss) (p:=0) Wq Wv XE rfl Tryz.typeInfo247 (by decide) rfl rfl rfl (.inl ⟨rfl,rfl⟩) (by rw[fa,uy];omega) (λr hr=>by simp only[bS,Zz] at hr;obtain ⟨x,_,rfl⟩:=hr;rfl) (λr hr=>by simp only[bS,Zz] at hr;obtain ⟨x,_,rfl⟩:=hr;rfl) ⟨by omega,by decide,by decide⟩) ?_))))))))))))));rintro _ _ ⟨s78,c78,rfl,rfl⟩;refine d7 rfl (xX (s2:=ss) (p:=i+1) Wq Wv XE rfl Tryz.typeInfo247 (by decide) rfl rfl (by simp[bS,uy];omega) (by unfold At;split;exact .inr (.inr (by omega));exact .inr (.inl rfl)) (by rw[fa,uy];omega) (λr hr=>by simp only[bS,Zz] at hr;obtain ⟨x,_,rfl⟩:=hr;rfl) (λr hr=>by simp only[bS,Zz] at hr;obtain ⟨x,_,rfl⟩:=hr;rfl) ⟨by omega,by decide,by decide⟩) ?_;rintro _ _ ⟨s86,c86,rfl,rfl⟩;rw[Kz _ _ _ uy];refine dV rR aa (dF rR 35 VB rR Wd ?_);refine aP ?_;refine gU (aK (iF ((D).size) ((D).blocks) (dK D i 16) ((D).time) ((D).next) (sl s86 (0+i+(D.snaps.length - (i+1))) c86)) Wd (by rw[ip];decide) (hcs:=by exact BN _ _ _ _ _ _ _)) (ab (gS (gQ ?_)));rw[SM,show bS ((Ay D i 16).eraseIdx i)=bS ((ov D i).eraseIdx i) from Hm Qg];refine eS (iF ((D).size) ((D).blocks) (nC D i) ((D).time) ((D).next) (sl s86 (0+i+(D.snaps.length - (i+1))) c86)) (bS ((ov D i).eraseIdx i)) s86 c86 b (⟨D.size,D.blocks,nC D i,D.time,D.next,(ov D i).eraseIdx i⟩) (hC:=by rw[kas,show (ov D i).length=D.snaps.length by unfold ov;split <;> simp,YB hil,show 0+i+(D.snaps.length - (i+1))=D.snaps.length - 1 by omega]) ?_;rw[show iq b ⟨D.size,D.blocks,nC D i,D.time,D.next,(ov D i).eraseIdx i⟩=iq b (FI D id) by unfold FI;rw[YC (by omega),hfi,kag]]
   exact ao rfl rfl (by rw[show I2 D id=0 by unfold I2;rw[YC (by omega)]];rfl)
def sG (b:Nat)(D:VdM)(x y:Int)(hsl:D.snaps.length<=1000000)(F:List ag):Ct Tryz.prog 72 [ptr b 0,I x,I y] (iq b (D)::F) (Ur (λv=> .tuple #[v,I (pm D x y)]) 142 2 (qx D x y).length (aS (qx D x y)) (iq b (D)::F)):=by
 refine Ct.of func72 rR 77 ntmps72 (by simp) λw0=>?_;refine gS (gA (gQ (gS (gM (gM (gR (vB call151 (jh b D x (by omega))) (gQ (gS (gM (gM (gR (vB call151 (jh b D y (by omega))) (gQ (ac (gS (gM (gV aI (gM (gK aq (gK aI (gV cu (ab ?_)))))))))))))))))))));apply ah<;>intro h24
 ·simp at h24;refine gS (gA (gQ ?_));have hE:pm D x y=5:=(by unfold pm;rw[YB (by omega)]);have hA:qx D x y=[]:=(by unfold qx;rw[YC (by omega)]);refine bH 142 2 (aS (qx D x y)) (hr:=by rw[hA];rfl) ?_;exact mR (f:=λv=> .tuple #[v,I (pm D x y)]) rfl rfl (by rw[hA]) (by rw[hE];rfl)
 ·simp at h24;refine ai (ac (ac ?_));obtain ⟨ia,sa,hfa,hsa,_,hla⟩:=hO (show ¬dE D.snaps x<0 by omega);obtain ⟨ib,sb,hfb,hsb,_,hlb⟩:=hO (show ¬dE D.snaps y<0 by omega);rw[hfa,hfb];refine am (gM (gM (gV aT (ab ?_))));refine ls (α:=Unit) (λ_=>True) (λ_=>U [(0,ptr b 0),(8,I ((ox D x y:Nat):Int)),(9,I ((pk D x y:Nat):Int))]) (λ_=>iq b (D)::F) ?_ ?_
  ·apply ah<;>intro h27
   ·simp at h27;refine am (gM (gM (gA (gQ ?_))));rw[show ((ib:Nat):Int)=((ox D x y:Nat):Int) by unfold ox;rw[hfa,hfb,YB (by omega)];simp,show ((ia:Nat):Int)=((pk D x y:Nat):Int) by unfold pk;rw[hfa,hfb,YC (by omega)];simp];exact cF () trivial [0,8,9] rfl
   ·simp at h27;refine ai ?_;rw[show ((ia:Nat):Int)=((ox D x y:Nat):Int) by unfold ox;rw[hfa,hfb,YC (by omega)];simp,show ((ib:Nat):Int)=((pk D x y:Nat):Int) by unfold pk;rw[hfa,hfb];split <;> simp <;> omega];exact cF () trivial [0,8,9] rfl
  rintro ⟨⟩ -;refine ac (ac ?_);refine kw b (D) ?_;intro ss cs;have hb1:ox D x y<D.snaps.length:=(by unfold ox;rw[hfa,hfb];split <;> rw[kag] <;> assumption);have hb2:pk D x y<D.snaps.length:=(by unfold pk;rw[hfa,hfb];split <;> rw[kag] <;> assumption);have hb3:ox D x y<=pk D x y:=(by unfold ox pk;rw[hfa,hfb];split <;> split <;> simp <;> omega);generalize hlo:ox D x y=lo at*;generalize hhi:pk D x y=hi at*;obtain ⟨s1,hs1⟩:∃s,D.snaps[lo]? =some s:=⟨_,Zu hb1⟩;obtain ⟨s2,hs2⟩:∃s,D.snaps[hi]? =some s:=⟨_,Zu hb2⟩;have hr1:lo<(bS D.snaps).length:=(by rw[fa];exact hb1);have hr2:hi<(bS D.snaps).length:=(by rw[fa];exact hb2);have hse1:=dG hs1;have hse2:=dG hs2;refine cV jC ?_;refine dM rR (dV rR aa (dF rR 35 VB rR Wd (dL rR (sl ss D.snaps.length cs) Wz (dM rR (dV rR (ay lo Wq Wv hb1 hr1) (dV rR (aE (j:=lo) 1 WR rR Vb hr1) (dV rR (bC (v:=I s1.time) Vc (gi hs1)) (dM rR (dV rR aa (dF rR 35 VB rR Wd (dL rR (sl ss D.snaps.length cs) Wz (dM rR (dV rR (ay hi Wq Wv hb2 hr2) (dV rR (aE (j:=hi) 1 WR rR Vb hr2) (dV rR (bC (v:=I s2.time) Vc (gi hs2)) (dV rR fZ ?_))))))))))))))));refine aP ?_;apply ah<;>intro h46
  ·simp at h46;have hE:pm D x y=7:=(by unfold pm;rw[YC (by omega),hlo,hhi,hse1,hse2,YB h46]);have hA:qx D x y=[]:=(by unfold qx;rw[YC (by omega)]);refine gS (gA (gQ ?_));refine eS (iF ((D).size) ((D).blocks) ((D).dirty) ((D).time) ((D).next) (sl ss (D).snaps.length cs)) (bS (D).snaps) ss cs b (D) ?_;refine bH 142 2 (aS (qx D x y)) (hr:=by rw[hA];rfl) ?_;exact mR (f:=λv=> .tuple #[v,I (pm D x y)]) rfl rfl (by rw[hA]) (by rw[hE];rfl)
  ·simp at h46;have hE:pm D x y=0:=(by unfold pm;rw[YC (by omega),hlo,hhi,hse1,hse2,YC (λhh=>hh h46)]);have hA:qx D x y=dp (Av D lo (hi - lo)):=(by unfold qx;rw[YB hE,hlo,hhi]);refine ai (gS (gI (aO (bA (λ_=>false)) (λw=>by rw[K5];exact XF w)) ?_));rintro _ _ ⟨b10,rfl,rfl⟩;rw[show bA (λ_=>false)=bA (Av D lo 0) from rfl];refine ab (ac (gS (gM (gP (gQ (al ?_))))));refine aM (α:=Nat) (λc=>c<=hi - lo) (λc=>U [(0,ptr b 0),(9,I hi),(10,ptr b10 0),(11,I ((lo:Int)+1+c))]) (λc=>pt b10 (.cells (bA (Av D lo c)) 136 (0,0))::pt b (.cells (iF ((D).size) ((D).blocks) ((D).dirty) ((D).time) ((D).next) (sl ss (D).snaps.length cs)) 139 (0,0))::bi 247 35 ss cs (bS D.snaps)::F) (λc=>hi - lo - c) 0 (by simp) [0,9,10,11] rfl ?_;intro c hc;refine ac (gS (gM (gM (gV pP (ab ?_)))));apply ah<;>intro h51
   ·simp at h51;refine ai (ac (al (ac ?_)));obtain ⟨s3,hs3⟩:∃s,D.snaps[lo+1+c]? =some s:=⟨_,Zu (by omega)⟩;have hkc:lo+1+c<D.snaps.length:=(by omega);have hkrc:lo+1+c<(bS D.snaps).length:=(by rw[fa];exact hkc);have hs3e:=dG hs3;rw[show bA (Av D lo c)=bA (NW (Av D lo c) s3.dirty 0) by rw[NY]];refine am (gQ (al ?_));refine aM (α:=Nat) (λk=>k<=16) (λk=>U [(0,ptr b 0),(9,I hi),(10,ptr b10 0),(11,I ((lo:Int)+1+c)),(12,I k)]) (λk=>pt b10 (.cells (bA (NW (Av D lo c) s3.dirty k)) 136 (0,0))::pt b (.cells (iF ((D).size) ((D).blocks) ((D).dirty) ((D).time) ((D).next) (sl ss (D).snaps.length cs)) 139 (0,0))::bi 247 35 ss cs (bS D.snaps)::F) (λk=>16 - k) 0 (by simp) [0,9,10,11,12] rfl ?_;intro k hk16;refine ac (gS (gM (gV aI (ab ?_))));apply ah<;>intro h55
    ·simp at h55;have hk:k<16:=(by omega);refine ai (ac (al (am (gM (gM (gV (ba k WT Vt hk) (gV (az (v:=Bo (NW (Av D lo c) s3.dirty k k)) V6 (hv:=⟨qA hk⟩)) (gM (gK aq (gK aa (gK (aw 35 VB rR Wd) (gK (az (v:=sl ss D.snaps.length cs) Wz (hv:=⟨rfl⟩)) (gK aq (gK aq (gK (ay (lo+1+c) Wq Wv (hj:=by omega) hkc hkrc) (gK (aE (j:=(lo+1+c)) 19 WR rR Wj hkrc) (gK (xY (i:=lo+1+c) (f:=19) k WT Vt rR rR rR hk hkrc) (gK (bC (f:=19+k*1) (v:=Bo (s3.dirty k)) V6 (gi hs3) (hv:=⟨NP _ _ hk⟩)) (gV cu (gV (ba k WT Vt hk) (gU (aK (bA (NW (Av D lo c) s3.dirty (k+1))) Vt (by simp[bA,bL];omega) (hcs:=by rw[xM hk,NX])) (ab (aG (am (gM (gP (gQ ?_)))))))))))))))))))))))))));exact ap (k+1) (by omega) (by omega) [0,9,10,11,12] rfl
    ·simp at h55;obtain rfl:k=16:=(by omega);refine aF ?_;refine aG (am (gM (gP (gQ ?_))));rw[Qh,show sQ (Av D lo c) s3.dirty=Av D lo (c+1) by rw[<-hs3e];rfl];exact ap (c+1) (by omega) (by omega) [0,9,10,11] rfl (he:=by simp[U];try omega)
   ·simp at h51;obtain rfl:c=hi - lo:=(by omega);refine aF ?_;refine gS (gV (aU (vs:=bL (Av D lo (hi - lo))) XL Wj (hl:=iT _) kQ) (gI (uA call152 (uN (Av D lo (hi - lo)))) ?_));rintro _ _ ⟨s76,c76,rfl,rfl⟩;refine gA (gQ ?_);refine eS (iF ((D).size) ((D).blocks) ((D).dirty) ((D).time) ((D).next) (sl ss (D).snaps.length cs)) (bS (D).snaps) ss cs b (D) ?_;rw[<-hA];exact mR (f:=λv=> .tuple #[v,I (pm D x y)]) rfl rfl rfl (by rw[hE];rfl)
def kx (D:VdM)(x:ActM):Int:=if x.kind=kS then FU D else 0
def jt (D:VdM)(x:ActM):Int:=if x.kind=kW then FG D x.a x.s else if x.kind=kZ then FV x.a else if x.kind=kS then BM D else if x.kind=kU then I2 D x.a else 0
def Qi (D:VdM)(x:ActM):0<=jt D x:=by
 grind[jt,FG,un,FV,BM,I2]
def N0 (D:VdM)(a:Int):0<=(ft D a).2:=by grind[ft]
def N1 (D:VdM)(x y:Int):0<=pm D x y:=by grind[pm]
def kinds:kS≠kW/\kS≠kZ:=by decide
def Uk (D:VdM)(x y:Int):(qx D x y).length<=1000000:=by grind[qx,kX]
def DD (b:Nat)(D:VdM)(x:ActM)(z:ActZ)(i:Nat)(hok:DA i D)(hi:i<=1000000)(F:List ag):Ct Tryz.prog 24 [ptr b 0, .agg (fP x z).toArray] (fV b (D)::F) (R1 (.tuple #[I (kx D x),bM (jt D x)]) (fV b (js D x)::F)):=by
 refine Ct.of func24 rR 38 ntmps24 (by simp) λw0=>?_;refine gS (gI (di (fP x z).toArray) ?_);rintro _ _ ⟨X,rfl,rfl⟩;refine gA (gQ (ac (gS (gF 0 Vm rR Vh (gL (aC x.kind) Vj (ab (al (gS (gV cj (gQ ?_))))))))));apply ah<;>intro S
 ·simp at S;change x.kind=kW at S;refine gS (gM (gF 2 Vm rR Vb (gL (I x.a) Vc (gF 1 Vm rR Vh (gL (aC x.s) Vj (gR (vB call67 (qw b D x.a x.s hok.1.2)) (gA (gQ ?_))))))));rw[show fV b (zX D x.a x.s)=fV b (js D x) by unfold js;rw[YB S]];exact ao rfl rfl (by rw[show kx D x=0 by unfold kx;rw[YC (λhh=>kinds.1 (hh.symm.trans S))],show jt D x=FG D x.a x.s by unfold jt;rw[YB S]];rfl)
 ·simp at S;change ¬x.kind=kW at S;refine gS (gV cj (gQ ?_));apply ah<;>intro O
  ·simp at O;change x.kind=kZ at O;refine gS (gM (gF 2 Vm rR Vb (gL (I x.a) Vc (gR (vB call73 (wK b D x.a hok.1)) (gA (gQ ?_))))));rw[show fV b (FH D x.a)=fV b (js D x) by unfold js;rw[YC S,YB O]];exact ao rfl rfl (by rw[show kx D x=0 by unfold kx;rw[YC (λhh=>kinds.2 (hh.symm.trans O))],show jt D x=FV x.a by unfold jt;rw[YC S,YB O]];rfl)
  ·simp at O;change ¬x.kind=kZ at O;refine gS (gV cj (gQ ?_));apply ah<;>intro J
   ·simp at J;change x.kind=kS at J;refine gS (gM (gR (vB call68 (rJ b D (by have:=hok.2.2.2.1;omega) (by have:=hok.2.1;omega))) (gX (I (FU D)) (gX (bM (BM D)) (gA (gQ ?_))))));rw[show fV b (Dz D)=fV b (js D x) by unfold js;rw[YC S,YC O,YB J]];exact ao rfl rfl (by rw[show kx D x=FU D by unfold kx;rw[YB J],show jt D x=BM D by unfold jt;rw[YC S,YC O,YB J]];rfl)
   ·simp at J;change ¬x.kind=kS at J;refine gS (gV cj (gQ ?_));apply ah<;>intro R
    ·simp at R;change x.kind=kU at R;refine gS (gM (gF 2 Vm rR Vb (gL (I x.a) Vc (gR (vB call74 (Aw b D x.a (by have:=hok.2.2.2.1;omega))) (gA (gQ ?_))))));rw[show fV b (FI D x.a)=fV b (js D x) by unfold js;rw[YC S,YC O,YC J,YB R]];exact ao rfl rfl (by rw[show kx D x=0 by unfold kx;rw[YC J],show jt D x=I2 D x.a by unfold jt;rw[YC S,YC O,YC J,YB R]];rfl)
    ·simp at R;change ¬x.kind=kU at R;refine gS (gV cj (gQ ?_));apply ah<;>intro V
     ·simp at V;change x.kind=Uh at V;refine am (gM (gR (vB call75 (wI b D (by have:=hok.2.2.1;omega))) (ab (aG (gS (gA (gQ ?_)))))));rw[show fV b (Oh D)=fV b (js D x) by unfold js;rw[YC S,YC O,YC J,YC R,YB V]];exact ao rfl rfl (by rw[show kx D x=0 by unfold kx;rw[YC J],show jt D x=0 by unfold jt;rw[YC S,YC O,YC J,YC R]];rfl)
     ·simp at V;change ¬x.kind=Uh at V;refine ai (aG (gS (gA (gQ ?_))));rw[show fV b (D)=fV b (js D x) by unfold js;rw[YC S,YC O,YC J,YC R,YC V]];exact ao rfl rfl (by rw[show kx D x=0 by unfold kx;rw[YC J],show jt D x=0 by unfold jt;rw[YC S,YC O,YC J,YC R]];rfl)
def wP (b:Nat)(D:VdM)(x:ActM)(z:ActZ)(i:Nat)(hok:DA i D)(hi:i<=1000000)(F:List ag):Ct Tryz.prog 25 [ptr b 0, .agg (fP x z).toArray] (iq b (D)::F) (R1 (.tuple #[I (kx D x),I (jt D x)]) (iq b (js D x)::F)):=by
 refine Ct.of func25 rR 38 ntmps25 (by simp) λw0=>?_;refine gS (gI (di (fP x z).toArray) ?_);rintro _ _ ⟨X,rfl,rfl⟩;refine gA (gQ (ac (gS (gF 0 Vm rR Vh (gL (aC x.kind) Vj (ab (al (gS (gV cj (gQ ?_))))))))));apply ah<;>intro S
 ·simp at S;change x.kind=kW at S;refine gS (gM (gF 2 Vm rR Vb (gL (I x.a) Vc (gF 1 Vm rR Vh (gL (aC x.s) Vj (gR (vB call76 (vP b D x.a x.s hok.1.2)) (gA (gQ ?_))))))));rw[show iq b (zX D x.a x.s)=iq b (js D x) by unfold js;rw[YB S]];exact ao rfl rfl (by rw[show kx D x=0 by unfold kx;rw[YC (λhh=>kinds.1 (hh.symm.trans S))],show jt D x=FG D x.a x.s by unfold jt;rw[YB S]];rfl)
 ·simp at S;change ¬x.kind=kW at S;refine gS (gV cj (gQ ?_));apply ah<;>intro O
  ·simp at O;change x.kind=kZ at O;refine gS (gM (gF 2 Vm rR Vb (gL (I x.a) Vc (gR (vB call77 (uv b D x.a hok.1)) (gA (gQ ?_))))));rw[show iq b (FH D x.a)=iq b (js D x) by unfold js;rw[YC S,YB O]];exact ao rfl rfl (by rw[show kx D x=0 by unfold kx;rw[YC (λhh=>kinds.2 (hh.symm.trans O))],show jt D x=FV x.a by unfold jt;rw[YC S,YB O]];rfl)
  ·simp at O;change ¬x.kind=kZ at O;refine gS (gV cj (gQ ?_));apply ah<;>intro J
   ·simp at J;change x.kind=kS at J;refine gS (gM (gR (vB call78 (wN b D (by have:=hok.2.2.2.1;omega) (by have:=hok.2.1;omega))) (gX (I (FU D)) (gX (I (BM D)) (gA (gQ ?_))))));rw[show iq b (Dz D)=iq b (js D x) by unfold js;rw[YC S,YC O,YB J]];exact ao rfl rfl (by rw[show kx D x=FU D by unfold kx;rw[YB J],show jt D x=BM D by unfold jt;rw[YC S,YC O,YB J]];rfl)
   ·simp at J;change ¬x.kind=kS at J;refine gS (gV cj (gQ ?_));apply ah<;>intro R
    ·simp at R;change x.kind=kU at R;refine gS (gM (gF 2 Vm rR Vb (gL (I x.a) Vc (gR (vB call79 (wO b D x.a (by have:=hok.2.2.2.1;omega))) (gA (gQ ?_))))));rw[show iq b (FI D x.a)=iq b (js D x) by unfold js;rw[YC S,YC O,YC J,YB R]];exact ao rfl rfl (by rw[show kx D x=0 by unfold kx;rw[YC J],show jt D x=I2 D x.a by unfold jt;rw[YC S,YC O,YC J,YB R]];rfl)
    ·simp at R;change ¬x.kind=kU at R;refine gS (gV cj (gQ ?_));apply ah<;>intro V
     ·simp at V;change x.kind=Uh at V;refine am (gM (gR (vB call80 (uw b D (by have:=hok.2.2.1;omega))) (ab (aG (gS (gA (gQ ?_)))))));rw[show iq b (Oh D)=iq b (js D x) by unfold js;rw[YC S,YC O,YC J,YC R,YB V]];exact ao rfl rfl (by rw[show kx D x=0 by unfold kx;rw[YC J],show jt D x=0 by unfold jt;rw[YC S,YC O,YC J,YC R]];rfl)
     ·simp at V;change ¬x.kind=Uh at V;refine ai (aG (gS (gA (gQ ?_))));rw[show iq b (D)=iq b (js D x) by unfold js;rw[YC S,YC O,YC J,YC R,YC V]];exact ao rfl rfl (by rw[show kx D x=0 by unfold kx;rw[YC J],show jt D x=0 by unfold jt;rw[YC S,YC O,YC J,YC R]];rfl)
-- counterfoil/counterfoillaw.VdiskSays is not in this seat
theorem uz {m n:Nat->Bool}:∀{k:Nat},(∀p,p<k->m p=n p)->cM m k=cM n k
 | 0,_=>rfl
 | k+1,h=>by simp only[cM,uz (k:=k) (λp hp=>h p (by omega)),h k (by omega)]
theorem DE {m:Nat->Bool}:∀{k:Nat},(∀p,p<k->m p=false)->cM m k=0
 | 0,_=>rfl
 | k+1,h=>by simp[cM,DE (k:=k) (λp hp=>h p (by omega)),h k (by omega)]
def wu (m:Nat->Bool)(f t:Int)(p:Nat):Bool:=m p && (decide (f<=p) && decide ((p:Int)<t))
def I7 {m:Nat->Bool}{f:Int}{k:Nat}(j:Nat):cM (wu m f k) (k+j)=cM (wu m f k) k:=by
 induction j with
 | zero=>rfl
 | succ j J=>grind[cM,wu]
theorem Qj {m:Nat->Bool}{f:Int}{k:Nat}(h:k<16):cM (wu m f (k+1:Nat)) 16=cM (wu m f k) 16+if m k=true/\f<=k then 1 else 0:=by
 have J:cM (wu m f (k+1:Nat)) 16=cM (wu m f (k+1:Nat)) (k+1):=by
  have:=I7 (m:=m) (f:=f) (k:=k+1) (15 - k);grind
 have O:cM (wu m f k) 16=cM (wu m f k) k:=by
  have:=I7 (m:=m) (f:=f) (k:=k) (16 - k);grind
 rw[J,O,cM,uz (m:=wu m f (k+1:Nat)) (n:=wu m f k)]
 ·grind[wu]
 grind[wu]
def N2 (m:Nat->Bool)(f many:Int)(r:(Nat->Bool)×Int):Prop:=
 (r.2= -1/\(∀p,p<16->r.1 p=wu m f 16 p)/\cM r.1 16<=many)\/(f<r.2/\r.2<16/\(∀p,p<16->r.1 p=wu m f r.2 p)/\cM r.1 16=many)
def N3 (m:Nat->Bool)(f many:Int)(R:0<=f)(h1:1<=many):∀(r k:Nat) (out:Nat->Bool) (n:Nat),r+k=16->(∀p,p<16->out p=wu m f k p)->n=cM out 16->(n:Int)<=many->N2 m f many (pg m f many r k out n)
 | 0,k,out,n,hr,ho,hn,hm=>by
  obtain rfl:k=16:=(by omega);exact .inl ⟨rfl,ho,by show (cM out 16:Int)<=many;omega⟩
 | r+1,k,out,n,hr,ho,hn,hm=>by
  have hk:k<16:=(by omega);unfold pg;have hcs:cM out 16=cM (wu m f k) 16:=uz ho;by_cases O:(!m k || decide ((k:Int)<f))=true
  ·rw[YB O];refine N3 m f many R h1 r (k+1) out n (by omega) (λp hp=>?_) hn hm
   grind[wu]
  ·rw[YC O];simp at O;by_cases J:(n:Int)=many
   ·rw[YB J];refine .inr ⟨?_,by simp only;omega,ho,by grind⟩
    grind[DE,wu]
   ·rw[YC J];have key:∀p,p<16->(if p=k then true else out p)=wu m f (k+1:Nat) p:=λp hp=>by
     grind[wu]
    refine N3 m f many R h1 r (k+1) (λi=>if i=k then true else out i) (n+1) (by omega) key ?_ (by omega)
    grind[uz,Qj]
def Qk (m:Nat->Bool){f many:Int}(J:0<=f)(h1:1<=many):N2 m f many (nG m f many):=
 N3 m f many J h1 16 0 (λ_=>false) 0 rfl (λp hp=>by simp[wu]) (by rw[DE (by simp)]) (by omega)
def iG (V:VdM)(snap sess:Int):List Nat->RpM->Int->RpM->Prop
 | [],z,e,z2=>e=0/\z2=z
 | p::l,z,e,z2=>if (jy V snap p).2.2≠0 then e=(jy V snap p).2.2/\z2=z else if dQ z sess p (jy V snap p).1≠0 then e=dQ z sess p (jy V snap p).1/\z2=z else ∃so co,iG V snap sess l (z.putted sess p (jy V snap p).1 so co) e z2
def gj (m:Nat->Bool)(f:Nat):List Nat:=(List.range' f (16 - f)).filter m
def BO {m:Nat->Bool}{k:Nat}(h:k<16):gj m k=if m k=true then k::gj m (k+1) else gj m (k+1):=by
 unfold gj;rw[show 16 - k=(16 - (k+1))+1 by omega,List.range'_succ,List.filter_cons]
def FN {m:Nat->Bool}{k:Nat}(h:16<=k):gj m k=[]:=by
 grind[gj]
theorem BP {m q:Nat->Bool}{f t:Nat}(S:f<=t)(ht:t<=16)(hq:∀p,p<16->q p=wu m f t p):gj q 0++gj m t=gj m f:=by
 unfold gj;have O:List.range' 0 (16 - 0)=List.range' 0 f++(List.range' f (t - f)++List.range' t (16 - t)):=by
  rw[show List.range' f (t - f)++List.range' t (16 - t)=List.range' f (16 - f) by
   have:=kbf (s:=f) (m:=t - f) (n:=16 - t)
   grind]
  have:=kbf (s:=0) (m:=f) (n:=16 - f)
  grind
 have R:List.range' f (16 - f)=List.range' f (t - f)++List.range' t (16 - t):=by
  have:=kbf (s:=f) (m:=t - f) (n:=16 - t);rw[show f+(t - f)=t by omega,show t - f+(16 - t)=16 - f by omega] at this;exact this.symm
 rw[O,R,ZR,ZR,ZR];have J:(List.range' 0 f).filter q=[]:=kak.2 λp hp=>by
  grind[wu]
 have a2:(List.range' t (16 - t)).filter q=[]:=kak.2 λp hp=>by
  grind[wu]
 have a3:(List.range' f (t - f)).filter q=(List.range' f (t - f)).filter m:=kbg λp hp=>by
  rw[ZZ] at hp;rw[hq p (by omega)];simp[wu];omega
 rw[J,a2,a3];simp
def Ql (q:Nat->Bool){k:Nat}(h:k<16):DX (dp q) (k:Int)=q k:=by
 grind[P1,sx]
def KA {m:Nat->Bool}{f many:Int}(R:0<=f/\f<=16)(h1:1<=many):∃t:Nat,f.toNat<=t/\t<=16/\gj (nG m f many).1 0++gj m t=gj m f.toNat/\(((nG m f many).2<0/\t=16)\/(f<(nG m f many).2/\(nG m f many).2=t)):=by
 rcases Qk m R.1 h1 with ⟨J,O,_⟩ | ⟨J,O,S,_⟩
 ·grind[BP]
 ·exact ⟨(nG m f many).2.toNat,by omega,by omega,BP (by omega) (by omega) λp hp=>by grind, .inr ⟨J,by omega⟩⟩
def wQ (bv b Y:Nat)(V:VdM)(z0:RpM)(sess J:Int)(l:List Area)(s:Option Addr)(cap:Nat)(O:Int)(hR0:Rok z0)(hsl:V.snaps.length<=1000000)(hsz:∀s∈V.snaps,s.size<=16)(hdl:∀p,(jy V J p).1.length<=9223372036854775807)(hl:l.length<=1000000)(hv:DH l)(hp1:1<=O)(F:List ag):Ct Tryz.prog 144 [ptr bv 0,ptr b 0,I sess,I J,sl s l.length cap,I O] (fV bv V::dB b Y z0::roL 2 s (aS l)::F) (λv L'=>∃e z2,iG V J sess (gj (mk l) 0) z0 e z2/\v=bM e/\L'=fV bv V::dB b Y z2::roL 2 s (aS l)::F):=by
 refine Ct.of func144 rR 56 ntmps144 (by simp) λw0=>?_;refine gS (gQ (gS (gQ (ac (al ?_)))));refine aM (α:=Int×RpM) (λy=>y.1<=16/\Rok y.2/\∀e z2,iG V J sess (if y.1<0 then [] else gj (mk l) y.1.toNat) y.2 e z2->iG V J sess (gj (mk l) 0) z0 e z2) (λy=>U [(0,ptr bv 0),(1,ptr b 0),(2,I sess),(3,I J),(4,sl s l.length cap),(5,I O),(13,I y.1)]) (λy=>fV bv V::dB b Y y.2::roL 2 s (aS l)::F) (λy=>if y.1<0 then 0 else 17 - y.1.toNat) (0,z0) ⟨by simp,hR0,λe z2 h=>h⟩ [0,1,2,3,4,5,13] rfl ?_;rintro ⟨fr,z1⟩ ⟨hf16,hR1,Z⟩;simp only[] at hf16 hR1 Z ⊢;refine ac (gS (gM (gV j6 (ab ?_))));apply ah<;>intro h21
 ·have hfr:0<=fr/\fr<=16:=⟨by simpa using h21,hf16⟩;refine ai (al (gS (gM (gM (gM (gI (uB call210 (BZ l s cap fr O hl hv)) ?_))))));rintro _ _ ⟨X,c26,rfl,rfl⟩;obtain ⟨t,ht1,ht2,hpos,hnx⟩:=KA (m:=mk l) (f:=fr) (many:=O) hfr hp1;refine bR X ?_;generalize (nG (mk l) fr O).1=q at*;generalize (nG (mk l) fr O).2=nx at*;refine gM (gX (sl X (dp q).length c26) (gX (I nx) (gA (gQ (ac (gS (gM (ab (al ?_)))))))));refine aM (α:=Nat×RpM) (λy=>y.1<=16/\Rok y.2/\∀e z2,iG V J sess (gj q y.1++gj (mk l) t) y.2 e z2->iG V J sess (gj (mk l) 0) z0 e z2) (λy=>U [(0,ptr bv 0),(1,ptr b 0),(2,I sess),(3,I J),(4,sl s l.length cap),(5,I O),(14,sl X (dp q).length c26),(15,I nx),(29,I y.1)]) (λy=>fV bv V::dB b Y y.2::roL 2 X (aS (dp q))::roL 2 s (aS l)::F) (λy=>16 - y.1) (0,z1) ⟨by simp,hR1,λe z2 h=>Z e z2 (by rw[YC (by omega),<-hpos];exact h)⟩ [0,1,2,3,4,5,14,15,29] rfl ?_;rintro ⟨k,z⟩ ⟨hk,hR,hI⟩;simp only[] at hk hR hI ⊢;refine gS (gV aI (ab (ac ?_)));apply ah<;>intro h30
  ·simp at h30;have S:k<16:=(by omega);refine ai (ac (al (gS (gM (gQ (ac (gS (gM (gM (gR (vB call211 (DY (dp q) X c26 (k:Int) (by unfold ok64;omega) (by have:=kX q;omega) (k6 q))) ?_))))))))));rw[Ql q S];refine gV cE (ab ?_);apply ah<;>intro h35
   ·have hqk:q k=false:=(by simpa using h35);refine aF ?_;refine am (gP (gM (ab ?_)));exact ap (k+1,z) ⟨by simp only[];omega,hR,λe z2 h=>hI e z2 (by rw[BO S,YC (by rw[hqk];simp)];exact h)⟩ (by simp only[];omega) [0,1,2,3,4,5,14,15,29] rfl
   ·have hqk:q k=true:=(by simpa using h35);have hq0:gj q k=k::gj q (k+1):=(by rw[BO S,YB hqk]);rw[hq0] at hI;refine ai (gS (gM (gM (gM (gR (vB call212 (Au bv V J (k:Int) hsl hsz)) (gM (gX (aC (jy V J (k:Int)).1) (gX (I (jy V J (k:Int)).2.1) (gX (bM (jy V J (k:Int)).2.2) (gA (gA (gQ (ac (gS (gM (gV (fO Vl) (ab ?_)))))))))))))))));apply ah<;>intro h45
    ·have hrd:(jy V J (k:Int)).2.2=0:=(by simpa using h45);refine am (gM (gM (gM (gM (gI (uB call32 (n8 b Y z sess (k:Int) (jy V J (k:Int)).1 hR (hdl _))) ?_)))));rintro _ _ (⟨he,rfl,rfl⟩ | ⟨he,so,co,rfl,rfl⟩)
     ·refine gQ (gS (gM (gV (ck Vl) (ab ?_))));apply ah<;>intro R
      ·refine gS (gM (gQ ?_));exact an (fV bv V::dB b Y z::roL 2 s (aS l)::F) rfl ⟨_,z,hI _ z (by show iG V J sess (k::(gj q (k+1)++gj (mk l) t)) z _ z;unfold iG;rw[YC (by omega),YB he];exact ⟨rfl,rfl⟩),rfl,rfl⟩
      ·have hz:dQ z sess (k:Int) (jy V J (k:Int)).1=0:=(by simpa using R);exact absurd hz he
     ·refine gQ (gS (gM (gV (ck Vl) (ab ?_))));apply ah<;>intro R
      ·simp at R
      ·refine ai (aG (am (gP (gM (ab ?_)))));exact ap (k+1,z.putted sess (k:Int) (jy V J (k:Int)).1 so co) ⟨by simp only[];omega,hR.put he,λe z2 h=>hI e z2 (by show iG V J sess (k::(gj q (k+1)++gj (mk l) t)) z e z2;unfold iG;rw[YC (by omega),YC (by omega)];exact ⟨so,co,h⟩)⟩ (by simp only[];omega) [0,1,2,3,4,5,14,15,29] rfl
    ·have hrd:¬(jy V J (k:Int)).2.2=0:=(by simpa using h45);refine ai (gS (gM (gV (ck Vl) (ab ?_))));apply ah<;>intro R
     ·refine gS (gM (gQ ?_))
      first | exact an (fV bv V::dB b Y z1::roL 2 s (aS l)::F) rfl ⟨0,z1,Z 0 z1 (by rw[YB hfr];exact ⟨rfl,rfl⟩),rfl,rfl⟩ | exact an (fV bv V::dB b Y z::roL 2 s (aS l)::F) rfl ⟨_,z,hI _ z (by show iG V J sess (k::(gj q (k+1)++gj (mk l) t)) z _ z;unfold iG;rw[YB hrd];exact ⟨rfl,rfl⟩),rfl,rfl⟩
     ·exact absurd (by simpa using R) hrd
  ·simp at h30;obtain rfl:k=16:=(by omega);refine aF ?_;refine am (gM (gQ (aG ?_)));refine ap (nx,z) ⟨by simp only[];omega,hR,?_⟩ ?_ [0,1,2,3,4,5,13] rfl
   ·intro e z2 h;refine hI e z2 ?_;rw[FN (by omega),Zg];rcases hnx with ⟨h1,h2⟩ | ⟨h1,h2⟩
    ·rw[h2,FN (by omega)];rw[YB h1] at h;exact h
    ·rw[YC (by omega),h2] at h;simpa using h
   ·simp only[];rcases hnx with ⟨h1,h2⟩ | ⟨h1,h2⟩
    ·rw[YB h1,YC (by omega)];omega
    ·rw[YC (by omega),YC (by omega)];omega
 ·have hfr:fr<0:=(by simp at h21;omega);refine aF ?_;refine gS (gQ ?_)
  first | exact an (fV bv V::dB b Y z1::roL 2 s (aS l)::F) rfl ⟨0,z1,Z 0 z1 (by rw[YB hfr];exact ⟨rfl,rfl⟩),rfl,rfl⟩ | exact an (fV bv V::dB b Y z::roL 2 s (aS l)::F) rfl ⟨_,z,hI _ z (by show iG V J sess (k::(gj q (k+1)++gj (mk l) t)) z _ z;unfold iG;rw[YB hrd];exact ⟨rfl,rfl⟩),rfl,rfl⟩
def qy {V:VdM}{J sess:Int}:∀{l:List Nat} {z z2:RpM} {e:Int},Rok z->iG V J sess l z e z2->Rok z2/\SameS z z2
 | [],z,z2,e,R,h=>by obtain ⟨_,rfl⟩:=h;exact ⟨R,SameS.refl _⟩
 | p::l,z,z2,e,R,h=>by
  unfold iG at h;by_cases h1:(jy V J p).2.2≠0
  ·grind[SameS.refl]
  ·rw[YC h1] at h;by_cases O:dQ z sess p (jy V J p).1≠0
   ·grind[SameS.refl]
   ·rw[YC O] at h;obtain ⟨so,co,h⟩:=h;obtain ⟨a,b⟩:=qy (R.put (Decidable.not_not.1 O)) h;exact ⟨a,(ld _ _ _ _ _ _).trans b⟩
theorem Dk.same {i:Nat}{D:DiskM}{z z2:RpM}(h:Dk i D z)(s:SameS z z2):Dk i D z2:=by
 obtain ⟨O,s2,J,_⟩:=s;exact ⟨h.ok,h.s80,by rw[O];exact h.hd,by rw[J];exact h.len,by rw[J];exact h.okr,by rw[s2];exact h.used,by rw[J];exact h.srt⟩
def N4 {l:List SeE}{id:Int}(h:gk l id=none):lR l id=l:=by
 simp_all[gk,lR]
def po (D:DiskM)(V:VdM)(z:RpM)(disk snap base:Int)(m:Nat->Bool)(page n e:Int)(D2:DiskM)(z2:RpM):Prop:=
 if (ft V snap).2≠0 then n=0/\e=(ft V snap).2/\D2=D/\z2=z
 else if page<1 then n=0/\e=1/\D2=D/\z2=z
 else if ce z base disk (ft V snap).1≠0 then n=0/\e=ce z base disk (ft V snap).1/\D2=D/\z2=z
 else ∃a e1 z1,iG V snap z.next (gj (mk (dp (uI m (ft V snap).1))) 0) (z.begun a base disk (ft V snap).1) e1 z1/\
  ((e1≠0/\n=0/\e=e1/\D2=D/\z2=z1.sess (lR z1.ses z.next))\/
   (e1=0/\∃n1 e2 y,zy D z1 z.next n1 e2 D2 y/\((e2≠0/\n=0/\e=e2/\z2=y.sess (lR y.ses z.next))\/(e2=0/\n=n1/\e=0/\z2=y))))
def BQ {z:RpM}{id:Int}(h:gk z.ses id=none):z.sess (lR z.ses id)=z:=by rw[N4 h];rfl
def pH {ee:Bool}(bv b R:Nat)(V:VdM)(z:RpM)(D:DiskM)(disk J base:Int)(l:List Area)(s:Option Addr)(cap:Nat)(X:Int)(hR:Rok z)(hn:z.next<=999999)(hD:Dk 1000 D z)(hsl:V.snaps.length<=1000000)(hsz:∀s∈V.snaps,s.size<=16)(hdl:∀p,(jy V J p).1.length<=9223372036854775807)(hl:l.length<=1000000)(hv:DH l)(F:List ag):Ct Tryz.prog 69 [ptr bv 0,ptr b 0,I disk,I J,I base,sl s l.length cap,I X] (bh ee::fV bv V::dB b R z::cf 179 319 R (D)::roL 2 s (aS l)::F) (λv L'=>∃n e D2 z2,po D V z disk J base (mk l) X n e D2 z2/\v= .tuple #[I n,bM e]/\L'=dB b R (z2)::fV bv V::cf 179 319 R (D2)::bh ee::roL 2 s (aS l)::F):=by
 refine Ct.of func69 rR 71 ntmps69 (by simp) λw0=>?_;refine gS (gA (gQ (gS (gM (gM (gR (vB call143 (wL bv V J hsl)) (gM (gX (I (ft V J).1) (gX (bM (ft V J).2) (gA (gQ (ac (gS (gM (gV (ck Vl) (ab ?_))))))))))))))));apply ah<;>intro h27
 ·have O:(ft V J).2≠0:=(by simpa using h27);refine gS (gM (gA (gQ ?_)));exact an (dB b R (z)::fV bv V::cf 179 319 R (D)::bh ee::roL 2 s (aS l)::F) rfl ⟨0,(ft V J).2,D,z,by unfold po;rw[YB O];exact ⟨rfl,rfl,rfl,rfl⟩,rfl,rfl⟩
 ·have O:¬(ft V J).2≠0:=(by simpa using h27);refine ai (ac (gS (gM (gV aI (ab ?_)))));apply ah<;>intro h30
  ·have S:X<1:=(by simpa using h30);refine gS (gV (aZ Vn) (gA (gQ ?_)));exact an (dB b R (z)::fV bv V::cf 179 319 R (D)::bh ee::roL 2 s (aS l)::F) rfl ⟨0,1,D,z,by unfold po;rw[YC O,YB S];exact ⟨rfl,rfl,rfl,rfl⟩,rfl,rfl⟩
  ·have S:¬X<1:=(by simpa using h30);refine ai (gS (gM (gM (gM (gM (gI (uB call31 (mD b R z base disk (ft V J).1 hR)) ?_))))));rintro _ _ (⟨hbe,rfl,rfl⟩ | ⟨hbe,a,rfl,rfl⟩)
   ·refine gM (gX (I 0) (gX (bM (ce z base disk (ft V J).1)) (gA (gQ (ac (gS (gM (gV (ck Vl) (ab ?_)))))))));apply ah<;>intro h41
    ·refine gS (gM (gA (gQ ?_)));exact an (dB b R (z)::fV bv V::cf 179 319 R (D)::bh ee::roL 2 s (aS l)::F) rfl ⟨0,ce z base disk (ft V J).1,D,z,by unfold po;rw[YC O,YC S,YB hbe];exact ⟨rfl,rfl,rfl,rfl⟩,rfl,rfl⟩
    ·exact absurd (by simpa using h41) hbe
   ·refine gM (gX (I z.next) (gX (bM 0) (gA (gQ (ac (gS (gM (gV (ck Vl) (ab ?_)))))))));apply ah<;>intro h41
    ·simp at h41
    ·refine ai (gS (gM (gM (gM (gM (gM (gM (gI (uB call145 (DW l s cap (ft V J).1 hl hv)) ?_))))))));rintro _ _ ⟨s49,c49,rfl,rfl⟩;refine bR s49 ?_;refine gM (gI (uD call144 (wQ bv b R V (z.begun a base disk (ft V J).1) z.next J (dp (uI (mk l) (ft V J).1)) s49 c49 X (hR.begin hn hbe) hsl hsz hdl (by have:=kX (uI (mk l) (ft V J).1);omega) (k6 _) (by omega))) ?_);rintro _ _ ⟨e1,Y,Z,rfl,rfl⟩;obtain ⟨hR1,hS1⟩:=qy (hR.begin hn hbe) Z;have hD1:Dk 1000 D Y:=Dk.same (z:=(z.begun a base disk (ft V J).1)) ⟨hD.ok,hD.s80,hD.hd,hD.len,hD.okr,hD.used,hD.srt⟩ hS1;refine gQ (ac (gS (gM (gV (ck Vl) (ab ?_)))));apply ah<;>intro h53
     ·have he1:e1≠0:=(by simpa using h53);refine gS (gM (gM (gI (uB call44 (jq b R (Y) z.next)) ?_)));rintro _ _ (⟨hno,rfl,rfl⟩ | ⟨w,hw,rfl,rfl⟩);rotate_left
      ·refine ab (gS (gM (gA (gQ ?_))));exact an (dB b R (Y.sess (lR Y.ses z.next))::fV bv V::cf 179 319 R (D)::bh ee::roL 2 s (aS l)::F) rfl ⟨0,e1,D,Y.sess (lR Y.ses z.next),by unfold po;rw[YC O,YC S,YC (by omega)];exact ⟨a,e1,Y,Z, .inl ⟨he1,rfl,rfl,rfl,rfl⟩⟩,rfl,rfl⟩
      ·rw[<-BQ hno];refine ab (gS (gM (gA (gQ ?_))));exact an (dB b R (Y.sess (lR Y.ses z.next))::fV bv V::cf 179 319 R (D)::bh ee::roL 2 s (aS l)::F) rfl ⟨0,e1,D,Y.sess (lR Y.ses z.next),by unfold po;rw[YC O,YC S,YC (by omega)];exact ⟨a,e1,Y,Z, .inl ⟨he1,rfl,rfl,rfl,rfl⟩⟩,rfl,rfl⟩
     ·have he1:e1=0:=(by simpa using h53);subst he1;refine ai (gS (gM (gM (gI (uD (A0:=bh ee) call33 (lD b R 1000 Y z.next hR1 D hD1 (by decide))) ?_))));rintro _ _ ⟨n1,e2,D2,y,hf,rfl,rfl⟩;refine gM (gX (I n1) (gX (bM e2) (gA (gQ (ac (gS (gM (gV (ck Vl) (ab ?_)))))))));apply ah<;>intro h65
      ·have he2:e2≠0:=(by simpa using h65);refine gS (gM (gM (gI (uB call44 (jq b R (y) z.next)) ?_)));rintro _ _ (⟨hno,rfl,rfl⟩ | ⟨w,hw,rfl,rfl⟩);rotate_left
       ·refine ab (gS (gM (gA (gQ ?_))));exact an (dB b R (y.sess (lR y.ses z.next))::fV bv V::cf 179 319 R (D2)::bh ee::roL 2 s (aS l)::F) rfl ⟨0,e2,D2,y.sess (lR y.ses z.next),by unfold po;rw[YC O,YC S,YC (by omega)];exact ⟨a,0,Y,Z, .inr ⟨rfl,n1,e2,y,hf, .inl ⟨he2,rfl,rfl,rfl⟩⟩⟩,rfl,rfl⟩
       ·rw[<-BQ hno];refine ab (gS (gM (gA (gQ ?_))));exact an (dB b R (y.sess (lR y.ses z.next))::fV bv V::cf 179 319 R (D2)::bh ee::roL 2 s (aS l)::F) rfl ⟨0,e2,D2,y.sess (lR y.ses z.next),by unfold po;rw[YC O,YC S,YC (by omega)];exact ⟨a,0,Y,Z, .inr ⟨rfl,n1,e2,y,hf, .inl ⟨he2,rfl,rfl,rfl⟩⟩⟩,rfl,rfl⟩
      ·have he2:e2=0:=(by simpa using h65);subst he2;refine ai (gS (gM (gA (gQ ?_))));exact an (dB b R (y)::fV bv V::cf 179 319 R (D2)::bh ee::roL 2 s (aS l)::F) rfl ⟨n1,0,D2,y,by unfold po;rw[YC O,YC S,YC (by omega)];exact ⟨a,0,Y,Z, .inr ⟨rfl,n1,0,y,hf, .inr ⟨rfl,rfl,rfl,rfl⟩⟩⟩,rfl,rfl⟩
def QU (x y:Int)(w:World):(Instr.build 142 #[(0,I x),(1,I y)]).run Tryz.prog w= .ok (.agg #[I x,I y]) w:=by
 simp[Instr.build,WX,Ya,Vb,Instr.fill,bB,show ∀k:Int,(I k).cells=#[I k] from λ_=>rfl]
def wR:List Area:=[⟨0,16⟩]
def I8:DH wR:=λa J=>by
 unfold wR at J;rw[kad] at J;subst J;decide
def pI {ee:Bool}(bv b bd:Nat)(V:VdM)(z:RpM)(D:DiskM)(disk snap page:Int)(hR:Rok z)(hn:z.next<=999999)(hD:Dk 1000 D z)(hsl:V.snaps.length<=1000000)(hsz:∀s∈V.snaps,s.size<=16)(hdl:∀p,(jy V snap p).1.length<=9223372036854775807)(F:List ag):Ct Tryz.prog 20 [ptr bv 0,ptr b 0,I disk,I snap,I page] (bh ee::fV bv V::dB b bd z::cf 179 319 bd (D)::F) (λv L'=>∃n e D2 z2,po D V z disk snap 0 (mk wR) page n e D2 z2/\v= .tuple #[I n,bM e]/\L'=dB b bd z2::fV bv V::cf 179 319 bd (D2)::bh ee::F):=by
 refine Ct.of func20 rR 22 ntmps20 (by simp) λw0=>?_;refine gS (gA (gQ (gS (gM (gM (gM (gM (gV (aR (QU 0 16)) (gI (av (aS wR) Wn Wo WX (by simp[wR,aS])) ?_)))))))));rintro _ _ ⟨b17,rfl,rfl⟩;refine gM ?_;refine bR (some ⟨b17,0,none⟩) ?_;refine gI (uF (A0:=bh ee) call69 (pH bv b bd V z D disk snap 0 wR (some ⟨b17,0,none⟩) 1 page hR hn hD hsl hsz hdl (by decide) I8)) ?_;rintro _ _ ⟨n,e,D2,z2,hc,rfl,rfl⟩;refine gX (I n) (gX (bM e) (gA (gQ ?_)));exact an (dB b bd z2::fV bv V::cf 179 319 bd (D2)::bh ee::F) rfl ⟨n,e,D2,z2,hc,rfl,rfl⟩
def wS {ee:Bool}(bv b S:Nat)(V:VdM)(z:RpM)(D:DiskM)(disk O J base R:Int)(hR:Rok z)(hn:z.next<=999999)(hD:Dk 1000 D z)(hsl:V.snaps.length<=1000000)(hsz:∀s∈V.snaps,s.size<=16)(hdl:∀p,(jy V O p).1.length<=9223372036854775807)(hca:(qx V J O).length<=1000000)(hvc:DH (qx V J O))(F:List ag):Ct Tryz.prog 22 [ptr bv 0,ptr b 0,I disk,I O,I J,I base,I R] (bh ee::fV bv V::dB b S z::cf 179 319 S (D)::F) (λv L'=>∃n e Z z2,((pm V J O≠0/\n=0/\e=pm V J O/\Z=D/\z2=z)\/(pm V J O=0/\po D V z disk O base (mk (qx V J O)) R n e Z z2))/\v= .tuple #[I n,bM e]/\L'=dB b S z2::fV bv V::cf 179 319 S (Z)::bh ee::F):=by
 refine Ct.of func22 rR 38 ntmps22 (by simp) λw0=>?_;refine gS (gA (gQ (gS (gM (gM (gM (gI (uB call71 (vO bv V J O hsl)) ?_)))))));rintro _ _ ⟨Y,c22,rfl,rfl⟩;refine bR Y ?_;refine gM (gX (sl Y (qx V J O).length c22) (gX (bM (pm V J O)) (gA (gQ (ac (gS (gM (gV (ck Vl) (ab ?_)))))))));apply ah<;>intro h26
 ·have X:pm V J O≠0:=(by simpa using h26);refine gS (gM (gA (gQ ?_)));exact an (dB b S z::fV bv V::cf 179 319 S (D)::bh ee::F) rfl ⟨0,pm V J O,D,z, .inl ⟨X,rfl,rfl,rfl,rfl⟩,rfl,rfl⟩
 ·have X:pm V J O=0:=(by simpa using h26);refine ai (gS (gM (gM (gM (gM (gM (gM (gM (gI (uF (A0:=bh ee) call69 (pH bv b S V z D disk O base (qx V J O) Y c22 R hR hn hD hsl hsz hdl hca hvc)) ?_)))))))));rintro _ _ ⟨n,e,Z,z2,hc,rfl,rfl⟩;refine gX (I n) (gX (bM e) (gA (gQ ?_)));exact an (dB b S z2::fV bv V::cf 179 319 S (Z)::bh ee::F) rfl ⟨n,e,Z,z2, .inr ⟨X,hc⟩,rfl,rfl⟩
end Go.Proofs.YthdjckbjjfiopabGreatDoor