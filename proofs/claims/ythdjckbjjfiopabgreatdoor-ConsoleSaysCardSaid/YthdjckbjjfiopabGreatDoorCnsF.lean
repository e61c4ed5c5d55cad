/- Several texts in one: walks and rules used by them. No condition. -/
import Derived.Test.YthdjckbjjfiopabGreatDoorCnsE
import Derived.Test.YthdjckbjjfiopabGreatDoorCnsD
import Derived.Test.YthdjckbjjfiopabGreatDoorCnsA
import Derived.Test.YthdjckbjjfiopabGreatDoorCnsC
set_option linter.unusedSimpArgs false
set_option linter.unusedVariables false
set_option synthInstance.maxSize 9999
set_option synthInstance.maxHeartbeats 0
set_option linter.defProp false
set_option maxHeartbeats 800000
namespace Go.Proofs.YthdjckbjjfiopabGreatDoor
open _root_.Go.Proofs.Tryz
open Go.Sl Go.Proofs
variable {S:SI}{q:Int}
theorem W7 (hq:0<=q):((xS S).B q.toNat).1=(wQ S.B q).1:=by
 show ((S.B (q.toNat:Int)).getD ([],0)).1=_
 grind[wQ]
def DG {G}(V:Val G)(h:rt G q):Lj (bH G) q:=⟨qz V h,λi hi=>⟨M0 V (qy V h hi),λj hj=>(CX V (qy V h hi) hj).imp id λ⟨d,e⟩=>⟨_,kJ e⟩⟩⟩
variable {d:Bytes}
theorem Lk {B}(h:∃x,B q=some x):∃x,mj B d q=some x:=by
 unfold mj;split
 ·exact h
 ·cases J:ef 40 B with
  | none=>exact h
  | some k=>
   grind[aD]
def Hz (h:Lj S q)d:Lj (aj S d) q:=by
 refine ⟨h.1,λi hi=>?_⟩;rw[ui];refine ⟨(h.2 i hi).1,λj hj=>((h.2 i hi).2 j hj).imp id λhx=>?_⟩;unfold aj;split
 ·exact hx
 ·exact Lk hx
theorem BI S d:0<=(aq S d).1/\(aq S d).1<=40/\0<=(aq S d).2:=by
 grind[aq,kH,ef]
theorem FP (h:(aq S d).2=0):(aq S d).1=0\/∃x,(aj S d).B (aq S d).1=some x:=by
 unfold aq aj at*;by_cases hd:d=[]
 ·grind
 ·rw[kaU hd] at h ⊢;rw[kaU hd];right;unfold kH mj at*;by_cases J:6<d.length\/d=[]
  ·grind
  ·rw[kaU J] at h ⊢;rw[kaU J];cases O:ef 40 S.B with
   | none=>rw[O] at h;simp at h
   | some k=>exact ⟨(d,1),by simp[aD]⟩
variable {i k:Nat}{ec:TypeId}{f:Nat×Nat}
theorem Og {X o n}(hk:k<25)(hi:i<4)(ho:o=82+(k*5+i))(hn:ga (X.N k)=ga n):bK (.cells (xC X) ec f) o=some (I (bZ n i)):=by
 have:=uK (X:=X) (k:=k) (o:=82+k*5) (ec:=ec) (f:=f) (n:=n) hk rfl hn i (I (bZ n i)) (g7 n i hi)
 grind
theorem oU S n:0<=(br S n).2:=by grind[Fc]
def zJ b S q m(hok:ii m S)(hm:0<=m/\m<=1000000)(hq:q<=24)F:cqq 202 [ptr b 0,I q] (kY b (xS S)::F) (R1 (I q) (kY b (xS (eP S q))::F)):=by
 refine Ct.of func202 W 20 ntmps202 (by simp) λw0=>?_;refine A<|T<|ac<|A<|C<|M aQ<|ab<|ah ?_ ?_<;>intro J
 ·simp at J;refine eE (Lf:=[kY b (xS S)]) jI 12 ?_;refine dM W<|dM W<|dV W aa<|dF W 82 X8 W YA<|dV W (bp (q.toNat) YB X0 (hj:=by omega) (by omega))<|dF W 4 XV W Xu<|dV W (aA (v:=I ((xS S).N q.toNat).refs) Xv (hv:=⟨si (j:=4) (by omega) W⟩))<|dV W (bx (cK (by rw[lJ (by omega)];have:=nQ hok hm.1 q;omega)))<|dV W aa<|dF W 82 X8 W YA<|dV W (bp (q.toNat) YB X0 (hj:=by omega) (by omega))<|dF W 4 XV W Xu ?_;refine aN ?_;refine gU (aJ (xC ⟨(xS S).B,gn (xS S).N q.toNat (rf ((xS S).N q.toNat) (((xS S).N q.toNat).refs+1))⟩) Xu (by rw[i7];omega) (hcs:=by exact mo (j:=4) (rf ((xS S).N q.toNat) (((xS S).N q.toNat).refs+1)) (by omega) (by omega) (by omega) W))<|ab<|A<|C<|T ?_;rw[lJ (by omega),uJ (by omega),show (⟨S.B,aD S.N q (some (rf (gN S.N q) ((gN S.N q).refs+1)))⟩:SI)=eP S q by unfold eP;rw[kaT J];rfl]
  first | exact am rfl rfl rfl | exact gh rfl rfl rfl
 ·simp at J;refine ai<|A<|C<|T ?_;rw[show xS S=xS (eP S q) by unfold eP;rw[iOm]]
  first | exact am rfl rfl rfl | exact gh rfl rfl rfl
def BJ b S q m(hok:ii m S)(hm:0<=m/\m<=1000000)(hq:0<=q/\q<=24)(hk:∀i,i<4->0<=bZ (gN S.N q) i/\bZ (gN S.N q) i<=24)F:cqq 207 [ptr b 0,I q] (kY b (xS S)::F) (R1 (.tuple #[]) (kY b (xS (rH S q))::F)):=by
 refine Ct.of func207 W 7 ntmps207 (by simp) λw0=>?_;refine al<|C<|C<|gR (vB call254 (FO b S q m hok hm hq hk))<|ab ?_
 first | exact am rfl rfl rfl | exact gh rfl rfl rfl
def FQ b S root(at_:Nat)m(hok:ii m S)(J:at_<16)(O:Lj S root)F:cqq 204 [ptr b 0,I root,I at_] (kY b (xS S)::F) (R1 (ay (jj S root at_)) (kY b (xS S)::F)):=by
 have hr:=O.1;have hk:=(O.2 (at_ / 4) (by omega)).1;have hj:=Of hok O (i:=at_ / 4) (j:=at_ % 4) (by omega) (by omega);refine Ct.of func204 W 34 ntmps204 (by simp) λw0=>?_;refine A<|T<|A<|C<|C<|C<|M (qd (E7 at_ J))<|M aa<|gF 82 X8 W YA<|M (bp (root.toNat) YB X0 (hj:=by omega) (by omega))<|gF 0 XV W XR<|M (bp (at_ / 4) X6 Xu (by omega))<|M (aA (v:=I (bZ (gN S.N root) (at_ / 4))) Xv (hv:=⟨Og (X:=xS S) (k:=root.toNat) (i:=at_ / 4) (n:=gN S.N root) (by omega) (by omega) (by omega) (by rw[lJ hr.1])⟩))<|T<|ac ?_;refine dy jC ?_;refine dM W<|dM W<|dM W<|dM W<|dV W (tq (by exact QL at_))<|dV W aa<|dF W 82 X8 W YA<|dV W (bp ((bZ (gN S.N root) (at_ / 4)).toNat) YB X0 (hj:=by omega) (by omega))<|dF W 0 XV W XR<|dV W (bp (at_ % 4) X6 Xu (by omega))<|dV W (aA (v:=I (bZ (gN S.N (bZ (gN S.N root) (at_ / 4))) (at_ % 4))) Xv (hv:=⟨Og (X:=xS S) (k:=(bZ (gN S.N root) (at_ / 4)).toNat) (i:=at_ % 4) (n:=gN S.N (bZ (gN S.N root) (at_ / 4))) (by omega) (by omega) (by omega) (by rw[lJ hk.1])⟩))<|dV W aa<|dF W 0 X8 W Zc<|dV W (bp ((bZ (gN S.N (bZ (gN S.N root) (at_ / 4))) (at_ % 4)).toNat) Zd Yn (hj:=by omega) (by omega))<|dF W 0 YF W Xx<|dV W (aA (v:=ay (jj S root at_)) XD (hv:=⟨by have:=JJ (X:=xS S) (k:=(bZ (gN S.N (bZ (gN S.N root) (at_ / 4))) (at_ % 4)).toNat) (ec:=190) (f:=(0,0)) (o:=0+0+(bZ (gN S.N (bZ (gN S.N root) (at_ / 4))) (at_ % 4)).toNat*2+0) (by omega) (by omega);rw[W7 hj.1] at this;exact this⟩))<|dV W ax ?_;refine aN ?_
 first | exact am rfl rfl rfl | exact gh rfl rfl rfl
def Oh b S root(at_:Nat)(d:Bytes)m(hok:ii m S)(hm:1<=m/\m<=800000)(hat:at_<16)(hd:d.length<=9223372036854775807)(hg:Lj S root)F:cqq 253 [ptr b 0,I root,I at_,ay d] (kY b (xS S)::F) (R1 (.tuple #[I (dH S root at_ d).1,I (dH S root at_ d).2]) (kY b (xS (jk S root at_ d))::F)):=by
 have Y:=Bp hok hm.1 d;have hg1:=Hz hg d;have hb:=BI S d;have Z:ii (m+4) (bu true (aj S d) (bD (aj S d) root at_ (aq S d).1)):=tZ Y hm.1 (λh=>by cases h);have hok3:ii (m+4) (kj (bu true (aj S d) (bD (aj S d) root at_ (aq S d).1)) (aq S d).1):=IF Z _;have V:∀i,i<4->0<=bZ (ei (aj S d) root at_ (br (aj S d) (bD (aj S d) root at_ (aq S d).1)).1) i/\bZ (ei (aj S d) root at_ (br (aj S d) (bD (aj S d) root at_ (aq S d).1)).1) i<=24:=λi hi=>by
  unfold ei;rw[yP _ _ _ _ (by omega) hi];split
  ·exact yO _ _
  ·exact (hg1.2 i hi).1
 have hok4:ii (m+4+4) (bu false (kj (bu true (aj S d) (bD (aj S d) root at_ (aq S d).1)) (aq S d).1) (ei (aj S d) root at_ (br (aj S d) (bD (aj S d) root at_ (aq S d).1)).1)):=tZ hok3 (by omega) (λ_=>V);refine Ct.of func253 W 82 ntmps253 (by simp) λw0=>?_;refine A<|gA<|T<|A<|T<|ac<|A<|C<|M lN<|ab ?_;refine lV (α:=Unit) (λ_=>(aq S d).2=0) (λ_=>U [(0,ptr b 0),(1,I root),(2,I at_),(10,I (aq S d).1)]) (λ_=>kY b (xS (aj S d))::F) ?_ ?_
 ·apply ah<;>intro J
  ·simp at J;refine A<|C<|C<|gR (vB call274 (Av b (xS S) d hd)) ?_;rw[FN hok,Uy hok];refine C<|gX (I (kH S.B d).1)<|gX (I (kH S.B d).2)<|gA<|T<|ac<|A<|C<|M aQ<|ab<|ah ?_ ?_<;>intro h27
   ·simp at h27;refine A<|C<|gA<|T ?_;have hE:aq S d=kH S.B d:=(by unfold aq;rw[kaU J]);have R:(⟨mj S.B d,S.N⟩:SI)=aj S d:=(by unfold aj;rw[kaU J]);rw[R,<-hE];rw[<-hE] at h27;rw[show dH S root at_ d=(0,(aq S d).2) by unfold dH;simp only;rw[kaT (by omega)],show jk S root at_ d=(aj S d) by unfold jk;simp only;rw[kaT (by omega)]];exact am rfl rfl rfl
   ·simp at h27;refine ai<|al<|C<|T ?_;have hE:aq S d=kH S.B d:=(by unfold aq;rw[kaU J]);have R:(⟨mj S.B d,S.N⟩:SI)=aj S d:=(by unfold aj;rw[kaU J]);rw[R,<-hE];exact cJ () (by rw[hE];have:=(BI S d).2.2;rw[hE] at this;omega) [0,1,2,10] rfl
  ·simp at J;refine ai ?_;have hE:aq S d=(0,0):=(by unfold aq;rw[kaT J]);have R:S=aj S d:=(by unfold aj;rw[kaT J]);rw[show kY b (xS S)=kY b (xS (aj S d)) by rw[<-R],show (0:Int)=(aq S d).1 by rw[hE]];exact cJ () (by rw[hE]) [0,1,2,10] rfl
 rintro _ hbe;have hr:=hg1.1;have hk1:=(hg1.2 (at_ / 4) (by omega)).1;have hkt:∀i,i<4->bZ (bD (aj S d) root at_ (aq S d).1) i=0\/∃x,(aj S d).B (bZ (bD (aj S d) root at_ (aq S d).1) i)=some x:=λi hi=>by
  unfold bD;rw[yP _ _ _ _ (kbD _ (by decide)) hi];split
  ·exact FP hbe
  ·exact (hg1.2 (at_ / 4) (by omega)).2 i hi
 have hkp:∀i,i<4->0<=bZ (bD (aj S d) root at_ (aq S d).1) i:=λi hi=>by
  rcases hkt i hi with h | ⟨x,hx⟩
  ·omega
  ·have:=Y.1 _ x hx;omega
 have hlb:=yO (aj S d) (bD (aj S d) root at_ (aq S d).1);refine A<|C<|C<|M aa<|gF 82 X8 W YA<|M (bp (root.toNat) YB X0 (hj:=by omega) (by omega))<|gF 0 XV W XR<|M (bj (vs:=ga (gN (aj S d).N root)) Yu XR (uK (X:=xS (aj S d)) (k:=root.toNat) (by omega) (by omega) (by rw[lJ hr.1])))<|gI (aO #[I 0,I 0,I 0,I 0] ZK) ?_;rintro _ _ ⟨b13,rfl,rfl⟩;refine gU (az (cs:=#[I 0,I 0,I 0,I 0]) (vs:=ga (gN (aj S d).N root)) (ga (gN (aj S d).N root)).toArray XR (by simp) (hcs:=by exact aH))<|ab<|ac ?_;refine cn (Lf:=[kY b (xS (aj S d)),pcc b13 (ga (gN (aj S d).N root)).toArray 185]) jK ?_;refine dM W<|dM W<|dV W (qd (E7 at_ hat))<|dV W (bp (at_ / 4) X6 Xu (by omega))<|dV W (aA (v:=I (bZ (gN (aj S d).N root) (at_ / 4))) Xv (hv:=⟨by simpa [bK] using g7 (gN (aj S d).N root) (at_ / 4) (by omega)⟩))<|dV W aa<|dF W 82 X8 W YA<|dV W (bp ((bZ (gN (aj S d).N root) (at_ / 4)).toNat) YB X0 (hj:=by omega) (by omega))<|dF W 0 XV W XR<|dV W (bj (vs:=ga (gN (aj S d).N (bZ (gN (aj S d).N root) (at_ / 4)))) Yu XR (uK (X:=xS (aj S d)) (k:=(bZ (gN (aj S d).N root) (at_ / 4)).toNat) (by omega) (by omega) (by rw[lJ hk1.1])))<|cQ W (aO #[I 0,I 0,I 0,I 0] ZK) ?_;rintro _ _ ⟨b14,rfl,rfl⟩;refine rE W (az (cs:=#[I 0,I 0,I 0,I 0]) (vs:=ga (gN (aj S d).N (bZ (gN (aj S d).N root) (at_ / 4)))) (ga (gN (aj S d).N (bZ (gN (aj S d).N root) (at_ / 4)))).toArray XR (by simp) (hcs:=by exact aH)) ?_;rintro _ _ rfl;refine aN ?_;refine A<|C<|M (tq (by exact QL at_))<|C<|M (bp (at_ % 4) X6 Xu (kbD _ (by decide)))<|gU (aJ (ga (bD (aj S d) root at_ (aq S d).1)).toArray Xu (by simp;omega) (hcs:=by exact vL (kbD _ (by decide)) (by omega)))<|ab<|A<|C<|M (bj (vs:=ga (bD (aj S d) root at_ (aq S d).1)) Yu XR bM)<|gR (vB call275 (v7 b (aj S d) (bD (aj S d) root at_ (aq S d).1) true m Y (by omega) hkp (λ_=>hkt) (λh=>by cases h)))<|C<|gX (I (br (aj S d) (bD (aj S d) root at_ (aq S d).1)).1)<|gX (I (br (aj S d) (bD (aj S d) root at_ (aq S d).1)).2)<|gA<|T<|ac<|A<|C<|M aQ<|ab ?_;apply ah<;>intro h58
 ·simp at h58;refine A<|C<|gA<|T ?_;rw[show dH S root at_ d=(0,(br (aj S d) (bD (aj S d) root at_ (aq S d).1)).2) by unfold dH;simp only;rw[iOm,kaT (by omega)],show jk S root at_ d=(bu true (aj S d) (bD (aj S d) root at_ (aq S d).1)) by unfold jk;simp only;rw[iOm,kaT (by omega)]];exact am rfl rfl rfl
 ·simp at h58;refine ai<|ac<|A<|C<|M aQ<|ab<|ah ?_ ?_<;>intro h61
  ·simp at h61;refine al<|C<|C<|gR (vB call276 (sj b (xS (bu true (aj S d) (bD (aj S d) root at_ (aq S d).1))) (aq S d).1 (-1) (Wl Z (by omega) _ _ (.inr W))))<|ab ?_;rw[Oe Z,show (⟨fB (bu true (aj S d) (bD (aj S d) root at_ (aq S d).1)).B (aq S d).1 (-1),(bu true (aj S d) (bD (aj S d) root at_ (aq S d).1)).N⟩:SI)=(kj (bu true (aj S d) (bD (aj S d) root at_ (aq S d).1)) (aq S d).1) by unfold kj;rw[kaT h61]];refine A<|C<|M (qd (E7 at_ hat))<|C<|M (bp (at_ / 4) X6 Xu (by omega))<|gU (aJ (ga (ei (aj S d) root at_ (br (aj S d) (bD (aj S d) root at_ (aq S d).1)).1)).toArray Xu (by simp;omega) (hcs:=by exact vL (by omega) (by omega)))<|ab<|A<|C<|M (bj (vs:=ga (ei (aj S d) root at_ (br (aj S d) (bD (aj S d) root at_ (aq S d).1)).1)) Yu XR bM)<|gR (vB call275 (v7 b (kj (bu true (aj S d) (bD (aj S d) root at_ (aq S d).1)) (aq S d).1) (ei (aj S d) root at_ (br (aj S d) (bD (aj S d) root at_ (aq S d).1)).1) false (m+4) hok3 (by omega) (λi hi=>(V i hi).1) (λh=>by cases h) (λ_ i hi=>(V i hi).2)))<|C<|gX (I (br (kj (bu true (aj S d) (bD (aj S d) root at_ (aq S d).1)) (aq S d).1) (ei (aj S d) root at_ (br (aj S d) (bD (aj S d) root at_ (aq S d).1)).1)).1)<|gX (I (br (kj (bu true (aj S d) (bD (aj S d) root at_ (aq S d).1)) (aq S d).1) (ei (aj S d) root at_ (br (aj S d) (bD (aj S d) root at_ (aq S d).1)).1)).2)<|gA<|T<|ac<|A<|C<|M aQ<|ab ?_;apply ah<;>intro O
   ·simp at O;refine A<|C<|gA<|T ?_;have hl0:=oU (aj S d) (bD (aj S d) root at_ (aq S d).1);rw[show dH S root at_ d=(0,(br (kj (bu true (aj S d) (bD (aj S d) root at_ (aq S d).1)) (aq S d).1) (ei (aj S d) root at_ (br (aj S d) (bD (aj S d) root at_ (aq S d).1)).1)).2) by unfold dH;simp only;rw[iOm,iOm,kaT (by omega)],show jk S root at_ d=(bu false (kj (bu true (aj S d) (bD (aj S d) root at_ (aq S d).1)) (aq S d).1) (ei (aj S d) root at_ (br (aj S d) (bD (aj S d) root at_ (aq S d).1)).1)) by unfold jk;simp only;rw[iOm,iOm,kaT (by omega)]];exact am rfl rfl rfl
   ·simp at O;refine ai<|A<|C<|C<|gR (vB call254 (qN b (bu false (kj (bu true (aj S d) (bD (aj S d) root at_ (aq S d).1)) (aq S d).1) (ei (aj S d) root at_ (br (aj S d) (bD (aj S d) root at_ (aq S d).1)).1)) (br (aj S d) (bD (aj S d) root at_ (aq S d).1)).1 (m+4+4) hok4 (by omega) hlb))<|ab<|A<|C<|gA<|T ?_;have hl0:=oU (aj S d) (bD (aj S d) root at_ (aq S d).1);have ho0:=oU (kj (bu true (aj S d) (bD (aj S d) root at_ (aq S d).1)) (aq S d).1) (ei (aj S d) root at_ (br (aj S d) (bD (aj S d) root at_ (aq S d).1)).1);rw[show dH S root at_ d=((br (kj (bu true (aj S d) (bD (aj S d) root at_ (aq S d).1)) (aq S d).1) (ei (aj S d) root at_ (br (aj S d) (bD (aj S d) root at_ (aq S d).1)).1)).1,0) by unfold dH;simp only;rw[iOm,iOm,iOm],show jk S root at_ d=lE (bu false (kj (bu true (aj S d) (bD (aj S d) root at_ (aq S d).1)) (aq S d).1) (ei (aj S d) root at_ (br (aj S d) (bD (aj S d) root at_ (aq S d).1)).1)) (br (aj S d) (bD (aj S d) root at_ (aq S d).1)).1 by unfold jk;simp only;rw[iOm,iOm,iOm]];exact am rfl rfl rfl
  ·simp at h61;rw[show xS (bu true (aj S d) (bD (aj S d) root at_ (aq S d).1))=xS (kj (bu true (aj S d) (bD (aj S d) root at_ (aq S d).1)) (aq S d).1) by unfold kj;rw[iOm]];refine ai<|A<|C<|M (qd (E7 at_ hat))<|C<|M (bp (at_ / 4) X6 Xu (by omega))<|gU (aJ (ga (ei (aj S d) root at_ (br (aj S d) (bD (aj S d) root at_ (aq S d).1)).1)).toArray Xu (by simp;omega) (hcs:=by exact vL (by omega) (by omega)))<|ab<|A<|C<|M (bj (vs:=ga (ei (aj S d) root at_ (br (aj S d) (bD (aj S d) root at_ (aq S d).1)).1)) Yu XR bM)<|gR (vB call275 (v7 b (kj (bu true (aj S d) (bD (aj S d) root at_ (aq S d).1)) (aq S d).1) (ei (aj S d) root at_ (br (aj S d) (bD (aj S d) root at_ (aq S d).1)).1) false (m+4) hok3 (by omega) (λi hi=>(V i hi).1) (λh=>by cases h) (λ_ i hi=>(V i hi).2)))<|C<|gX (I (br (kj (bu true (aj S d) (bD (aj S d) root at_ (aq S d).1)) (aq S d).1) (ei (aj S d) root at_ (br (aj S d) (bD (aj S d) root at_ (aq S d).1)).1)).1)<|gX (I (br (kj (bu true (aj S d) (bD (aj S d) root at_ (aq S d).1)) (aq S d).1) (ei (aj S d) root at_ (br (aj S d) (bD (aj S d) root at_ (aq S d).1)).1)).2)<|gA<|T<|ac<|A<|C<|M aQ<|ab ?_;apply ah<;>intro O
   ·simp at O;refine A<|C<|gA<|T ?_;have hl0:=oU (aj S d) (bD (aj S d) root at_ (aq S d).1);rw[show dH S root at_ d=(0,(br (kj (bu true (aj S d) (bD (aj S d) root at_ (aq S d).1)) (aq S d).1) (ei (aj S d) root at_ (br (aj S d) (bD (aj S d) root at_ (aq S d).1)).1)).2) by unfold dH;simp only;rw[iOm,iOm,kaT (by omega)],show jk S root at_ d=(bu false (kj (bu true (aj S d) (bD (aj S d) root at_ (aq S d).1)) (aq S d).1) (ei (aj S d) root at_ (br (aj S d) (bD (aj S d) root at_ (aq S d).1)).1)) by unfold jk;simp only;rw[iOm,iOm,kaT (by omega)]];exact am rfl rfl rfl
   ·simp at O;refine ai<|A<|C<|C<|gR (vB call254 (qN b (bu false (kj (bu true (aj S d) (bD (aj S d) root at_ (aq S d).1)) (aq S d).1) (ei (aj S d) root at_ (br (aj S d) (bD (aj S d) root at_ (aq S d).1)).1)) (br (aj S d) (bD (aj S d) root at_ (aq S d).1)).1 (m+4+4) hok4 (by omega) hlb))<|ab<|A<|C<|gA<|T ?_;have hl0:=oU (aj S d) (bD (aj S d) root at_ (aq S d).1);have ho0:=oU (kj (bu true (aj S d) (bD (aj S d) root at_ (aq S d).1)) (aq S d).1) (ei (aj S d) root at_ (br (aj S d) (bD (aj S d) root at_ (aq S d).1)).1);rw[show dH S root at_ d=((br (kj (bu true (aj S d) (bD (aj S d) root at_ (aq S d).1)) (aq S d).1) (ei (aj S d) root at_ (br (aj S d) (bD (aj S d) root at_ (aq S d).1)).1)).1,0) by unfold dH;simp only;rw[iOm,iOm,iOm],show jk S root at_ d=lE (bu false (kj (bu true (aj S d) (bD (aj S d) root at_ (aq S d).1)) (aq S d).1) (ei (aj S d) root at_ (br (aj S d) (bD (aj S d) root at_ (aq S d).1)).1)) (br (aj S d) (bD (aj S d) root at_ (aq S d).1)).1 by unfold jk;simp only;rw[iOm,iOm,iOm]];exact am rfl rfl rfl
def zK b S m(hok:ii m S)F:cqq 110 [ptr b 0] (kY b (xS S)::F) (uX 3 1 (ck 24 S.N).length (bc (ck 24 S.N)) (kY b (xS S)::F)):=by
 refine Ct.of func110 W 22 ntmps110 (by simp) λw0=>?_;refine aY 3 1 (bc []) ?_;refine A<|T<|A<|T<|ac<|A<|T<|ak ?_;refine aL (α:=Nat×List Int×Option Addr×Nat) (λz=>(1<=z.1/\z.1<=25)/\z.2.1=DD (z.1 - 1) S.N) (λz=>U [(0,ptr b 0),(3,sl z.2.2.1 z.2.1.length z.2.2.2),(4,I z.1)]) (λz=>be 3 1 z.2.2.1 z.2.2.2 (bc z.2.1)::kY b (xS S)::F) (λz=>25 - z.1) (1,[],none,0) ⟨by omega,rfl⟩ [0,3,4] rfl ?_;rintro ⟨k,O,s,c⟩ ⟨hk,R⟩;simp only[] at hk R ⊢;have Z:O.length<=24:=(by have:=FL (k - 1) S.N;rw[R];omega);refine ac<|A<|C<|M qe<|ab<|ah ?_ ?_<;>intro X
 ·simp at X;refine ai<|ac<|ak<|A<|C<|C<|M aa<|gF 82 X8 W YA<|M (bp (k) YB X0 (by omega))<|gF 4 XV W Xu<|M (aA (v:=I (gN S.N k).refs) Xv (hv:=⟨si (j:=4) (by omega) W⟩))<|M aQ<|ab<|ah ?_ ?_<;>intro J
  ·simp at J;refine al<|C<|C<|gI (ap [[I k]] XB Xu X5 (by simp)) ?_;rintro _ _ ⟨Y,rfl,rfl⟩;refine gI (aR XB Xu X5 Tryz.typeInfo3 (hn:=by exact cw _) (by simp) (by intro r hr;simp at hr;subst hr;rfl) ⟨by omega,by decide,by decide⟩) ?_;rintro _ _ ⟨V,c20,rfl,rfl⟩;refine T<|aE<|al<|C<|gP<|T ?_;rw[show bc O++ [[I k]]=bc (O++ [(k:Int)]) by simp[bc]];refine an (k+1,O++ [(k:Int)],V,c20) ⟨by simp only[];omega,?_⟩ (by simp only[];omega) [0,3,4] rfl (he:=by simp[U]);simp only[];rw[R,show k+1 - 1=(k - 1)+1 by omega,FM (k:=k) (m:=k - 1) (by omega) (by cases e:S.N (k:Int) with
    | none=>unfold gN at J;rw[e] at J;simp[yN] at J
    | some _=>rfl)]
  ·simp at J;refine ai<|aE<|al<|C<|gP<|T ?_;refine an (k+1,O,s,c) ⟨by simp only[];omega,?_⟩ (by simp only[];omega) [0,3,4] rfl;simp only[];rw[R,show k+1 - 1=(k - 1)+1 by omega,BG (k:=k) (m:=k - 1) (by omega) (by cases e:S.N (k:Int) with
    | none=>rfl
    | some x=>have:=hok.2.2.2 k x e;unfold gN at J;rw[e] at J;simp at J;omega)]
 ·simp at X;obtain rfl:k=25:=(by omega);refine aF ?_;refine A<|C<|T ?_;obtain rfl:O=ck 24 S.N:=R
  first | exact cU rfl rfl rfl rfl | exact g_endSl rfl rfl rfl rfl
def Xm (b:Nat)(S:SI)(L:List Pt)(n:Int)(z:Nat×Option Addr×Nat):List ag:=[pcc b #[ptr z.1 0,sl z.2.1 L.length z.2.2,I n] 126,kY z.1 (xS S),be 162 4 z.2.1 z.2.2 (gb L)]
def oo (b:Nat)(S:SI)(L:List Pt)(n:Int):ag:=hx (Xm b S L n)
variable {c:Cx}{E:di}{F L:List ag}{K:List KI}
def go b S P n[R:Rem L (oo b S P n) F](k:∀x s J,G c K E (pcc b #[ptr x 0,sl s P.length J,I n] 126::kY x (xS S)::be 162 4 s J (gb P)::F)):G c K E L:=ji (oo b S P n) rfl λz=>k z.1 z.2.1 z.2.2
def dW b x s J S P n[O:Split L [pcc b #[ptr x 0,sl s P.length J,I n] 126,kY x (xS S),be 162 4 s J (gb P)] F](k:G c K E (oo b S P n::F)):G c K E L:=
 gW (cB:=Xm b S P n) [pcc b #[ptr x 0,sl s P.length J,I n] 126,kY x (xS S),be 162 4 s J (gb P)] (oo b S P n) (x,s,J) k
def SN w:(zeroValue 190).run Tryz.prog w= .ok (.agg (xC xZ)) w:=by
 rw[zeroValue190];have J:Tryz.zeroCells190=xC xZ:=(by kernel_rfl);rw[J]
def Uz w:(Instr.build 190 #[]).run Tryz.prog w= .ok (.agg (xC (xS (bH gZ)))) w:=by
 have e:(Instr.build 190 #[]).run Tryz.prog w=(zeroValue 190).run Tryz.prog w:=by
  simp[Instr.build,zeroValue190,runUnderlying190,Instr.fill,bB]
 rw[e,SN]
 rfl
def HA X:(xL X).length=207:=by simp[xL,qM,Oc]
theorem Rz X:Go.Sl.ones (xL X)=true:=by
 have key:∀(n:Nat) (f:Nat->List Value),(∀k,Go.Sl.ones (f k)=true)->Go.Sl.ones (Lg n f)=true:=λn f h=>lq λv hv=>by
  grind[Lg,ku]
 refine lq λv hv=>?_;unfold xL at hv;rcases kbF.1 hv with hv | hv
 ·exact ku (key 41 _ λk=>rfl) v hv
 ·exact ku (key 25 _ λk=>rfl) v hv
def Wo x w:(Instr.build 126 #[(0,ptr x 0),(2,I 1)]).run Tryz.prog w= .ok (.agg #[ptr x 0,sl none 0 0,I 1]) w:=by
 simp[Instr.build,zeroValue126,kaw,Xu,YV,XS,Instr.fill,bB,show (I 1).cells=#[I 1] from rfl,show (ptr x 0).cells=#[ptr x 0] from rfl,sl]
def UA x s n c k w:(Instr.build 126 #[(0,ptr x 0),(1,sl s n c),(2,I k)]).run Tryz.prog w= .ok (.agg #[ptr x 0,sl s n c,I k]) w:=by
 simp[Instr.build,zeroValue126,kaw,Xu,YV,XS,Instr.fill,bB,show (I k).cells=#[I k] from rfl,show (ptr x 0).cells=#[ptr x 0] from rfl,show (sl s n c).cells=#[sl s n c] from rfl]
def FR (S:SI)(L:List Pt)(n root:Int)(a:Nat)(d:Bytes):VR:=match put1 (S,root) a d with
 | .ok z=> .ok (z.1,L,n,z.2)
 | .error e=> .error e
variable {L:List Pt}{n:Int}
theorem zL {root a}(h:(dH S root a d).2=0):FR S L n root a d= .ok (rH (jk S root a d) root,L,n,(dH S root a d).1):=by
 grind[FR,put1]
theorem v8 {root a}(h:(dH S root a d).2≠0):FR S L n root a d= .error (dH S root a d).2:=by
 grind[FR,put1]
theorem zM {l:List Pt}{x}id(hx:l[k]? =some x):(l.take (k+1)).filter (λx=>!decide (x.id=id))=(l.take k).filter (λx=>!decide (x.id=id))++if x.id=id then [] else [x]:=by
 grind[List.take_add_one]
def Aw F:cqq 38 [] (F) (λv L'=>∃b,v=ptr b 0/\L'=oo b (bH gZ) [] 1::F):=by
 refine Ct.of func38 W 5 ntmps38 (by simp) λw0=>?_;refine A<|T<|A<|M (aS Uz)<|gI (dw (xC (xS (bH gZ)))) ?_;rintro _ _ ⟨J,rfl,rfl⟩;refine M (aS (Wo J))<|gI (dw #[ptr J 0,sl none 0 0,I 1]) ?_;rintro _ _ ⟨O,rfl,rfl⟩;refine T ?_;refine aY 162 4 (gb []) ?_;refine dW O J none 0 (bH gZ) [] 1 ?_;exact λa w R S=>wp_ret (cb (bf (vs:=[ptr O 0]) rfl R S ⟨O,rfl,rfl⟩))
def iP b S L n id(hl:L.length<=1000000)F:cqq 127 [ptr b 0,I id] (oo b S L n::F) (R1 (.tuple #[.agg (aW ((aX L id).getD iB)).toArray,Bo (aX L id).isSome]) (oo b S L n::F)):=by
 refine Ct.of func127 W 34 ntmps127 (by simp) λw0=>?_;refine go b S L n ?_;intro x s c;refine A<|gI (aO #[I 0,I 0,I 0,I 0] X4) ?_;rintro _ _ ⟨Z,rfl,rfl⟩;refine T<|ac<|A<|T<|ak ?_;refine aL (α:=Nat) (λk=>k<=L.length/\∀j,j<k->∀t,L[j]? =some t->t.id≠id) (λk=>U [(0,ptr b 0),(1,I id),(4,ptr Z 0),(6,I k)]) (λ_=>pcc b #[ptr x 0,sl s (L).length c,I (n)] 126::kY x (xS S)::be 162 4 s c (gb (L))::pcc Z #[I 0,I 0,I 0,I 0] 162::F) (λk=>L.length - k) 0 ⟨by simp,λj hj=>absurd hj (by omega)⟩ [0,1,4,6] rfl ?_;rintro k ⟨hk,R⟩;refine ac<|A<|C<|C<|M aa<|gF 1 XY W XS<|gL (sl s (L).length c) Ya<|M (aP XP)<|M aG<|ab<|ah ?_ ?_<;>intro V
 ·simp at V;have J:k<L.length:=(by omega);obtain ⟨p,hp⟩:∃p,L[k]? =some p:=⟨_,kbN J⟩;refine ai<|ac<|ak<|A<|C<|M aa<|gF 1 XY W XS<|gL (sl s (L).length c) Ya<|C<|M (av (k) XP XE J (by rw[cR];exact J))<|M (aK (j:=k) 0 XQ W Xu (by rw[cR];exact J))<|M (bS (v:=I p.id) Xv (g8 hp))<|C<|M bE<|ab ?_;apply ah<;>intro O
  ·simp at O;have X:aX L id=some p:=by
    obtain ⟨i,q,hi,hq,_,_,Y,_⟩:=C5 (l:=L) (id:=id) (by rw[xG R hp O];omega);rw[xG R hp O] at hi;obtain rfl:k=i:=(by omega);rw[hp] at hq;injection hq with hq;rw[hq,Y]
   rw[X];refine A<|C<|M aa<|gF 1 XY W XS<|gL (sl s (L).length c) Ya<|C<|M (av (k) XP XE J (by rw[cR];exact J))<|M (bO (row:=aW p) YI XE (g8 hp))<|gU (az (cs:=#[I 0,I 0,I 0,I 0]) (vs:=aW (p)) (aW (p)).toArray XE (by simp) (hcs:=by exact aH))<|T ?_;refine dW b x s c (S) (L) (n) ?_;exact nE (aW p) rfl rfl rfl rfl YI XE rfl bM
  ·simp at O;refine ai<|aE<|al<|C<|gP<|T ?_;exact an (k+1) ⟨by omega,λj hj t ht=>by
     rcases ka3 j k with h | h
     ·exact R j h t ht
     ·obtain rfl:j=k:=(by omega);rw[hp] at ht;injection ht with ht;rw[<-ht];exact O⟩ (by omega) [0,1,4,6] rfl
 ·simp at V;obtain rfl:k=L.length:=(by omega);have X:aX L id=none:=yX (by rw[ub R];omega);rw[X];refine aF ?_;refine A<|M (aS Nq)<|gU (az (cs:=#[I 0,I 0,I 0,I 0]) (vs:=aW (iB)) (aW (iB)).toArray XE (by simp) (hcs:=by exact aH))<|T ?_;refine dW b x s c (S) (L) (n) ?_;exact nE (aW iB) rfl rfl rfl rfl YI XE rfl bM
def BK b S L n disk size root(hl:L.length<=6)(hn: -9223372036854775808<=n/\n<=1000000)F:cqq 205 [ptr b 0,I disk,I size,I root] (oo b S L n::F) (R1 (.tuple #[I (j6 L n),I (fb L n)]) (oo b S (kc L n disk size root) (oM L n)::F)):=by
 refine Ct.of func205 W 52 ntmps205 (by simp) λw0=>?_;refine go b S L n ?_;intro x s c;refine A<|gA<|T<|ac<|A<|C<|M aa<|gF 1 XY W XS<|gL (sl s (L).length c) Ya<|M (aP XP)<|M bE<|C<|gK ao<|gK aa<|gK (aw 2 XY W Xu)<|gK (aA (v:=I n) Xv)<|gK aQ<|M cv<|ab<|ah ?_ ?_<;>intro R
 ·simp at R;have O:fb L n=8:=(by unfold fb;rw[kaT (by omega)]);refine A<|gA<|T ?_;rw[O,show j6 L n=0 by unfold j6;rw[iOm],show kc L n disk size root=L by unfold kc;rw[iOm],show oM L n=n by unfold oM;rw[iOm]];refine dW b x s c (S) (L) (n) ?_;exact am rfl rfl rfl
 ·simp at R;have O:fb L n=0:=(by unfold fb;rw[iOm]);refine ai<|ac ?_;refine eE (Lf:=[pcc b #[ptr x 0,sl s (L).length c,I (n)] 126]) (plN [0,2,4,6,8,10,12,14,16,18,20,22,24,27,29,30,32]) 17 ?_;refine dM W<|dM W<|dV W aa<|dF W 1 XY W XS<|dL W (sl s (L).length c) Ya<|dM W<|dV W aa<|dF W 2 XY W Xu<|dL W (I n) Xv<|dM W<|dM W<|dM W<|dV W (aS (Np n disk size root))<|cQ W (ap [aW ⟨n,disk,size,root⟩] XP XE X4 (by simp)) ?_;rintro _ _ ⟨V,rfl,rfl⟩;refine cQ W (aR XP XE X4 Tryz.typeInfo162 (hn:=by exact cR _) (by simp) (by simp[Go.Sl.ones,Go.Sl.one]) ⟨by omega,by decide,by decide⟩) ?_;rintro _ _ ⟨J,c37,rfl,rfl⟩;rw[show gb L++ [aW ⟨n,disk,size,root⟩]=gb (L++ [⟨n,disk,size,root⟩]) by simp[gb]];refine dV W aa<|dF W 1 XY W XS ?_;refine aN ?_;refine gU (aJ #[ptr x 0,sl J (L.length+1) c37,I n] XS (by simp))<|ab<|A<|C<|M aa<|gF 2 XY W Xu<|gL (I n) Xv<|gP<|M aa<|gF 2 XY W Xu<|gU (aJ #[ptr x 0,sl J (L.length+1) c37,I (n+1)] Xu (by simp))<|ab<|A<|C<|M aa<|gF 2 XY W Xu<|gL (I (n+1)) Xv<|M (eG (cK (by omega)))<|gA<|T ?_;rw[O,show j6 L n=n+1 - 1 by unfold j6;rw[kaT O];omega,show kc L n disk size root=L++ [⟨n,disk,size,root⟩] by unfold kc;rw[kaT O],show oM L n=n+1 by unfold oM;rw[kaT O],show L.length+1=(L++ [(⟨n,disk,size,root⟩:Pt)]).length by simp];refine dW b x J c37 (S) (L++ [⟨n,disk,size,root⟩]) (n+1) ?_;exact am rfl rfl rfl
def wa b G L n root(a:Nat)(d:Bytes)rs(X:Rt G (root::rs))(hl:rs.length<=8)(Z:a<16)(hd:d.length<=9223372036854775807)F:cqq 203 [ptr b 0,I root,I a,ay d] (oo b (bH G) L n::F) (vR oo I b F (FR (bH G) L n root a d)):=by
 refine Ct.of func203 W 33 ntmps203 (by simp) λw0=>?_;refine go b (bH G) L n ?_;intro x s c;have hok:=KU X (m:=200) (by simp;omega);refine A<|gA<|T<|A<|C<|M aa<|gF 0 XY W YV<|gL (ptr x 0) Y4<|C<|C<|C<|gR (vB call253 (Oh x (bH G) root a d 200 hok (by decide) Z hd (DG X.V (nq X (by simp)))))<|C<|gX (I (dH (bH G) root a d).1)<|gX (I (dH (bH G) root a d).2)<|gA<|T<|ac<|A<|C<|M aQ<|ab<|ah ?_ ?_<;>intro O
 ·simp at O;refine A<|C<|gA<|T ?_;exact eF rfl (v8 (by omega)) rfl rfl
 ·simp at O;have J:(dH (bH G) root a d).2=0:=(by have:=ua (bH G) root a d;omega);obtain ⟨Y,G2,R,o1,r1,v1,hu2,hR2,_,_⟩:=nT X hl Z J;rw[R];refine ai<|A<|C<|M aa<|gF 0 XY W YV<|gL (ptr x 0) Y4<|C<|gR (vB call207 (BJ x (bH Y) root 200 o1 (by decide) (qz v1 r1) (xE v1 r1)))<|ab<|A<|C<|gA<|T ?_;refine dW b x s c (rH (bH Y) root) (L) (n) ?_;exact nU (S:=rH (bH Y) root) (P:=L) (n:=n) rfl (by rw[zL J,R]) rfl rfl
variable {L:List ag}
theorem OpL.ofV {g o v}(h:OpV c g E L o v):OpL c g E L o (λS L'=>S=v/\L'=L):=⟨λa w O R J nx Q hn=>qP h O R J (hn v w L J ⟨rfl,rfl⟩)⟩
def BL l w:(bc l).take w=bc (l.take w):=by simp[bc,kdg]
def FS b S L n id G0(O:Vok S L n G0)F:cqq 131 [ptr b 0,I id] (oo b S L n::F) (vR oo I b F (lT S L n id)):=by
 have hok:=lh O;have hll:=O.len;have hn1:=O.n1;refine Ct.of func131 W 44 ntmps131 (by simp) λw0=>?_;refine A<|gA<|T<|A<|C<|C<|gR (vB call127 (iP b S L n id (by omega)))<|C<|gX (.agg (aW ((aX L id).getD iB)).toArray)<|gX (Bo (aX L id).isSome)<|gI (aO #[I 0,I 0,I 0,I 0] X4) ?_;rintro _ _ ⟨b6,rfl,rfl⟩;refine gU (az (cs:=#[I 0,I 0,I 0,I 0]) (vs:=aW (((aX L id).getD iB))) (aW (((aX L id).getD iB))).toArray XE (by simp) (hcs:=by exact aH))<|T<|ac<|A<|C<|M cS<|ab<|ah ?_ ?_<;>intro J
 ·simp at J;refine A<|gA<|T ?_;exact eF rfl (by unfold lT;rw[J]) rfl rfl
 ·simp at J;obtain ⟨p,Y⟩:=kcX.1 J;have Z:=dq Y;have hps:=O.pts p Z.1;rw[show (aX L id).getD iB=p by rw[Y];rfl];refine ai<|ac<|ac ?_;refine go b S L n ?_;intro x s c;refine al<|C<|M aa<|gF 1 XY W XS<|gL (sl s (L).length c) Ya<|M (aP XP)<|M bE<|C<|gK ao<|gK aa<|gK (aw 2 XY W Xu)<|gK (aA (v:=I n) Xv)<|gK aQ<|M cv<|ab<|ah ?_ ?_<;>intro X
  ·simp at X;have R:fb L n=8:=(by unfold fb;rw[kaT (by omega)]);refine A<|gA<|T ?_;exact eF (e:=8) rfl (by unfold lT;rw[Y];simp only;rw[kaT (by omega),R]) rfl rfl
  ·simp at X;have R:fb L n=0:=(by unfold fb;rw[iOm]);refine ai<|ac<|gD (Lf:=[pcc b6 (aW (p)).toArray 162]) (plN [0,2,4,6,8,10,12,14,18,20,17,23,25,26,28,30,32])<|dM W<|dF W 1 XQ W Xu<|dL W (I p.disk) Xv<|dF W 2 XQ W Xu<|dL W (I p.size) Xv<|dM W<|dV W aa<|dF W 0 XY W YV<|dF W 3 XQ W Xu<|dL W (I p.root) Xv<|cQ W (OpL.ofV (aA (v:=ptr x 0) Y4)) ?_;rintro _ _ ⟨rfl,rfl⟩;refine cQ W (uB call202 (zJ x S p.root 200 hok (by decide) (qz O.rt.V (nq O.rt (eS Y))).2)) ?_;rintro _ _ ⟨rfl,rfl⟩;refine dW b x s c (eP S p.root) (L) (n) ?_;refine cQ W (uB call205 (BK b (eP S p.root) L n p.disk p.size p.root (by omega) (by omega))) ?_;rintro _ _ ⟨rfl,rfl⟩;rw[show j6 L n=n by unfold j6;rw[kaT R],show kc L n p.disk p.size p.root=L++ [(⟨n,p.disk,p.size,p.root⟩:Pt)] by unfold kc;rw[kaT R],show oM L n=n+1 by unfold oM;rw[kaT R],R];refine dV W (aB (v:=I n))<|dV W (aB (v:=I 0))<|dV W ax<|dV W ax ?_;refine aN ?_;exact nU (S:=eP S p.root) (P:=L++ [(⟨n,p.disk,p.size,p.root⟩:Pt)]) (n:=n+1) rfl (by unfold lT;rw[Y];simp only;rw[iOm]) rfl rfl
def HB b S L n id G0(X:Vok S L n G0)F:cqq 133 [ptr b 0,I id] (oo b S L n::F) (Vi oo I b F (mY S L n id)):=by
 have hok:=lh X;have hll:=X.len;have hn1:=X.n1;refine Ct.of func133 W 57 ntmps133 (by simp) λw0=>?_;refine A<|T<|A<|C<|C<|gR (vB call127 (iP b S L n id (by omega)))<|C<|gX (.agg (aW ((aX L id).getD iB)).toArray)<|gX (Bo (aX L id).isSome)<|gI (aO #[I 0,I 0,I 0,I 0] X4) ?_;rintro _ _ ⟨b5,rfl,rfl⟩;refine gU (az (cs:=#[I 0,I 0,I 0,I 0]) (vs:=aW (((aX L id).getD iB))) (aW (((aX L id).getD iB))).toArray XE (by simp) (hcs:=by exact aH))<|T<|ac<|A<|C<|M cS<|ab<|ah ?_ ?_<;>intro R
 ·simp at R;refine A<|T ?_;exact Fh rfl (by unfold mY;rw[R]) rfl rfl
 ·simp at R;obtain ⟨p,Z⟩:=kcX.1 R;have hpm:=dq Z;have hps:=X.pts p hpm.1;rw[show (aX L id).getD iB=p by rw[Z];rfl];refine ai<|ac ?_;refine go b S L n ?_;intro x s c;refine cn (Lf:=[pcc b #[ptr x 0,sl s (L).length c,I (n)] 126,pcc b5 (aW (p)).toArray 162]) jA ?_;refine dM W<|dV W aa<|dF W 0 XY W YV<|dL W (ptr x 0) Y4<|dF W 3 XQ W Xu<|dL W (I p.root) Xv<|cQ W (uB call207 (BJ x S p.root 200 hok (by decide) (qz X.rt.V (nq X.rt (eS Z))) (by rw[X.e];exact xE X.rt.V (nq X.rt (eS Z))))) ?_;rintro _ _ ⟨rfl,rfl⟩;refine aN ?_;refine ac ?_;refine aY 162 4 (gb (((L.take 0).filter λx=>!decide (x.id=id)))) ?_;refine al<|T<|ac<|A<|T<|ak ?_;refine aL (α:=Nat×Option Addr×Nat) (λz=>z.1<=L.length) (λz=>U [(0,ptr b 0),(1,I id),(7,sl z.2.1 (((L.take z.1).filter λx=>!decide (x.id=id))).length z.2.2),(8,I z.1)]) (λz=>be 162 4 z.2.1 z.2.2 (gb (((L.take z.1).filter λx=>!decide (x.id=id))))::pcc b #[ptr x 0,sl s (L).length c,I (n)] 126::kY x (xS (rH S p.root))::be 162 4 s c (gb (L))::F) (λz=>L.length - z.1) (0,none,0) (by simp) [0,1,7,8] rfl ?_;rintro ⟨k,s7,c7⟩ hk;simp only[] at hk ⊢;have hfl:(((L.take k).filter λx=>!decide (x.id=id))).length<=L.length:=kaB (kcE _ _) (by simp;omega);refine ac<|A<|C<|C<|M aa<|gF 1 XY W XS<|gL (sl s (L).length c) Ya<|M (aP XP)<|M aG<|ab<|ah ?_ ?_<;>intro Y
  ·simp at Y;have J:k<L.length:=(by omega);obtain ⟨y,hy⟩:∃y,L[k]? =some y:=⟨_,kbN J⟩;refine ai<|ac<|ak<|A<|C<|M aa<|gF 1 XY W XS<|gL (sl s (L).length c) Ya<|C<|M (av (k) XP XE J (by rw[cR];exact J))<|M (aK (j:=k) 0 XQ W Xu (by rw[cR];exact J))<|M (bS (v:=I y.id) Xv (g8 hy))<|C<|M iE<|ab ?_;apply ah<;>intro O
   ·simp at O;refine al<|C<|C<|M aa<|gF 1 XY W XS<|gL (sl s (L).length c) Ya<|C<|M (av (k) XP XE J (by rw[cR];exact J))<|M (bO (row:=aW y) YI XE (g8 hy))<|gI (ap [aW y] XP XE X4 (by simp)) ?_;rintro _ _ ⟨b51,rfl,rfl⟩;refine gI (aR XP XE X4 Tryz.typeInfo162 (hn:=by exact cR _) (by simp) (by simp[Go.Sl.ones,Go.Sl.one]) ⟨by omega,by decide,by decide⟩) ?_;rintro _ _ ⟨s52,c52,rfl,rfl⟩;rw[show gb (((L.take k).filter λx=>!decide (x.id=id)))++ [aW y]=gb (((L.take (k+1)).filter λx=>!decide (x.id=id))) by rw[zM id hy,kaU O];simp[gb],show (((L.take k).filter λx=>!decide (x.id=id))).length+1=(((L.take (k+1)).filter λx=>!decide (x.id=id))).length by rw[zM id hy,kaU O];simp];refine T<|aE<|al<|C<|gP<|T ?_;exact an (k+1,s52,c52) (by simp only[];omega) (by simp only[];omega) [0,1,7,8] rfl
   ·simp at O;refine ai<|aE<|al<|C<|gP<|T ?_;rw[show ((L.take k).filter λx=>!decide (x.id=id))=((L.take (k+1)).filter λx=>!decide (x.id=id)) by rw[zM id hy,kaT O,kcV]];exact an (k+1,s7,c7) (by simp only[];omega) (by simp only[];omega) [0,1,7,8] rfl
  ·simp at Y;obtain rfl:k=L.length:=(by omega);refine aF ?_;refine A<|C<|C<|M aa<|gF 1 XY W XS<|gU (aJ #[ptr x 0,sl s7 ((L.take L.length).filter λx=>!decide (x.id=id)).length c7,I n] XS (by simp))<|ab<|A<|T ?_;rw[kbl];refine dW b x s7 c7 (rH S p.root) ((L.filter λx=>!decide (x.id=id))) (n) ?_;exact Fj (S:=rH S p.root) (P:=(L.filter λx=>!decide (x.id=id))) (n:=n) (r:=0) rfl (by unfold mY;rw[Z]) rfl rfl
def zN b S L n id at_ Z(O:Vok S L n Z)F:cqq 135 [ptr b 0,I id,I at_] (oo b S L n::F) (R1 (.tuple #[ay (j5 S L id at_).1,I (j5 S L id at_).2]) (oo b S L n::F)):=by
 have hok:=lh O;have hll:=O.len;refine Ct.of func135 W 34 ntmps135 (by simp) λw0=>?_;refine A<|gA<|T<|A<|C<|C<|gR (vB call127 (iP b S L n id (by omega)))<|C<|gX (.agg (aW ((aX L id).getD iB)).toArray)<|gX (Bo (aX L id).isSome)<|gI (aO #[I 0,I 0,I 0,I 0] X4) ?_;rintro _ _ ⟨b8,rfl,rfl⟩;refine gU (az (cs:=#[I 0,I 0,I 0,I 0]) (vs:=aW (((aX L id).getD iB))) (aW (((aX L id).getD iB))).toArray XE (by simp) (hcs:=by exact aH))<|T<|ac<|A<|C<|M cS<|ab<|ah ?_ ?_<;>intro J
 ·simp at J;refine A<|gA<|T ?_;rw[show j5 S L id at_=([],5) by unfold j5;rw[J]];exact am rfl rfl rfl
 ·simp at J;obtain ⟨p,X⟩:=kcX.1 J;have Y:=dq X;have hps:=O.pts p Y.1;rw[show (aX L id).getD iB=p by rw[X];rfl];refine ai<|ac<|A<|C<|M aG<|C<|gK ao<|gK (aw 2 XQ W Xu)<|gK (aA (v:=I p.size) Xv)<|gK kp<|M cv<|ab<|ah ?_ ?_<;>intro R
  ·simp at R;refine A<|gA<|T ?_;rw[show j5 S L id at_=([],1) by unfold j5;rw[X];simp only;rw[kaT (by omega)]];exact am rfl rfl rfl
  ·simp at R;obtain ⟨a,rfl⟩:∃a:Nat,at_=a:=⟨at_.toNat,by omega⟩;refine ai<|ac ?_;refine go b S L n ?_;intro x s c;refine cn (Lf:=[pcc b #[ptr x 0,sl s (L).length c,I (n)] 126,pcc b8 (aW (p)).toArray 162]) jJ ?_;refine dM W<|dV W aa<|dF W 0 XY W YV<|dL W (ptr x 0) Y4<|dF W 3 XQ W Xu<|dL W (I p.root) Xv<|dM W<|cQ W (uB call204 (FQ x S p.root a 200 hok (by omega) (by rw[O.e];exact DG O.rt.V (nq O.rt (eS X))))) ?_;rintro _ _ ⟨rfl,rfl⟩;refine dV W ax<|dV W ax ?_;refine aN ?_;rw[show j5 S L id a=(jj S p.root a,0) by unfold j5;rw[X];simp only;rw[iOm];rfl];refine dW b x s c (S) (L) (n) ?_;exact am rfl rfl rfl
def ta b S L n(hl:L.length<=1000000)F:cqq 128 [ptr b 0] (oo b S L n::F) (λv L'=>∃q,v=ptr q 0/\L'=oo q S L n::oo b S L n::F):=by
 refine Ct.of func128 W 21 ntmps128 (by simp) λw0=>?_;refine go b S L n ?_;intro x s c;refine A<|T<|A<|C<|M aa<|gF 0 XY W YV<|gL (ptr x 0) Y4<|M aa<|M (bj (vs:=xL (xS S)) isAgg190 sizeOf190 (hl:=HA _) bM)<|gI (aO (xC xZ) SN) ?_;rintro _ _ ⟨V,rfl,rfl⟩;refine gU (az (cs:=xC xZ) (vs:=xL (xS S)) (xC (xS S)) sizeOf190 (hl:=by exact HA _) (h1:=by exact Rz _) (by rw[i7];decide) (hcs:=by exact aH (h:=by rw[HA,i7])))<|ab<|ac ?_;refine aY 162 4 [] ?_;refine gD (Lf:=[pcc b #[ptr x 0,sl s (L).length c,I (n)] 126]) (plN [0,2,4,6,10,12,14,16,9,18,21,22])<|dM W<|dV W aa<|dF W 1 XY W XS<|dL W (sl s (L).length c) Ya<|dM W<|dV W aa<|dF W 2 XY W Xu<|dL W (I n) Xv<|cQ W (aR XP XE X4 Tryz.typeInfo162 (hm:=by exact cR L) (by simp[gb]) (by simp[gb,Go.Sl.ones,Go.Sl.one]) ⟨by omega,by decide,by decide⟩) ?_;rintro _ _ ⟨R,O,rfl,rfl⟩;rw[ka9];simp only[kby];refine dV W (aS (UA V R L.length O n))<|cQ W (dw #[ptr V 0,sl R L.length O,I n]) ?_;rintro _ _ ⟨J,rfl,rfl⟩;refine dV W ax ?_;refine aN ?_;refine dW J V R O S L n ?_;refine dW b x s c (S) (L) (n) ?_;refine jf (L2:=oo J S L n::oo b S L n::F) ?_;exact λa w X Y=>wp_ret (cb (bf (vs:=[ptr J 0]) rfl X Y ⟨J,rfl,rfl⟩))
def DH b S L n disk keep(hl:L.length<=1000000)(hk:keep<=9223372036854775807)F:cqq 134 [ptr b 0,I disk,I keep] (oo b S L n::F) (uX 3 1 (eQ L disk keep).length (bc (eQ L disk keep)) (oo b S L n::F)):=by
 refine Ct.of func134 W 51 ntmps134 (by simp) λw0=>?_;refine go b S L n ?_;intro x s c;refine aY 3 1 (bc (((L.take 0).filter λp=>decide (p.disk=disk)).map (·.id))) ?_;refine A<|T<|A<|T<|ac<|A<|T<|ak ?_;refine aL (α:=Nat×Option Addr×Nat) (λz=>z.1<=L.length) (λz=>U [(0,ptr b 0),(1,I disk),(2,I keep),(7,sl z.2.1 (((L.take z.1).filter λp=>decide (p.disk=disk)).map (·.id)).length z.2.2),(8,I z.1)]) (λz=>be 3 1 z.2.1 z.2.2 (bc (((L.take z.1).filter λp=>decide (p.disk=disk)).map (·.id)))::pcc b #[ptr x 0,sl s (L).length c,I (n)] 126::kY x (xS S)::be 162 4 s c (gb (L))::F) (λz=>L.length - z.1) (0,none,0) (by simp) [0,1,2,7,8] rfl ?_;rintro ⟨k,s7,c7⟩ hk7;simp only[] at hk7 ⊢;refine ac<|A<|C<|C<|M aa<|gF 1 XY W XS<|gL (sl s (L).length c) Ya<|M (aP XP)<|M aG<|ab<|ah ?_ ?_<;>intro X
 ·simp at X;have J:k<L.length:=(by omega);obtain ⟨p,hp⟩:∃p,L[k]? =some p:=⟨_,kbN J⟩;refine ai<|ac<|ak<|A<|C<|M aa<|gF 1 XY W XS<|gL (sl s (L).length c) Ya<|C<|M (av (k) XP XE J (by rw[cR];exact J))<|M (aK (j:=k) 1 XQ W Xu (by rw[cR];exact J))<|M (bS (v:=I p.disk) Xv (g8 hp))<|C<|M bE<|ab ?_;apply ah<;>intro O
  ·simp at O;refine al<|C<|C<|M aa<|gF 1 XY W XS<|gL (sl s (L).length c) Ya<|C<|M (av (k) XP XE J (by rw[cR];exact J))<|M (aK (j:=k) 0 XQ W Xu (by rw[cR];exact J))<|M (bS (v:=I p.id) Xv (g8 hp))<|gI (ap [[I p.id]] XB Xu X5 (by simp)) ?_;rintro _ _ ⟨b37,rfl,rfl⟩;refine gI (aR XB Xu X5 Tryz.typeInfo3 (hn:=by exact cw _) (by simp) (by intro r hr;simp at hr;subst hr;rfl) ⟨by have:=uh L k disk;omega,by decide,by decide⟩) ?_;rintro _ _ ⟨s38,c38,rfl,rfl⟩;refine T<|aE<|al<|C<|gP<|T ?_;rw[show bc (((L.take k).filter λp=>decide (p.disk=disk)).map (·.id))++ [[I p.id]]=bc (((L.take (k+1)).filter λp=>decide (p.disk=disk)).map (·.id)) by rw[mv disk hp,kaT O];simp[bc],show (((L.take k).filter λp=>decide (p.disk=disk)).map (·.id)).length+1=(((L.take (k+1)).filter λp=>decide (p.disk=disk)).map (·.id)).length by rw[mv disk hp,kaT O];simp];exact an (k+1,s38,c38) (by simp only[];omega) (by simp only[];omega) [0,1,2,7,8] rfl
  ·simp at O;refine ai<|aE<|al<|C<|gP<|T ?_;rw[show ((L.take k).filter λp=>decide (p.disk=disk)).map (·.id)=((L.take (k+1)).filter λp=>decide (p.disk=disk)).map (·.id) by rw[mv disk hp,kaU O,kcV]];exact an (k+1,s7,c7) (by simp only[];omega) (by simp only[];omega) [0,1,2,7,8] rfl
 ·simp at X;obtain rfl:k=L.length:=(by omega);refine mC s7<|λZ=>?_;rw[cw] at Z;have hln:=uh L L.length disk;have he:eQ L disk keep=(((L.take L.length).filter λp=>decide (p.disk=disk)).map (·.id)).take ((((L.take L.length).filter λp=>decide (p.disk=disk)).map (·.id)).length - keep.toNat):=(by unfold eQ;rw[kbl]);refine aF ?_;refine ac<|A<|C<|M aG<|ab<|ah ?_ ?_<;>intro Y
  ·simp at Y;refine al<|T<|ac<|A<|C<|M (aP XB)<|C<|M qe<|ab<|ah ?_ ?_<;>intro R
   ·have V:=kd0 R;refine A<|T ?_;refine aY 3 1 (bc (eQ L disk keep)) (hr:=by rw[he,show (((L.take L.length).filter λp=>decide (p.disk=disk)).map (·.id)).length - keep.toNat=0 by omega,kbk];rfl) ?_;refine dW b x s c (S) (L) (n) ?_;exact cU rfl rfl rfl (by rw[he,kbq];omega)
   ·have V:=kd1 R;refine ai<|A<|C<|C<|M (aP XB)<|C<|M (eG (r:=((((L.take L.length).filter λp=>decide (p.disk=disk)).map (·.id)).length:Int) - (keep.toNat:Int)) (by first | (rw[show (((((L.take L.length).filter λp=>decide (p.disk=disk)).map (·.id)).length:Nat):Int) - 0=((((L.take L.length).filter λp=>decide (p.disk=disk)).map (·.id)).length:Int) - (keep.toNat:Int) by omega];exact cK (by omega)) | (rw[show (((((L.take L.length).filter λp=>decide (p.disk=disk)).map (·.id)).length:Nat):Int) - keep=((((L.take L.length).filter λp=>decide (p.disk=disk)).map (·.id)).length:Int) - (keep.toNat:Int) by omega];exact cK (by omega))))<|M (lO (h:=(((L.take L.length).filter λp=>decide (p.disk=disk)).map (·.id)).length - keep.toNat) XB Xu rfl rfl (by omega) (by omega))<|T ?_;refine oN s7 ((((L.take L.length).filter λp=>decide (p.disk=disk)).map (·.id)).length - keep.toNat) ?_;rw[show (bc (((L.take L.length).filter λp=>decide (p.disk=disk)).map (·.id))).take ((((L.take L.length).filter λp=>decide (p.disk=disk)).map (·.id)).length - keep.toNat)=bc (eQ L disk keep) by rw[he,BL]];refine dW b x s c (S) (L) (n) ?_;exact cU rfl rfl rfl (by rw[he,kbq];omega)
  ·simp at Y;refine ai<|ac<|A<|C<|M (aP XB)<|C<|M qe<|ab<|ah ?_ ?_<;>intro R
   ·have V:=kd0 R;refine A<|T ?_;refine aY 3 1 (bc (eQ L disk keep)) (hr:=by rw[he,show (((L.take L.length).filter λp=>decide (p.disk=disk)).map (·.id)).length - keep.toNat=0 by omega,kbk];rfl) ?_;refine dW b x s c (S) (L) (n) ?_;exact cU rfl rfl rfl (by rw[he,kbq];omega)
   ·have V:=kd1 R;refine ai<|A<|C<|C<|M (aP XB)<|C<|M (eG (r:=((((L.take L.length).filter λp=>decide (p.disk=disk)).map (·.id)).length:Int) - (keep.toNat:Int)) (by first | (rw[show (((((L.take L.length).filter λp=>decide (p.disk=disk)).map (·.id)).length:Nat):Int) - 0=((((L.take L.length).filter λp=>decide (p.disk=disk)).map (·.id)).length:Int) - (keep.toNat:Int) by omega];exact cK (by omega)) | (rw[show (((((L.take L.length).filter λp=>decide (p.disk=disk)).map (·.id)).length:Nat):Int) - keep=((((L.take L.length).filter λp=>decide (p.disk=disk)).map (·.id)).length:Int) - (keep.toNat:Int) by omega];exact cK (by omega))))<|M (lO (h:=(((L.take L.length).filter λp=>decide (p.disk=disk)).map (·.id)).length - keep.toNat) XB Xu rfl rfl (by omega) (by omega))<|T ?_;refine oN s7 ((((L.take L.length).filter λp=>decide (p.disk=disk)).map (·.id)).length - keep.toNat) ?_;rw[show (bc (((L.take L.length).filter λp=>decide (p.disk=disk)).map (·.id))).take ((((L.take L.length).filter λp=>decide (p.disk=disk)).map (·.id)).length - keep.toNat)=bc (eQ L disk keep) by rw[he,BL]];refine dW b x s c (S) (L) (n) ?_;exact cU rfl rfl rfl (by rw[he,kbq];omega)
def Ll:Int->List Area->Int
 | e,[]=>e
 | _,a::l=>Ll (a.fr+a.many) l
theorem Oi e l x:Ll e (l++ [x])=x.fr+x.many:=by
 induction l generalizing e with
 | nil=>rfl
 | cons a l J=>exact J _
theorem zO e l x:Ci e (l++ [x])=0 ↔ Ci e l=0/\(0<=x.fr/\1<=x.many/\x.fr+x.many<=16)/\Ll e l<x.fr:=by
 induction l generalizing e with
 | nil=>
  grind[Ci,Ll]
 | cons a l J=>
  grind[Ci,Ll]
theorem JM {l}(h:0<l.length):∃r,l=r++ [lC l]:=by
 refine ⟨l.dropLast,?_⟩;have hne:l≠ []:=by grind
 grind[lC,List.dropLast_concat_getLast]
theorem wb m:∀k,k<=16->Ci (-1) (fJ m k)=0/\∀p:Nat,mk (fJ m k) p=(m p && decide (p<k))
 | 0,_=>⟨rfl,λp=>by simp[fJ,mk]⟩
 | k+1,hk=>by
  obtain ⟨h1,R⟩:=wb m k (by omega);obtain ⟨S,V⟩:=qi m k;simp only[fJ,wl];generalize fJ m k=l at*;by_cases hm:m k=true
  ·rw[kaT hm];by_cases J:0<l.length/\(lC l).fr+(lC l).many=k
   ·rw[kaT J];obtain ⟨r,hr⟩:=JM J.1;generalize lC l=x at*;subst hr;rw[zO] at h1;have e:(r++ [x]).set ((r++ [x]).length - 1) ⟨x.fr,x.many+1⟩=r++ [⟨x.fr,x.many+1⟩]:=(by simp[List.set_append]);rw[e];refine ⟨(zO _ _ _).2 ⟨h1.1,by simp only;omega,h1.2.2⟩,λp=>?_⟩;have hp:=R p;simp only[mk,List.any_append,List.any_cons,List.any_nil,Bool.or_false] at hp ⊢
    grind
   ·rw[kaU J];have O:Ll (-1) l<k:=by
     by_cases h0:0<l.length
     ·grind[JM,Oi]
     ·have:l=[]:=kbb.1 (by omega);subst this;show (-1:Int)<k;omega
    grind[zO,mk]
  grind
def RA m:Ci (-1) (dr m)=0:=(wb m 16 (kax _)).1
theorem tc m{p}(h:p<16):mk (dr m) p=m p:=by
 grind[wb]
def lB m:Cj (dr m):=(Mc (RA m)).1
variable {m:Nat->Bool}
def BM {n}(h:∀p,p<16->m p=n p):dr m=dr n:=qS h 16 (kax _)
theorem RB {l}(h0:0<=n):Ek l n=mk l n.toNat:=by
 grind[Ek,mk]
theorem UB {X o}(hk:k<25)(ho:o=82+k*5):∀j v,(kV (X.N k))[j]? =some v->bK (.cells (xC X) ec f) (o+j)=some v:=λj v h=>by
 have hj:j<5:=(by grind);exact si (j:=j) (hk:=hk) (hj:=hj) (by omega) h
def SO:∀j:Nat,Lib.repeatL [48] j=List.replicate j 48
 | 0=>rfl
 | j+1=>by rw[Lib.repeatL,SO j];rfl
def Wp (j:Nat)(s:Bytes):Bytes:=List.replicate j 48++s
def DI j s:(Wp j s).length=j+s.length:=by simp[Wp]
def RC n:jt n=Wp (3 - (Lib.itoa n).length) (Lib.itoa n):=by unfold jt Wp;rw[SO]
def Oj (k:Bytes)w:(Instr.build 174 #[(0,ay k),(2,Bo true)]).run Tryz.prog w= .ok (.agg (bg ⟨k,[],true⟩).toArray) w:=by
 simp[Instr.build,XH,ZR,XL,Xx,Instr.fill,bB,bg,show (ay k).cells=#[ay k] from rfl,show (Bo true).cells=#[Bo true] from rfl]
theorem n7:∀{u:Nat},u<10000->(Lib.decDigits u).length<=4:=fun {u} J=>by
 grind[p8,el]
theorem Ok (h0:0<=q):(xS S).B q.toNat=gB S.B q:=by
 show (S.B (q.toNat:Int)).getD ([],0)=(S.B q).getD ([],0)
 grind
def Xt {L}(h:Sm S L n)k:0<=((xS S).B k).2:=by
 have e:=Ok (S:=S) (q:=(k:Int)) (by omega);rw[show ((k:Int)).toNat=k by omega] at e;rw[e];exact (NE h k).1.1
theorem bR {α:Type}{l:List α}{x}(h:l[k]? =some x):l.drop k=x::l.drop (k+1):=by
 grind[List.drop_eq_getElem_cons]
def BN (n:Nat)(hn:n<10)F:cqq 162 [I n] (F) (R1 (ay (Lib.decDigits n)) F):=by
 refine Ct.of func162 W 26 ntmps162 (by simp) λw0=>?_;refine A<|T<|ac<|A<|C<|M aG<|ab<|ah ?_ ?_<;>intro S
 ·exfalso;have:=kd0 S;omega
 ·refine ai<|ac<|A<|C<|M aG<|ab<|ah ?_ ?_<;>intro J
  ·have O:n<10:=(by have:=kd0 J;omega);rw[p8 O];refine A<|C<|gP<|M (cG (r:=((lH (n)).toNat:Int)) XA XI (by rw[ix (by omega),w8 (by omega)];omega))<|gI (ap (aC [lH (n)]) XN Yd Ym (by simp[aC])) ?_;rintro _ _ ⟨R,rfl,rfl⟩;refine M (cg (l:=[lH (n)]) XN XI Xz W)<|T ?_;refine am W W ?_;exact rfl
  ·exfalso;have:=kd1 J;omega
def BO (n:Nat)(hn:n<100)F:cqq 162 [I n] (F) (R1 (ay (Lib.decDigits n)) F):=by
 refine Ct.of func162 W 26 ntmps162 (by simp) λw0=>?_;refine A<|T<|ac<|A<|C<|M aG<|ab<|ah ?_ ?_<;>intro V
 ·exfalso;have:=kd0 V;omega
 ·refine ai<|ac<|A<|C<|M aG<|ab<|ah ?_ ?_<;>intro O
  ·have R:n<10:=(by have:=kd0 O;omega);rw[p8 R];refine A<|C<|gP<|M (cG (r:=((lH (n)).toNat:Int)) XA XI (by rw[ix (by omega),w8 (by omega)];omega))<|gI (ap (aC [lH (n)]) XN Yd Ym (by simp[aC])) ?_;rintro _ _ ⟨S,rfl,rfl⟩;refine M (cg (l:=[lH (n)]) XN XI Xz W)<|T ?_;refine am W W ?_;exact rfl
  ·refine ai<|ac ?_;refine qX (Lf:=[]) (.q 0 (.q 1 (.q 3 (.q 4 (.q 5 (.q 6 (.alt (.l 2 (.l 7 (.c (.q 8 (.q 9 (.q 10 (.nil))))))) (.l 7 (.c (.q 8 (.l 2 (.q 9 (.q 10 (.nil)))))))))))))) ?_;refine eH W ao ?_;refine eH rfl (qd (r:=((n / 10:Nat):Int)) (by rw[show (n:Int).tdiv 10=((n / 10:Nat):Int) from (kds n 10)];exact cK (by omega))) ?_;refine eH W ao ?_;refine eH W (tq (r:=((n % 10:Nat):Int)) (by exact kdt n 10)) ?_;refine eH W (bx (cK (by omega))) ?_;refine eH W (cG (r:=((lH (n % 10)).toNat:Int)) XA XI (by rw[ix (by omega),w8 (by omega)];omega)) ?_;refine oB ?_ ?_
   ·refine lY W (uA call162 (BN (n / 10) (by omega))) ?_;rintro _ _ ⟨rfl,rfl⟩;refine lY W (ap (aC [lH (n % 10)]) XN Yd Ym (by simp[aC])) ?_;rintro _ _ ⟨J,rfl,rfl⟩;refine lZ ([be 5 1 (some ⟨J,0,none⟩) 1 (aC [lH (n % 10)])]) ?_;refine eH W (cg (l:=[lH (n % 10)]) XN XI Xz W) ?_;refine eH W (cf (by have:=n7 (u:=n / 10) (by omega);simp;omega)) ?_;refine eH W ax ?_;refine kC ?_;rw[el (by have:=kd1 O;omega)];exact am rfl rfl rfl
   ·refine lY W (ap (aC [lH (n % 10)]) XN Yd Ym (by simp[aC])) ?_;rintro _ _ ⟨J,rfl,rfl⟩;refine lZ ([be 5 1 (some ⟨J,0,none⟩) 1 (aC [lH (n % 10)])]) ?_;refine eH W (cg (l:=[lH (n % 10)]) XN XI Xz W) ?_;refine lY W (uA call162 (BN (n / 10) (by omega))) ?_;rintro _ _ ⟨rfl,rfl⟩;refine eH W (cf (by have:=n7 (u:=n / 10) (by omega);simp;omega)) ?_;refine eH W ax ?_;refine kC ?_;rw[el (by have:=kd1 O;omega)];exact am rfl rfl rfl
def BP (n:Nat)(hn:n<1000)F:cqq 162 [I n] (F) (R1 (ay (Lib.decDigits n)) F):=by
 refine Ct.of func162 W 26 ntmps162 (by simp) λw0=>?_;refine A<|T<|ac<|A<|C<|M aG<|ab<|ah ?_ ?_<;>intro V
 ·exfalso;have:=kd0 V;omega
 ·refine ai<|ac<|A<|C<|M aG<|ab<|ah ?_ ?_<;>intro O
  ·have R:n<10:=(by have:=kd0 O;omega);rw[p8 R];refine A<|C<|gP<|M (cG (r:=((lH (n)).toNat:Int)) XA XI (by rw[ix (by omega),w8 (by omega)];omega))<|gI (ap (aC [lH (n)]) XN Yd Ym (by simp[aC])) ?_;rintro _ _ ⟨S,rfl,rfl⟩;refine M (cg (l:=[lH (n)]) XN XI Xz W)<|T ?_;refine am W W ?_;exact rfl
  ·refine ai<|ac ?_;refine qX (Lf:=[]) (.q 0 (.q 1 (.q 3 (.q 4 (.q 5 (.q 6 (.alt (.l 2 (.l 7 (.c (.q 8 (.q 9 (.q 10 (.nil))))))) (.l 7 (.c (.q 8 (.l 2 (.q 9 (.q 10 (.nil)))))))))))))) ?_;refine eH W ao ?_;refine eH rfl (qd (r:=((n / 10:Nat):Int)) (by rw[show (n:Int).tdiv 10=((n / 10:Nat):Int) from (kds n 10)];exact cK (by omega))) ?_;refine eH W ao ?_;refine eH W (tq (r:=((n % 10:Nat):Int)) (by exact kdt n 10)) ?_;refine eH W (bx (cK (by omega))) ?_;refine eH W (cG (r:=((lH (n % 10)).toNat:Int)) XA XI (by rw[ix (by omega),w8 (by omega)];omega)) ?_;refine oB ?_ ?_
   ·refine lY W (uA call162 (BO (n / 10) (by omega))) ?_;rintro _ _ ⟨rfl,rfl⟩;refine lY W (ap (aC [lH (n % 10)]) XN Yd Ym (by simp[aC])) ?_;rintro _ _ ⟨J,rfl,rfl⟩;refine lZ ([be 5 1 (some ⟨J,0,none⟩) 1 (aC [lH (n % 10)])]) ?_;refine eH W (cg (l:=[lH (n % 10)]) XN XI Xz W) ?_;refine eH W (cf (by have:=n7 (u:=n / 10) (by omega);simp;omega)) ?_;refine eH W ax ?_;refine kC ?_;rw[el (by have:=kd1 O;omega)];exact am rfl rfl rfl
   ·refine lY W (ap (aC [lH (n % 10)]) XN Yd Ym (by simp[aC])) ?_;rintro _ _ ⟨J,rfl,rfl⟩;refine lZ ([be 5 1 (some ⟨J,0,none⟩) 1 (aC [lH (n % 10)])]) ?_;refine eH W (cg (l:=[lH (n % 10)]) XN XI Xz W) ?_;refine lY W (uA call162 (BO (n / 10) (by omega))) ?_;rintro _ _ ⟨rfl,rfl⟩;refine eH W (cf (by have:=n7 (u:=n / 10) (by omega);simp;omega)) ?_;refine eH W ax ?_;refine kC ?_;rw[el (by have:=kd1 O;omega)];exact am rfl rfl rfl
def rx (n:Nat)(hn:n<10000)F:cqq 162 [I n] (F) (R1 (ay (Lib.decDigits n)) F):=by
 refine Ct.of func162 W 26 ntmps162 (by simp) λw0=>?_;refine A<|T<|ac<|A<|C<|M aG<|ab<|ah ?_ ?_<;>intro V
 ·exfalso;have:=kd0 V;omega
 ·refine ai<|ac<|A<|C<|M aG<|ab<|ah ?_ ?_<;>intro O
  ·have R:n<10:=(by have:=kd0 O;omega);rw[p8 R];refine A<|C<|gP<|M (cG (r:=((lH (n)).toNat:Int)) XA XI (by rw[ix (by omega),w8 (by omega)];omega))<|gI (ap (aC [lH (n)]) XN Yd Ym (by simp[aC])) ?_;rintro _ _ ⟨S,rfl,rfl⟩;refine M (cg (l:=[lH (n)]) XN XI Xz W)<|T ?_;refine am W W ?_;exact rfl
  ·refine ai<|ac ?_;refine qX (Lf:=[]) (.q 0 (.q 1 (.q 3 (.q 4 (.q 5 (.q 6 (.alt (.l 2 (.l 7 (.c (.q 8 (.q 9 (.q 10 (.nil))))))) (.l 7 (.c (.q 8 (.l 2 (.q 9 (.q 10 (.nil)))))))))))))) ?_;refine eH W ao ?_;refine eH rfl (qd (r:=((n / 10:Nat):Int)) (by rw[show (n:Int).tdiv 10=((n / 10:Nat):Int) from (kds n 10)];exact cK (by omega))) ?_;refine eH W ao ?_;refine eH W (tq (r:=((n % 10:Nat):Int)) (by exact kdt n 10)) ?_;refine eH W (bx (cK (by omega))) ?_;refine eH W (cG (r:=((lH (n % 10)).toNat:Int)) XA XI (by rw[ix (by omega),w8 (by omega)];omega)) ?_;refine oB ?_ ?_
   ·refine lY W (uA call162 (BP (n / 10) (by omega))) ?_;rintro _ _ ⟨rfl,rfl⟩;refine lY W (ap (aC [lH (n % 10)]) XN Yd Ym (by simp[aC])) ?_;rintro _ _ ⟨J,rfl,rfl⟩;refine lZ ([be 5 1 (some ⟨J,0,none⟩) 1 (aC [lH (n % 10)])]) ?_;refine eH W (cg (l:=[lH (n % 10)]) XN XI Xz W) ?_;refine eH W (cf (by have:=n7 (u:=n / 10) (by omega);simp;omega)) ?_;refine eH W ax ?_;refine kC ?_;rw[el (by have:=kd1 O;omega)];exact am rfl rfl rfl
   ·refine lY W (ap (aC [lH (n % 10)]) XN Yd Ym (by simp[aC])) ?_;rintro _ _ ⟨J,rfl,rfl⟩;refine lZ ([be 5 1 (some ⟨J,0,none⟩) 1 (aC [lH (n % 10)])]) ?_;refine eH W (cg (l:=[lH (n % 10)]) XN XI Xz W) ?_;refine lY W (uA call162 (BP (n / 10) (by omega))) ?_;rintro _ _ ⟨rfl,rfl⟩;refine eH W (cf (by have:=n7 (u:=n / 10) (by omega);simp;omega)) ?_;refine eH W ax ?_;refine kC ?_;rw[el (by have:=kd1 O;omega)];exact am rfl rfl rfl
def eU n(hn:0<=n/\n<=1000)F:cqq 109 [I n] (F) (R1 (ay (jt n)) F):=by
 obtain ⟨u,rfl⟩:∃u:Nat,n=u:=⟨n.toNat,by omega⟩;have S:(Lib.decDigits u).length<=4:=n7 (by omega);rw[RC,ic];refine Ct.of func109 W 12 ntmps109 (by simp) λw0=>?_;refine A<|T<|A<|C<|gI (uA call162 (rx u (by omega))) ?_;rintro _ L1 ⟨rfl,h1⟩;obtain rfl:F=L1:=h1.symm;refine T<|ac<|ak ?_;refine aL (α:=Nat) (λj=>j<=3 - (Lib.decDigits u).length) (λj=>U [(3,ay (Wp j (Lib.decDigits u)))]) (λ_=>F) (λj=>3 - j) 0 (by omega) [3] rfl ?_;intro j hj;refine ac<|A<|C<|M (cD Xz)<|M aG<|ab<|ah ?_ ?_<;>intro O
 ·have J:=kd0 O;rw[DI] at J;have R:j<3 - (Lib.decDigits u).length:=(by omega);refine ai<|ak<|al<|C<|M (cf (by rw[DI];simp;omega))<|T<|aE ?_;exact an (j+1) (by omega) (by omega) [3] rfl
 ·have J:=kd1 O;rw[DI] at J;obtain rfl:j=3 - (Lib.decDigits u).length:=(by omega);refine aF ?_;refine A<|C<|T ?_;refine am W W ?_;exact rfl
def wc b S L n(h:Sm S L n)F:Ct Tryz.prog 40 [ptr b 0] (oo b S L n::F) (uX 174 3 (bN S L n).length (bI (bN S L n)) (oo b S L n::F)):=by
 have hok:=h.ok;have hll:=h.len;have hib:=eM 40 S.B;have hin:=eM 24 S.N;refine Ct.of func40 W 160 ntmps40 (by simp) λw0=>?_;refine go b S L n ?_;intro x s c;refine aY 174 3 (bI ((dS 40 S.B).take 0)) ?_;refine A (T (A (T (A (C (M aa (gF 0 XY W YV (gL (ptr x 0) Y4 (gI (uB call108 (wG x (xS S) (λk _=>Xt h k))) ?_)))))))));rintro _ _ ⟨s15,c15,rfl,rfl⟩;rw[FN hok];refine bz s15 ?_;refine T (ac (A (T (ak ?_))));refine aL (α:=Nat×Option Addr×Nat) (λz=>z.1<=(ck 40 S.B).length) (λz=>U [(0,ptr b 0),(3,sl z.2.1 z.1 z.2.2),(4,sl s15 (ck 40 S.B).length c15),(5,I z.1)]) (λz=>be 174 3 z.2.1 z.2.2 (bI ((dS 40 S.B).take z.1))::roL 1 s15 (bc (ck 40 S.B))::pt b (.cells #[ptr x 0,sl s L.length c,I n] 126 (0,0))::kY x (xS S)::be 162 4 s c (gb (L))::F) (λz=>(ck 40 S.B).length - z.1) (0,none,0) (by simp) [0,3,4,5] rfl ?_;rintro ⟨k,s3,c3⟩ hk;simp only[] at hk ⊢;refine ac (A (C (C (M (aP XB) (M aG (ab ?_))))));apply ah<;>intro h19
 ·simp at h19;have hki:k<(ck 40 S.B).length:=(by omega);obtain ⟨q,hq⟩:∃q,(ck 40 S.B)[k]? =some q:=⟨_,kbN hki⟩;obtain ⟨hqr,hqs⟩:=mem_ids.1 (kbe hq);have hgb:=NE h q;refine ai (ac (ak (gD (Lf:=[pt b (.cells #[ptr x 0,sl s L.length c,I n] 126 (0,0)),kY x (xS S),roL 1 s15 (bc (ck 40 S.B))]) [(0,false),(1,false),(2,false),(3,false),(4,false),(7,false),(8,false),(9,false),(10,false),(11,false),(12,false),(13,false),(14,false),(15,false),(16,false),(17,false),(18,false),(19,false),(21,false),(22,false),(23,false),(24,false),(25,false),(26,false),(27,false),(28,false),(29,false),(30,false),(31,false),(32,false),(33,false),(5,true),(6,false),(20,true),(34,false),(35,false),(36,true),(37,true),(38,false)] (dM W (dM W (dM W (dV W (av k XB Xu hki (by rw[cw];exact hki)) (dV W (aI (v:=I q) Xv (by exact fO hq) W) (dM W (dV W aa (dF W 0 XY W YV (dL W (ptr x 0) Y4 (dM W (dM W (dV W (av k XB Xu hki (by rw[cw];exact hki)) (dV W (aI (v:=I q) Xv (by exact fO hq) W) (dV W aa (dF W 0 X8 W Zc (dV W (bp q.toNat Zd Yn (hj:=by omega) (by omega)) (dF W 1 YF W Xu (dV W (aA (v:=I (gB S.B q).2) Xv (hv:=⟨by rw[<-Ok (by omega)];exact pT (by omega)⟩)) (dM W (dV W aa (dF W 0 XY W YV (dL W (ptr x 0) Y4 (dM W (dM W (dV W (av k XB Xu hki (by rw[cw];exact hki)) (dV W (aI (v:=I q) Xv (by exact fO hq) W) (dV W aa (dF W 0 X8 W Zc (dV W (bp q.toNat Zd Yn (hj:=by omega) (by omega)) (dF W 0 YF W Xx (dV W (aA (v:=ay (gB S.B q).1) XD (hv:=⟨by rw[<-Ok (by omega)];exact JJ (by omega) (by omega)⟩)) (cQ W (uA call109 (eU (q) (by omega))) ?_)))))))))))))))))))))))))))))))))));rintro _ _ ⟨rfl,rfl⟩;refine dV W (cf (by have:=ce (n:=q) (by omega);simp;omega)) (cQ W (uA call109 (eU ((gB S.B q).2) (by omega))) ?_);rintro _ _ ⟨rfl,rfl⟩;refine dV rfl (cf (by have:=ce (n:=(gB S.B q).2) (by omega);omega)) (dV rfl (aS (iF _ rfl _ rfl)) (cQ rfl (ap [bg (K3 q (gB S.B q))] Xy Xw XH (by intro r hr;simp at hr;subst hr;rfl)) ?_));rintro _ _ ⟨b58,rfl,rfl⟩;refine cQ rfl (aR Xy Xw XH Tryz.typeInfo174 (hn:=by rw[aT];simp[dS,ea];omega) (by intro r hr;simp at hr;subst hr;rfl) (by intro r hr;simp at hr;subst hr;rfl) ⟨by omega,by decide,by decide⟩) ?_
  rintro _ _ ⟨s59,c59,rfl,rfl⟩;rw[fj,fP (Fr hq)];refine dV W ax ?_;refine aN ?_;refine aE (al (C (gP (T ?_))));exact an (k+1,s59,c59) (by simp only[];omega) (by simp only[];omega) [0,3,4,5] rfl
 ·simp at h19;obtain rfl:k=(ck 40 S.B).length:=(by omega);rw[kcI (by rw[Bw];omega)];refine aF ?_;refine A (C (M aa (gF 0 XY W YV (gL (ptr x 0) Y4 (gI (uB call110 (zK x S 999 hok)) ?_)))));rintro _ _ ⟨s64,c64,rfl,rfl⟩;refine bz s64 ?_;refine kw s3 (bI (dS 40 S.B++(ea 24 S.N).take 0)) (by simp) ?_;refine T (ac (A (T (ak ?_))));refine aL (α:=Nat×Option Addr×Nat) (λz=>z.1<=(ck 24 S.N).length) (λz=>U [(0,ptr b 0),(3,sl z.2.1 ((ck 40 S.B).length+z.1) z.2.2),(6,sl s64 (ck 24 S.N).length c64),(7,I z.1)]) (λz=>be 174 3 z.2.1 z.2.2 (bI (dS 40 S.B++(ea 24 S.N).take z.1))::roL 1 s64 (bc (ck 24 S.N))::pt b (.cells #[ptr x 0,sl s L.length c,I n] 126 (0,0))::kY x (xS S)::be 162 4 s c (gb (L))::F) (λz=>(ck 24 S.N).length - z.1) (0,s3,c3) (by simp) [0,3,6,7] rfl ?_;rintro ⟨k,s3,c3⟩ hk;simp only[] at hk ⊢;refine ac (A (C (C (M (aP XB) (M aG (ab ?_))))));apply ah<;>intro h68
  ·simp at h68;have hki:k<(ck 24 S.N).length:=(by omega);obtain ⟨q,hq⟩:∃q,(ck 24 S.N)[k]? =some q:=⟨_,kbN hki⟩;obtain ⟨hqr,hqs⟩:=mem_ids.1 (kbe hq);have hgn:=Jf h q;have h4r:=ce (n:=(gN S.N q).refs) (by omega);have h4k0:=ce (n:=(gN S.N q).k0) (by have:=hgn.2 (gN S.N q).k0 (by simp[kd]);omega);have h4k1:=ce (n:=(gN S.N q).k1) (by have:=hgn.2 (gN S.N q).k1 (by simp[kd]);omega);have h4k2:=ce (n:=(gN S.N q).k2) (by have:=hgn.2 (gN S.N q).k2 (by simp[kd]);omega);have h4k3:=ce (n:=(gN S.N q).k3) (by have:=hgn.2 (gN S.N q).k3 (by simp[kd]);omega);refine ai (ac (ak (ac ?_)));refine eE (Lf:=[pt b (.cells #[ptr x 0,sl s L.length c,I n] 126 (0,0)),kY x (xS S),roL 1 s64 (bc (ck 24 S.N))]) [(0,false),(1,false),(2,false),(3,false),(4,false),(5,false),(6,false),(7,false),(8,false),(9,false),(10,false),(11,false),(12,true)] 13 ?_;refine dM W (dV W aa (dF W 0 XY W YV (dL W (ptr x 0) Y4 (dM W (dM W (dV W (av k XB Xu hki (by rw[cw];exact hki)) (dV W (aI (v:=I q) Xv (by exact fO hq) W) (dV W aa (dF W 82 X8 W YA (dV W (bp q.toNat YB X0 (hj:=by omega) (by omega)) (dV W (bj (vs:=kV (gN S.N q)) Z3 X0 (by rw[<-lJ (by omega)];exact UB (by omega) (by omega))) (cQ W (aO #[I 0,I 0,I 0,I 0,I 0] Yx) ?_))))))))))));rintro _ _ ⟨b8,rfl,rfl⟩;refine aN ?_;refine gU (az (cs:=#[I 0,I 0,I 0,I 0,I 0]) (vs:=kV (gN S.N q)) (kV (gN S.N q)).toArray X0 (by simp) (hcs:=by exact aH)) (ab (gD (Lf:=[pt b8 (.cells (kV (gN S.N q)).toArray 187 (0,0)),roL 1 s64 (bc (ck 24 S.N))]) [(0,false),(1,false),(2,false),(3,false),(4,false),(7,false),(8,false),(10,false),(11,false),(12,false),(15,false),(16,false),(17,false),(20,false),(21,false),(22,false),(25,false),(26,false),(27,false),(5,true),(6,false),(9,true),(13,true),(14,false),(18,true),(19,false),(23,true),(24,false),(28,true),(29,false),(30,false),(31,true),(32,true),(33,false)] (dM W (dM W (dM W (dV W (av k XB Xu hki (by rw[cw];exact hki)) (dV W (aI (v:=I q) Xv (by exact fO hq) W) (dF W 4 XV W Xu (dL W (I (gN S.N q).refs) Xv (dF W 0 XV W XR (dV W (bp 0 X6 Xu (by decide)) (dL W (I (gN S.N q).k0) Xv (dF W 0 XV W XR (dV W (bp 1 X6 Xu (by decide)) (dL W (I (gN S.N q).k1) Xv (dF W 0 XV W XR (dV W (bp 2 X6 Xu (by decide)) (dL W (I (gN S.N q).k2) Xv (dF W 0 XV W XR (dV W (bp 3 X6 Xu (by decide)) (dL W (I (gN S.N q).k3) Xv (cQ W (uA call109 (eU (q) (by omega))) ?_))))))))))))))))))))))
   rintro _ _ ⟨rfl,rfl⟩;refine dV W (cf (by have:=ce (n:=q) (by omega);simp;omega)) (cQ W (uA call109 (eU ((gN S.N q).refs) (by omega))) ?_);rintro _ _ ⟨rfl,rfl⟩;refine cQ W (uA call109 (eU ((gN S.N q).k0) (by have:=hgn.2 (gN S.N q).k0 (by simp[kd]);omega))) ?_;rintro _ _ ⟨rfl,rfl⟩;refine dV W (cf (by have:=h4r;have:=h4k0;omega)) (cQ W (uA call109 (eU ((gN S.N q).k1) (by have:=hgn.2 (gN S.N q).k1 (by simp[kd]);omega))) ?_);rintro _ _ ⟨rfl,rfl⟩;refine dV W (cf (by simp only[kcp];omega)) (cQ W (uA call109 (eU ((gN S.N q).k2) (by have:=hgn.2 (gN S.N q).k2 (by simp[kd]);omega))) ?_);rintro _ _ ⟨rfl,rfl⟩;refine dV W (cf (by simp only[kcp];omega)) (cQ W (uA call109 (eU ((gN S.N q).k3) (by have:=hgn.2 (gN S.N q).k3 (by simp[kd]);omega))) ?_);rintro _ _ ⟨rfl,rfl⟩;refine dV W (cf (by simp only[kcp];omega)) (dV W (aS (iF _ W _ W)) ?_);have hnv:jt (gN S.N q).refs++jt (gN S.N q).k0++jt (gN S.N q).k1++jt (gN S.N q).k2++jt (gN S.N q).k3=wT (gN S.N q):=(by simp[wT,kd]);rw[hnv];refine cQ rfl (ap [bg (K4 q (gN S.N q))] Xy Xw XH (by intro r hr;simp at hr;subst hr;rfl)) ?_;rintro _ _ ⟨b114,rfl,rfl⟩;refine cQ rfl (aR Xy Xw XH Tryz.typeInfo174 (hn:=by rw[aT];simp[dS,ea];omega) (by intro r hr;simp at hr;subst hr;rfl) (by intro r hr;simp at hr;subst hr;rfl) ⟨by omega,by decide,by decide⟩) ?_;rintro _ _ ⟨s115,c115,rfl,rfl⟩;rw[fj,kbx (dS 40 S.B),fP (Fs hq)];refine dV W ax ?_;refine aN ?_;refine aE (al (C (gP (T ?_))));exact an (k+1,s115,c115) (by simp only[];omega) (by simp only[];omega) [0,3,6,7] rfl
  ·simp at h68;obtain rfl:k=(ck 24 S.N).length:=(by omega);rw[kcI (l:=ea 24 S.N) (by rw[Bx];omega)];refine aF ?_;refine ac (A (T ?_));refine kw s3 (bI (dS 40 S.B++ea 24 S.N++(L.map nt).take 0)) (by simp) ?_;refine ak ?_;refine aL (α:=Nat×Option Addr×Nat) (λz=>z.1<=L.length) (λz=>U [(0,ptr b 0),(3,sl z.2.1 ((ck 40 S.B).length+(ck 24 S.N).length+z.1) z.2.2),(9,I z.1)]) (λz=>be 174 3 z.2.1 z.2.2 (bI (dS 40 S.B++ea 24 S.N++(L.map nt).take z.1))::pt b (.cells #[ptr x 0,sl s L.length c,I n] 126 (0,0))::kY x (xS S)::be 162 4 s c (gb (L))::F) (λz=>L.length - z.1) (0,s3,c3) (by simp) [0,3,9] rfl ?_;rintro ⟨k,s3,c3⟩ hk;simp only[] at hk ⊢;refine ac (A (C (C (M aa (gF 1 XY W XS (gL (sl s (L).length c) Ya (M (aP XP) (M aG (ab ?_)))))))));apply ah<;>intro h122
   ·simp at h122;have hkn:k<L.length:=(by omega);obtain ⟨p0,hp⟩:∃p0,L[k]? =some p0:=⟨_,kbN hkn⟩;have hps:=h.pts p0 (kbe hp);refine ai (ac (ak (A (C (M aa (gF 1 XY W XS (gL (sl s (L).length c) Ya (C (M (av (k) XP XE hkn (by rw[cR];exact hkn)) (M (bO (row:=aW p0) YI XE (g8 hp)) (gI (aO #[I 0,I 0,I 0,I 0] X4) ?_)))))))))));rintro _ _ ⟨b10,rfl,rfl⟩;refine gU (az (cs:=#[I 0,I 0,I 0,I 0]) (vs:=aW (p0)) (aW (p0)).toArray XE (by simp) (hcs:=by exact aH)) (ab ?_);refine cn (Lf:=[pt b10 (.cells (aW p0).toArray 162 (0,0))]) jV ?_;refine dM W (dF W 0 XQ W Xu (dL W (I p0.id) Xv (dF W 1 XQ W Xu (dL W (I p0.disk) Xv (dF W 2 XQ W Xu (dL W (I p0.size) Xv (dF W 3 XQ W Xu (dL W (I p0.root) Xv (cQ W (uA call109 (eU (p0.id) (by omega))) ?_)))))))));rintro _ _ ⟨rfl,rfl⟩;refine dV W (cf (by have:=ce (n:=p0.id) (by omega);simp;omega)) (cQ W (uA call109 (eU (p0.disk) (by omega))) ?_);rintro _ _ ⟨rfl,rfl⟩;refine cQ W (uA call109 (eU (p0.size) (by omega))) ?_;rintro _ _ ⟨rfl,rfl⟩;refine dV W (cf (by have:=ce (n:=p0.disk) (by omega);have:=ce (n:=p0.size) (by omega);omega)) (cQ W (uA call109 (eU (p0.root) (by omega))) ?_);rintro _ _ ⟨rfl,rfl⟩;refine dV rfl (cf (by have:=ce (n:=p0.disk) (by omega);have:=ce (n:=p0.size) (by omega);have:=ce (n:=p0.root) (by omega);simp;omega)) (dV rfl (aS (iF _ rfl _ rfl)) (cQ rfl (ap [bg (nt p0)] Xy Xw XH (by intro r hr;simp at hr;subst hr;rfl)) ?_));rintro _ _ ⟨b149,rfl,rfl⟩;refine cQ rfl (aR Xy Xw XH Tryz.typeInfo174 (hn:=by rw[aT];simp[dS,ea];omega) (by intro r hr;simp at hr;subst hr;rfl) (by intro r hr;simp at hr;subst hr;rfl) ⟨by omega,by decide,by decide⟩) ?_;rintro _ _ ⟨s150,c150,rfl,rfl⟩;rw[fj,kbx (dS 40 S.B++ea 24 S.N),fP (show (L.map nt)[k]? =some (nt p0) by simp[hp])];refine dV W ax ?_;refine aN ?_;refine aE (al (C (gP (T ?_))));exact an (k+1,s150,c150) (by simp only[];omega) (by simp only[];omega) [0,3,9] rfl
   ·simp at h122;obtain rfl:k=L.length:=(by omega);rw[kcI (l:=L.map nt) (by simp)];refine aF ?_;refine A (C (C (M aa (gF 2 XY rfl Xu (gL (I n) Xv (gR (vA call109 (eU (n) (by have:=h.n1;omega))) (M (aS (iF _ rfl _ rfl)) (gI (ap [bg (vS n)] Xy Xw XH (by intro r hr;simp at hr;subst hr;rfl)) ?_))))))));rintro _ _ ⟨b158,rfl,rfl⟩;refine gI (aR Xy Xw XH Tryz.typeInfo174 (hn:=by rw[aT];simp[dS,ea];omega) (by intro r hr;simp at hr;subst hr;rfl) (by intro r hr;simp at hr;subst hr;rfl) ⟨by omega,by decide,by decide⟩) ?_;rintro _ _ ⟨s159,c159,rfl,rfl⟩;rw[fj,show dS 40 S.B++ea 24 S.N++L.map nt++ [vS n]=bN S L n from rfl];refine T ?_;refine dW b x s c S L n ?_;exact cU rfl rfl rfl (by rw[rn])
def Wq {a b:List ChangeM}{x}(h:a[i]? =some x)(J:b.drop k=[]):mg (a.drop i) (b.drop k)=ke x::mg (a.drop (i+1)) (b.drop k):=by
 rw[J,uo,uo,bR h];rfl
def zP a b s s' cap cap'(ha:a.length<=1000000)(hb:b.length<=1000000)F:cqq 206 [sl s a.length cap,sl s' b.length cap'] (roL 3 s (bI a)::roL 3 s' (bI b)::F) (uX 174 3 (mg a b).length (bI (mg a b)) (roL 3 s (bI a)::roL 3 s' (bI b)::F)):=by
 refine Ct.of func206 W 99 ntmps206 (by simp) λw0=>?_;refine A<|T<|A<|T<|A<|T<|ac ?_;refine aY 174 3 (bI []) ?_;refine al<|T<|ac<|ak ?_;refine aL (α:=Nat×Nat×List ChangeM×Option Addr×Nat) (λz=>z.1<=a.length/\z.2.1<=b.length/\z.2.2.1.length<=z.1+z.2.1/\mg a b=z.2.2.1++mg (a.drop z.1) (b.drop z.2.1)) (λz=>U [(0,sl s a.length cap),(1,sl s' b.length cap'),(5,sl z.2.2.2.1 z.2.2.1.length z.2.2.2.2),(6,I z.1),(7,I z.2.1)]) (λz=>be 174 3 z.2.2.2.1 z.2.2.2.2 (bI z.2.2.1)::roL 3 s (bI a)::roL 3 s' (bI b)::F) (λz=>a.length+b.length - z.1 - z.2.1) (0,0,[],none,0) ⟨by simp,by simp,by simp,rfl⟩ [0,1,5,6,7] rfl ?_;rintro ⟨i,k,o,s5,c5⟩ ⟨hi,hk,hol,O⟩;simp only[] at hi hk hol O ⊢;refine ac<|A<|C<|C<|M (aP Xy)<|M aG<|C<|gK ao<|gK ao<|gK (aP Xy)<|gK aG<|M cv<|ab<|ah ?_ ?_<;>intro h17
 ·have h17':i<a.length\/k<b.length:=(by simp at h17;omega);refine ai<|ak<|ac<|ac<|gD (Lf:=[roL 3 s (bI a),roL 3 s' (bI b)]) (plN [0,2,4,6,8,10,12,14,16,18,20,22,24,26,28,30,32,34,36,38,40,42,44])<|dM W<|dM W<|dV W (aP Xy)<|dV W bE<|dM W ?_;by_cases S:(k:Int)=(b.length:Int)
  ·obtain ⟨x,hx⟩:∃x,a[i]? =some x:=⟨_,kbN (by omega)⟩;refine aM W (hw:=by rw[kci S];rfl)<|aM W (hw:=by rw[kci S];rfl)<|aM W (hw:=by rw[kci S];rfl)<|aM W (hw:=by rw[kci S];rfl)<|aM W (hw:=by rw[kci S];rfl)<|aM W<|aM W<|aM W<|aM W<|aM W<|aM W<|aM W<|aM W<|aM W<|aM W<|aM W<|aM W (hw:=by rw[kci S];rfl)<|dV W (eV (hq:=by exact kci S)) ?_;refine aN<|ah ?_ ?_<;>intro X
   ·refine A<|C<|C<|C<|M (av i Xy Xw (by omega) (by rw[aT];omega))<|M (aK (j:=i) 0 XJ rfl Xx (by rw[aT];omega))<|M (bS (v:=ay x.key) XD (de hx))<|M (aS (Oj x.key))<|gI (ap [bg (ke x)] Xy Xw XH (by intro r hr;simp at hr;subst hr;rfl)) ?_;rintro _ _ ⟨b48,rfl,rfl⟩;refine gI (aR Xy Xw XH Tryz.typeInfo174 (hn:=by exact aT _) (by intro r hr;simp at hr;subst hr;rfl) (by intro r hr;simp at hr;subst hr;rfl) ⟨by omega,by decide,by decide⟩) ?_;rintro _ _ ⟨Z,Y,rfl,rfl⟩;rw[fj];refine T<|A<|C<|gP<|T ?_;refine aF ?_;exact an (i+1,k,o++ [ke x],Z,Y) ⟨by simp only[];omega,by simp only[];omega,by simp;omega,by simp only[];rw[O,Wq hx (by rw[kbP (by omega)])];simp⟩ (by simp only[];omega) [0,1,5,6,7] rfl (he:=by simp[U])
   ·cases X
  ·obtain ⟨y,hy⟩:∃y,b[k]? =some y:=⟨_,kbN (by omega)⟩;refine aU W (hw:=by exact kcj S) ao<|aU W (hw:=by exact kcj S) ao<|aU W (hw:=by exact kcj S) (aP Xy)<|aU W (hw:=by exact kcj S) aG<|aU W (hw:=by exact kcj S) ao ?_;by_cases J:(i:Int)<(a.length:Int)
   ·obtain ⟨x,hx⟩:∃x,a[i]? =some x:=⟨_,kbN (by omega)⟩;refine aU W (hw:=by exact kci J) ao<|aU W (hw:=by exact kci J) ao<|aU W (hw:=by exact kci J) (av i Xy Xw (by omega) (by rw[aT];omega))<|aU W (hw:=by exact kci J) (aK (j:=i) 0 XJ W Xx (by rw[aT];omega))<|aU W (hw:=by exact kci J) (bS (v:=ay x.key) XD (de hx))<|aU W (hw:=by exact kci J) ao<|aU W (hw:=by exact kci J) ao<|aU W (hw:=by exact kci J) (av k Xy Xw (by omega) (by rw[aT];omega))<|aU W (hw:=by exact kci J) (aK (j:=k) 0 XJ W Xx (by rw[aT];omega))<|aU W (hw:=by exact kci J) (bS (v:=ay y.key) XD (de hy))<|aU W (hw:=by exact kci J) (LQ W W)<|aU W (hw:=by exact kcj S) (eV (hq:=by exact kci J))<|dV W (fa (hq:=by exact kcj S)) ?_;refine aN<|ah ?_ ?_<;>intro X
    ·have R:kl x.key y.key=true:=X;refine A<|C<|C<|C<|M (av i Xy Xw (by omega) (by rw[aT];omega))<|M (aK (j:=i) 0 XJ rfl Xx (by rw[aT];omega))<|M (bS (v:=ay x.key) XD (de hx))<|M (aS (Oj x.key))<|gI (ap [bg (ke x)] Xy Xw XH (by intro r hr;simp at hr;subst hr;rfl)) ?_;rintro _ _ ⟨b48,rfl,rfl⟩;refine gI (aR Xy Xw XH Tryz.typeInfo174 (hn:=by exact aT _) (by intro r hr;simp at hr;subst hr;rfl) (by intro r hr;simp at hr;subst hr;rfl) ⟨by omega,by decide,by decide⟩) ?_;rintro _ _ ⟨Z,Y,rfl,rfl⟩;rw[fj];refine T<|A<|C<|gP<|T ?_;refine aF ?_
     first
     | exact an (i+1,k,o++ [ke x],Z,Y) ⟨by simp only[];omega,by simp only[];omega,by simp;omega,by simp only[];rw[O,bR hx,bR hy,zo R];simp⟩ (by simp only[];omega) [0,1,5,6,7] rfl (he:=by simp[U])
     | exact an (i,k+1,o++ [y],s75,c75) ⟨by simp only[];omega,by simp only[];omega,by simp;omega,by simp only[];rw[O,bR hx,bR hy,zp R V];simp⟩ (by simp only[];omega) [0,1,5,6,7] rfl (he:=by simp[U])
     | exact an (i+1,k+1,o++ [y],s93,c93) ⟨by simp only[];omega,by simp only[];omega,by simp;omega,by simp only[];rw[O,bR hx,bR hy,qI R V,kaU hne];simp⟩ (by simp only[];omega) [0,1,5,6,7] rfl (he:=by simp[U])
     | exact an (i+1,k+1,o,s5,c5) ⟨by simp only[];omega,by simp only[];omega,by simp;omega,by simp only[];rw[O,bR hx,bR hy,qI R V,kaT hne];simp⟩ (by simp only[];omega) [0,1,5,6,7] rfl (he:=by simp[U])
    ·have R:¬kl x.key y.key=true:=λh=>(by rw[show Op.bytesLess x.key y.key=true from h] at X;cases X);refine ai<|ac<|ac ?_;refine cn (Lf:=[roL 3 s (bI a),roL 3 s' (bI b)]) jC ?_;refine dM rfl<|dM rfl<|dV rfl (aP Xy)<|dV rfl bE<|dM rfl<|aU rfl (hw:=by exact kcj (show ¬(i:Int)=(a.length:Int) by omega)) ao<|aU rfl (hw:=by exact kcj (show ¬(i:Int)=(a.length:Int) by omega)) ao<|aU rfl (hw:=by exact kcj (show ¬(i:Int)=(a.length:Int) by omega)) (av k Xy Xw (by omega) (by rw[aT];omega))<|aU rfl (hw:=by exact kcj (show ¬(i:Int)=(a.length:Int) by omega)) (aK (j:=k) 0 XJ rfl Xx (by rw[aT];omega))<|aU rfl (hw:=by exact kcj (show ¬(i:Int)=(a.length:Int) by omega)) (bS (v:=ay y.key) XD (de hy))<|aU rfl (hw:=by exact kcj (show ¬(i:Int)=(a.length:Int) by omega)) ao<|aU rfl (hw:=by exact kcj (show ¬(i:Int)=(a.length:Int) by omega)) ao<|aU rfl (hw:=by exact kcj (show ¬(i:Int)=(a.length:Int) by omega)) (av i Xy Xw (by omega) (by rw[aT];omega))<|aU rfl (hw:=by exact kcj (show ¬(i:Int)=(a.length:Int) by omega)) (aK (j:=i) 0 XJ rfl Xx (by rw[aT];omega))<|aU rfl (hw:=by exact kcj (show ¬(i:Int)=(a.length:Int) by omega)) (bS (v:=ay x.key) XD (de hx))<|aU rfl (hw:=by exact kcj (show ¬(i:Int)=(a.length:Int) by omega)) (LQ rfl rfl)<|dV rfl (fa (hq:=by exact kcj (show ¬(i:Int)=(a.length:Int) by omega))) ?_;refine aN<|ah ?_ ?_<;>intro h68
     ·have V:kl y.key x.key=true:=h68;refine A<|C<|C<|C<|M (av k Xy Xw (by omega) (by rw[aT];omega))<|M (bO (row:=bg y) XU Xw (de hy))<|gI (ap [bg (y)] Xy Xw XH (by intro r hr;simp at hr;subst hr;rfl)) ?_;rintro _ _ ⟨b74,rfl,rfl⟩;refine gI (aR Xy Xw XH Tryz.typeInfo174 (hn:=by exact aT _) (by intro r hr;simp at hr;subst hr;rfl) (by intro r hr;simp at hr;subst hr;rfl) ⟨by omega,by decide,by decide⟩) ?_;rintro _ _ ⟨s75,c75,rfl,rfl⟩;rw[fj];refine T<|A<|C<|gP<|T ?_;refine aF ?_
      first
      | exact an (i+1,k,o++ [ke x],Z,Y) ⟨by simp only[];omega,by simp only[];omega,by simp;omega,by simp only[];rw[O,bR hx,bR hy,zo R];simp⟩ (by simp only[];omega) [0,1,5,6,7] rfl (he:=by simp[U])
      | exact an (i,k+1,o++ [y],s75,c75) ⟨by simp only[];omega,by simp only[];omega,by simp;omega,by simp only[];rw[O,bR hx,bR hy,zp R V];simp⟩ (by simp only[];omega) [0,1,5,6,7] rfl (he:=by simp[U])
      | exact an (i+1,k+1,o++ [y],s93,c93) ⟨by simp only[];omega,by simp only[];omega,by simp;omega,by simp only[];rw[O,bR hx,bR hy,qI R V,kaU hne];simp⟩ (by simp only[];omega) [0,1,5,6,7] rfl (he:=by simp[U])
      | exact an (i+1,k+1,o,s5,c5) ⟨by simp only[];omega,by simp only[];omega,by simp;omega,by simp only[];rw[O,bR hx,bR hy,qI R V,kaT hne];simp⟩ (by simp only[];omega) [0,1,5,6,7] rfl (he:=by simp[U])
     ·have V:¬kl y.key x.key=true:=λh=>(by rw[show Op.bytesLess y.key x.key=true from h] at h68;cases h68);refine ai<|ac<|ac ?_;refine cn (Lf:=[roL 3 s (bI a),roL 3 s' (bI b)]) jB ?_;refine dM W<|dM W<|dV W (av i Xy Xw (by omega) (by rw[aT];omega))<|dV W (bO (row:=bg x) XU Xw (de hx))<|dM W<|dM W<|dV W (av k Xy Xw (by omega) (by rw[aT];omega))<|dV W (bO (row:=bg y) XU Xw (de hy))<|dV W (LX eqGuardType174 W W (AY x y)) ?_;refine aN<|ah ?_ ?_<;>intro h86
      ·have hne:¬x=y:=(by simpa using h86);refine al<|C<|C<|C<|M (av k Xy Xw (by omega) (by rw[aT];omega))<|M (bO (row:=bg y) XU Xw (de hy))<|gI (ap [bg (y)] Xy Xw XH (by intro r hr;simp at hr;subst hr;rfl)) ?_;rintro _ _ ⟨b92,rfl,rfl⟩;refine gI (aR Xy Xw XH Tryz.typeInfo174 (hn:=by exact aT _) (by intro r hr;simp at hr;subst hr;rfl) (by intro r hr;simp at hr;subst hr;rfl) ⟨by omega,by decide,by decide⟩) ?_;rintro _ _ ⟨s93,c93,rfl,rfl⟩;rw[fj];refine T<|A<|C<|gP<|T<|al<|C<|gP<|T<|aE ?_
       first
       | exact an (i+1,k,o++ [ke x],Z,Y) ⟨by simp only[];omega,by simp only[];omega,by simp;omega,by simp only[];rw[O,bR hx,bR hy,zo R];simp⟩ (by simp only[];omega) [0,1,5,6,7] rfl (he:=by simp[U])
       | exact an (i,k+1,o++ [y],s75,c75) ⟨by simp only[];omega,by simp only[];omega,by simp;omega,by simp only[];rw[O,bR hx,bR hy,zp R V];simp⟩ (by simp only[];omega) [0,1,5,6,7] rfl (he:=by simp[U])
       | exact an (i+1,k+1,o++ [y],s93,c93) ⟨by simp only[];omega,by simp only[];omega,by simp;omega,by simp only[];rw[O,bR hx,bR hy,qI R V,kaU hne];simp⟩ (by simp only[];omega) [0,1,5,6,7] rfl (he:=by simp[U])
       | exact an (i+1,k+1,o,s5,c5) ⟨by simp only[];omega,by simp only[];omega,by simp;omega,by simp only[];rw[O,bR hx,bR hy,qI R V,kaT hne];simp⟩ (by simp only[];omega) [0,1,5,6,7] rfl (he:=by simp[U])
      ·have hne:x=y:=(by simpa using h86);refine ai<|A<|C<|gP<|T<|al<|C<|gP<|T<|aE ?_
       first
       | exact an (i+1,k,o++ [ke x],Z,Y) ⟨by simp only[];omega,by simp only[];omega,by simp;omega,by simp only[];rw[O,bR hx,bR hy,zo R];simp⟩ (by simp only[];omega) [0,1,5,6,7] rfl (he:=by simp[U])
       | exact an (i,k+1,o++ [y],s75,c75) ⟨by simp only[];omega,by simp only[];omega,by simp;omega,by simp only[];rw[O,bR hx,bR hy,zp R V];simp⟩ (by simp only[];omega) [0,1,5,6,7] rfl (he:=by simp[U])
       | exact an (i+1,k+1,o++ [y],s93,c93) ⟨by simp only[];omega,by simp only[];omega,by simp;omega,by simp only[];rw[O,bR hx,bR hy,qI R V,kaU hne];simp⟩ (by simp only[];omega) [0,1,5,6,7] rfl (he:=by simp[U])
       | exact an (i+1,k+1,o,s5,c5) ⟨by simp only[];omega,by simp only[];omega,by simp;omega,by simp only[];rw[O,bR hx,bR hy,qI R V,kaT hne];simp⟩ (by simp only[];omega) [0,1,5,6,7] rfl (he:=by simp[U])
   ·refine aM W (hw:=by rw[kcj J];rfl)<|aM W (hw:=by rw[kcj J];rfl)<|aM W (hw:=by rw[kcj J];rfl)<|aM W (hw:=by rw[kcj J];rfl)<|aM W (hw:=by rw[kcj J];rfl)<|aM W (hw:=by rw[kcj J];rfl)<|aM W (hw:=by rw[kcj J];rfl)<|aM W (hw:=by rw[kcj J];rfl)<|aM W (hw:=by rw[kcj J];rfl)<|aM W (hw:=by rw[kcj J];rfl)<|aM W (hw:=by rw[kcj J];rfl)<|aU W (hw:=by exact kcj S) (fa (hq:=by exact kcj J))<|dV W (fa (hq:=by exact kcj S)) ?_;refine aN<|ah ?_ ?_<;>intro X
    ·cases X
    ·refine ai<|ac<|ac ?_;refine cn (Lf:=[roL 3 s (bI a),roL 3 s' (bI b)]) jC ?_;refine dM rfl<|dM rfl<|dV rfl (aP Xy)<|dV rfl bE<|dM rfl<|aM rfl (hw:=by rw[kci (show (i:Int)=(a.length:Int) by omega)];rfl)<|aM rfl (hw:=by rw[kci (show (i:Int)=(a.length:Int) by omega)];rfl)<|aM rfl (hw:=by rw[kci (show (i:Int)=(a.length:Int) by omega)];rfl)<|aM rfl (hw:=by rw[kci (show (i:Int)=(a.length:Int) by omega)];rfl)<|aM rfl (hw:=by rw[kci (show (i:Int)=(a.length:Int) by omega)];rfl)<|aM rfl (hw:=by rw[kci (show (i:Int)=(a.length:Int) by omega)];rfl)<|aM rfl (hw:=by rw[kci (show (i:Int)=(a.length:Int) by omega)];rfl)<|aM rfl (hw:=by rw[kci (show (i:Int)=(a.length:Int) by omega)];rfl)<|aM rfl (hw:=by rw[kci (show (i:Int)=(a.length:Int) by omega)];rfl)<|aM rfl (hw:=by rw[kci (show (i:Int)=(a.length:Int) by omega)];rfl)<|aM rfl (hw:=by rw[kci (show (i:Int)=(a.length:Int) by omega)];rfl)<|dV rfl (eV (hq:=by exact kci (show (i:Int)=(a.length:Int) by omega))) ?_;refine aN<|ah ?_ ?_<;>intro h68
     ·refine A<|C<|C<|C<|M (av k Xy Xw (by omega) (by rw[aT];omega))<|M (bO (row:=bg y) XU Xw (de hy))<|gI (ap [bg (y)] Xy Xw XH (by intro r hr;simp at hr;subst hr;rfl)) ?_;rintro _ _ ⟨b74,rfl,rfl⟩;refine gI (aR Xy Xw XH Tryz.typeInfo174 (hn:=by exact aT _) (by intro r hr;simp at hr;subst hr;rfl) (by intro r hr;simp at hr;subst hr;rfl) ⟨by omega,by decide,by decide⟩) ?_;rintro _ _ ⟨s75,c75,rfl,rfl⟩;rw[fj];refine T<|A<|C<|gP<|T ?_;refine aF ?_;exact an (i,k+1,o++ [y],s75,c75) ⟨by simp only[];omega,by simp only[];omega,by simp;omega,by simp only[];rw[O,kbP (by omega),vV,vV,bR hy];simp⟩ (by simp only[];omega) [0,1,5,6,7] rfl (he:=by simp[U])
     ·cases h68
 ·have h17':i=a.length/\k=b.length:=(by simp at h17;omega);obtain ⟨rfl,rfl⟩:=h17';rw[kcz,kcz,vV,kcV] at O;subst O;refine aF ?_;refine A<|C<|T ?_;exact cU rfl rfl rfl rfl
set_option maxRecDepth 4000
def lU (e:SeE):List ag:=[pcc e.a #[I e.base,I e.disk,I e.size,sl e.so e.puts.length e.co] 219,be 86 2 e.so e.co (dh e.puts)]
def nf (e:MoE):List ag:=[pcc e.a #[I e.point, .map (some e.r)] 225,mp e.r (Au e.over)]
structure RrA where
 bs:Nat
 so:Option Addr
 co:Nat
 bv:Nat
 rs:Nat
 rm:Nat
def W8 (b:Nat)(z:RpM)(q:RrA):List ag:=
 [pcc b #[ptr q.bs 0,ptr q.bv 0, .map (some q.rs), .map (some q.rm),I z.next] 46,pcc q.bs #[sl q.so z.rows.length q.co,I (z.used:Int),I ((260 - 122:Nat):Int)] 91,roL 3 q.so (bI z.rows),oo q.bv z.S z.L z.n,mp q.rs (fm z.ses),big lU z.ses,mp q.rm (fo z.mou),big nf z.mou]
def e9 (b:Nat)(z:RpM):ag:=hx (W8 b z)
def dX b z[R:Rem L (e9 b z) F](k:∀bs so co bv rs rm,G c K E (pcc b #[ptr bs 0,ptr bv 0, .map (some rs), .map (some rm),I z.next] 46::pcc bs #[sl so z.rows.length co,I (z.used:Int),I ((260 - 122:Nat):Int)] 91::roL 3 so (bI z.rows)::oo bv z.S z.L z.n::mp rs (fm z.ses)::big lU z.ses::mp rm (fo z.mou)::big nf z.mou::F)):G c K E L:=ji (e9 b z) (cB:=W8 b z) rfl λq=>k q.bs q.so q.co q.bv q.rs q.rm
def HC l i{e}(he:l[i]? =some e)[R:Rem L (big lU l) F](k:G c K E (pcc e.a #[I e.base,I e.disk,I e.size,sl e.so e.puts.length e.co] 219::be 86 2 e.so e.co (dh e.puts)::big lU (l.eraseIdx i)::F)):G c K E L:=qY (f:=lU) l i he _ rfl k
def HD l i{e}(he:l[i]? =some e)[R:Rem L (big nf l) F](k:G c K E (pcc e.a #[I e.point, .map (some e.r)] 225::mp e.r (Au e.over)::big nf (l.eraseIdx i)::F)):G c K E L:=qY (f:=nf) l i he _ rfl k
def bY b z bs so co bv rs rm[J:Split L [pcc b #[ptr bs 0,ptr bv 0, .map (some rs), .map (some rm),I z.next] 46,pcc bs #[sl so z.rows.length co,I (z.used:Int),I ((260 - 122:Nat):Int)] 91,roL 3 so (bI z.rows),oo bv z.S z.L z.n,mp rs (fm z.ses),big lU z.ses,mp rm (fo z.mou),big nf z.mou] F](k:G c K E (e9 b z::F)):G c K E L:=
 gW (cB:=W8 b z) [pcc b #[ptr bs 0,ptr bv 0, .map (some rs), .map (some rm),I z.next] 46,pcc bs #[sl so z.rows.length co,I (z.used:Int),I ((260 - 122:Nat):Int)] 91,roL 3 so (bI z.rows),oo bv z.S z.L z.n,mp rs (fm z.ses),big lU z.ses,mp rm (fo z.mou),big nf z.mou] (e9 b z) ⟨bs,so,co,bv,rs,rm⟩ k
structure RrO (z:RpM):Prop where
 rok:Rok z
 rows:z.rows=bN z.S z.L z.n
 used:z.used<=260 - 122
def RpM.vau (z:RpM)(u:Nat)(S:SI)(L:List Pt)(n:Int):RpM:=⟨z.h,u,bN S L n,S,L,n,z.ses,z.mou,z.next⟩
variable {z:RpM}{L:List Pt}
theorem RrO.vau {G}(R:RrO z)(h:Con S L n G){u}(J:u<=260 - 122):RrO (z.vau u S L n):=⟨⟨⟨G,h⟩,R.rok.next,R.rok.keyS,R.rok.keyM,R.rok.sesS⟩,rfl,J⟩
theorem RrO.rest (R:RrO z){z2}(h:Rok z2)(h1:z2.rows=z.rows)(J:z2.S=z.S)(O:z2.L=z.L)(V:z2.n=z.n)(X:z2.used=z.used):RrO z2:=⟨h,by rw[h1,J,O,V];exact R.rows,by rw[X];exact R.used⟩
theorem RrO.ses (R:RrO z)l(h:∀e∈l,e∈z.ses):RrO (z.sess l):=R.rest ⟨R.rok.con,R.rok.next,λe he=>R.rok.keyS e (h e he),R.rok.keyM,λe he=>R.rok.sesS e (h e he)⟩ rfl rfl rfl rfl rfl
theorem RrO.mou (R:RrO z)l(h:∀e∈l,1<=e.key/\e.key<z.next):RrO (z.moun l):=R.rest ⟨R.rok.con,R.rok.next,R.rok.keyS,h,R.rok.sesS⟩ rfl rfl rfl rfl rfl
theorem RrO.begun (R:RrO z){a base disk size}(hn:z.next<=999999)(J:cr z base disk size=0):RrO (z.begun a base disk size):=R.rest (R.rok.begin hn J) rfl rfl rfl rfl rfl
theorem RrO.put (R:RrO z){id at_ so co}(h:ez z id at_ d=0):RrO (z.putted id at_ d so co):=by
 obtain ⟨X,s2,J,O,S,V,_⟩:=n4 z id at_ d so co;exact R.rest (R.rok.put h) J O S V s2
set_option maxRecDepth 4000
def UC x y k w:(Instr.build 219 #[(0,I x),(1,I y),(2,I k)]).run Tryz.prog w= .ok (.agg #[I x,I y,I k,sl none 0 0]) w:=by
 simp[Instr.build,zeroValue219,runUnderlying219,Xu,Instr.fill,bB,sl,show ∀k:Int,(I k).cells=#[I k] from λ_=>rfl]
def UD x r w:(Instr.build 225 #[(0,I x),(1, .map (some r))]).run Tryz.prog w= .ok (.agg #[I x, .map (some r)]) w:=by
 simp[Instr.build,zeroValue225,runUnderlying225,Xu,ZV,Instr.fill,bB,show ∀k:Int,(I k).cells=#[I k] from λ_=>rfl,show (Value.map (some r)).cells=#[.map (some r)] from rfl]
theorem BQ {l:List PutM}{at_ x}(h:l[k]? =some x):(l.take (k+1)).filter (λy=>!decide (y.at_=at_))=(l.take k).filter (λy=>!decide (y.at_=at_))++(if x.at_=at_ then [] else [x]):=by
 grind[List.take_add_one]
def Ax b S L n base disk size puts sp cp G0(hV:Vok S L n G0)(hpl:puts.length<=1000000)(hpd:∀p∈puts,p.data.length<=9223372036854775807)F:cqq 129 [ptr b 0,I base,I disk,I size,sl sp puts.length cp] (oo b S L n::be 86 2 sp cp (dh puts)::F) (vR oo I b (be 86 2 sp cp (dh puts)::F) (gw S L n base disk size puts)):=by
  have hok:=lh hV;have hll:=hV.len;have hn1:=hV.n1;have hrl:(L.map (·.root)).length<=8:=(by simp;omega);refine Ct.of func129 W 139 ntmps129 (by simp) λw0=>?_;refine A<|gA<|T<|ac<|A<|C<|M aG<|C<|gK ao<|gK aQ<|M cv<|C<|gK ao<|gK aG<|M cv<|C<|gK ao<|gK aQ<|M cv<|ab<|ah ?_ ?_<;>intro h34
  · simp at h34;have R:disk<1\/999<disk\/size<1\/16<size:=(by omega);refine A<|gA<|T ?_;exact eF rfl (by unfold gw;rw[kaT R]) rfl rfl
  · simp at h34;have R:¬(disk<1\/999<disk\/size<1\/16<size):=(by omega);refine ai<|A<|T<|ac<|A<|C<|M iE<|ab ?_;refine lV (α:=Gh×Int) (λz=>Rt z.1 (z.2::L.map (·.root))/\gH S L base disk size= .ok (bH z.1,z.2)) (λz=>U [(0,ptr b 0),(2,I disk),(3,I size),(4,sl sp puts.length cp),(12,I z.2)]) (λz=>oo b (bH z.1) L n::be 86 2 sp cp (dh puts)::F) ?_ ?_
    · apply ah<;>intro Y
      · simp at Y;refine A<|C<|C<|gR (vB call127 (iP b S L n base (by omega)))<|C<|gX (.agg (aW ((aX L base).getD iB)).toArray)<|gX (Bo (aX L base).isSome)<|gI (aO #[I 0,I 0,I 0,I 0] X4) ?_;rintro _ _ ⟨b13,rfl,rfl⟩;refine gU (az (cs:=#[I 0,I 0,I 0,I 0]) (vs:=aW (((aX L base).getD iB))) (aW (((aX L base).getD iB))).toArray XE (by simp) (hcs:=by exact aH))<|T<|ac<|A<|C<|M cS<|ab<|ah ?_ ?_<;>intro h44
        · simp at h44;refine A<|gA<|T ?_;exact eF rfl (by unfold gw gH;rw[kaU R,kaU Y,h44]) rfl rfl
        · simp at h44;obtain ⟨p,hf⟩:=kcX.1 h44;have hpm:=dq hf;have hps:=hV.pts p hpm.1;rw[show (aX L base).getD iB=p by rw[hf];rfl];refine ai<|ac<|A<|gF 1 XQ W Xu<|gL (I p.disk) Xv<|C<|M iE<|ab<|ah ?_ ?_<;>intro h48
          · simp at h48;refine A<|gA<|T ?_;exact eF rfl (by unfold gw gH;rw[kaU R,kaU Y,hf];simp only;rw[kaT h48]) rfl rfl
          · simp at h48;refine ai<|ac ?_;refine go b S L n ?_;intro x s c;refine cn (Lf:=[pcc b #[ptr x 0,sl s (L).length c,I (n)] 126,pcc b13 (aW (p)).toArray 162]) jD ?_;refine dM W<|dV W aa<|dF W 0 XY W YV<|dL W (ptr x 0) Y4<|dF W 3 XQ W Xu<|dL W (I p.root) Xv<|cQ W (uB call202 (zJ x S p.root 200 hok (by decide) (qz hV.rt.V (nq hV.rt (eS hf))).2)) ?_;rintro _ _ ⟨rfl,rfl⟩;obtain ⟨G1,hs1,hR1,_⟩:=qA hV.rt (eS hf);have hs1:eP S p.root=bH G1:=(by rw[hV.e];exact hs1);rw[hs1];refine dV W ax ?_;refine aN ?_;refine dW b x s c (bH G1) (L) (n) ?_;refine A<|C<|T ?_;obtain ⟨sz,rfl⟩:∃k:Nat,size=k:=⟨size.toNat,by omega⟩;refine ak ?_;refine aL (α:=Nat×Gh×Int) (λz=>z.1<=16/\Rt z.2.1 (z.2.2::L.map (·.root))/\ml (bH z.2.1,z.2.2) (List.range' z.1 (p.size.toNat - z.1))=ml (eP S p.root,p.root) (List.range' sz (p.size.toNat - sz))) (λz=>U [(0,ptr b 0),(2,I disk),(3,I (sz:Int)),(4,sl sp puts.length cp),(12,I z.2.2),(13,ptr b13 0),(15,I z.1)]) (λz=>pcc b13 (aW (p)).toArray 162::oo b (bH z.2.1) L n::be 86 2 sp cp (dh puts)::F) (λz=>16 - z.1) (sz,G1,p.root) ⟨by simp only[];omega,hR1,by rw[hs1]⟩ [0,2,3,4,12,13,15] rfl ?_;rintro ⟨a,G,root⟩ ⟨Z,hR,hcut⟩;simp only[] at Z hR hcut ⊢;refine ac<|A<|C<|gF 2 XQ W Xu<|gL (I p.size) Xv<|M aG<|ab<|ah ?_ ?_<;>intro h60
            · simp at h60;refine ai<|ac<|ak<|A<|C<|C<|C<|gI (uB call203 (wa b G L n root a [] (L.map (·.root)) hR hrl (by omega) (by decide))) ?_;rintro v L' hv;unfold vR at hv;by_cases hE:(dH (bH G) root a []).2=0
              · obtain ⟨G1,G2,hu1,o1,r1,v1,hu2,hR2,_,_⟩:=nT hR hrl (by omega) hE;rw[zL hE,hu1,hu2] at hv;obtain ⟨rfl,rfl⟩:=hv;refine C<|gX (I (dH (bH G) root a []).1)<|gX (I 0)<|gA<|T<|ac<|A<|C<|M aQ<|ab<|ah ?_ ?_<;>intro h71
                · simp at h71
                · refine ai<|al<|C<|T<|aE<|al<|C<|gP<|T ?_;exact an (a+1,G2,(dH (bH G) root a []).1) ⟨by simp only[];omega,hR2,by
                    rw[<-hcut,pI (a:=a) (m:=p.size.toNat) (by omega)];simp only[ml,put1];rw[kaT hE,hu1,hu2]⟩ (by simp only[];omega) [0,2,3,4,12,13,15] rfl
              · rw[v8 hE] at hv;obtain ⟨rfl,rfl⟩:=hv;have hnn:=ua (bH G) root a [];refine C<|gX (I 0)<|gX (I (dH (bH G) root a []).2)<|gA<|T<|ac<|A<|C<|M aQ<|ab<|ah ?_ ?_<;>intro h71
                · refine A<|C<|gA<|T ?_;exact eF rfl (by
                    unfold gw gH;rw[kaU R,kaU Y,hf];simp only;rw[iOm,kcy,<-hcut,pI (a:=a) (m:=p.size.toNat) (by omega)];simp only[ml,put1];rw[kaU hE]) rfl rfl
                · simp at h71;omega
            · simp at h60;refine aF ?_;exact cJ (G,root) ⟨hR,by
                unfold gH;rw[kaU Y,hf];simp only;rw[iOm,kcy,<-hcut,Bv (by omega)];simp only[ml]⟩ [0,2,3,4,12] rfl
      · simp at Y;refine ai ?_;rw[show oo b S L n=oo b (bH G0) L n by rw[hV.e]];exact cJ (G0,0) ⟨IV hV.rt,by
          unfold gH;rw[kaT Y,hV.e]⟩ [0,2,3,4,12] rfl
    rintro ⟨G2,z2⟩ ⟨hR2,hb⟩;simp only[] at hR2 hb ⊢;refine ac<|A<|T<|ak ?_;refine aL (α:=Nat×Gh×Int) (λz=>z.1<=puts.length/\Rt z.2.1 (z.2.2::L.map (·.root))/\ey size (bH z.2.1,z.2.2) (puts.drop z.1)=ey size (bH G2,z2) puts) (λz=>U [(0,ptr b 0),(2,I disk),(3,I size),(4,sl sp puts.length cp),(12,I z.2.2),(18,I z.1)]) (λz=>oo b (bH z.2.1) L n::be 86 2 sp cp (dh puts)::F) (λz=>puts.length - z.1) (0,G2,z2) ⟨by simp,hR2,by simp⟩ [0,2,3,4,12,18] rfl ?_;rintro ⟨k,G,root⟩ ⟨hk,hR,O⟩;simp only[] at hk hR O ⊢;have hokG:=KU hR (m:=200) (by simp;omega);refine ac<|A<|C<|C<|M (aP Yq)<|M aG<|ab<|ah ?_ ?_<;>intro h77
    · simp at h77;have J:k<puts.length:=(by omega);obtain ⟨p,hp⟩:∃p,puts[k]? =some p:=⟨_,kbN J⟩;have hpd1:=hpd p (kbe hp);refine ai<|ac<|ak<|ac<|A<|C<|C<|M (av k Yq Yg J (by rw[df];exact J))<|M (aK (j:=k) 0 Y7 W Xu (by rw[df];exact J))<|M (bS (v:=I p.at_) Xv (kx hp))<|M aG<|C<|gK ao<|gK ao<|gK (av k Yq Yg J (by rw[df];exact J))<|gK (aK (j:=k) 0 Y7 W Xu (by rw[df];exact J))<|gK (bS (v:=I p.at_) Xv (kx hp))<|gK ao<|gK kp<|M cv<|ab ?_;apply ah<;>intro h94
      · simp at h94;refine A<|gA<|T ?_
        first
        | exact eF rfl (by
            unfold gw;rw[kaU R,hb];simp only;rw[<-O,i6 hp];simp only[ey];rw[kaT (by omega)]) rfl rfl
        | (by_cases Z:fb L n=0
           · rw[show j6 L n=n by unfold j6;rw[kaT Z],show kc L n disk size root=L++ [⟨n,disk,size,root⟩] by unfold kc;rw[kaT Z],show oM L n=n+1 by unfold oM;rw[kaT Z],Z];exact nU (S:=bH G) (P:=L++ [⟨n,disk,size,root⟩]) (n:=n+1) rfl (by
               unfold gw;rw[kaU R,hb];simp only;rw[<-O];simp only[ey];rw[iOm]) rfl rfl
           · rw[show j6 L n=0 by unfold j6;rw[kaU Z]];exact eF rfl (by
               unfold gw;rw[kaU R,hb];simp only;rw[<-O];simp only[ey];rw[kaT Z]) rfl rfl)
      · simp at h94;have han:(p.at_.toNat:Int)=p.at_:=(by omega);refine ai<|ac<|ac ?_;refine go b (bH G) L n ?_;intro x s c;refine gD (Lf:=[pcc b #[ptr x 0,sl s (L).length c,I (n)] 126,be 86 2 sp cp (dh puts)]) (plN [0,2,4,6,8,10,12,14,16,18,22,24,26,28,30,21,32])<|dM W<|dV W aa<|dF W 0 XY W YV<|dL W (ptr x 0) Y4<|dM W<|dM W<|dM W<|dV W (av k Yq Yg J (by rw[df];exact J))<|dV W (aK (j:=k) 0 Y7 W Xu (by rw[df];exact J))<|dV W (bS (v:=I (p.at_.toNat:Int)) Xv (kx hp) (hv:=⟨by rw[han];rfl⟩))<|dM W<|dM W<|dV W (av k Yq Yg J (by rw[df];exact J))<|dV W (aK (j:=k) 1 Y7 W Xx (by rw[df];exact J))<|dV W (bS (v:=ay p.data) XD (kx hp))<|cQ W (uB call204 (FQ x (bH G) root p.at_.toNat 200 hokG (by omega) (DG hR.V (nq hR (by simp))))) ?_;rintro _ _ ⟨rfl,rfl⟩;refine dV W bV ?_;refine aN ?_;refine dW b x s c (bH G) (L) (n)<|ah ?_ ?_<;>intro X
        · simp at X;refine aF ?_;refine al<|C<|gP<|T ?_;exact an (k+1,G,root) ⟨by simp only[];omega,hR,by
            rw[<-O,i6 hp];simp only[ey];rw[iOm,kaT X]⟩ (by simp only[];omega) [0,2,3,4,12,18] rfl
        · simp at X;refine ai<|ac<|gD (Lf:=[be 86 2 sp cp (dh puts)]) (plN [0,2,4,6,8,10,12,14,16,18,20,22,25,26,28,30,32,34])<|dM W<|dM W<|dM W<|dM W<|dV W (av k Yq Yg J (by rw[df];exact J))<|dV W (aK (j:=k) 0 Y7 W Xu (by rw[df];exact J))<|dV W (bS (v:=I (p.at_.toNat:Int)) Xv (kx hp) (hv:=⟨by rw[han];rfl⟩))<|dM W<|dM W<|dV W (av k Yq Yg J (by rw[df];exact J))<|dV W (aK (j:=k) 1 Y7 W Xx (by rw[df];exact J))<|dV W (bS (v:=ay p.data) XD (kx hp)) ?_;by_cases hE:(dH (bH G) root p.at_.toNat p.data).2=0
          · obtain ⟨G1,G3,hu1,o1,r1,v1,hu2,hR3,_,_⟩:=nT hR hrl (by omega) hE;refine cQ W (uB call203 (wa b G L n root p.at_.toNat p.data (L.map (·.root)) hR hrl (by omega) hpd1)) ?_;rintro v L' hv;unfold vR at hv;rw[zL hE,hu1,hu2] at hv;obtain ⟨rfl,rfl⟩:=hv;refine dM W<|dV W (aB (v:=I (dH (bH G) root p.at_.toNat p.data).1))<|dV W (aB (v:=I 0))<|dV W ax<|dV W ax ?_;refine aN ?_;refine ac<|A<|C<|M aQ<|ab<|ah ?_ ?_<;>intro h129
            · simp at h129
            · refine ai<|al<|C<|T<|aE<|al<|C<|gP<|T ?_;exact an (k+1,G3,(dH (bH G) root p.at_.toNat p.data).1) ⟨by simp only[];omega,hR3,by
                rw[<-O,i6 hp];simp only[ey,put1];rw[iOm,kaU X,kaT hE,hu1,hu2]⟩ (by simp only[];omega) [0,2,3,4,12,18] rfl
          · have hnn:=ua (bH G) root p.at_.toNat p.data;refine cQ W (uB call203 (wa b G L n root p.at_.toNat p.data (L.map (·.root)) hR hrl (by omega) hpd1)) ?_;rintro v L' hv;unfold vR at hv;rw[v8 hE] at hv;obtain ⟨rfl,rfl⟩:=hv;refine dM W<|dV W (aB (v:=I 0))<|dV W (aB (v:=I (dH (bH G) root p.at_.toNat p.data).2))<|dV W ax<|dV W ax ?_;refine aN ?_;refine ac<|A<|C<|M aQ<|ab<|ah ?_ ?_<;>intro h129
            · refine A<|C<|gA<|T ?_;exact eF rfl (by
                unfold gw;rw[kaU R,hb];simp only;rw[<-O,i6 hp];simp only[ey,put1];rw[iOm,kaU X,kaU hE]) rfl rfl
            · simp at h129;omega
    · simp at h77;obtain rfl:k=puts.length:=(by omega);rw[kcz] at O;refine aF ?_;refine A<|C<|C<|C<|C<|gR (vB call205 (BK b (bH G) L n disk size root (by omega) (by omega)))<|gX (I (j6 L n))<|gX (I (fb L n))<|gA<|T ?_
      first
      | exact eF rfl (by
          unfold gw;rw[kaU R,hb];simp only;rw[<-O,i6 hp];simp only[ey];rw[kaT (by omega)]) rfl rfl
      | (by_cases Z:fb L n=0
         · rw[show j6 L n=n by unfold j6;rw[kaT Z],show kc L n disk size root=L++ [⟨n,disk,size,root⟩] by unfold kc;rw[kaT Z],show oM L n=n+1 by unfold oM;rw[kaT Z],Z];exact nU (S:=bH G) (P:=L++ [⟨n,disk,size,root⟩]) (n:=n+1) rfl (by
             unfold gw;rw[kaU R,hb];simp only;rw[<-O];simp only[ey];rw[iOm]) rfl rfl
         · rw[show j6 L n=0 by unfold j6;rw[kaU Z]];exact eF rfl (by
             unfold gw;rw[kaU R,hb];simp only;rw[<-O];simp only[ey];rw[kaT Z]) rfl rfl)
def td b v z J(L' P:List Pt)O G'(hR:RrO z)(R:Con J L' O G')(hP:P.length<=7)(hp1:∀p∈z.L,p∈P)(hp2:∀p∈L',p∈P)F:cqq 130 [ptr b 0,ptr v 0] (e9 b z::oo v J L' O::F) (λv0 L0=>∃X,X<=260 - 122/\v0=I 0/\L0=e9 b (z.vau X J L' O)::F):=by
 obtain ⟨G,hC⟩:=hR.rok.con;have Z:=hC.v.len;have hrow:=oO (S:=z.S) (n:=z.n) Z;have V:=R.v.len;have hrow':=oO (S:=J) (n:=O) V;have hml:=zt (bN z.S z.L z.n) (bN J L' O);obtain ⟨hcm,hap⟩:=Jt hC R hP hp1 hp2;have hus:=hR.used;refine Ct.of func130 W 26 ntmps130 (by simp) λw0=>?_;refine dX b z ?_;intro bs so co bv rs rm;rw[hR.rows];refine A<|T<|ac ?_;refine cn (Lf:=[pcc b #[ptr bs 0,ptr bv 0, .map (some rs), .map (some rm),I (z.next)] 46]) jY ?_;refine dM W<|dV W aa<|dF W 0 XT W Z4<|dL W (ptr bs 0) kag<|dM W<|dV W aa<|dF W 1 XT W YJ<|dL W (ptr bv 0) YW<|dM W<|cQ W (uB call40 (wc bv z.S z.L z.n hC.sm)) ?_;rintro _ _ ⟨s14,c14,rfl,rfl⟩;refine bz s14 ?_;refine cQ W (uB call40 (wc v J L' O R.sm)) ?_;rintro _ _ ⟨s16,c16,rfl,rfl⟩;refine bz s16 ?_;refine cQ W (uC call206 (zP (bN z.S z.L z.n) (bN J L' O) s14 s16 c14 c16 (by omega) (by omega))) ?_;rintro _ _ ⟨s17,c17,rfl,rfl⟩;refine bz s17 ?_;refine cQ W (uD call39 (nP bs (bN z.S z.L z.n) (mg (bN z.S z.L z.n) (bN J L' O)) so s17 co c17 z.used (260 - 122) (by omega) (lI hC.wr) (by omega) ⟨hR.used,by decide⟩)) ?_;rintro _ _ (⟨hne,_,_⟩ | ⟨_,s2,Y,rfl,rfl⟩)
 ·exact absurd hcm hne
 rw[hap];have hu3:((if 260 - 122 - z.used<(mg (bN z.S z.L z.n) (bN J L' O)).length+1 then 0 else z.used)+(mg (bN z.S z.L z.n) (bN J L' O)).length+1)<=260 - 122:=by
  have h72:=Js hC R hP hp1 hp2;split <;> omega
 generalize ((if 260 - 122 - z.used<(mg (bN z.S z.L z.n) (bN J L' O)).length+1 then 0 else z.used)+(mg (bN z.S z.L z.n) (bN J L' O)).length+1)=X at hu3 ⊢;refine dV W ax ?_;refine aN ?_;refine ac<|A<|C<|M bE<|ab<|ah ?_ ?_<;>intro h20
 ·refine al<|C<|C<|M aa<|gF 1 XT W YJ<|gU (aJ #[ptr bs 0,ptr v 0, .map (some rs), .map (some rm),I z.next] YJ (by simp))<|ab<|A<|C<|T ?_;refine bY b (⟨z.h,X,bN J L' O,J,L',O,z.ses,z.mou,z.next⟩) bs s2 Y v rs rm ?_;exact ar (e9 b ⟨z.h,X,bN J L' O,J,L',O,z.ses,z.mou,z.next⟩::F) rfl ⟨X,hu3,rfl,rfl⟩
 ·simp at h20
def FT b z base disk size(hR:RrO z)F:cqq 53 [ptr b 0,I base,I disk,I size] (e9 b z::F) (λv L'=>(cr z base disk size≠0/\v= .tuple #[I 0,I (cr z base disk size)]/\L'=e9 b z::F)\/(cr z base disk size=0/\∃a,v= .tuple #[I z.next,I 0]/\L'=e9 b (z.begun a base disk size)::F)):=by
 obtain ⟨G0,hC⟩:=hR.rok.con;have hlen:=hC.v.len;have hnx:=hR.rok.next;refine Ct.of func53 W 74 ntmps53 (by simp) λw0=>?_;refine dX b z ?_;intro bs so co bv rs rm;refine A<|gA<|T<|ac<|A<|C<|M aG<|C<|gK ao<|gK aQ<|M cv<|C<|gK ao<|gK aG<|M cv<|C<|gK ao<|gK aQ<|M cv<|ab<|ah ?_ ?_<;>intro Y
 ·have J:disk<1\/999<disk\/size<1\/16<size:=(by simp at Y;omega);refine A<|gA<|T ?_;refine bY b (z) bs so co bv rs rm ?_;exact ar (e9 b (z)::F) rfl<|.inl ⟨by unfold cr;rw[kaT J];decide,by unfold cr;rw[kaT J];rfl,rfl⟩
 ·have J:¬(disk<1\/999<disk\/size<1\/16<size):=(by simp at Y;omega);refine ai<|ac<|A<|C<|M iE<|ab ?_;refine lV (α:=Unit) (λ_=>BB z.L base disk=0) (λ_=>U [(0,ptr b 0),(1,I base),(2,I disk),(3,I size)]) (λ_=>pcc b #[ptr bs 0,ptr bv 0, .map (some rs), .map (some rm),I (z.next)] 46::pcc bs #[sl so (z.rows.length) co,I ((z.used:Int)),I ((260 - 122:Nat):Int)] 91::roL 3 so (bI z.rows)::oo bv z.S z.L z.n::mp rs (fm z.ses)::big lU z.ses::mp rm (fo z.mou)::big nf z.mou::F) ?_ ?_
  ·apply ah<;>intro V
   ·simp at V;refine A<|C<|M aa<|gF 1 XT W YJ<|gL (ptr bv 0) YW<|C<|gR (vB call127 (iP bv z.S z.L z.n base (by omega)))<|C<|gX (.agg (aW ((aX z.L base).getD iB)).toArray)<|gX (Bo (aX z.L base).isSome)<|gI (aO #[I 0,I 0,I 0,I 0] X4) ?_;rintro _ _ ⟨b10,rfl,rfl⟩;refine gU (az (cs:=#[I 0,I 0,I 0,I 0]) (vs:=aW (((aX z.L base).getD iB))) (aW (((aX z.L base).getD iB))).toArray XE (by simp) (hcs:=by exact aH))<|T<|ac<|A<|C<|M cS<|ab<|ah ?_ ?_<;>intro X
    ·simp at X;refine A<|gA<|T ?_;refine bY b (z) bs so co bv rs rm ?_;exact ar (e9 b (z)::F) rfl (have ho:BB z.L base disk=5:=by unfold BB;rw[kaU V,X]
      .inl ⟨by unfold cr;rw[kaU J,kaT (by omega),ho];decide,by unfold cr;rw[kaU J,kaT (by omega),ho];rfl,rfl⟩)
    ·simp at X;obtain ⟨p,hf⟩:=kcX.1 X;rw[show (aX z.L base).getD iB=p by rw[hf];rfl];refine ai<|A<|gF 1 XQ W Xu<|gL (I p.disk) Xv<|C<|M iE<|ab<|ah ?_ ?_<;>intro Z
     ·simp at Z;refine A<|gA<|T ?_;refine bY b (z) bs so co bv rs rm ?_;exact ar (e9 b (z)::F) rfl (have ho:BB z.L base disk=3:=by unfold BB;rw[kaU V,hf];simp only;rw[kaT (by omega)]
       .inl ⟨by unfold cr;rw[kaU J,kaT (by omega),ho];decide,by unfold cr;rw[kaU J,kaT (by omega),ho];rfl,rfl⟩)
     ·simp at Z;refine ai ?_;exact cJ () (by unfold BB;rw[kaU V,hf];simp only;rw[iOm]) [0,1,2,3] rfl
   ·simp at V;refine ai ?_;exact cJ () (by unfold BB;rw[kaT V]) [0,1,2,3] rfl
  rintro _ ho;refine ac<|A<|C<|M aa<|gF 2 XT W Zw<|gL (.map (some rs)) ZC<|M (ky ZD)<|M bE<|ab<|ah ?_ ?_<;>intro h48
  ·have O:z.ses.length=3:=(by simp[fm] at h48;omega);refine A<|gA<|T ?_;refine bY b (z) bs so co bv rs rm ?_;exact ar (e9 b (z)::F) rfl<|.inl ⟨by unfold cr;rw[kaU J,iOm,kaT O];decide,by unfold cr;rw[kaU J,iOm,kaT O];rfl,rfl⟩
  ·have O:¬z.ses.length=3:=(by simp[fm] at h48;omega);refine ai<|ac<|gD (Lf:=[pcc b #[ptr bs 0,ptr bv 0, .map (some rs), .map (some rm),I (z.next)] 46]) (plN [0,2,4,6,8,10,12,14,16,18,20,22,25,27])<|dM W<|dV W aa<|dF W 2 XT W Zw<|dL W (.map (some rs)) ZC<|dM W<|dV W aa<|dF W 4 XT W Xu<|dL W (I z.next) Xv<|dM W<|dM W<|dM W<|dV W (aS (UC base disk size))<|cQ W (dw #[I base,I disk,I size,sl none 0 0]) ?_;rintro _ _ ⟨R,rfl,rfl⟩;refine rE W (cq ZD XA) ?_;rintro _ _ rfl;rw[Fw (l:=z.ses) (e:=(⟨z.next,R,none,0,base,disk,size,[]⟩:SeE)) (λx hx=>by have:=hR.rok.keyS x hx;show x.key≠z.next;omega)];refine aY 86 2 (dh []) ?_;refine tI (f:=lU) z.ses (⟨z.next,R,none,0,base,disk,size,[]⟩:SeE) [pcc R #[I base,I disk,I size,sl none 0 0] 219,be 86 2 none 0 (dh [])] rfl ?_;refine aN ?_;refine A<|C<|M aa<|gF 4 XT rfl Xu<|gL (I z.next) Xv<|M (bx (r:=z.next+1) (cK (by omega)))<|M aa<|gF 4 XT rfl Xu<|gU (aJ #[ptr bs 0,ptr bv 0, .map (some rs), .map (some rm),I (z.next+1)] Xu (by simp))<|ab<|A<|C<|M aa<|gF 4 XT rfl Xu<|gL (I (z.next+1)) Xv<|M (eG (r:=z.next) (by rw[show z.next+1 - 1=z.next by omega];exact cK (by omega)))<|gA<|T ?_;refine bY b (⟨z.h,z.used,z.rows,z.S,z.L,z.n,z.ses++ [⟨z.next,R,none,0,base,disk,size,[]⟩],z.mou,z.next+1⟩) bs so co bv rs rm ?_;exact ar (e9 b (⟨z.h,z.used,z.rows,z.S,z.L,z.n,z.ses++ [⟨z.next,R,none,0,base,disk,size,[]⟩],z.mou,z.next+1⟩)::F) rfl<|.inr ⟨by unfold cr;rw[kaU J,iOm,kaU O],R,rfl,rfl⟩
def FU b z id F:cqq 56 [ptr b 0,I id] (e9 b z::F) (λv L'=>(hJ z.ses id=none/\v=I 5/\L'=e9 b z::F)\/(∃e,hJ z.ses id=some e/\v=I 0/\L'=e9 b (z.sess (nW z.ses id))::F)):=by
 refine Ct.of func56 W 23 ntmps56 (by simp) λw0=>?_;refine dX b z ?_;intro bs so co bv rs rm;refine A<|T<|A<|C<|M aa<|gF 2 XT rfl Zw<|gL (.map (some rs)) ZC<|C<|M (ed (v:= .pointer ((hJ z.ses id).map λe=>⟨e.a,0,none⟩)) (bb:=(hJ z.ses id).isSome) ZD XA kap (by rw[oh];cases hJ z.ses id <;> rfl) (by rw[oh,kdm]))<|C<|gX (.pointer ((hJ z.ses id).map λe=>⟨e.a,0,none⟩))<|gX (Bo (hJ z.ses id).isSome)<|gA<|T<|ac<|A<|C<|M cS<|ab ?_;apply ah<;>intro J
 ·have R:hJ z.ses id=none:=(by simpa using J);refine A<|T ?_;refine bY b (z) bs so co bv rs rm ?_;exact ar (e9 b (z)::F) rfl<|.inl ⟨R,rfl,rfl⟩
 ·simp at J;obtain ⟨e,O⟩:=kcX.1 J;obtain ⟨he,V,hi⟩:=pN O;rw[show (Value.pointer ((hJ z.ses id).map λe=>⟨e.a,0,none⟩))=ptr e.a 0 by rw[O];rfl];refine ai<|A<|C<|M aa<|gF 2 XT W Zw<|gL (.map (some rs)) ZC<|C<|io (iI ZD XA) ?_;rintro _ _ ⟨rfl,rfl⟩;rw[uq];refine oD (f:=lU) z.ses (nW z.ses id) kbU ?_;refine ab<|A<|T ?_;refine bY b (⟨z.h,z.used,z.rows,z.S,z.L,z.n,nW z.ses id,z.mou,z.next⟩) bs so co bv rs rm ?_;exact ar (e9 b (⟨z.h,z.used,z.rows,z.S,z.L,z.n,nW z.ses id,z.mou,z.next⟩)::F) rfl<|.inr ⟨e,O,rfl,rfl⟩
set_option maxRecDepth 4000
def Ol {id G O L' R r}(h:Con S L n G)(e:lT S L n id= .ok (O,L',R,r)):L'.length<=7/\∀p∈L,p∈L':=by
 obtain ⟨V,J⟩:=qF h e;exact ⟨by have:=J.v.len;omega,Dw h.v e⟩
def Om {base disk size puts G O L' R r}(h:Con S L n G)(e:gw S L n base disk size puts= .ok (O,L',R,r)):L'.length<=7/\∀p∈L,p∈L':=by
 obtain ⟨V,J⟩:=qE h e;exact ⟨by have:=J.v.len;omega,Dv h.v e⟩
def Lm b z id at_(d:Bytes)(hR:RrO z)(hdl:d.length<=9223372036854775807)F:cqq 54 [ptr b 0,I id,I at_,ay d] (e9 b z::F) (λv L'=>(ez z id at_ d≠0/\v=I (ez z id at_ d)/\L'=e9 b z::F)\/(ez z id at_ d=0/\∃so co,v=I 0/\L'=e9 b (z.putted id at_ d so co)::F)):=by
 refine Ct.of func54 W 75 ntmps54 (by simp) λw0=>?_;refine dX b z ?_;intro bs so co bv rs rm;refine A<|T<|A<|C<|M aa<|gF 2 XT rfl Zw<|gL (.map (some rs)) ZC<|C<|M (ed (v:= .pointer ((hJ z.ses id).map λe=>⟨e.a,0,none⟩)) (bb:=(hJ z.ses id).isSome) ZD XA kap (by rw[oh];cases hJ z.ses id <;> rfl) (by rw[oh,kdm]))<|C<|gX (.pointer ((hJ z.ses id).map λe=>⟨e.a,0,none⟩))<|gX (Bo (hJ z.ses id).isSome)<|gA<|T<|ac<|A<|C<|M cS<|ab ?_;apply ah<;>intro Z
 ·have hno:hJ z.ses id=none:=(by simpa using Z);refine A<|T ?_;refine bY b (z) bs so co bv rs rm ?_;exact ar (e9 b (z)::F) rfl (have ho:ez z id at_ d=5:=by unfold ez;rw[hno]
   .inl ⟨by rw[ho];decide,by rw[ho];rfl,rfl⟩)
 ·simp at Z;obtain ⟨e,R⟩:=kcX.1 Z;obtain ⟨he,hek,hi⟩:=pN R;rw[show (Value.pointer ((hJ z.ses id).map λe=>⟨e.a,0,none⟩))=ptr e.a 0 by rw[R];rfl];refine ai<|ac<|ac ?_;refine HC z.ses _ he ?_;refine al<|C<|M aG<|C<|gK ao<|gK ao<|gK aa<|gK (aw 2 Zq W Xu)<|gK (aA (v:=I e.size) Xv)<|gK kp<|M cv<|ab<|ah ?_ ?_<;>intro h33
  ·have X:at_<0\/e.size<=at_:=(by simp at h33;omega);refine A<|T ?_;refine da (f:=lU) z.ses (xM z.ses id) e [pcc e.a #[I e.base,I e.disk,I e.size,sl e.so e.puts.length e.co] 219,be 86 2 e.so e.co (dh e.puts)] hi ?_;rw[eK he];refine bY b (z) bs so co bv rs rm ?_;have ho:ez z id at_ d=1:=(by unfold ez;rw[R];simp only;rw[kaT X]);exact ar (e9 b z::F) rfl<|.inl ⟨by rw[ho];decide,by rw[ho];rfl,rfl⟩
  ·have X:¬(at_<0\/e.size<=at_):=(by simp at h33;omega);refine ai<|ac<|A<|C<|M (cD Xz)<|M aQ<|ab<|ah ?_ ?_<;>intro h36
   ·have h6:6<d.length:=(by simp at h36;omega);refine A<|T ?_;refine da (f:=lU) z.ses (xM z.ses id) e [pcc e.a #[I e.base,I e.disk,I e.size,sl e.so e.puts.length e.co] 219,be 86 2 e.so e.co (dh e.puts)] hi ?_;rw[eK he];refine bY b (z) bs so co bv rs rm ?_;have ho:ez z id at_ d=2:=(by unfold ez;rw[R];simp only;rw[kaU X,kaT h6]);exact ar (e9 b z::F) rfl<|.inl ⟨by rw[ho];decide,by rw[ho];rfl,rfl⟩
   ·have h6:¬6<d.length:=(by simp at h36;omega);have hps:=(hR.rok.putS e (kbe he)).1;have Y:∀k,((e.puts.take k).filter λy=>!decide (y.at_=at_)).length<=16:=λk=>kaB (kcE _ _) (by rw[kbq];omega);have hflk:=Y e.puts.length;refine ai<|A<|T<|ac<|ac ?_;refine aY 86 2 (dh ((e.puts.take 0).filter λy=>!decide (y.at_=at_))) (hr:=by simp[dh]) ?_;refine al<|T<|ak ?_;refine aL (α:=Nat×Option Addr×Nat) (λy=>y.1<=e.puts.length) (λy=>U [(0,ptr b 0),(1,I id),(2,I at_),(3,ay d),(9,ptr e.a 0),(11,sl y.2.1 ((e.puts.take y.1).filter λy=>!decide (y.at_=at_)).length y.2.2),(12,I y.1)]) (λy=>be 86 2 y.2.1 y.2.2 (dh (((e.puts.take y.1).filter λy=>!decide (y.at_=at_))))::pcc e.a #[I e.base,I e.disk,I e.size,sl e.so (e.puts.length) e.co] 219::be 86 2 e.so e.co (dh (e.puts))::big lU (z.ses.eraseIdx (xM z.ses id))::pcc b #[ptr bs 0,ptr bv 0, .map (some rs), .map (some rm),I (z.next)] 46::pcc bs #[sl so (z.rows.length) co,I ((z.used:Int)),I ((260 - 122:Nat):Int)] 91::roL 3 so (bI z.rows)::oo bv z.S z.L z.n::mp rs (fm z.ses)::mp rm (fo z.mou)::big nf z.mou::F) (λy=>e.puts.length - y.1) (0,none,0) (by simp) [0,1,2,3,9,11,12] rfl ?_;rintro ⟨k,s11,c11⟩ hk;simp only[] at hk ⊢;refine ac<|A<|C<|C<|M aa<|gF 3 Zq W Zb<|gL (sl e.so e.puts.length e.co) ZN<|M (aP Yq)<|M aG<|ab<|ah ?_ ?_<;>intro h43
    ·simp at h43;have V:k<e.puts.length:=(by omega);obtain ⟨x,hx⟩:∃x,e.puts[k]? =some x:=⟨_,kbN V⟩;have hfk:=Y k;refine ai<|ac<|ak<|A<|C<|M aa<|gF 3 Zq W Zb<|gL (sl e.so e.puts.length e.co) ZN<|C<|M (av k Yq Yg V (by rw[df];exact V))<|M (aK (j:=k) 0 Y7 W Xu (by rw[df];exact V))<|M (bS (v:=I x.at_) Xv (kx hx))<|C<|M iE<|ab ?_;apply ah<;>intro h55
     ·have hxa:¬x.at_=at_:=(by simpa using h55);refine al<|C<|C<|M aa<|gF 3 Zq W Zb<|gL (sl e.so e.puts.length e.co) ZN<|C<|M (av k Yq Yg V (by rw[df];exact V))<|M (bO (row:=j2 x) ZW Yg (kx hx))<|gI (ap (dh [x]) Yq Yg Zp (by simp[dh,j2])) ?_;rintro _ _ ⟨b64,rfl,rfl⟩;refine gI (aR Yq Yg Zp Tryz.typeInfo86 (hn:=by exact df _) (by simp[dh,j2]) (by simp[dh,j2,Go.Sl.ones,Go.Sl.one]) ⟨by omega,by decide,by decide⟩) ?_;rintro _ _ ⟨s65,c65,rfl,rfl⟩;rw[show dh ((e.puts.take k).filter λy=>!decide (y.at_=at_))++dh [x]=dh (((e.puts.take k).filter λy=>!decide (y.at_=at_))++ [x]) by simp[dh],show ((e.puts.take k).filter λy=>!decide (y.at_=at_)).length+1=(((e.puts.take k).filter λy=>!decide (y.at_=at_))++ [x]).length by simp,show ((e.puts.take k).filter λy=>!decide (y.at_=at_))++ [x]=((e.puts.take (k+1)).filter λy=>!decide (y.at_=at_)) by rw[BQ hx,kaU hxa]];refine T<|aE<|al<|C<|M (bx (r:=((k+1:Nat):Int)) (cK (by omega)))<|T ?_;exact an (k+1,s65,c65) (by simp only[];omega) (by simp only[];omega) [0,1,2,3,9,11,12] rfl
     ·have hxa:x.at_=at_:=(by simpa using h55);refine ai<|aE<|al<|C<|M (bx (r:=((k+1:Nat):Int)) (cK (by omega)))<|T ?_;rw[show ((e.puts.take k).filter λy=>!decide (y.at_=at_))=((e.puts.take (k+1)).filter λy=>!decide (y.at_=at_)) by rw[BQ hx,kaT hxa,kcV]];exact an (k+1,s11,c11) (by simp only[];omega) (by simp only[];omega) [0,1,2,3,9,11,12] rfl
    ·simp at h43;obtain rfl:k=e.puts.length:=(by omega);refine aF ?_;refine A<|C<|C<|C<|C<|M (aS (Jq at_ d))<|gI (ap (dh [⟨at_,d⟩]) Yq Yg Zp (by simp[dh,j2])) ?_;rintro _ _ ⟨b71,rfl,rfl⟩;refine gI (aR Yq Yg Zp Tryz.typeInfo86 (hn:=by exact df _) (by simp[dh,j2]) (by simp[dh,j2,Go.Sl.ones,Go.Sl.one]) ⟨by omega,by decide,by decide⟩) ?_;rintro _ _ ⟨O,J,rfl,rfl⟩;refine M aa<|gF 3 Zq W Zb<|gU (aJ #[I e.base,I e.disk,I e.size,sl O (((e.puts.take e.puts.length).filter λy=>!decide (y.at_=at_)).length+1) J] Zb (by simp))<|ab<|A<|T ?_;rw[show dh ((e.puts.take e.puts.length).filter λy=>!decide (y.at_=at_))++dh [⟨at_,d⟩]=dh (j7 e.puts at_ d) by simp[dh,j7],show ((e.puts.take e.puts.length).filter λy=>!decide (y.at_=at_)).length+1=(j7 e.puts at_ d).length by simp[j7]];refine da (f:=lU) z.ses (xM z.ses id) (⟨e.key,e.a,O,J,e.base,e.disk,e.size,j7 e.puts at_ d⟩:SeE) [pcc e.a #[I e.base,I e.disk,I e.size,sl O ((j7 e.puts at_ d).length) J] 219,be 86 2 O J (dh (j7 e.puts at_ d))] hi ?_;rw[<-Fz (e':=(⟨e.key,e.a,O,J,e.base,e.disk,e.size,j7 e.puts at_ d⟩:SeE)) he rfl rfl];refine bY b (⟨z.h,z.used,z.rows,z.S,z.L,z.n,z.ses.set (xM z.ses id) ⟨e.key,e.a,O,J,e.base,e.disk,e.size,j7 e.puts at_ d⟩,z.mou,z.next⟩) bs so co bv rs rm ?_;exact ar (e9 b ⟨z.h,z.used,z.rows,z.S,z.L,z.n,z.ses.set (xM z.ses id) ⟨e.key,e.a,O,J,e.base,e.disk,e.size,j7 e.puts at_ d⟩,z.mou,z.next⟩::F) rfl<|.inr ⟨by unfold ez;rw[R];simp only;rw[kaU X,kaU h6],O,J,rfl,by rw[BF R];rfl⟩
def DJ b z id(X:RrO z)F:cqq 55 [ptr b 0,I id] (e9 b z::F) (λv L'=>∃n e z2,nv z.lr id=(z2.lr,n,e)/\RrO z2/\z2.next=z.next/\v= .tuple #[I n,I e]/\L'=e9 b z2::F):=by
 obtain ⟨G0,hC⟩:=X.rok.con;have hlen:=hC.v.len;refine Ct.of func55 W 62 ntmps55 (by simp) λw0=>?_;refine dX b z ?_;intro bs so co bv rs rm;refine A<|gA<|T<|A<|C<|M aa<|gF 2 XT rfl Zw<|gL (.map (some rs)) ZC<|C<|M (ed (v:= .pointer ((hJ z.ses id).map λe=>⟨e.a,0,none⟩)) (bb:=(hJ z.ses id).isSome) ZD XA kap (by rw[oh];cases hJ z.ses id <;> rfl) (by rw[oh,kdm]))<|C<|gX (.pointer ((hJ z.ses id).map λe=>⟨e.a,0,none⟩))<|gX (Bo (hJ z.ses id).isSome)<|gA<|T<|ac<|A<|C<|M cS<|ab ?_;apply ah<;>intro O
 ·have hno:hJ z.ses id=none:=(by simpa using O);refine A<|gA<|T ?_;refine bY b (z) bs so co bv rs rm ?_;exact ar (e9 b z::F) rfl ⟨0,5,z,by unfold nv;rw[show z.lr.ses=z.ses.map sS from rfl,sg,hno];rfl,X,rfl,rfl,rfl⟩
 ·simp at O;obtain ⟨e,J⟩:=kcX.1 O;obtain ⟨he,hek,hi⟩:=pN J;rw[show (Value.pointer ((hJ z.ses id).map λe=>⟨e.a,0,none⟩))=ptr e.a 0 by rw[J];rfl];refine ai<|ac ?_;have hps:=X.rok.putS e (kbe he);refine al<|C<|M aa<|gF 1 XT W YJ<|gL (ptr bv 0) YW<|gI (uB call128 (ta bv z.S z.L z.n (by omega))) ?_;rintro _ _ ⟨q,rfl,rfl⟩;refine T<|ac ?_;refine HC z.ses _ he ?_;refine cn (Lf:=[pcc e.a #[I e.base,I e.disk,I e.size,sl e.so (e.puts.length) e.co] 219]) ja ?_;refine dM W<|dM W<|dV W aa<|dF W 0 Zq W Xu<|dL W (I e.base) Xv<|dM W<|dV W aa<|dF W 1 Zq W Xu<|dL W (I e.disk) Xv<|dM W<|dV W aa<|dF W 2 Zq W Xu<|dL W (I e.size) Xv<|dM W<|dV W aa<|dF W 3 Zq W Zb<|dL W (sl e.so e.puts.length e.co) ZN<|cQ W (uC call129 (Ax q z.S z.L z.n e.base e.disk e.size e.puts e.so e.co G0 hC.v (by omega) (λp hp=>by have:=hps.2 p hp;omega))) ?_;rintro v L' hv;unfold vR at hv;rcases hr:gw z.S z.L z.n e.base e.disk e.size e.puts with e0 | ⟨S1,L1,n1,r1⟩ <;> rw[hr] at hv <;> obtain ⟨rfl,rfl⟩:=hv
  ·have he0:=ud hr;refine dM W<|dV W (aB (v:=I 0))<|dV W (aB (v:=I e0))<|dV W ax<|dV W ax ?_;refine aN ?_;refine ac<|A<|C<|M bE<|ab<|ah ?_ ?_<;>intro R
   ·simp at R;omega
   ·refine ai<|ac<|A<|C<|M aQ<|ab<|ah ?_ ?_<;>intro V
    ·refine A<|C<|gA<|T ?_;refine da (f:=lU) z.ses (xM z.ses id) e [pcc e.a #[I e.base,I e.disk,I e.size,sl e.so e.puts.length e.co] 219,be 86 2 e.so e.co (dh e.puts)] hi ?_;rw[eK he];refine bY b (z) bs so co bv rs rm ?_;exact ar (e9 b z::F) rfl ⟨0,e0,z,by unfold nv;rw[show z.lr.ses=z.ses.map sS from rfl,sg,J];dsimp only[Option.map_some,sS,RpM.lr];rw[hr],X,rfl,rfl,rfl⟩
    ·simp at V;omega
  ·obtain ⟨G1,Y⟩:=qE hC hr;refine dM W<|dV W (aB (v:=I r1))<|dV W (aB (v:=I 0))<|dV W ax<|dV W ax ?_;refine aN ?_;refine ac<|A<|C<|M bE<|ab<|ah ?_ ?_<;>intro R
   ·refine da (f:=lU) z.ses (xM z.ses id) e [pcc e.a #[I e.base,I e.disk,I e.size,sl e.so e.puts.length e.co] 219,be 86 2 e.so e.co (dh e.puts)] hi ?_;rw[eK he];refine bY b (z) bs so co bv rs rm ?_;refine al<|C<|C<|gI (uC call130 (td b q z S1 L1 L1 n1 G1 X Y (Om hC hr).1 (Om hC hr).2 (λp hp=>hp))) ?_;rintro _ _ ⟨Z,hu2,rfl,rfl⟩;refine T<|ac<|A<|C<|M aQ<|ab<|ah ?_ ?_<;>intro V
    ·simp at V
    ·refine ai<|ac ?_;change Go.Sl.G _ _ _ (e9 b ⟨z.h,Z,bN S1 L1 n1,S1,L1,n1,z.ses,z.mou,z.next⟩::F);refine dX b ⟨z.h,Z,bN S1 L1 n1,S1,L1,n1,z.ses,z.mou,z.next⟩ ?_;intro bs so co bv rs rm;dsimp only;refine al<|C<|M aa<|gF 2 XT W Zw<|gL (.map (some rs)) ZC<|C<|io (iI ZD XA) ?_;rintro _ _ ⟨rfl,rfl⟩;rw[uq];refine oD (f:=lU) z.ses (nW z.ses id) kbU ?_;refine ab<|A<|C<|gA<|T ?_;refine bY b (⟨z.h,Z,bN S1 L1 n1,S1,L1,n1,nW z.ses id,z.mou,z.next⟩) bs so co bv rs rm ?_;exact ar (e9 b ⟨z.h,Z,bN S1 L1 n1,S1,L1,n1,nW z.ses id,z.mou,z.next⟩::F) rfl ⟨r1,0,⟨z.h,Z,bN S1 L1 n1,S1,L1,n1,nW z.ses id,z.mou,z.next⟩,by unfold nv;rw[show z.lr.ses=z.ses.map sS from rfl,sg,J];dsimp only[Option.map_some,sS,RpM.lr];rw[hr];dsimp only;rw[FJ],(X.vau Y hu2).ses (nW z.ses id) (λx hx=>(kcd.1 hx).1),rfl,rfl,rfl⟩
   ·simp at R
def FV b z id(V:RrO z)F:cqq 57 [ptr b 0,I id] (e9 b z::F) (λv L'=>∃n e z2,sZ z.lr id=(z2.lr,n,e)/\RrO z2/\z2.next=z.next/\v= .tuple #[I n,I e]/\L'=e9 b z2::F):=by
 obtain ⟨G0,hC⟩:=V.rok.con;have Y:=hC.v.len;refine Ct.of func57 W 29 ntmps57 (by simp) λw0=>?_;refine A<|gA<|T<|ac ?_;refine dX b z ?_;intro bs so co bv rs rm;refine al<|C<|M aa<|gF 1 XT W YJ<|gL (ptr bv 0) YW<|gI (uB call128 (ta bv z.S z.L z.n (by omega))) ?_;rintro _ _ ⟨q,rfl,rfl⟩;refine T ?_;refine bY b (z) bs so co bv rs rm ?_;refine A<|C<|C<|gI (uB call131 (FS q z.S z.L z.n id G0 hC.v)) ?_;rintro v L' hv;unfold vR at hv;rcases hr:lT z.S z.L z.n id with e0 | ⟨S1,L1,n1,r1⟩ <;> rw[hr] at hv <;> obtain ⟨rfl,rfl⟩:=hv
 ·have he0:=Fp hr;refine C<|gX (I 0)<|gX (I e0)<|gA<|T<|ac<|A<|C<|M bE<|ab<|ah ?_ ?_<;>intro J
  ·simp at J;omega
  ·refine ai<|ac<|A<|C<|M aQ<|ab<|ah ?_ ?_<;>intro O
   ·refine A<|C<|gA<|T ?_;exact ar (e9 b z::F) rfl ⟨0,e0,z,by unfold sZ;dsimp only[RpM.lr];rw[hr],V,rfl,rfl,rfl⟩
   ·simp at O;omega
 ·obtain ⟨G1,R⟩:=qF hC hr;refine C<|gX (I r1)<|gX (I 0)<|gA<|T<|ac<|A<|C<|M bE<|ab<|ah ?_ ?_<;>intro J
  ·refine al<|C<|C<|gI (uC call130 (td b q z S1 L1 L1 n1 G1 V R (Ol hC hr).1 (Ol hC hr).2 (λp hp=>hp))) ?_;rintro _ _ ⟨Z,X,rfl,rfl⟩;refine T<|ac<|A<|C<|M aQ<|ab<|ah ?_ ?_<;>intro O
   ·simp at O
   ·refine ai<|A<|C<|gA<|T ?_;exact ar (e9 b (z.vau Z S1 L1 n1)::F) rfl ⟨r1,0,z.vau Z S1 L1 n1,by unfold sZ;dsimp only[RpM.lr];rw[hr];rfl,V.vau R X,rfl,rfl,rfl⟩
  ·simp at J
def Ay b z id(Y:RrO z)F:cqq 60 [ptr b 0,I id] (e9 b z::F) (λv L'=>(eT z id≠0/\v= .tuple #[I 0,I (eT z id)]/\L'=e9 b z::F)\/(eT z id=0/\∃a r,v= .tuple #[I z.next,I 0]/\L'=e9 b (z.mounted a r id)::F)):=by
 obtain ⟨G0,hC⟩:=Y.rok.con;have hlen:=hC.v.len;have hnx:=Y.rok.next;refine Ct.of func60 W 49 ntmps60 (by simp) λw0=>?_;refine dX b z ?_;intro bs so co bv rs rm;refine A<|gA<|T<|A<|C<|M aa<|gF 1 XT W YJ<|gL (ptr bv 0) YW<|C<|gR (vB call127 (iP bv z.S z.L z.n id (by omega)))<|C<|gX (.agg (aW ((aX z.L id).getD iB)).toArray)<|gX (Bo (aX z.L id).isSome)<|gI (aO #[I 0,I 0,I 0,I 0] X4) ?_;rintro _ _ ⟨b6,rfl,rfl⟩;refine gU (az (cs:=#[I 0,I 0,I 0,I 0]) (vs:=aW (((aX z.L id).getD iB))) (aW (((aX z.L id).getD iB))).toArray XE (by simp) (hcs:=by exact aH))<|T<|ac<|A<|C<|M cS<|ab<|ah ?_ ?_<;>intro V
 ·simp at V;refine A<|gA<|T ?_;refine bY b (z) bs so co bv rs rm ?_;exact ar (e9 b (z)::F) rfl (have ho:eT z id=5:=by unfold eT;rw[V]
   .inl ⟨by rw[ho];decide,by rw[ho];rfl,rfl⟩)
 ·simp at V;obtain ⟨p,Z⟩:=kcX.1 V;rw[show (aX z.L id).getD iB=p by rw[Z];rfl];refine ai<|ac<|A<|C<|M aa<|gF 3 XT W ZE<|gL (.map (some rm)) ZO<|M (ky ZP)<|M bE<|ab<|ah ?_ ?_<;>intro X
  ·have O:z.mou.length=3:=(by simp[fo] at X;omega);refine A<|gA<|T ?_;refine bY b (z) bs so co bv rs rm ?_;exact ar (e9 b (z)::F) rfl (have ho:eT z id=8:=by unfold eT;rw[Z];simp only;rw[kaT O]
    .inl ⟨by rw[ho];decide,by rw[ho];rfl,rfl⟩)
  ·have O:¬z.mou.length=3:=(by simp[fo] at X;omega);refine ai<|ac<|gD (Lf:=[pcc b #[ptr bs 0,ptr bv 0, .map (some rs), .map (some rm),I (z.next)] 46]) (plN [0,2,4,6,8,10,12,14,16,19,20,23,25])<|dM W<|dV W aa<|dF W 3 XT W ZE<|dL W (.map (some rm)) ZO<|dM W<|dV W aa<|dF W 4 XT W Xu<|dL W (I z.next) Xv<|dM W<|cQ W (fH) ?_;rintro _ _ ⟨J,rfl,rfl⟩;refine dV W (aS (UD id J))<|cQ W (dw #[I id, .map (some J)]) ?_;rintro _ _ ⟨R,rfl,rfl⟩;refine rE W (cq ZP XA) ?_;rintro _ _ rfl;rw[Fx (l:=z.mou) (e:=(⟨z.next,R,J,id,[]⟩:MoE)) (λx hx=>by have:=Y.rok.keyM x hx;show x.key≠z.next;omega)];refine tI (f:=nf) z.mou (⟨z.next,R,J,id,[]⟩:MoE) [pcc R #[I id, .map (some J)] 225,mp J []] rfl ?_;refine aN ?_;refine A<|C<|M aa<|gF 4 XT rfl Xu<|gL (I z.next) Xv<|M (bx (r:=z.next+1) (cK (by omega)))<|M aa<|gF 4 XT rfl Xu<|gU (aJ #[ptr bs 0,ptr bv 0, .map (some rs), .map (some rm),I (z.next+1)] Xu (by simp))<|ab<|A<|C<|M aa<|gF 4 XT rfl Xu<|gL (I (z.next+1)) Xv<|M (eG (r:=z.next) (by rw[show z.next+1 - 1=z.next by omega];exact cK (by omega)))<|gA<|T ?_;refine bY b (⟨z.h,z.used,z.rows,z.S,z.L,z.n,z.ses,z.mou++ [⟨z.next,R,J,id,[]⟩],z.next+1⟩) bs so co bv rs rm ?_;exact ar (e9 b (⟨z.h,z.used,z.rows,z.S,z.L,z.n,z.ses,z.mou++ [⟨z.next,R,J,id,[]⟩],z.next+1⟩)::F) rfl<|.inr ⟨by unfold eT;rw[Z];simp only;rw[kaU O],R,J,rfl,rfl⟩
def Az b z id F:cqq 61 [ptr b 0,I id] (e9 b z::F) (λv L'=>(mw z.mou id=none/\v=I 5/\L'=e9 b z::F)\/(∃e,mw z.mou id=some e/\v=I 0/\L'=e9 b (z.moun (Gr z.mou id))::F)):=by
 refine Ct.of func61 W 23 ntmps61 (by simp) λw0=>?_;refine dX b z ?_;intro bs so co bv rs rm;refine A<|T<|A<|C<|M aa<|gF 3 XT rfl ZE<|gL (.map (some rm)) ZO<|C<|M (ed (v:= .pointer ((mw z.mou id).map λe=>⟨e.a,0,none⟩)) (bb:=(mw z.mou id).isSome) ZP XA kaq (by rw[pM];cases mw z.mou id <;> rfl) (by rw[pM,kdm]))<|C<|gX (.pointer ((mw z.mou id).map λe=>⟨e.a,0,none⟩))<|gX (Bo (mw z.mou id).isSome)<|gA<|T<|ac<|A<|C<|M cS<|ab ?_;apply ah<;>intro J
 ·have R:mw z.mou id=none:=(by simpa using J);refine A<|T ?_;refine bY b (z) bs so co bv rs rm ?_;exact ar (e9 b (z)::F) rfl<|.inl ⟨R,rfl,rfl⟩
 ·simp at J;obtain ⟨e,O⟩:=kcX.1 J;obtain ⟨he,V,hi⟩:=pO O;rw[show (Value.pointer ((mw z.mou id).map λe=>⟨e.a,0,none⟩))=ptr e.a 0 by rw[O];rfl];refine ai<|A<|C<|M aa<|gF 3 XT W ZE<|gL (.map (some rm)) ZO<|C<|io (iI ZP XA) ?_;rintro _ _ ⟨rfl,rfl⟩;rw[Fy];refine oD (f:=nf) z.mou (Gr z.mou id) kbU ?_;refine ab<|A<|T ?_;refine bY b (⟨z.h,z.used,z.rows,z.S,z.L,z.n,z.ses,Gr z.mou id,z.next⟩) bs so co bv rs rm ?_;exact ar (e9 b (⟨z.h,z.used,z.rows,z.S,z.L,z.n,z.ses,Gr z.mou id,z.next⟩)::F) rfl<|.inr ⟨e,O,rfl,rfl⟩
structure SnapM where
 id:Int
 time:Int
 size:Int
 blocks:Nat->Bytes
 dirty:Nat->Bool
structure VdM where
 size:Int
 blocks:Nat->Bytes
 dirty:Nat->Bool
 time:Int
 next:Int
 snaps:List SnapM
abbrev sn:=Option Addr×Nat
abbrev s16 (B:Nat->Bytes):List Value:=[ay (B 0),ay (B 1),ay (B 2),ay (B 3),ay (B 4),ay (B 5),ay (B 6),ay (B 7),ay (B 8),ay (B 9),ay (B 10),ay (B 11),ay (B 12),ay (B 13),ay (B 14),ay (B 15)]
abbrev m16 (m:Nat->Bool):List Value:=[Bo (m 0),Bo (m 1),Bo (m 2),Bo (m 3),Bo (m 4),Bo (m 5),Bo (m 6),Bo (m 7),Bo (m 8),Bo (m 9),Bo (m 10),Bo (m 11),Bo (m 12),Bo (m 13),Bo (m 14),Bo (m 15)]
def On m:m16 m=bL m:=rfl
def km (sz:Int)(B:Nat->Bytes)(sd:Value)(tm nx:Int)(ss:Value):Array Value:=#[I sz,ay (B 0),ay (B 1),ay (B 2),ay (B 3),ay (B 4),ay (B 5),ay (B 6),ay (B 7),ay (B 8),ay (B 9),ay (B 10),ay (B 11),ay (B 12),ay (B 13),ay (B 14),ay (B 15),sd,I tm,I nx,ss]
def BR (x:SnapM)(sd:Value):List Value:=let B:=x.blocks; [I x.id,I x.time,I x.size,ay (B 0),ay (B 1),ay (B 2),ay (B 3),ay (B 4),ay (B 5),ay (B 6),ay (B 7),ay (B 8),ay (B 9),ay (B 10),ay (B 11),ay (B 12),ay (B 13),ay (B 14),ay (B 15),sd]
instance {x:SnapM}{d:Value}{i:Nat}{v:Value}[h:NT [I x.id,I x.time,I x.size,ay (x.blocks 0),ay (x.blocks 1),ay (x.blocks 2),ay (x.blocks 3),ay (x.blocks 4),ay (x.blocks 5),ay (x.blocks 6),ay (x.blocks 7),ay (x.blocks 8),ay (x.blocks 9),ay (x.blocks 10),ay (x.blocks 11),ay (x.blocks 12),ay (x.blocks 13),ay (x.blocks 14),ay (x.blocks 15),d] i v]:NT (BR x d) i v:=⟨h.p⟩
def rP (x:SnapM×sn):List Value:=BR x.1 (sl x.2.1 (dr x.1.dirty).length x.2.2)
instance {x:SnapM×sn}{i:Nat}{v:Value}[h:NT (BR x.1 (sl x.2.1 (dr x.1.dirty).length x.2.2)) i v]:NT (rP x) i v:=⟨h.p⟩
def cE (l:List (SnapM×sn)):List (List Value):=l.map rP
def fd l:(cE l).length=l.length:=by simp[cE]
def ie {l x}(h:l[k]? =some x):(cE l)[k]? =some (rP x):=by simp[cE,h]
def FX x:(rP x).length=20:=rfl
def upd (B:Nat->Bytes)(j:Nat)(x:Bytes):Nat->Bytes:=λi=>if i=j then x else B i
def te (m:Nat->Bool)(j:Nat):Nat->Bool:=λi=>m i || decide (i=j)
def Oo sz x R nx B J O:(km sz B J R nx O).setIfInBounds 0 (I x)=km x B J R nx O:=rfl
def ry sz R nx B S J O:(km sz B S R nx O).setIfInBounds 17 J=km sz B J R nx O:=rfl
def Oq sz x R nx B J O:(km sz B J R nx O).setIfInBounds 18 (I x)=km sz B J x nx O:=rfl
def Ot sz x R nx B J O:(km sz B J R nx O).setIfInBounds 19 (I x)=km sz B J R x O:=rfl
def BS sz R nx B O S J:(km sz B O R nx S).setIfInBounds 20 J=km sz B O R nx J:=rfl
def kM sz R nx B J O:(km sz B J R nx O).size=21:=rfl
def JN sz R nx B J O(x:Bytes):∀j,j<16->(km sz B J R nx O).setIfInBounds (0+1+j*1) (ay x)=km sz (upd B j x) J R nx O
 :=λj h=>match j,h with
  | 0,_=>rfl
  | 1,_=>rfl
  | 2,_=>rfl
  | 3,_=>rfl
  | 4,_=>rfl
  | 5,_=>rfl
  | 6,_=>rfl
  | 7,_=>rfl
  | 8,_=>rfl
  | 9,_=>rfl
  | 10,_=>rfl
  | 11,_=>rfl
  | 12,_=>rfl
  | 13,_=>rfl
  | 14,_=>rfl
  | 15,_=>rfl
  | k+16,h=>absurd h (by omega)
def Ln (m:Res):Res:=λb=>match m b with
 | some (o,true)=>some (o,true)
 | _=>none
def RD {m b o}(h:m b=some (o,true)):Ln m b=some (o,true):=by simp[Ln,h]
variable {s:Option Addr}{rows:List (List Value)}
def Ou {sz m}(h:roL sz s rows m):roL sz s rows (Ln m):=by
 rcases h with h | ⟨b,off,o,h1,J,O⟩
 ·exact .inl h
 ·exact .inr ⟨b,off,o,h1,RD J,O⟩
def iQ (l:List (SnapM×sn)):ag:=λm=>∀x∈l,roL 2 x.2.1 (aV (dr x.1.dirty)) m
theorem HE l:Pers (iQ l):=λm h=>by
 refine ⟨Ln m,λb x hx=>?_,λb x hx=>?_,λx hx=>Ou (h x hx)⟩
 ·grind[Ln]
 grind[Ln]
def FY {sz m n}(h:roL sz s rows m)(hs:Res.sub m n):roL sz s rows n:=by
 rcases h with h | ⟨b,off,o,h1,J,O⟩
 ·exact .inl h
 ·exact .inr ⟨b,off,o,h1,hs b _ J,O⟩
def Xn (b:Nat)(D:VdM)(z:sn×sn×List (SnapM×sn)):List ag:=
 [pcc b (km D.size D.blocks (sl z.1.1 (dr D.dirty).length z.1.2) D.time D.next (sl z.2.1.1 z.2.2.length z.2.1.2)) 134,roL 2 z.1.1 (aV (dr D.dirty)),be 239 20 z.2.1.1 z.2.1.2 (cE z.2.2),iQ z.2.2,kU (z.2.2.map Prod.fst=D.snaps)]
def gp (b:Nat)(D:VdM):ag:=hx (Xn b D)
variable {L:List ag}
def iR b D[R:Rem L (gp b D) F](k:∀O cd S cs J,J.map Prod.fst=D.snaps->G c K E (pcc b (km D.size D.blocks (sl O (dr D.dirty).length cd) D.time D.next (sl S J.length cs)) 134::roL 2 O (aV (dr D.dirty))::be 239 20 S cs (cE J)::iQ J::F)):G c K E L:=λa w Y Z=>by
 obtain ⟨z,hz⟩:=(R.sat Z).hx;obtain ⟨⟨O,cd⟩,⟨S,cs⟩,J⟩:=z;have X:Sat c.w0 w (pcc b (km D.size D.blocks (sl O (dr D.dirty).length cd) D.time D.next (sl S J.length cs)) 134::roL 2 O (aV (dr D.dirty))::be 239 20 S cs (cE J)::iQ J::kU (J.map Prod.fst=D.snaps)::F):=hz;have r:Rem (pcc b (km D.size D.blocks (sl O (dr D.dirty).length cd) D.time D.next (sl S J.length cs)) 134::roL 2 O (aV (dr D.dirty))::be 239 20 S cs (cE J)::iQ J::kU (J.map Prod.fst=D.snaps)::F) (kU (J.map Prod.fst=D.snaps)) (pcc b (km D.size D.blocks (sl O (dr D.dirty).length cd) D.time D.next (sl S J.length cs)) 134::roL 2 O (aV (dr D.dirty))::be 239 20 S cs (cE J)::iQ J::F):=inferInstance;have V:=r.sat X;exact k _ _ _ _ _ V.pure_.1 a w Y V.pure_.2
def eo (bn:Array Value)(Y rs:List (List Value))(O:Option Addr)(cd:Nat)(R:Option Addr)(cs:Nat)(J:List (SnapM×sn))(b:Nat)(D:VdM)(V:J.map Prod.fst=D.snaps)[S:Split L [pcc b bn 134,roL 2 O Y,be 239 20 R cs rs,iQ J] F](k:G c K E (gp b D::F))(hC:bn=km D.size D.blocks (sl O (dr D.dirty).length cd) D.time D.next (sl R J.length cs):=by exact rfl)(hrd:Y=aV (dr D.dirty):=by exact rfl)(X:rs=cE J:=by exact rfl):G c K E L:=λa w hE hS=>by
 subst hC hrd X;refine k a w hE ?_;have h1:Sat c.w0 w ([pcc b (km D.size D.blocks (sl O (dr D.dirty).length cd) D.time D.next (sl R J.length cs)) 134,roL 2 O (aV (dr D.dirty)),be 239 20 R cs (cE J),iQ J]++F):=S.sat hS;have Z:=Sat.pure_mk V h1;have sp:Split (kU (J.map Prod.fst=D.snaps)::pcc b (km D.size D.blocks (sl O (dr D.dirty).length cd) D.time D.next (sl R J.length cs)) 134::roL 2 O (aV (dr D.dirty))::be 239 20 R cs (cE J)::iQ J::F) [pcc b (km D.size D.blocks (sl O (dr D.dirty).length cd) D.time D.next (sl R J.length cs)) 134,roL 2 O (aV (dr D.dirty)),be 239 20 R cs (cE J),iQ J,kU (J.map Prod.fst=D.snaps)] F:=inferInstance;exact Sat.hx_mk (cB:=Xn b D) ((O,cd),(R,cs),J)<|sp.sat Z
def Ov (k:G c K E (iQ []::L)):G c K E L:=λa w J O=>k a w J ((Sat.pure_mk (φ:=True) trivial O).weak λm _=>λx hx=>nomatch hx)
def HF O J(h:∀x∈J,x∈O)[R:Rem L (iQ O) F](k:G c K E (iQ J::F)):G c K E L:=λa w S V=>k a w S ((R.sat V).weak λm hm x hx=>hm x (h x hx))
def rz J{x}(h:x∈J)[R:Rem L (iQ J) F](k:G c K E (roL 2 x.2.1 (aV (dr x.1.dirty))::iQ J::F)):G c K E L:=λa w O S=>k a w O (((R.sat S).dup (HE J)).weak λm hm=>hm x h)
def zQ {S}J O x(h:∀y∈O,y∈J\/y=x)[R:Rem L (iQ J) F][R2:Rem F (roL 2 x.2.1 (aV (dr x.1.dirty))) S](k:G c K E (iQ O::S)):G c K E L:=λa w X Y=>by
 have h1:=R.sat Y;have r2:Rem (iQ J::F) (roL 2 x.2.1 (aV (dr x.1.dirty))) (iQ J::S):=inferInstance;have V:Sat c.w0 w (roL 2 x.2.1 (aV (dr x.1.dirty))::iQ J::S):=r2.sat h1;refine k a w X<|V.two.weak λm hm=>?_;obtain ⟨m1,m2,hd,s1,s2,Z,hb⟩:=hm;intro y hy;rcases h y hy with hy | rfl
 ·exact FY (hb y hy) s2
 ·exact FY Z s1
def k5 (n:Int):VdM:=⟨n,λ_=>[],λ_=>false,0,1,[]⟩
def JO (ok:Prop)(Ev:Int->Value)(cB:Nat->ag)(F:List ag):Value->List ag->Prop:=λv L'=>(¬ok/\v= .tuple #[.pointer none,Ev 1]/\L'=F)\/(ok/\∃b,v= .tuple #[ptr b 0,Ev 0]/\L'=cB b::F)
variable {J:Int->Value}{vs:List Value}
def zR {ok:Prop}{cB:Nat->ag}(V:c.R=JO ok J cB F)(hr:fY E c.fn.results.toList=some vs)(hn:¬ok)(hv:tn vs= .tuple #[.pointer none,J 1])[S:Sub L F](hds:c.n.ds=[]:=by rfl):G c (.code .ret::K) E L:=
 λa w O X=>wp_ret (cb (bf (hds:=hds) hr O (S.sat X) (by rw[V];exact .inl ⟨hn,hv,rfl⟩)))
def zS {ok:Prop}{cB:Nat->ag}(b:Nat)(V:c.R=JO ok J cB F)(hr:fY E c.fn.results.toList=some vs)(hn:ok)(hv:tn vs= .tuple #[ptr b 0,J 0])[S:Sub L (cB b::F)](hds:c.n.ds=[]:=by rfl):G c (.code .ret::K) E L:=
 λa w O X=>wp_ret (cb (bf (hds:=hds) hr O (S.sat X) (by rw[V];exact .inr ⟨hn,b,hv,rfl⟩)))
def FZ (l:List SnapM)(id:Int):Nat:=l.findIdx λs=>decide (s.id=id)
def dI (l:List SnapM)(id:Int):Int:=if FZ l id<l.length then (FZ l id:Int) else -1
variable {l:List SnapM}{s:SnapM}
theorem BT {id}(J:∀j,j<k->∀t,l[j]? =some t->t.id≠id)(hs:l[k]? =some s)(he:s.id=id):dI l id=k:=by
 grind[FZ,List.findIdx_eq,dI]
def zT {id}(J:∀j,j<l.length->∀t,l[j]? =some t->t.id≠id):dI l id= -1:=by
 unfold dI;rw[kaU];intro h;have:=kc0 (w:=h);simp at this;exact J _ h _ (kbN h) this
def ik {id}(h:¬dI l id<0):∃i s,dI l id=((i:Nat):Int)/\l[i]? =some s/\s.id=id/\i<l.length:=by
 unfold dI at h ⊢;split at h
 ·rename_i hl;refine ⟨FZ l id,l[FZ l id],by rw[kaT hl],kbN hl,?_,hl⟩;have:=kc0 (w:=hl);simp only[decide_eq_true_eq] at this;exact this
 ·omega
variable {J:List (SnapM×sn)}
theorem zU (h:J.map Prod.fst=l)(hs:l[i]? =some s):∃q,J[i]? =some (s,q):=by
 grind
def wd (h:J.map Prod.fst=l):J.length=l.length:=by subst h;simp
def SP (D:VdM):VdM:=⟨D.size,D.blocks,λ_=>false,D.time+1,D.next,D.snaps⟩
def fU (m:Nat->Bool)(fr mn:Int):Nat->Bool:=λp=>m p || decide (fr<=(p:Int)/\(p:Int)<fr+mn)
theorem Ow m fr J:dr (tu (mk (dr m)) (mk [⟨fr,J⟩]))=dr (fU m fr J):=BM λp hp=>by
 grind[tu,fU,tc,mk]
def markD (D:VdM)(fr mn:Int):VdM:=if 0<mn then ⟨D.size,D.blocks,fU D.dirty fr mn,D.time,D.next,D.snaps⟩ else D
def uL (s:Bytes):Int:=if 6<s.length then 2 else 0
def F0 (D:VdM)(n:Int)(s:Bytes):Int:=if n<0\/D.size<=n then 1 else uL s
def DK (D:VdM)(n:Int)(s:Bytes):VdM:=if F0 D n s=0 then ⟨D.size,upd D.blocks n.toNat s,fU D.dirty n 1,D.time,D.next,D.snaps⟩ else D
def DL n F:cqq 18 [I n] (F) (JO (1<=n/\n<=16) bQ (λb=>gp b (k5 n)) F):=by
 refine Ct.of func18 W 14 ntmps18 (by simp) λw0=>?_;refine A<|gA<|T<|ac<|A<|C<|M aG<|C<|gK ao<|gK aQ<|M cv<|ab<|ah ?_ ?_<;>intro O
 ·simp at O;refine A<|M (ba XG)<|gA<|T ?_;exact zR rfl rfl (by omega) rfl
 ·simp at O;refine ai<|A<|C<|M (aS (Gx _ W _ W))<|gI (dw (km n (λ_=>[]) (sl none 0 0) 0 1 (sl none 0 0))) ?_;rintro _ _ ⟨J,rfl,rfl⟩;refine gA<|T ?_;refine tt 2 (aV (dr λ_=>false)) ?_;refine aY 239 20 (cE []) ?_;refine Ov ?_;refine eo (km n (λ_=>[]) (sl none 0 0) 0 1 (sl none 0 0)) (aV (dr λ_=>false)) (cE []) none 0 none 0 ([]) J ((k5 n)) W ?_;exact zS J rfl rfl (by omega) rfl
def wV b D(ht: -9223372036854775808<=D.time/\D.time<9223372036854775807)F:cqq 75 [ptr b 0] (gp b (D)::F) (R1 (.tuple #[]) (gp b (SP D)::F)):=by
 refine Ct.of func75 W 12 ntmps75 (by simp) λw0=>?_;refine iR b (D) ?_;intro S cd O cs J R;refine A<|C<|M aa<|gF 18 XZ W Xu<|gL (I D.time) Xv<|gP<|M aa<|gF 18 XZ W Xu<|gU (aJ (km ((D).size) ((D).blocks) (sl S (dr (D).dirty).length cd) (D.time+1) ((D).next) (sl O J.length cs)) Xu (by rw[kM];decide) (hcs:=by exact Oq _ _ _ _ _ _ _))<|ab<|al<|C<|M aa<|gF 17 XZ W YR<|gU (aJ (km ((D).size) ((D).blocks) (sl none 0 0) (D.time+1) ((D).next) (sl O J.length cs)) YR (by rw[kM];decide) (hcs:=by exact ry _ _ _ _ _ _ _))<|ab ?_;refine tt 2 (aV (dr λ_=>false)) ?_;refine eo (km ((D).size) ((D).blocks) (sl none 0 0) (D.time+1) ((D).next) (sl O J.length cs)) (aV (dr λ_=>false)) (cE J) none 0 O cs (J) b ((SP D)) R ?_;exact gh rfl rfl rfl
def zV (s:Bytes)F:cqq 141 [ay s] (F) (R1 (bQ (uL s)) F):=by
 refine Ct.of func141 W 7 ntmps141 (by simp) λw0=>?_;refine A<|T<|ac<|A<|C<|M (cD Xz)<|M aQ<|ab<|ah ?_ ?_<;>intro J
 ·simp at J;refine A<|M (ba XG)<|T ?_;refine am W W ?_;show _=bQ _;rw[show uL s=2 by unfold uL;rw[kaT (by omega)]]
  rfl
 ·simp at J;refine ai<|A<|T ?_;refine am W W ?_;show _=bQ _;rw[show uL s=0 by unfold uL;rw[iOm]]
  rfl
def zW x q id F:cqq 216 [.agg (rP x).toArray,ptr q 0] (pcc q #[I id] 3::F) (R1 (Bo (decide (x.1.id=id))) (pcc q #[I id] 3::F)):=by
 refine Ct.of func216 W 8 ntmps216 (by simp) λw0=>?_;refine A<|gI (dw (rP x).toArray) ?_;rintro _ _ ⟨J,rfl,rfl⟩;refine T<|A<|gF 0 Y8 W Xu<|gL (I x.1.id) Xv<|gL (I id) Xv<|M bE<|T ?_;refine am W W ?_;exact rfl
def uM J X cs q id(hgl:J.length<=1000000)F:cqq 215 [sl X J.length cs, .func (.func 216) #[] #[ptr q 0]] (be 239 20 X cs (cE J)::pcc q #[I id] 3::F) (R1 (I (dI (J.map Prod.fst) id)) (be 239 20 X cs (cE J)::pcc q #[I id] 3::F)):=by
 refine Ct.of func215 W 19 ntmps215 (by simp) λw0=>?_;refine A<|T<|ac<|A<|C<|M (aP Yr)<|C<|ab<|ak ?_;refine aL (α:=Nat) (λk=>k<=J.length/\∀j,j<k->∀t,(J.map Prod.fst)[j]? =some t->t.id≠id) (λk=>U [(0,sl X J.length cs),(1, .func (.func 216) #[] #[ptr q 0]),(7,I J.length),(8,I k)]) (λ_=>be 239 20 X cs (cE J)::pcc q #[I id] 3::F) (λk=>J.length - k) 0 ⟨by simp,λj hj=>absurd hj (by omega)⟩ [0,1,7,8] rfl ?_;rintro k ⟨hk,S⟩;refine A<|M aG<|ab<|ac<|ah ?_ ?_<;>intro Z
 ·simp at Z;have R:k<J.length:=(by omega);obtain ⟨x,hx⟩:∃x,J[k]? =some x:=⟨_,kbN R⟩;have Y:k<(cE J).length:=(by rw[fd];exact R);have V:(J.map Prod.fst)[k]? =some x.1:=(by simp[hx]);refine ai<|ac<|ak<|A<|C<|T<|A<|C<|C<|C<|M (av k Yr YC R Y)<|M (bO (row:=rP x) isAgg239 YC (ie hx)) ?_;refine gI (gc (fi:=[]) (cap:=[ptr q 0]) (Pre:=[pcc q #[I id] 3]) call216 W W (zW x q id)) ?_;rintro _ _ ⟨rfl,rfl⟩;refine ab<|ah ?_ ?_<;>intro O
  ·simp at O;refine A<|C<|T ?_;refine am W W ?_;show I _=I _;rw[BT S V O]
  ·simp at O;refine ai<|aE<|al<|gP<|C<|ab ?_;exact an (k+1) ⟨by omega,λj hj t ht=>by
    rcases ka3 j k with h | h
    ·exact S j h t ht
    ·obtain rfl:j=k:=(by omega);rw[V] at ht;injection ht with ht;rw[<-ht];exact O⟩ (by omega) [0,1,7,8] rfl
 ·simp at Z;obtain rfl:k=J.length:=(by omega);refine aF ?_;refine A<|T ?_;refine am W W ?_;show I _=I _;rw[zT (by simpa using S)]
def jv b D id(hs:D.snaps.length<=1000000)F:cqq 149 [ptr b 0,I id] (gp b (D)::F) (R1 (I (dI D.snaps id)) (gp b (D)::F)):=by
 refine Ct.of func149 W 11 ntmps149 (by simp) λw0=>?_;refine iR b (D) ?_;intro S cd R cs O J;have X:=wd J;refine A<|gI (dw #[I id]) ?_;rintro _ _ ⟨V,rfl,rfl⟩;refine T<|A<|C<|M aa<|gF 20 XZ W YD<|gL (sl R O.length cs) Y0<|M fV<|gR (vC call215 (uM O R cs V id (by omega))) ?_;rw[J];refine T ?_;refine eo (km ((D).size) ((D).blocks) (sl S (dr (D).dirty).length cd) ((D).time) ((D).next) (sl R O.length cs)) (aV (dr (D).dirty)) (cE O) S cd R cs (O) b ((D)) J ?_;exact am rfl rfl rfl
def sq b D fr J(h0:0<=fr)(h1:fr+J<=16)F:cqq 142 [ptr b 0,I fr,I J] (gp b (D)::F) (R1 (.tuple #[]) (gp b (markD D fr J)::F)):=by
 refine Ct.of func142 W 20 ntmps142 (by simp) λw0=>?_;refine iR b (D) ?_;intro sd cd Z cs S Y;refine A<|C<|M aQ<|ab<|ah ?_ ?_<;>intro X
 ·simp at X;refine al<|C<|C<|M aa<|gF 17 XZ W YR<|gL (sl sd (dr D.dirty).length cd) ZX<|C<|C<|M (aS (sx _ W _ W))<|gI (ap (aV [⟨fr,J⟩]) Ys Yt Zf (by simp[aV,Ch])) ?_;rintro _ _ ⟨V,rfl,rfl⟩;refine bz (some ⟨V,0,none⟩) ?_;refine gI (uC call150 (lx (dr D.dirty) [⟨fr,J⟩] sd (some ⟨V,0,none⟩) cd 1 (ly _) (by simp) (lB _) (by simp[Cj];omega))) ?_;rintro _ _ ⟨O,R,rfl,rfl⟩;rw[Ow];refine bz O ?_;refine M aa<|gF 17 XZ W YR<|gU (aJ (km ((D).size) ((D).blocks) (sl O (dr (fU D.dirty fr J)).length R) ((D).time) ((D).next) (sl Z S.length cs)) YR (by rw[kM];decide) (hcs:=by exact ry _ _ _ _ _ _ _))<|ab ?_;refine eo (km ((D).size) ((D).blocks) (sl O (dr (fU D.dirty fr J)).length R) ((D).time) ((D).next) (sl Z S.length cs)) (aV (dr (fU D.dirty fr J))) (cE S) O R Z cs (S) b ((markD D fr J)) (hC:=by unfold markD;rw[kaT X]) (hrd:=by unfold markD;rw[kaT X]) (by unfold markD;rw[kaT X];exact Y) ?_;exact gh rfl rfl rfl
 ·simp at X;refine ai ?_;refine eo (km ((D).size) ((D).blocks) (sl sd (dr (D).dirty).length cd) ((D).time) ((D).next) (sl Z S.length cs)) (aV (dr (D).dirty)) (cE S) sd cd Z cs (S) b ((D)) Y ?_;rw[show gp b D=gp b (markD D fr J) by unfold markD;rw[iOm]];exact gh rfl rfl rfl
def zX b D n(s:Bytes)(hz:D.size<=16)F:Ct Tryz.prog 67 [ptr b 0,I n,ay s] (gp b (D)::F) (R1 (bQ (F0 D n s)) (gp b (DK D n s)::F)):=by
 refine Ct.of func67 W 33 ntmps67 (by simp) λw0=>?_;refine iR b (D) ?_;intro sd cd ss cs gl hgl;refine A (T (ac (A (C (M aG (C (gK ao (gK ao (gK aa (gK (aw 0 XZ W Xu) (gK (aA (v:=I D.size) Xv (hv:=⟨rfl⟩)) (gK kp (M cv (ab ?_))))))))))))));apply ah<;>intro h17
 ·simp at h17;have hw:F0 D n s=1:=(by unfold F0;rw[kaT (by omega)]);refine A (M (ba XG) (T ?_));refine eo (km ((D).size) ((D).blocks) (sl sd (dr (D).dirty).length cd) ((D).time) ((D).next) (sl ss gl.length cs)) (aV (dr (D).dirty)) (cE gl) sd cd ss cs (gl) b ((D)) hgl ?_;rw[show gp b D=gp b (DK D n s) by unfold DK;rw[kaU (by omega)]];exact am rfl rfl (by rw[hw];rfl)
 ·simp at h17;have hw:F0 D n s=uL s:=(by unfold F0;rw[kaU (by omega)]);refine ai (A (C (gR (vA call141 (zV s)) (T (ac (A (C (M (fX XF) (ab ?_)))))))));apply ah<;>intro h22
  ·simp at h22;refine A (C (C (C (M aa (gF 1 XZ W Y1 (M (bp n.toNat ZQ Xx (hj:=by omega) (by omega)) (gU (aJ (km ((D).size) (upd D.blocks n.toNat s) (sl sd (dr (D).dirty).length cd) ((D).time) ((D).next) (sl ss gl.length cs)) Xx (by rw[kM];omega) (hcs:=by exact JN _ _ _ _ _ _ _ _ (by omega))) (ab ?_))))))));refine eo (km ((D).size) (upd D.blocks n.toNat s) (sl sd (dr (D).dirty).length cd) ((D).time) ((D).next) (sl ss gl.length cs)) (aV (dr D.dirty)) (cE gl) sd cd ss cs (gl) b ((⟨D.size,upd D.blocks n.toNat s,D.dirty,D.time,D.next,D.snaps⟩)) hgl ?_;refine al (C (C (gR (vB call142 (sq b ⟨D.size,upd D.blocks n.toNat s,D.dirty,D.time,D.next,D.snaps⟩ n 1 (by omega) (by omega))) (ab (A (C (T ?_)))))));rw[show markD ⟨D.size,upd D.blocks n.toNat s,D.dirty,D.time,D.next,D.snaps⟩ n 1=DK D n s by unfold markD DK;rw[kaT (by decide),kaT (by omega)]];exact am rfl rfl (by rw[hw];rfl)
  ·simp at h22;refine ai (A (C (T ?_)));refine eo (km ((D).size) ((D).blocks) (sl sd (dr (D).dirty).length cd) ((D).time) ((D).next) (sl ss gl.length cs)) (aV (dr (D).dirty)) (cE gl) sd cd ss cs (gl) b ((D)) hgl ?_;rw[show gp b D=gp b (DK D n s) by unfold DK;rw[kaU (by omega)]];exact am rfl rfl (by rw[hw];rfl)
theorem HG {fr J}(h:J<=0):fU m fr J=m:=funext λp=>by
 grind[fU]
def RE D fr J:markD D fr J=⟨D.size,D.blocks,fU D.dirty fr J,D.time,D.next,D.snaps⟩:=by
 simp_all[markD,HG]
def BU (D:VdM):Int:=if D.snaps.length=5\/999<D.next then 8 else 0
def Eb (D:VdM):Int:=if BU D=0 then D.next else 0
def HH (D:VdM):VdM:=if BU D=0 then ⟨D.size,D.blocks,λ_=>false,D.time,D.next+1,D.snaps++ [⟨D.next,D.time,D.size,D.blocks,D.dirty⟩]⟩ else D
def F3 (n:Int):Int:=if n<1\/16<n then 1 else 0
def wW (B:Nat->Bytes)(lo hi:Int):Nat->Bytes:=λi=>if lo<=(i:Int)/\(i:Int)<hi then [] else B i
def kn (D:VdM)(n:Int):Int:=if D.size<n then D.size else n
def my (D:VdM)(n:Int):Int:=if n<D.size then D.size else n
def HI (D:VdM)(n:Int):VdM:=if F3 n=0 then ⟨n,wW D.blocks (kn D n) (my D n),fU D.dirty (kn D n) (my D n - kn D n),D.time,D.next,D.snaps⟩ else D
theorem Ox B J:wW B J J=B:=funext λi=>by grind[wW]
variable {B:Nat->Bytes}
theorem Oy {J z}(h0:0<=z)(h1:J<=z):upd (wW B J z) z.toNat []=wW B J (z+1):=funext λi=>by
 grind[upd,wW]
def Oz sz R nx B J O:∀k v,(s16 B)[k]? =some v->bK (.cells (km sz B J R nx O) ec f) (0+1+k)=some v
 :=λk v h=>match k,h with
  | 0,h=>h
  | 1,h=>h
  | 2,h=>h
  | 3,h=>h
  | 4,h=>h
  | 5,h=>h
  | 6,h=>h
  | 7,h=>h
  | 8,h=>h
  | 9,h=>h
  | 10,h=>h
  | 11,h=>h
  | 12,h=>h
  | 13,h=>h
  | 14,h=>h
  | 15,h=>h
  | k+16,h=>by simp[s16] at h
def RF x:∀j,j<16->bK (.cells (rP x).toArray ec f) (0+3+j*1)=some (ay (x.1.blocks j))
 :=λj h=>match j,h with
  | 0,_=>rfl
  | 1,_=>rfl
  | 2,_=>rfl
  | 3,_=>rfl
  | 4,_=>rfl
  | 5,_=>rfl
  | 6,_=>rfl
  | 7,_=>rfl
  | 8,_=>rfl
  | 9,_=>rfl
  | 10,_=>rfl
  | 11,_=>rfl
  | 12,_=>rfl
  | 13,_=>rfl
  | 14,_=>rfl
  | 15,_=>rfl
  | k+16,h=>absurd h (by omega)
def RG id O sz B m J(h:Go.Sl.one J=true)w:(Instr.build 239 #[(0,I id),(1,I O),(2,I sz),(3, .agg (s16 B).toArray),(4,J)]).run Tryz.prog w= .ok (.agg (BR ⟨id,O,sz,B,m⟩ J).toArray) w:=by
 simp[Instr.build,Z5,runUnderlying239,Xu,Y1,YR,Instr.fill,bB,sl,bJ h,s16,BR,bJ (show Go.Sl.one (I id)=true from rfl),bJ (show Go.Sl.one (I O)=true from rfl),bJ (show Go.Sl.one (I sz)=true from rfl)]
def cI (D:VdM)(i:Nat):SnapM:=(D.snaps[i]?).getD ⟨0,0,0,λ_=>[],λ_=>false⟩
variable {D:VdM}
theorem dP (h:D.snaps[i]? =some s):cI D i=s:=by grind[cI]
def lm (D:VdM)(id n:Int):Bytes×Int×Int:=if dI D.snaps id<0 then ([],0,5) else if n<0\/(cI D (dI D.snaps id).toNat).size<=n then ([],0,1) else ((cI D (dI D.snaps id).toNat).blocks n.toNat,(cI D (dI D.snaps id).toNat).size,0)
def fy (D:VdM)(id:Int):Int×Int:=if dI D.snaps id<0 then (0,5) else ((cI D (dI D.snaps id).toNat).size,0)
def OA J i:(cE J).take i++((cE J).drop (i+1)).take (J.length - (i+1))=cE (J.eraseIdx i):=by
 simp_all[kcI,cE,kcJ]
def wX b D n(hz:1<=D.size/\D.size<=16)F:cqq 73 [ptr b 0,I n] (gp b (D)::F) (R1 (bQ (F3 n)) (gp b (HI D n)::F)):=by
 refine Ct.of func73 W 48 ntmps73 (by simp) λw0=>?_;refine iR b (D) ?_;intro O cd R cs J S;refine A<|T<|ac<|A<|C<|M aG<|C<|gK ao<|gK aQ<|M cv<|ab<|ah ?_ ?_<;>intro V
 ·simp at V;have hw:F3 n=1:=(by unfold F3;rw[kaT (by omega)]);refine A<|M (ba XG)<|T ?_;refine eo (km ((D).size) ((D).blocks) (sl O (dr (D).dirty).length cd) ((D).time) ((D).next) (sl R J.length cs)) (aV (dr (D).dirty)) (cE J) O cd R cs (J) b ((D)) S ?_;rw[show gp b D=gp b (HI D n) by unfold HI;rw[iOm]];exact am rfl rfl (by rw[hw];rfl)
 ·simp at V;have hw:F3 n=0:=(by unfold F3;rw[iOm]);refine ai<|ac ?_;refine dy jH ?_;refine dM W<|dM W<|dV W aa<|dF W 0 XZ W Xu<|dL W (I D.size) Xv<|dV W (LY W W)<|dM W<|dM W<|dV W aa<|dF W 0 XZ W Xu<|dL W (I D.size) Xv<|dV W (AM W W)<|dV W ax<|dV W ax ?_;refine aN ?_;refine ac<|ac ?_;have AG:1<=kn D n/\kn D n<=16/\kn D n<=my D n/\my D n<=16:=(by unfold kn my;split <;> split <;> omega);rw[show km D.size D.blocks (sl O (dr D.dirty).length cd) D.time D.next (sl R J.length cs)=km D.size (wW D.blocks (kn D n) (kn D n)) (sl O (dr D.dirty).length cd) D.time D.next (sl R J.length cs) by rw[Ox]];refine al<|C<|T<|ak ?_;refine aL (α:=Int) (λz=>kn D n<=z/\z<=my D n) (λz=>U [(0,ptr b 0),(1,I n),(5,I (kn D n)),(6,I (my D n)),(7,I z)]) (λz=>pcc b (km ((D).size) (wW D.blocks (kn D n) z) (sl O (dr (D).dirty).length cd) ((D).time) ((D).next) (sl R J.length cs)) 134::roL 2 O (aV (dr D.dirty))::be 239 20 R cs (cE J)::iQ J::F) (λz=>(my D n - z).toNat) (kn D n) (by omega) [0,1,5,6,7] rfl ?_;rintro z ⟨Y,Z⟩;refine ac<|A<|C<|C<|M aG<|ab<|ah ?_ ?_<;>intro X
  ·simp at X;refine ai<|ac<|ak<|al<|C<|C<|M aa<|gF 1 XZ W Y1<|M (bp z.toNat ZQ Xx (hj:=by omega) (by omega))<|gU (aJ (km ((D).size) (wW D.blocks (kn D n) (z+1)) (sl O (dr (D).dirty).length cd) ((D).time) ((D).next) (sl R J.length cs)) Xx (by rw[kM];omega) (hcs:=by rw[JN _ _ _ _ _ _ _ _ (by omega),Oy (by omega) (by omega)]))<|ab<|aE<|al<|C<|gP<|T ?_;exact an (z+1) (by omega) (by omega) [0,1,5,6,7] rfl
  ·simp at X;obtain rfl:z=my D n:=(by omega);refine eo (km ((D).size) (wW D.blocks (kn D n) (my D n)) (sl O (dr (D).dirty).length cd) ((D).time) ((D).next) (sl R J.length cs)) (aV (dr D.dirty)) (cE J) O cd R cs (J) b ((⟨D.size,wW D.blocks (kn D n) (my D n),D.dirty,D.time,D.next,D.snaps⟩)) S ?_;refine aF ?_;refine A<|C<|C<|C<|C<|M (eG (cK (by omega)))<|gR (vB call142 (sq b ⟨D.size,wW D.blocks (kn D n) (my D n),D.dirty,D.time,D.next,D.snaps⟩ (kn D n) (my D n - kn D n) (by omega) (by omega))) ?_;rw[RE];clear S;refine iR b ⟨D.size,wW D.blocks (kn D n) (my D n),fU D.dirty (kn D n) (my D n - kn D n),D.time,D.next,D.snaps⟩ ?_;intro O cd R cs J S;refine ab<|A<|C<|C<|M aa<|gF 0 XZ W Xu<|gU (aJ (km n (wW D.blocks (kn D n) (my D n)) (sl O (dr (fU D.dirty (kn D n) (my D n - kn D n))).length cd) D.time D.next (sl R J.length cs)) Xu (by rw[kM];decide) (hcs:=by exact Oo _ _ _ _ _ _ _))<|ab<|A<|T ?_;refine eo (km n (wW D.blocks (kn D n) (my D n)) (sl O (dr (fU D.dirty (kn D n) (my D n - kn D n))).length cd) D.time D.next (sl R J.length cs)) (aV (dr (fU D.dirty (kn D n) (my D n - kn D n)))) (cE J) O cd R cs (J) b ((⟨n,wW D.blocks (kn D n) (my D n),fU D.dirty (kn D n) (my D n - kn D n),D.time,D.next,D.snaps⟩)) S ?_;rw[show gp b ⟨n,wW D.blocks (kn D n) (my D n),fU D.dirty (kn D n) (my D n - kn D n),D.time,D.next,D.snaps⟩=gp b (HI D n) by unfold HI;rw[kaT hw]];exact am rfl rfl (by rw[hw];rfl)
def AA b D(hs:D.snaps.length<=1000000)(hn: -9223372036854775808<=D.next)F:Ct Tryz.prog 68 [ptr b 0] (gp b (D)::F) (R1 (.tuple #[I (Eb D),bQ (BU D)]) (gp b (HH D)::F)):=by
 refine Ct.of func68 W 61 ntmps68 (by simp) λw0=>?_;refine iR b (D) ?_;intro sd cd ss cs gl hgl;have hln:=wd hgl;refine A (gA (T (ac (A (C (M aa (gF 20 XZ W YD (gL (sl ss gl.length cs) Y0 (M (aP Yr) (M bE (C (gK ao (gK aa (gK (aw 19 XZ W Xu) (gK (aA (v:=I D.next) Xv (hv:=⟨rfl⟩)) (gK aQ (M cv (ab ?_))))))))))))))))));apply ah<;>intro h17
 ·simp at h17;have hw:BU D=8:=(by unfold BU;rw[kaT (by omega)]);refine A (M (ba XG) (gA (T ?_)));refine eo (km ((D).size) ((D).blocks) (sl sd (dr (D).dirty).length cd) ((D).time) ((D).next) (sl ss gl.length cs)) (aV (dr (D).dirty)) (cE gl) sd cd ss cs (gl) b ((D)) hgl ?_;rw[show gp b D=gp b (HH D) by unfold HH;rw[kaU (by omega)]];exact am rfl rfl (by rw[show Eb D=0 by unfold Eb;rw[kaU (by omega)],hw];rfl)
 ·simp at h17;have hw:BU D=0:=(by unfold BU;rw[kaU (by omega)]);refine ai (A (C (M aa (gF 19 XZ W Xu (gL (I D.next) Xv (T (A (C (M aa (gF 19 XZ W Xu (gL (I D.next) Xv (gP (M aa (gF 19 XZ W Xu (gU (aJ (km ((D).size) ((D).blocks) (sl sd (dr (D).dirty).length cd) ((D).time) (D.next+1) (sl ss gl.length cs)) Xu (by rw[kM];decide) (hcs:=by exact Ot _ _ _ _ _ _ _)) (ab (ac ?_)))))))))))))))));refine eE (Lf:=pt b (.cells (km ((D).size) ((D).blocks) (sl sd (dr (D).dirty).length cd) ((D).time) (D.next+1) (sl ss gl.length cs)) 134 (0,0))::F) [(0,false),(1,false),(2,false),(3,false),(4,false),(5,false),(6,false),(7,false),(8,false),(9,false),(10,false),(11,false),(12,false),(13,false),(14,false),(15,false),(16,false),(17,false),(18,false),(19,false),(20,false),(21,false),(22,false),(23,true),(24,true),(25,false),(26,false)] 27 ?_;refine dM W (dM W (dV W aa (dF W 20 XZ W YD (dL W (sl ss gl.length cs) Y0 (dM W (dM W (dV W aa (dF W 18 XZ W Xu (dL W (I D.time) Xv (dM W (dV W aa (dF W 0 XZ W Xu (dL W (I D.size) Xv (dM W (dV W aa (dF W 1 XZ W Y1 (dV W (bj (vs:=s16 D.blocks) isAgg130 Y1 (Oz _ _ _ _ _ _)) (dM W (dV W aa (dF W 17 XZ W YR (dL W (sl sd (dr D.dirty).length cd) ZX (dV W (aS (RG D.next D.time D.size D.blocks D.dirty (sl sd (dr D.dirty).length cd) W)) (cQ W (ap [rP (⟨D.next,D.time,D.size,D.blocks,D.dirty⟩,(sd,cd))] Yr YC Z5 (by simp[FX])) ?_)))))))))))))))))))))));rintro _ _ ⟨b53,rfl,rfl⟩;refine cQ W (aR Yr YC Z5 Tryz.typeInfo239 (hn:=by rw[fd]) (by simp[FX]) (by simp[rP,BR,Go.Sl.ones,Go.Sl.one,sl]) ⟨by omega,by decide,by decide⟩) ?_;rintro _ _ ⟨s54,c54,rfl,rfl⟩;rw[show cE gl++ [rP (⟨D.next,D.time,D.size,D.blocks,D.dirty⟩,(sd,cd))]=cE (gl++ [(⟨D.next,D.time,D.size,D.blocks,D.dirty⟩,(sd,cd))]) by simp[cE]];refine dV W aa (dF W 20 XZ W YD ?_);refine aN ?_;refine gU (aJ (km ((D).size) ((D).blocks) (sl sd (dr (D).dirty).length cd) ((D).time) (D.next+1) (sl s54 (gl.length+1) c54)) YD (by rw[kM];decide) (hcs:=by exact BS _ _ _ _ _ _ _)) (ab (A (C (M aa (gF 17 XZ W YR (gU (aJ (km ((D).size) ((D).blocks) (sl none 0 0) ((D).time) (D.next+1) (sl s54 (gl.length+1) c54)) YR (by rw[kM];decide) (hcs:=by exact ry _ _ _ _ _ _ _)) (ab (A (C (gA (T ?_)))))))))))
  refine zQ gl (gl++ [(⟨D.next,D.time,D.size,D.blocks,D.dirty⟩,(sd,cd))]) (⟨D.next,D.time,D.size,D.blocks,D.dirty⟩,(sd,cd)) (λy hy=>by simpa using hy) ?_;refine tt 2 (aV (dr λ_=>false)) ?_;refine eo (km ((D).size) ((D).blocks) (sl none 0 0) ((D).time) (D.next+1) (sl s54 (gl.length+1) c54)) (aV (dr λ_=>false)) (cE (gl++ [(⟨D.next,D.time,D.size,D.blocks,D.dirty⟩,(sd,cd))])) none 0 s54 c54 ((gl++ [(⟨D.next,D.time,D.size,D.blocks,D.dirty⟩,(sd,cd))])) b ((⟨D.size,D.blocks,λ_=>false,D.time,D.next+1,D.snaps++ [⟨D.next,D.time,D.size,D.blocks,D.dirty⟩]⟩)) (hC:=by simp[dr,fJ,sl];try rfl) (by simp[hgl]) ?_;rw[show gp b ⟨D.size,D.blocks,λ_=>false,D.time,D.next+1,D.snaps++ [⟨D.next,D.time,D.size,D.blocks,D.dirty⟩]⟩=gp b (HH D) by unfold HH;rw[kaT hw]];exact am rfl rfl (by rw[show Eb D=D.next by unfold Eb;rw[kaT hw],hw];rfl)
def AB b D id n(hsl:D.snaps.length<=1000000)(hsz:∀s∈D.snaps,s.size<=16)F:Ct Tryz.prog 212 [ptr b 0,I id,I n] (gp b (D)::F) (R1 (.tuple #[ay (lm D id n).1,I (lm D id n).2.1,bQ (lm D id n).2.2]) (gp b (D)::F)):=by
 refine Ct.of func212 W 39 ntmps212 (by simp) λw0=>?_;refine A (gA (gA (T (A (C (C (gR (vB call149 (jv b D id (by omega))) (T (ac (A (C (M aG (ab ?_)))))))))))));apply ah<;>intro h15
 ·simp at h15;refine A (M (ba XG) (gA (gA (T ?_))));exact am rfl rfl (by rw[show lm D id n=([],0,5) by unfold lm;rw[kaT (by omega)]];rfl)
 ·simp at h15;obtain ⟨i,s,hfi,hs,hid,hil⟩:=ik (show ¬dI D.snaps id<0 by omega);rw[hfi];refine iR b (D) ?_;intro sd cd ss cs gl hgl;have hln:=wd hgl;obtain ⟨q,hx⟩:=zU hgl hs;have hkn:i<gl.length:=(by omega);have hkr:i<(cE gl).length:=(by rw[fd];exact hkn);refine ai (A (C (M aa (gF 20 XZ W YD (gL (sl ss gl.length cs) Y0 (C (M (av i Yr YC hkn hkr) (M (bO (row:=rP (s,q)) isAgg239 YC (ie hx)) (gI (aO #[I 0,I 0,I 0,ay [],ay [],ay [],ay [],ay [],ay [],ay [],ay [],ay [],ay [],ay [],ay [],ay [],ay [],ay [],ay [],sl none 0 0] Z5) ?_)))))))));rintro _ _ ⟨b10,rfl,rfl⟩;refine gU (az (cs:=#[I 0,I 0,I 0,ay [],ay [],ay [],ay [],ay [],ay [],ay [],ay [],ay [],ay [],ay [],ay [],ay [],ay [],ay [],ay [],sl none 0 0]) (vs:=rP (s,q)) (rP (s,q)).toArray YC (by simp) (hcs:=by exact bG)) (ab (ac (A (C (M aG (C (gK ao (gK (aw 2 Y8 W Xu) (gK (aA (v:=I s.size) Xv (hv:=⟨rfl⟩)) (gK kp (M cv (ab ?_))))))))))));apply ah<;>intro h31
  ·simp at h31;refine A (M (ba XG) (gA (gA (T ?_))));refine eo (km ((D).size) ((D).blocks) (sl sd (dr (D).dirty).length cd) ((D).time) ((D).next) (sl ss gl.length cs)) (aV (dr (D).dirty)) (cE gl) sd cd ss cs (gl) b ((D)) hgl ?_;exact am rfl rfl (by rw[show lm D id n=([],0,1) by unfold lm;rw[kaU (by omega),hfi,kcy,dP hs,kaT (by omega)]];rfl)
  ·simp at h31;have hs16:=hsz s (kbe hs);refine ai (ac ?_);refine dy jB ?_;refine dM W (dF W 3 Y8 W Y1 (dV W (bp n.toNat ZQ Xx (hj:=by omega) (by omega)) (dV W (aA (v:=ay (s.blocks n.toNat)) XD (hv:=⟨RF _ _ (by omega)⟩)) (dF W 2 Y8 W Xu (dL W (I s.size) Xv (dV W ax (dV W ax (dV W ax ?_))))))));refine aN ?_;refine eo (km ((D).size) ((D).blocks) (sl sd (dr (D).dirty).length cd) ((D).time) ((D).next) (sl ss gl.length cs)) (aV (dr (D).dirty)) (cE gl) sd cd ss cs (gl) b ((D)) hgl ?_;exact am rfl rfl (by rw[show lm D id n=(s.blocks n.toNat,s.size,0) by unfold lm;rw[kaU (by omega),hfi,kcy,dP hs,kaU (by omega)]];rfl)
def wY b D id(hsl:D.snaps.length<=1000000)F:Ct Tryz.prog 143 [ptr b 0,I id] (gp b (D)::F) (R1 (.tuple #[I (fy D id).1,bQ (fy D id).2]) (gp b (D)::F)):=by
 refine Ct.of func143 W 21 ntmps143 (by simp) λw0=>?_;refine A (gA (T (A (C (C (gR (vB call149 (jv b D id (by omega))) (T (ac (A (C (M aG (ab ?_))))))))))));apply ah<;>intro h11
 ·simp at h11;refine A (M (ba XG) (gA (T ?_)));exact am rfl rfl (by rw[show fy D id=(0,5) by unfold fy;rw[kaT (by omega)]];rfl)
 ·simp at h11;obtain ⟨i,s,hfi,hs,hid,hil⟩:=ik (show ¬dI D.snaps id<0 by omega);rw[hfi];refine iR b (D) ?_;intro sd cd ss cs gl hgl;have hln:=wd hgl;obtain ⟨q,hx⟩:=zU hgl hs;have hkn:i<gl.length:=(by omega);have hkr:i<(cE gl).length:=(by rw[fd];exact hkn);refine ai (A (C (M aa (gF 20 XZ W YD (gL (sl ss gl.length cs) Y0 (C (M (av i Yr YC hkn hkr) (M (aK (j:=_) 2 Y8 W Xu (by assumption)) (M (bS (v:=I s.size) Xv (ie hx)) (gA (T ?_)))))))))));refine eo (km ((D).size) ((D).blocks) (sl sd (dr (D).dirty).length cd) ((D).time) ((D).next) (sl ss gl.length cs)) (aV (dr (D).dirty)) (cE gl) sd cd ss cs (gl) b ((D)) hgl ?_;exact am rfl rfl (by rw[show fy D id=(s.size,0) by unfold fy;rw[kaU (by omega),hfi,kcy,dP hs]];rfl)
def zY J R(cs i:Nat)(hi:i<J.length)(hl:J.length<=1000000)F:cqq 153 [sl R J.length cs,I i,I ((i:Int)+1)] (be 239 20 R cs (cE J)::F) (R1 (sl R (J.length - 1) cs) (be 239 20 R cs (cE (J.eraseIdx i))::F)):=by
 refine Ct.of func153 W 33 ntmps153 (by simp) λw0=>?_;refine Cc (φ:=J.length<=cs) (λw Y=>by
  rcases dA Y with ⟨_,h,_,_⟩ | ⟨b,V,h,h1,X,_⟩
  ·have:=kay List.length h;simp[cE] at this;rw[this] at hi;simp at hi
  ·simpa [cE] using X) (λO=>?_)
 refine A<|T<|A<|C<|C<|C<|C<|M (aP Yr)<|M (Me (l:=i) (h:=i+1) (q:=J.length) Yr YC W W W W (by omega) W W (by omega) (by omega) O)<|ab<|ac<|A<|C<|C<|M bE<|ab<|ah ?_ ?_<;>intro S
 ·simp at S;omega
 ·refine ai<|A<|C<|M (aP Yr)<|T<|ac ?_;refine cn (Lf:=F) jD ?_;refine dM rfl<|dM rfl<|dV rfl (lO (h:=i) Yr YC rfl rfl rfl (by omega))<|dM rfl<|dM rfl<|dV rfl (iG (l:=i+1) Yr YC rfl rfl (by omega) (by omega))<|cQ rfl (x8 (s:=R) (p:=i+1) Yr YC (by decide) rfl rfl (by unfold At;split;exact .inr (.inr (by omega));exact .inr (.inl rfl)) (by rw[fd];omega) (by rw[fd];omega) (by rw[fd];omega) (by rw[fd];omega) (λr hr=>by simp only[cE,kbV] at hr;obtain ⟨x,_,rfl⟩:=hr;rfl)) ?_;rintro _ _ ⟨rfl,rfl⟩;rw[OA];refine dV W ax ?_;refine aN ?_;refine A<|C<|C<|M (aP Yr)<|C<|M (x5 (l:=i+(J.length - (i+1))) (h:=J.length) Yr YC W W W W W (by omega) O)<|io (nD (sz:=20) (l:=i+(J.length - (i+1))) R Yr Z5 W W (by unfold At;split;exact .inr (.inr (by omega));exact .inr (.inl W)) (by rw[fd,kcK];split <;> omega) (by omega)) ?_;rintro _ _ ⟨rfl,rfl⟩;refine ab<|A<|C<|T ?_;exact am rfl rfl (by rw[show J.length - 1=i+(J.length - (i+1)) by omega];rfl)
theorem HJ m n:dr (tu (mk (dr m)) (mk (dr n)))=dr (tu m n):=BM λp hp=>by
 grind[tu,tc]
abbrev sr (s:SnapM)(m:Nat->Bool):SnapM:=⟨s.id,s.time,s.size,s.blocks,m⟩
def oV (D:VdM)(i:Nat):List SnapM:=if i+1<D.snaps.length/\(cI D (i+1)).time=(cI D i).time then D.snaps.set (i+1) (sr (cI D (i+1)) (tu (cI D (i+1)).dirty (cI D i).dirty)) else D.snaps
def oq (D:VdM)(i:Nat):Nat->Bool:=if ¬(i+1<D.snaps.length)/\D.time=(cI D i).time then tu D.dirty (cI D i).dirty else D.dirty
def HK (D:VdM)(id:Int):Int:=if dI D.snaps id<0 then 5 else 0
def HL (D:VdM)(id:Int):VdM:=if dI D.snaps id<0 then D else ⟨D.size,D.blocks,oq D (dI D.snaps id).toNat,D.time,D.next,(oV D (dI D.snaps id).toNat).eraseIdx (dI D.snaps id).toNat⟩
def AC (D:VdM)(i:Nat):Nat->(Nat->Bool)
 | 0=>λ_=>false
 | c+1=>tu (AC D i c) (cI D (i+1+c)).dirty
def oW (D:VdM)(x y:Int):Nat:=if dI D.snaps y<dI D.snaps x then (dI D.snaps y).toNat else (dI D.snaps x).toNat
def pU (D:VdM)(x y:Int):Nat:=if dI D.snaps x<dI D.snaps y then (dI D.snaps y).toNat else (dI D.snaps x).toNat
def kT (D:VdM)(x y:Int):Int:=if dI D.snaps x<0\/dI D.snaps y<0 then 5 else if (cI D (oW D x y)).time≠(cI D (pU D x y)).time then 7 else 0
def iC (D:VdM)(x y:Int):List Area:=if kT D x y=0 then dr (AC D (oW D x y) (pU D x y - oW D x y)) else []
def OB J j s q m a c:(cE J).set j ((rP (s,q)).set 19 (sl a (dr m).length c))=cE (J.set j (sr s m,(a,c))):=by
 simp only[cE,kbj]
 rfl
def RH (J:List (SnapM×sn))j x:(J.set j x).map Prod.fst=(J.map Prod.fst).set j x.1:=by simp[kbj]
def Lo (J:List (SnapM×sn))j:(J.eraseIdx j).map Prod.fst=(J.map Prod.fst).eraseIdx j:=by simp[kcJ]
def AD b D id(hsl:D.snaps.length<=1000000)F:Ct Tryz.prog 74 [ptr b 0,I id] (gp b (D)::F) (R1 (bQ (HK D id)) (gp b (HL D id)::F)):=by
 refine Ct.of func74 W 99 ntmps74 (by simp) λw0=>?_;refine A (T (A (C (C (gR (vB call149 (jv b D id (by omega))) (T (ac (A (C (M aG (ab ?_)))))))))));apply ah<;>intro h11
 ·simp at h11;refine A (M (ba XG) (T ?_));rw[show gp b D=gp b (HL D id) by unfold HL;rw[kaT (by omega)]];exact am rfl rfl (by rw[show HK D id=5 by unfold HK;rw[kaT (by omega)]];rfl)
 ·simp at h11;obtain ⟨i,s,hfi,hs,hid,hil⟩:=ik (show ¬dI D.snaps id<0 by omega);rw[hfi];refine iR b (D) ?_;intro sd cd ss cs gl hgl;have hln:=wd hgl;obtain ⟨q,hx⟩:=zU hgl hs;have hkn:i<gl.length:=(by omega);have hkr:i<(cE gl).length:=(by rw[fd];exact hkn);have hsi:=dP hs;refine ai (A (C (M aa (gF 20 XZ W YD (gL (sl ss gl.length cs) Y0 (C (M (av i Yr YC hkn hkr) (M (aK (j:=i) 19 Y8 W YR hkr) (M (bS (v:=sl q.1 (dr s.dirty).length q.2) ZX (ie hx)) (T (ac (A (C (gP (C (M aa (gF 20 XZ W YD (gL (sl ss gl.length cs) Y0 (M (aP Yr) (M aG (ab ?_)))))))))))))))))))));refine lV (α:=List (SnapM×sn)×Option Addr×Nat) (λz=>z.1.map Prod.fst=oV D i) (λz=>U [(0,ptr b 0),(5,I i)]) (λz=>pt b (.cells (km D.size D.blocks (sl z.2.1 (dr (oq D i)).length z.2.2) D.time D.next (sl ss z.1.length cs)) 134 (0,0))::roL 2 z.2.1 (aV (dr (oq D i)))::be 239 20 ss cs (cE z.1)::iQ z.1::F) ?_ ?_
  ·apply ah<;>intro h28
   ·simp at h28;obtain ⟨s2,hs2⟩:∃s2,D.snaps[i+1]? =some s2:=⟨_,kbN (by omega)⟩;obtain ⟨q2,hx2⟩:=zU hgl hs2;have hkn2:i+1<gl.length:=(by omega);have hkr2:i+1<(cE gl).length:=(by rw[fd];exact hkn2);have hsi2:=dP hs2;refine ac ?_;refine dy jW ?_;refine dM W (dV W aa (dF W 20 XZ W YD (dL W (sl ss gl.length cs) Y0 (dM W (dV W (bx (cK (by omega))) (dV W (av (i+1) Yr YC hkn2 hkr2) (dV W (aK (j:=(i+1)) 1 Y8 W Xu hkr2) (dV W (bS (v:=I s2.time) Xv (ie hx2)) (dM W (dV W aa (dF W 20 XZ W YD (dL W (sl ss gl.length cs) Y0 (dM W (dV W (av i Yr YC hkn hkr) (dV W (aK (j:=i) 1 Y8 W Xu hkr) (dV W (bS (v:=I s.time) Xv (ie hx)) (dV W bE ?_)))))))))))))))));refine aN ?_;apply ah<;>intro h46
    ·simp at h46;refine rz gl (x:=(s2,q2)) (kbe hx2) ?_;refine rz gl (x:=(s,q)) (kbe hx) ?_;refine eE (Lf:=pt b (.cells (km ((D).size) ((D).blocks) (sl sd (dr (D).dirty).length cd) ((D).time) ((D).next) (sl ss gl.length cs)) 134 (0,0))::be 239 20 ss cs (cE gl)::F) [(0,false),(1,false),(2,false),(3,false),(4,false),(5,false),(6,false),(7,false),(8,false),(9,false),(10,false),(11,false),(12,false),(13,false),(14,false),(15,false),(16,true),(17,false),(18,false)] 19 ?_;refine dM W (dV W aa (dF W 20 XZ W YD (dL W (sl ss gl.length cs) Y0 (dM W (dV W (bx (cK (by omega))) (dM W (dV W aa (dF W 20 XZ W YD (dL W (sl ss gl.length cs) Y0 (dM W (dV W (bx (cK (by omega))) (dV W (av (i+1) Yr YC hkn2 hkr2) (dV W (aK (j:=(i+1)) 19 Y8 W YR hkr2) (dV W (bS (v:=sl q2.1 (dr s2.dirty).length q2.2) ZX (ie hx2)) (dM W (cQ W (uC call150 (lx (dr s2.dirty) (dr s.dirty) q2.1 q.1 q2.2 q.2 (ly _) (ly _) (lB _) (lB _))) ?_))))))))))))))));rintro _ _ ⟨s63,c63,rfl,rfl⟩;rw[HJ];refine dV W (av (i+1) Yr YC hkn2 hkr2) (dV W (aK (j:=(i+1)) 19 Y8 W YR hkr2) ?_);refine aN ?_;refine io (tr (row:=rP (s2,q2)) (f:=19) YR (ie hx2) (by decide)) ?_;rintro _ _ rfl;rw[OB];refine bz s63 ?_;refine ab ?_;rw[show gl.length=(gl.set (i+1) (sr s2 (tu s2.dirty s.dirty),(s63,c63))).length by simp];refine zQ gl (gl.set (i+1) (sr s2 (tu s2.dirty s.dirty),(s63,c63))) (sr s2 (tu s2.dirty s.dirty),(s63,c63)) (λy hy=>kbi hy) ?_;have hp:oq D i=D.dirty:=(by unfold oq;rw[kaU (by omega)]);exact cJ (gl.set (i+1) (sr s2 (tu s2.dirty s.dirty),(s63,c63)),sd,cd) (by rw[RH,hgl];unfold oV;rw[kaT ⟨by omega,by rw[hsi,hsi2];exact h46⟩,hsi,hsi2]) [0,5] rfl (SL:=by simp only[hp];infer_instance)
    ·simp at h46;refine ai ?_;have hp:oq D i=D.dirty:=(by unfold oq;rw[kaU (by omega)]);exact cJ (gl,sd,cd) (by rw[hgl];unfold oV;rw[kaU (λhh=>h46 (by rw[hsi,hsi2] at hh;exact hh.2))]) [0,5] rfl (SL:=by simp only[hp];infer_instance)
   ·simp at h28;refine ac ?_;refine dy jU ?_;refine dM W (dV W aa (dF W 18 XZ W Xu (dL W (I D.time) Xv (dM W (dV W aa (dF W 20 XZ W YD (dL W (sl ss gl.length cs) Y0 (dM W (dV W (av i Yr YC hkn hkr) (dV W (aK (j:=i) 1 Y8 W Xu hkr) (dV W (bS (v:=I s.time) Xv (ie hx)) (dV W bE ?_))))))))))));refine aN ?_;apply ah<;>intro h78
    ·simp at h78;refine rz gl (x:=(s,q)) (kbe hx) ?_;refine al (C (C (M aa (gF 17 XZ W YR (gL (sl sd (dr D.dirty).length cd) ZX (C (gI (uC call150 (lx (dr D.dirty) (dr s.dirty) sd q.1 cd q.2 (ly _) (ly _) (lB _) (lB _))) ?_)))))));rintro _ _ ⟨s85,c85,rfl,rfl⟩;rw[HJ];refine bz s85 ?_;refine M aa (gF 17 XZ W YR (gU (aJ (km ((D).size) ((D).blocks) (sl s85 (dr (tu D.dirty s.dirty)).length c85) ((D).time) ((D).next) (sl ss gl.length cs)) YR (by rw[kM];decide) (hcs:=by exact ry _ _ _ _ _ _ _)) (ab ?_)));have hp:oq D i=tu D.dirty s.dirty:=(by unfold oq;rw[kaT ⟨by omega,by rw[hsi];exact h78⟩,hsi]);exact cJ (gl,s85,c85) (by rw[hgl];unfold oV;rw[kaU (by omega)]) [0,5] rfl (SL:=by simp only[hp];infer_instance)
    ·simp at h78;refine ai ?_;have hp:oq D i=D.dirty:=(by unfold oq;rw[kaU (λhh=>h78 (by rw[hsi] at hh;exact hh.2))]);exact cJ (gl,sd,cd) (by rw[hgl];unfold oV;rw[kaU (by omega)]) [0,5] rfl (SL:=by simp only[hp];infer_instance)
  rintro ⟨gl',sd',cd'⟩ hgl';simp only[] at hgl' ⊢;have hln':gl'.length=D.snaps.length:=(by rw[<-kcc (f:=Prod.fst),hgl'];unfold oV;split <;> simp);refine A (C (C (M aa (gF 20 XZ W YD (gL (sl ss gl'.length cs) Y0 (C (C (gP (gR (vB call153 (zY gl' ss cs i (by omega) (by omega))) (M aa (gF 20 XZ W YD (gU (aJ (km D.size D.blocks (sl sd' (dr (oq D i)).length cd') D.time D.next (sl ss (gl'.length - 1) cs)) YD (by rw[kM];decide) (hcs:=by exact BS _ _ _ _ _ _ _)) (ab (A (T ?_)))))))))))))));refine HF gl' (gl'.eraseIdx i) (λx hx=>kdu hx) ?_;refine eo (km D.size D.blocks (sl sd' (dr (oq D i)).length cd') D.time D.next (sl ss (gl'.length - 1) cs)) (aV (dr (oq D i))) (cE (gl'.eraseIdx i)) sd' cd' ss cs (gl'.eraseIdx i) b ⟨D.size,D.blocks,oq D i,D.time,D.next,(oV D i).eraseIdx i⟩ (hC:=by rw[kcK,kaT (by omega)]) (by rw[Lo,hgl']) ?_;rw[show gp b ⟨D.size,D.blocks,oq D i,D.time,D.next,(oV D i).eraseIdx i⟩=gp b (HL D id) by unfold HL;rw[kaU (by omega),hfi,kcy]];exact am rfl rfl (by rw[show HK D id=0 by unfold HK;rw[kaU (by omega)]];rfl)
def oX b D x y(hsl:D.snaps.length<=1000000)F:Ct Tryz.prog 71 [ptr b 0,I x,I y] (gp b (D)::F) (WI (λv=> .tuple #[v,bQ (kT D x y)]) 142 2 (iC D x y).length (aV (iC D x y)) (gp b (D)::F)):=by
 refine Ct.of func71 W 67 ntmps71 (by simp) λw0=>?_;refine A (gA (T (A (C (C (gR (vB call149 (jv b D x (by omega))) (C (C (gR (vB call149 (jv b D y (by omega))) (gA (T (ac (A (C (M aG (C (gK ao (gK aG (M cv (ab ?_))))))))))))))))))));apply ah<;>intro h23
 ·simp at h23;refine A (M (ba XG) (gA (T ?_)));have hE:kT D x y=5:=(by unfold kT;rw[kaT (by omega)]);have hA:iC D x y=[]:=(by unfold iC;rw[kaU (by omega)]);refine aY 142 2 (aV (iC D x y)) (hr:=by rw[hA];rfl) ?_;exact nA (f:=λv=> .tuple #[v,bQ (kT D x y)]) rfl rfl (by rw[hA]) (by rw[hE];rfl)
 ·simp at h23;refine ai (ac ?_);obtain ⟨ia,sa,hfa,hsa,_,hla⟩:=ik (show ¬dI D.snaps x<0 by omega);obtain ⟨ib,sb,hfb,hsb,_,hlb⟩:=ik (show ¬dI D.snaps y<0 by omega);rw[hfa,hfb];refine al (C (C (M (LY W W) (C (C (M (AM W W) (gA (T (ac (ac ?_))))))))));rw[show (if (ib:Int)<ia then (ib:Int) else ia)=((oW D x y:Nat):Int) by unfold oW;rw[hfa,hfb];split <;> simp,show (if (ia:Int)<ib then (ib:Int) else ia)=((pU D x y:Nat):Int) by unfold pU;rw[hfa,hfb];split <;> simp];have hb1:oW D x y<D.snaps.length:=(by unfold oW;rw[hfa,hfb];split <;> rw[kcy] <;> assumption);have hb2:pU D x y<D.snaps.length:=(by unfold pU;rw[hfa,hfb];split <;> rw[kcy] <;> assumption);have hb3:oW D x y<=pU D x y:=(by unfold oW pU;rw[hfa,hfb];split <;> split <;> simp <;> omega);generalize AG:oW D x y=lo at*;generalize hhi:pU D x y=hi at*;refine iR b (D) ?_;intro sd cd ss cs gl hgl;have hln:=wd hgl;obtain ⟨s1,hs1⟩:∃s,D.snaps[lo]? =some s:=⟨_,kbN hb1⟩;obtain ⟨s2,hs2⟩:∃s,D.snaps[hi]? =some s:=⟨_,kbN hb2⟩;obtain ⟨q1,hx1⟩:=zU hgl hs1;obtain ⟨q2,hx2⟩:=zU hgl hs2;have hkl:lo<gl.length:=(by omega);have hkh:hi<gl.length:=(by omega);have hkrl:lo<(cE gl).length:=(by rw[fd];exact hkl);have hkrh:hi<(cE gl).length:=(by rw[fd];exact hkh);have hse1:=dP hs1;have hse2:=dP hs2;refine dy jC ?_;refine dM W (dV W aa (dF W 20 XZ W YD (dL W (sl ss gl.length cs) Y0 (dM W (dV W (av lo Yr YC hkl hkrl) (dV W (aK (j:=lo) 1 Y8 W Xu hkrl) (dV W (bS (v:=I s1.time) Xv (ie hx1)) (dM W (dV W aa (dF W 20 XZ W YD (dL W (sl ss gl.length cs) Y0 (dM W (dV W (av hi Yr YC hkh hkrh) (dV W (aK (j:=hi) 1 Y8 W Xu hkrh) (dV W (bS (v:=I s2.time) Xv (ie hx2)) (dV W iE ?_))))))))))))))));refine aN ?_;apply ah<;>intro h47
  ·simp at h47;have hE:kT D x y=7:=(by unfold kT;rw[kaU (by omega),AG,hhi,hse1,hse2,kaT h47]);have hA:iC D x y=[]:=(by unfold iC;rw[kaU (by omega)]);refine A (M (ba XG) (gA (T ?_)));refine eo (km ((D).size) ((D).blocks) (sl sd (dr (D).dirty).length cd) ((D).time) ((D).next) (sl ss gl.length cs)) (aV (dr (D).dirty)) (cE gl) sd cd ss cs (gl) b ((D)) hgl ?_;refine aY 142 2 (aV (iC D x y)) (hr:=by rw[hA];rfl) ?_;exact nA (f:=λv=> .tuple #[v,bQ (kT D x y)]) rfl rfl (by rw[hA]) (by rw[hE];rfl)
  ·simp at h47;have hE:kT D x y=0:=(by unfold kT;rw[kaU (by omega),AG,hhi,hse1,hse2,kaU (λhh=>hh h47)]);have hA:iC D x y=dr (AC D lo (hi - lo)):=(by unfold iC;rw[kaT hE,AG,hhi]);refine ai (A (T (ac (A (C (gP (T ?_)))))));refine aY 142 2 (aV (dr (AC D lo 0))) ?_;refine ak ?_;refine aL (α:=Nat×Option Addr×Nat) (λz=>z.1<=hi - lo) (λz=>U [(0,ptr b 0),(9,I hi),(10,sl z.2.1 (dr (AC D lo z.1)).length z.2.2),(11,I ((lo:Int)+1+z.1))]) (λz=>be 142 2 z.2.1 z.2.2 (aV (dr (AC D lo z.1)))::pt b (.cells (km ((D).size) ((D).blocks) (sl sd (dr (D).dirty).length cd) ((D).time) ((D).next) (sl ss gl.length cs)) 134 (0,0))::roL 2 sd (aV (dr D.dirty))::be 239 20 ss cs (cE gl)::iQ gl::F) (λz=>hi - lo - z.1) (0,none,0) (by simp) [0,9,10,11] rfl ?_;rintro ⟨c,s,cap⟩ hc;simp only[] at hc ⊢;refine ac (A (C (C (M qe (ab ?_)))));apply ah<;>intro h53
   ·simp at h53;refine ai (ac (ak ?_));obtain ⟨s3,hs3⟩:∃s,D.snaps[lo+1+c]? =some s:=⟨_,kbN (by omega)⟩;obtain ⟨q3,hx3⟩:=zU hgl hs3;have hkc:lo+1+c<gl.length:=(by omega);have hkrc:lo+1+c<(cE gl).length:=(by rw[fd];exact hkc);have hs3e:=dP hs3;refine bz s ?_;refine rz gl (x:=(s3,q3)) (kbe hx3) ?_;refine al (C (C (M aa (gF 20 XZ W YD (gL (sl ss gl.length cs) Y0 (C (M (av (lo+1+c) Yr YC (hj:=by omega) hkc hkrc) (M (aK (j:=(lo+1+c)) 19 Y8 W YR hkrc) (M (bS (v:=sl q3.1 (dr s3.dirty).length q3.2) ZX (ie hx3)) (gI (uC call150 (lx (dr (AC D lo c)) (dr s3.dirty) s q3.1 cap q3.2 (ly _) (ly _) (lB _) (lB _))) ?_))))))))));rintro _ _ ⟨s65,c65,rfl,rfl⟩;rw[HJ,show tu (AC D lo c) s3.dirty=AC D lo (c+1) by rw[<-hs3e];rfl];refine T (aE (al (C (gP (T ?_)))));exact an (c+1,s65,c65) (by simp only[];omega) (by simp only[];omega) [0,9,10,11] rfl (he:=by simp[U];try omega)
   ·simp at h53;obtain rfl:c=hi - lo:=(by omega);refine aF ?_;refine A (C (gA (T ?_)));refine eo (km ((D).size) ((D).blocks) (sl sd (dr (D).dirty).length cd) ((D).time) ((D).next) (sl ss gl.length cs)) (aV (dr (D).dirty)) (cE gl) sd cd ss cs (gl) b ((D)) hgl ?_;rw[<-hA];exact nA (f:=λv=> .tuple #[v,bQ (kT D x y)]) rfl rfl rfl (by rw[hE];rfl)
def kW:Bytes:=[119,114,105,116,101]
def kZ:Bytes:=[115,105,122,101]
def kS:Bytes:=[115,110,97,112]
def BV (i:Nat)(D:VdM):Prop:=(1<=D.size/\D.size<=16)/\(1<=D.next/\D.next<=1000)/\(0<=D.time/\D.time<=i)/\D.snaps.length<=5/\∀s∈D.snaps,1<=s.size/\s.size<=16
def fx {j}(h:BV i D)(J:i<=j):BV j D:=⟨h.1,h.2.1,⟨h.2.2.1.1,by have:=h.2.2.1.2;omega⟩,h.2.2.2⟩
def JP (h:1<=n/\n<=16):BV 0 (k5 n):=⟨h,by simp[k5],by simp[k5],by simp[k5],by simp[k5]⟩
def OD (h:BV i D)n s:BV i (DK D n s):=by
 unfold DK;split
 ·exact h
 ·exact h
theorem OE (h:BV i D)n:BV i (HI D n):=by
 unfold HI;split
 ·rename_i he;have:1<=n/\n<=16:=(by grind[F3]);exact ⟨this,h.2⟩
 ·exact h
theorem OG (h:BV i D):BV i (HH D):=by
 unfold HH;split
 ·rename_i he;have J:=h.2.2.2.1;have:D.snaps.length<=4/\D.next<=999:=(by grind[BU]);refine ⟨h.1,by have:=h.2.1;simp only;omega,h.2.2.1,by simp;omega,λs hs=>?_⟩;rcases kbF.1 hs with hs | hs
  ·exact h.2.2.2.2 s hs
  ·simp at hs;subst hs;exact h.1
 ·exact h
def zZ (h:i<D.snaps.length):cI D i∈D.snaps:=by
 simp_all[dP]
theorem OH (h:BV i D)id:BV i (HL D id):=by
 unfold HL;split
 ·exact h
 ·generalize (dI D.snaps id).toNat=k;refine ⟨h.1,h.2.1,h.2.2.1,?_,λs hs=>?_⟩
  ·have V:=h.2.2.2.1
   grind[oV]
  ·have J:=kdu hs;unfold oV at J;split at J
   ·rename_i S;rcases kbi J with O | O
    ·exact h.2.2.2.2 s O
    ·subst O;have R:=h.2.2.2.2 _ (zZ S.1);exact R
   ·exact h.2.2.2.2 s J
def OI (h:BV i D):BV (i+1) (SP D):=⟨h.1,h.2.1,by have:=h.2.2.1;simp only[SP];omega,h.2.2.2⟩
def iT (sz:Int)(B:Nat->Bytes)(m:Nat->Bool)(tm nx:Int)(ss:Value):Array Value:=#[I sz,ay (B 0),ay (B 1),ay (B 2),ay (B 3),ay (B 4),ay (B 5),ay (B 6),ay (B 7),ay (B 8),ay (B 9),ay (B 10),ay (B 11),ay (B 12),ay (B 13),ay (B 14),ay (B 15),Bo (m 0),Bo (m 1),Bo (m 2),Bo (m 3),Bo (m 4),Bo (m 5),Bo (m 6),Bo (m 7),Bo (m 8),Bo (m 9),Bo (m 10),Bo (m 11),Bo (m 12),Bo (m 13),Bo (m 14),Bo (m 15),I tm,I nx,ss]
def oY (x:SnapM):List Value:=let B:=x.blocks;let m:=x.dirty; [I x.id,I x.time,I x.size,ay (B 0),ay (B 1),ay (B 2),ay (B 3),ay (B 4),ay (B 5),ay (B 6),ay (B 7),ay (B 8),ay (B 9),ay (B 10),ay (B 11),ay (B 12),ay (B 13),ay (B 14),ay (B 15),Bo (m 0),Bo (m 1),Bo (m 2),Bo (m 3),Bo (m 4),Bo (m 5),Bo (m 6),Bo (m 7),Bo (m 8),Bo (m 9),Bo (m 10),Bo (m 11),Bo (m 12),Bo (m 13),Bo (m 14),Bo (m 15)]
instance {x:SnapM}{i:Nat}{v:Value}[h:NT [I x.id,I x.time,I x.size,ay (x.blocks 0),ay (x.blocks 1),ay (x.blocks 2),ay (x.blocks 3),ay (x.blocks 4),ay (x.blocks 5),ay (x.blocks 6),ay (x.blocks 7),ay (x.blocks 8),ay (x.blocks 9),ay (x.blocks 10),ay (x.blocks 11),ay (x.blocks 12),ay (x.blocks 13),ay (x.blocks 14),ay (x.blocks 15),Bo (x.dirty 0),Bo (x.dirty 1),Bo (x.dirty 2),Bo (x.dirty 3),Bo (x.dirty 4),Bo (x.dirty 5),Bo (x.dirty 6),Bo (x.dirty 7),Bo (x.dirty 8),Bo (x.dirty 9),Bo (x.dirty 10),Bo (x.dirty 11),Bo (x.dirty 12),Bo (x.dirty 13),Bo (x.dirty 14),Bo (x.dirty 15)] i v]:NT (oY x) i v:=⟨h.p⟩
def bU (l:List SnapM):List (List Value):=l.map oY
def fg l:(bU l).length=l.length:=by simp[bU]
def gq {x}(h:l[k]? =some x):(bU l)[k]? =some (oY x):=by simp[bU,h]
def F4 x:(oY x).length=35:=rfl
def OJ sz x O nx B m J:(iT sz B m O nx J).setIfInBounds 0 (I x)=iT x B m O nx J:=rfl
def OK sz x O nx B m J:(iT sz B m O nx J).setIfInBounds 33 (I x)=iT sz B m x nx J:=rfl
def OL sz x O nx B m J:(iT sz B m O nx J).setIfInBounds 34 (I x)=iT sz B m O x J:=rfl
def BW sz O nx B m R J:(iT sz B m O nx R).setIfInBounds 35 J=iT sz B m O nx J:=rfl
def iA sz O nx B m J:(iT sz B m O nx J).size=36:=rfl
def DM sz O nx B m J(x:Bytes):∀j,j<16->(iT sz B m O nx J).setIfInBounds (0+1+j*1) (ay x)=iT sz (upd B j x) m O nx J
 :=λj h=>match j,h with
  | 0,_=>rfl
  | 1,_=>rfl
  | 2,_=>rfl
  | 3,_=>rfl
  | 4,_=>rfl
  | 5,_=>rfl
  | 6,_=>rfl
  | 7,_=>rfl
  | 8,_=>rfl
  | 9,_=>rfl
  | 10,_=>rfl
  | 11,_=>rfl
  | 12,_=>rfl
  | 13,_=>rfl
  | 14,_=>rfl
  | 15,_=>rfl
  | k+16,h=>absurd h (by omega)
theorem JQ m i j:te m j i=if i=j then true else m i:=by grind[te]
def uN sz O nx B m J:∀j,j<16->(iT sz B m O nx J).setIfInBounds (0+17+j*1) (Bo true)=iT sz B (te m j) O nx J
 :=λj h=>by
  have e:te m j=λi=>if i=j then true else m i:=funext λi=>JQ m i j
  rw[e];exact match j,h with
  | 0,_=>rfl
  | 1,_=>rfl
  | 2,_=>rfl
  | 3,_=>rfl
  | 4,_=>rfl
  | 5,_=>rfl
  | 6,_=>rfl
  | 7,_=>rfl
  | 8,_=>rfl
  | 9,_=>rfl
  | 10,_=>rfl
  | 11,_=>rfl
  | 12,_=>rfl
  | 13,_=>rfl
  | 14,_=>rfl
  | 15,_=>rfl
  | k+16,h=>absurd h (by omega)
def Ws (b:Nat)(D:VdM)(z:sn):List ag:=
 [pcc b (iT D.size D.blocks D.dirty D.time D.next (sl z.1 D.snaps.length z.2)) 139,be 247 35 z.1 z.2 (bU D.snaps)]
def iD (b:Nat)(D:VdM):ag:=hx (Ws b D)
def kN b D[R:Rem L (iD b D) F](k:∀J cs,G c K E (pcc b (iT D.size D.blocks D.dirty D.time D.next (sl J D.snaps.length cs)) 139::be 247 35 J cs (bU D.snaps)::F)):G c K E L:=ji (iD b D) rfl λz=>k z.1 z.2
def e8 (bn:Array Value)(rs:List (List Value))(O:Option Addr)(cs b:Nat)(D:VdM)[S:Split L [pcc b bn 139,be 247 35 O cs rs] F](k:G c K E (iD b D::F))(hC:bn=iT D.size D.blocks D.dirty D.time D.next (sl O D.snaps.length cs):=by exact rfl)(J:rs=bU D.snaps:=by exact rfl):G c K E L:=λa w R V=>by
 subst hC J;exact k a w R<|Sat.hx_mk (cB:=Ws b D) (O,cs)<|S.sat V
theorem Lp m(h:0<=n):te m n.toNat=fU m n 1:=funext λi=>by
 grind[te,fU]
def Ec (D:VdM)(n:Int)(k:Nat):Nat->Bytes:=λi=>if i<k/\kn D n<=(i:Int)/\(i:Int)<my D n then [] else D.blocks i
def Ed (D:VdM)(n:Int)(k:Nat):Nat->Bool:=λi=>D.dirty i || decide (i<k/\kn D n<=(i:Int)/\(i:Int)<my D n)
theorem JR (h:kn D n<=(k:Int)/\(k:Int)<my D n):upd (Ec D n k) k []=Ec D n (k+1):=funext λi=>by
 grind[upd,Ec]
theorem JS (h:kn D n<=(k:Int)/\(k:Int)<my D n):te (Ed D n k) k=Ed D n (k+1):=funext λi=>by
 grind[te,Ed]
theorem OM (h:¬(kn D n<=(k:Int)/\(k:Int)<my D n)):Ec D n k=Ec D n (k+1):=funext λi=>by
 grind[Ec]
theorem ON (h:¬(kn D n<=(k:Int)/\(k:Int)<my D n)):Ed D n k=Ed D n (k+1):=funext λi=>by
 grind[Ed]
theorem RI (h:my D n<=16):Ec D n 16=wW D.blocks (kn D n) (my D n):=funext λi=>by
 grind[Ec,wW]
theorem RJ (h:my D n<=16):Ed D n 16=fU D.dirty (kn D n) (my D n - kn D n):=funext λi=>by
 grind[Ed,fU]
theorem rz_iff:(n<=(k:Int)/\(k:Int)<D.size\/D.size<=(k:Int)/\(k:Int)<n) ↔ (kn D n<=(k:Int)/\(k:Int)<my D n):=by
 grind[kn,my]
def F5 sz O nx B m m' J:cV (iT sz B m O nx J) (0+17) (m16 m')=iT sz B m' O nx J:=by
 simp[cV,iT,m16]
def F6 w:(Instr.build 136 #[]).run Tryz.prog w= .ok (.agg (m16 λ_=>false).toArray) w:=by
 simp[Instr.build,ZZ,runUnderlying136,XL,Instr.fill,bB,m16]
def OO x:∀j,j<16->(oY x)[3+j*1]? =some (ay (x.blocks j))
 :=λj h=>match j,h with
  | 0,_=>rfl
  | 1,_=>rfl
  | 2,_=>rfl
  | 3,_=>rfl
  | 4,_=>rfl
  | 5,_=>rfl
  | 6,_=>rfl
  | 7,_=>rfl
  | 8,_=>rfl
  | 9,_=>rfl
  | 10,_=>rfl
  | 11,_=>rfl
  | 12,_=>rfl
  | 13,_=>rfl
  | 14,_=>rfl
  | 15,_=>rfl
  | k+16,h=>absurd h (by omega)
def OP x:∀j,j<16->(oY x)[19+j*1]? =some (Bo (x.dirty j))
 :=λj h=>match j,h with
  | 0,_=>rfl
  | 1,_=>rfl
  | 2,_=>rfl
  | 3,_=>rfl
  | 4,_=>rfl
  | 5,_=>rfl
  | 6,_=>rfl
  | 7,_=>rfl
  | 8,_=>rfl
  | 9,_=>rfl
  | 10,_=>rfl
  | 11,_=>rfl
  | 12,_=>rfl
  | 13,_=>rfl
  | 14,_=>rfl
  | 15,_=>rfl
  | k+16,h=>absurd h (by omega)
def RK x:∀j,j<16->bK (.cells (oY x).toArray ec f) (0+19+j*1)=some (Bo (x.dirty j))
 :=λj h=>match j,h with
  | 0,_=>rfl
  | 1,_=>rfl
  | 2,_=>rfl
  | 3,_=>rfl
  | 4,_=>rfl
  | 5,_=>rfl
  | 6,_=>rfl
  | 7,_=>rfl
  | 8,_=>rfl
  | 9,_=>rfl
  | 10,_=>rfl
  | 11,_=>rfl
  | 12,_=>rfl
  | 13,_=>rfl
  | 14,_=>rfl
  | 15,_=>rfl
  | k+16,h=>absurd h (by omega)
def OQ x:∀j,j<16->(oY x).set (19+j*1) (Bo true)=oY (sr x (te x.dirty j))
 :=λj h=>by
  have e:te x.dirty j=λi=>if i=j then true else x.dirty i:=funext λi=>JQ x.dirty i j
  rw[e];exact match j,h with
  | 0,_=>rfl
  | 1,_=>rfl
  | 2,_=>rfl
  | 3,_=>rfl
  | 4,_=>rfl
  | 5,_=>rfl
  | 6,_=>rfl
  | 7,_=>rfl
  | 8,_=>rfl
  | 9,_=>rfl
  | 10,_=>rfl
  | 11,_=>rfl
  | 12,_=>rfl
  | 13,_=>rfl
  | 14,_=>rfl
  | 15,_=>rfl
  | k+16,h=>absurd h (by omega)
def AE n F:cqq 19 [I n] (F) (JO (1<=n/\n<=16) I (λb=>iD b (k5 n)) F):=by
 refine Ct.of func19 W 13 ntmps19 (by simp) λw0=>?_;refine A<|gA<|T<|ac<|A<|C<|M aG<|C<|gK ao<|gK aQ<|M cv<|ab<|ah ?_ ?_<;>intro O
 ·simp at O;refine A<|gA<|T ?_;exact zR rfl rfl (by omega) rfl
 ·simp at O;refine ai<|A<|C<|M (aS (Gy _ W _ W))<|gI (dw (iT n (λ_=>[]) (λ_=>false) 0 1 (sl none 0 0))) ?_;rintro _ _ ⟨J,rfl,rfl⟩;refine gA<|T ?_;refine aY 247 35 (bU []) ?_;refine e8 (iT n (λ_=>[]) (λ_=>false) 0 1 (sl none 0 0)) (bU []) none 0 J (k5 n) ?_;exact zS J rfl rfl (by omega) rfl
def we b D n(s:Bytes)(hz:D.size<=16)F:Ct Tryz.prog 76 [ptr b 0,I n,ay s] (iD b (D)::F) (R1 (I (F0 D n s)) (iD b (DK D n s)::F)):=by
 refine Ct.of func76 W 31 ntmps76 (by simp) λw0=>?_;refine kN b (D) ?_;intro ss cs;refine A (T (ac (A (C (M aG (C (gK ao (gK ao (gK aa (gK (aw 0 XW W Xu) (gK (aA (v:=I D.size) Xv (hv:=⟨rfl⟩)) (gK kp (M cv (ab ?_))))))))))))));apply ah<;>intro h16
 ·simp at h16;have hw:F0 D n s=1:=(by unfold F0;rw[kaT (by omega)]);refine A (T ?_);refine e8 (iT ((D).size) ((D).blocks) ((D).dirty) ((D).time) ((D).next) (sl ss (D).snaps.length cs)) (bU (D).snaps) ss cs b (D) ?_;rw[show iD b D=iD b (DK D n s) by unfold DK;rw[kaU (by omega)]];exact am rfl rfl (by rw[hw];rfl)
 ·simp at h16;have hw:F0 D n s=uL s:=(by unfold F0;rw[kaU (by omega)]);refine ai (ac (A (C (M (cD Xz) (M aQ (ab ?_))))));apply ah<;>intro h19
  ·simp at h19;have hw2:uL s=2:=(by unfold uL;rw[kaT (by omega)]);refine A (T ?_);refine e8 (iT ((D).size) ((D).blocks) ((D).dirty) ((D).time) ((D).next) (sl ss (D).snaps.length cs)) (bU (D).snaps) ss cs b (D) ?_;rw[show iD b D=iD b (DK D n s) by unfold DK;rw[kaU (by omega)]];exact am rfl rfl (by rw[hw,hw2];rfl)
  ·simp at h19;have hw2:uL s=0:=(by unfold uL;rw[kaU (by omega)]);refine ai (A (C (C (C (M aa (gF 1 XW W Y1 (M (bp n.toNat ZQ Xx (hj:=by omega) (by omega)) (gU (aJ (iT ((D).size) (upd D.blocks n.toNat s) ((D).dirty) ((D).time) ((D).next) (sl ss (D).snaps.length cs)) Xx (by rw[iA];omega) (hcs:=by exact DM _ _ _ _ _ _ _ _ (by omega))) (ab (A (C (C (M aa (gF 17 XW W YG (M (bp n.toNat Zh XL (hj:=by omega) (by omega)) (gU (aJ (iT ((D).size) (upd D.blocks n.toNat s) (fU D.dirty n 1) ((D).time) ((D).next) (sl ss (D).snaps.length cs)) XL (by rw[iA];omega) (hcs:=by rw[uN _ _ _ _ _ _ _ (by omega),Lp _ h16.1])) (ab (A (T ?_)))))))))))))))))));refine e8 (iT ((D).size) (upd D.blocks n.toNat s) (fU D.dirty n 1) ((D).time) ((D).next) (sl ss (D).snaps.length cs)) (bU D.snaps) ss cs b (⟨D.size,upd D.blocks n.toNat s,fU D.dirty n 1,D.time,D.next,D.snaps⟩) ?_;rw[show iD b ⟨D.size,upd D.blocks n.toNat s,fU D.dirty n 1,D.time,D.next,D.snaps⟩=iD b (DK D n s) by unfold DK;rw[kaT (by omega)]];exact am rfl rfl (by rw[hw,hw2];rfl)
def uO b D n(hz:1<=D.size/\D.size<=16)F:Ct Tryz.prog 77 [ptr b 0,I n] (iD b (D)::F) (R1 (I (F3 n)) (iD b (HI D n)::F)):=by
 refine Ct.of func77 W 54 ntmps77 (by simp) λw0=>?_;refine kN b (D) ?_;intro ss cs;rw[show iT D.size D.blocks D.dirty D.time D.next (sl ss D.snaps.length cs)=iT D.size (Ec D n 0) (Ed D n 0) D.time D.next (sl ss D.snaps.length cs) by rw[show Ec D n 0=D.blocks from funext λi=>by unfold Ec;rw[kaU (by omega)],show Ed D n 0=D.dirty from funext λi=>by unfold Ed;simp]];refine A (T (ac (A (C (M aG (C (gK ao (gK aQ (M cv (ab ?_))))))))));apply ah<;>intro h11
 ·simp at h11;have hw:F3 n=1:=(by unfold F3;rw[kaT (by omega)]);refine A (T ?_);rw[show Ec D n 0=D.blocks from funext λi=>by unfold Ec;rw[kaU (by omega)],show Ed D n 0=D.dirty from funext λi=>by unfold Ed;simp];refine e8 (iT ((D).size) ((D).blocks) ((D).dirty) ((D).time) ((D).next) (sl ss (D).snaps.length cs)) (bU (D).snaps) ss cs b (D) ?_;rw[show iD b D=iD b (HI D n) by unfold HI;rw[kaU (by omega)]];exact am rfl rfl (by rw[hw];rfl)
 ·simp at h11;have hw:F3 n=0:=(by unfold F3;rw[kaU (by omega)]);have hhi:my D n<=16:=(by unfold my;split <;> omega);refine ai (ac (A (T (ak ?_))));refine aL (α:=Nat) (λk=>k<=16) (λk=>U [(0,ptr b 0),(1,I n),(5,I k)]) (λk=>pt b (.cells (iT ((D).size) (Ec D n k) (Ed D n k) ((D).time) ((D).next) (sl ss (D).snaps.length cs)) 139 (0,0))::be 247 35 ss cs (bU D.snaps)::F) (λk=>16 - k) 0 (by simp) [0,1,5] rfl ?_;intro k hk16;refine ac (A (C (M aG (ab ?_))));apply ah<;>intro h13
  ·simp at h13;have hk:k<16:=(by omega);refine ai (ac (ak (A (C (C (M kp (C (gK ao (gK ao (gK aa (gK (aw 0 XW W Xu) (gK (aA (v:=I D.size) Xv (hv:=⟨rfl⟩)) (gK aG (M dc (C ?_)))))))))))))));by_cases hA:n<=(k:Int)/\(k:Int)<D.size
   ·have hAb:(decide (n<=(k:Int)) && decide ((k:Int)<D.size))=true:=(by simp[hA.1,hA.2]);refine bi (hw:=by rw[hAb];rfl) (bi (hw:=by rw[hAb];rfl) (bi (hw:=by rw[hAb];rfl) (bi (hw:=by rw[hAb];rfl) (bi (hw:=by rw[hAb];rfl) (bi (hw:=by rw[hAb];rfl) (bi (hw:=by rw[hAb];rfl) (bi (bi (bi (bi (hw:=by rw[hAb];rfl) (M (eV (hq:=by exact hAb)) (ab ?_))))))))))));apply ah<;>intro h39
    ·have h39':=rz_iff.1 (.inl hA);refine A (C (C (M aa (gF 1 XW W Y1 (M (bp k ZQ Xx hk) (gU (aJ (iT ((D).size) (Ec D n (k+1)) (Ed D n k) ((D).time) ((D).next) (sl ss (D).snaps.length cs)) Xx (by rw[iA];omega) (hcs:=by rw[DM _ _ _ _ _ _ _ _ hk,JR h39'])) (ab (al (C (C (M aa (gF 17 XW W YG (M (bp k Zh XL hk) (gU (aJ (iT ((D).size) (Ec D n (k+1)) (Ed D n (k+1)) ((D).time) ((D).next) (sl ss (D).snaps.length cs)) XL (by rw[iA];omega) (hcs:=by rw[uN _ _ _ _ _ _ _ hk,JS h39'])) (ab (aE (al (C (gP (T ?_))))))))))))))))))));exact an (k+1) (by omega) (by omega) [0,1,5] rfl
    ·simp at h39
   ·have hAb:(decide (n<=(k:Int)) && decide ((k:Int)<D.size))=false:=(by rw[<-Bool.not_eq_true,kaJ,decide_eq_true_eq,decide_eq_true_eq];exact hA);refine bh (hw:=by exact hAb) ao (bh (hw:=by exact hAb) ao (bh (hw:=by exact hAb) aa (bh (hw:=by exact hAb) (aw 0 XW W Xu) (bh (hw:=by exact hAb) (aA (v:=I D.size) Xv (hv:=⟨rfl⟩)) (bh (hw:=by exact hAb) kp (bh (hw:=by exact hAb) ao (gK ao (gK ao (gK aG (bh (hw:=by exact hAb) dc (M cv (ab ?_))))))))))));apply ah<;>intro h39
    ·have h39':=rz_iff.1 (by simpa using h39);refine A (C (C (M aa (gF 1 XW W Y1 (M (bp k ZQ Xx hk) (gU (aJ (iT ((D).size) (Ec D n (k+1)) (Ed D n k) ((D).time) ((D).next) (sl ss (D).snaps.length cs)) Xx (by rw[iA];omega) (hcs:=by rw[DM _ _ _ _ _ _ _ _ hk,JR h39'])) (ab (al (C (C (M aa (gF 17 XW W YG (M (bp k Zh XL hk) (gU (aJ (iT ((D).size) (Ec D n (k+1)) (Ed D n (k+1)) ((D).time) ((D).next) (sl ss (D).snaps.length cs)) XL (by rw[iA];omega) (hcs:=by rw[uN _ _ _ _ _ _ _ hk,JS h39'])) (ab (aE (al (C (gP (T ?_))))))))))))))))))));exact an (k+1) (by omega) (by omega) [0,1,5] rfl
    ·have h39':¬(kn D n<=(k:Int)/\(k:Int)<my D n):=λhh=>(by have:=rz_iff.2 hh;simp at h39;omega);refine ai (aE (al (C (gP (T ?_)))));rw[OM h39',ON h39'];exact an (k+1) (by omega) (by omega) [0,1,5] rfl
  ·simp at h13;obtain rfl:k=16:=(by omega);rw[RI hhi,RJ hhi];refine aF ?_;refine A (C (C (M aa (gF 0 XW W Xu (gU (aJ (iT n (wW D.blocks (kn D n) (my D n)) (fU D.dirty (kn D n) (my D n - kn D n)) D.time D.next (sl ss D.snaps.length cs)) Xu (by rw[iA];decide) (hcs:=by exact OJ _ _ _ _ _ _ _)) (ab (A (T ?_))))))));refine e8 (iT n (wW D.blocks (kn D n) (my D n)) (fU D.dirty (kn D n) (my D n - kn D n)) D.time D.next (sl ss D.snaps.length cs)) (bU D.snaps) ss cs b (⟨n,wW D.blocks (kn D n) (my D n),fU D.dirty (kn D n) (my D n - kn D n),D.time,D.next,D.snaps⟩) ?_;rw[show iD b ⟨n,wW D.blocks (kn D n) (my D n),fU D.dirty (kn D n) (my D n - kn D n),D.time,D.next,D.snaps⟩=iD b (HI D n) by unfold HI;rw[kaT hw]];exact am rfl rfl (by rw[hw];rfl)
def uP b D(ht: -9223372036854775808<=D.time/\D.time<9223372036854775807)F:cqq 80 [ptr b 0] (iD b (D)::F) (R1 (.tuple #[]) (iD b (SP D)::F)):=by
 refine Ct.of func80 W 13 ntmps80 (by simp) λw0=>?_;refine kN b (D) ?_;intro J cs;refine A<|C<|M aa<|gF 33 XW W Xu<|gL (I D.time) Xv<|gP<|M aa<|gF 33 XW W Xu<|gU (aJ (iT ((D).size) ((D).blocks) ((D).dirty) (D.time+1) ((D).next) (sl J (D).snaps.length cs)) Xu (by rw[iA];decide) (hcs:=by exact OK _ _ _ _ _ _ _))<|ab<|al<|C<|M (aS F6)<|M aa<|gF 17 XW W YG<|gU (az (cs:=iT ((D).size) ((D).blocks) ((D).dirty) (D.time+1) ((D).next) (sl J (D).snaps.length cs)) (vs:=m16 λ_=>false) (iT ((D).size) ((D).blocks) (λ_=>false) (D.time+1) ((D).next) (sl J (D).snaps.length cs)) YG (by rw[iA];decide) (hcs:=by exact F5 _ _ _ _ _ _ _))<|ab ?_;refine e8 (iT ((D).size) ((D).blocks) (λ_=>false) (D.time+1) ((D).next) (sl J (D).snaps.length cs)) (bU D.snaps) J cs b (SP D) ?_;exact gh rfl rfl rfl
def jw b D id(hsl:D.snaps.length<=1000000)F:Ct Tryz.prog 151 [ptr b 0,I id] (iD b (D)::F) (R1 (I (dI D.snaps id)) (iD b (D)::F)):=by
 refine Ct.of func151 W 26 ntmps151 (by simp) λw0=>?_;refine kN b (D) ?_;intro ss cs;refine A (T (ac (A (T (ak ?_)))));refine aL (α:=Nat) (λk=>k<=D.snaps.length/\∀j,j<k->∀t,D.snaps[j]? =some t->t.id≠id) (λk=>U [(0,ptr b 0),(1,I id),(5,I k)]) (λ_=>pt b (.cells (iT ((D).size) ((D).blocks) ((D).dirty) ((D).time) ((D).next) (sl ss (D).snaps.length cs)) 139 (0,0))::be 247 35 ss cs (bU D.snaps)::F) (λk=>D.snaps.length - k) 0 ⟨by simp,λj hj=>absurd hj (by omega)⟩ [0,1,5] rfl ?_;rintro k ⟨hk,hno⟩;refine ac (A (C (C (M aa (gF 35 XW W Yy (gL (sl ss D.snaps.length cs) YX (M (aP YK) (M aG (ab ?_)))))))));apply ah<;>intro h12
 ·simp at h12;have hkn:k<D.snaps.length:=(by omega);obtain ⟨x,hx⟩:∃x,D.snaps[k]? =some x:=⟨_,kbN hkn⟩;have hkr:k<(bU D.snaps).length:=(by rw[fg];exact hkn);refine ai (ac (ak (A (C (M aa (gF 35 XW W Yy (gL (sl ss D.snaps.length cs) YX (C (M (av k YK YQ hkn hkr) (M (aK (j:=k) 0 Ze W Xu hkr) (M (bS (v:=I x.id) Xv (gq hx)) (C (M bE (ab ?_))))))))))))));apply ah<;>intro h24
  ·simp at h24;refine A (C (T ?_));refine e8 (iT ((D).size) ((D).blocks) ((D).dirty) ((D).time) ((D).next) (sl ss (D).snaps.length cs)) (bU (D).snaps) ss cs b (D) ?_;exact am rfl rfl (by rw[BT hno hx h24];rfl)
  ·simp at h24;refine ai (aE (al (C (gP (T ?_)))));exact an (k+1) ⟨by omega,λj hj t ht=>by
    rcases ka3 j k with h | h
    ·exact hno j h t ht
    ·obtain rfl:j=k:=(by omega);rw[hx] at ht;injection ht with ht;rw[<-ht];exact h24⟩ (by omega) [0,1,5] rfl
 ·simp at h12;obtain rfl:k=D.snaps.length:=(by omega);refine aF ?_;refine A (T ?_);refine e8 (iT ((D).size) ((D).blocks) ((D).dirty) ((D).time) ((D).next) (sl ss (D).snaps.length cs)) (bU (D).snaps) ss cs b (D) ?_;exact am rfl rfl (by rw[zT hno];rfl)
def wZ b D id n(hsl:D.snaps.length<=1000000)(hsz:∀s∈D.snaps,s.size<=16)F:Ct Tryz.prog 148 [ptr b 0,I id,I n] (iD b (D)::F) (R1 (.tuple #[ay (lm D id n).1,I (lm D id n).2.1,I (lm D id n).2.2]) (iD b (D)::F)):=by
 refine Ct.of func148 W 47 ntmps148 (by simp) λw0=>?_;refine A (gA (gA (T (A (C (C (gR (vB call151 (jw b D id (by omega))) (T (ac (A (C (M aG (ab ?_)))))))))))));apply ah<;>intro h14
 ·simp at h14;refine A (gA (gA (T ?_)));exact am rfl rfl (by rw[show lm D id n=([],0,5) by unfold lm;rw[kaT (by omega)]];rfl)
 ·simp at h14;obtain ⟨i,s,hfi,hs,hid,hil⟩:=ik (show ¬dI D.snaps id<0 by omega);rw[hfi];refine kN b (D) ?_;intro ss cs;have hir:i<(bU D.snaps).length:=(by rw[fg];exact hil);refine ai (ac (A (C (M aG (C (gK ao (gK ao (gK aa (gK (aw 35 XW W Yy) (gK (aA (v:=sl ss D.snaps.length cs) YX (hv:=⟨rfl⟩)) (gK ao (gK (av i YK YQ hil hir) (gK (aK (j:=i) 2 Ze W Xu hir) (gK (bS (v:=I s.size) Xv (gq hs)) (gK kp (M cv (ab ?_)))))))))))))))));apply ah<;>intro h28
  ·simp at h28;refine A (gA (gA (T ?_)));refine e8 (iT ((D).size) ((D).blocks) ((D).dirty) ((D).time) ((D).next) (sl ss (D).snaps.length cs)) (bU (D).snaps) ss cs b (D) ?_;exact am rfl rfl (by rw[show lm D id n=([],0,1) by unfold lm;rw[kaU (by omega),hfi,kcy,dP hs,kaT (by omega)]];rfl)
  ·simp at h28;have hs16:=hsz s (kbe hs);refine ai (ac ?_);refine dy jS ?_;refine dM W (dV W aa (dF W 35 XW W Yy (dL W (sl ss D.snaps.length cs) YX (dM W (dM W (dV W (av i YK YQ hil hir) (dV W (aK (j:=i) 3 Ze W Y1 hir) (dV W (yb (i:=i) (f:=3) n.toNat ZQ Xx W W (by omega) (by omega) hir) (dV W (bS (f:=3+n.toNat*1) (v:=ay (s.blocks n.toNat)) XD (gq hs) (hv:=⟨OO _ _ (by omega)⟩)) (dM W (dV W aa (dF W 35 XW W Yy (dL W (sl ss D.snaps.length cs) YX (dM W (dV W (av i YK YQ hil hir) (dV W (aK (j:=i) 2 Ze W Xu hir) (dV W (bS (v:=I s.size) Xv (gq hs)) (dV W ax (dV W ax (dV W ax ?_))))))))))))))))))));refine aN ?_;refine e8 (iT ((D).size) ((D).blocks) ((D).dirty) ((D).time) ((D).next) (sl ss (D).snaps.length cs)) (bU (D).snaps) ss cs b (D) ?_;exact am rfl rfl (by rw[show lm D id n=(s.blocks n.toNat,s.size,0) by unfold lm;rw[kaU (by omega),hfi,kcy,dP hs,kaU (by omega)]];rfl)
def uQ b D id(hsl:D.snaps.length<=1000000)F:Ct Tryz.prog 146 [ptr b 0,I id] (iD b (D)::F) (R1 (.tuple #[I (fy D id).1,I (fy D id).2]) (iD b (D)::F)):=by
 refine Ct.of func146 W 20 ntmps146 (by simp) λw0=>?_;refine A (gA (T (A (C (C (gR (vB call151 (jw b D id (by omega))) (T (ac (A (C (M aG (ab ?_))))))))))));apply ah<;>intro h11
 ·simp at h11;refine A (gA (T ?_));exact am rfl rfl (by rw[show fy D id=(0,5) by unfold fy;rw[kaT (by omega)]];rfl)
 ·simp at h11;obtain ⟨i,s,hfi,hs,hid,hil⟩:=ik (show ¬dI D.snaps id<0 by omega);rw[hfi];refine kN b (D) ?_;intro ss cs;have hir:i<(bU D.snaps).length:=(by rw[fg];exact hil);refine ai (A (C (M aa (gF 35 XW W Yy (gL (sl ss D.snaps.length cs) YX (C (M (av i YK YQ hil hir) (M (aK (j:=i) 2 Ze W Xu hir) (M (bS (v:=I s.size) Xv (gq hs)) (gA (T ?_)))))))))));refine e8 (iT ((D).size) ((D).blocks) ((D).dirty) ((D).time) ((D).next) (sl ss (D).snaps.length cs)) (bU (D).snaps) ss cs b (D) ?_;exact am rfl rfl (by rw[show fy D id=(s.size,0) by unfold fy;rw[kaU (by omega),hfi,kcy,dP hs]];rfl)
theorem Lq {sz O nx m' J}(h:∀p,p<16->m p=m' p):iT sz B m O nx J=iT sz B m' O nx J:=by
 grind[iT]
theorem OR {m m'}(h:∀p,p<16->m p=m' p):bA m=bA m':=by
 show (bL m).toArray=(bL m').toArray;rw[<-On,<-On]
 grind
def Lr sz O nx B m J:∀k v,(s16 B)[k]? =some v->bK (.cells (iT sz B m O nx J) ec f) (0+1+k)=some v
 :=λk v h=>match k,h with
  | 0,h=>h
  | 1,h=>h
  | 2,h=>h
  | 3,h=>h
  | 4,h=>h
  | 5,h=>h
  | 6,h=>h
  | 7,h=>h
  | 8,h=>h
  | 9,h=>h
  | 10,h=>h
  | 11,h=>h
  | 12,h=>h
  | 13,h=>h
  | 14,h=>h
  | 15,h=>h
  | k+16,h=>by simp[s16] at h
def Ls sz O nx B m J:∀k v,(m16 m)[k]? =some v->bK (.cells (iT sz B m O nx J) ec f) (0+17+k)=some v
 :=λk v h=>match k,h with
  | 0,h=>h
  | 1,h=>h
  | 2,h=>h
  | 3,h=>h
  | 4,h=>h
  | 5,h=>h
  | 6,h=>h
  | 7,h=>h
  | 8,h=>h
  | 9,h=>h
  | 10,h=>h
  | 11,h=>h
  | 12,h=>h
  | 13,h=>h
  | 14,h=>h
  | 15,h=>h
  | k+16,h=>by simp[m16] at h
def OS id J sz B m w:(Instr.build 247 #[(0,I id),(1,I J),(2,I sz),(3, .agg (s16 B).toArray),(4, .agg (m16 m).toArray)]).run Tryz.prog w= .ok (.agg (oY ⟨id,J,sz,B,m⟩).toArray) w:=by
 simp[Instr.build,ZY,runUnderlying247,Xu,Y1,YG,Instr.fill,bB,s16,m16,oY,bJ (show Go.Sl.one (I id)=true from rfl),bJ (show Go.Sl.one (I J)=true from rfl),bJ (show Go.Sl.one (I sz)=true from rfl)]
def Lt l i n(hn:l.length=n):[]++((bU l).drop 0).take i++((bU l).drop (i+1)).take (n - (i+1))=bU (l.eraseIdx i):=by
 simp_all[kcI,bU,kcJ]
section
variable (D:VdM)(i:Nat)
def dK (k:Nat):Nat->Bool:=if ¬(i+1<D.snaps.length)/\D.time=(cI D i).time then λp=>D.dirty p || (decide (p<k) && (cI D i).dirty p) else D.dirty
def tK (k:Nat):SnapM:=if (cI D (i+1)).time=(cI D i).time then sr (cI D (i+1)) (λp=>(cI D (i+1)).dirty p || (decide (p<k) && (cI D i).dirty p)) else cI D (i+1)
def AF (k:Nat):List SnapM:=if i+1<D.snaps.length then D.snaps.set (i+1) (tK D i k) else D.snaps
end
theorem uR:(AF D i k).length=D.snaps.length:=by grind[AF]
variable {d:Nat->Bool}
theorem WL (h:d k=false):(λp=>m p || (decide (p<k) && d p))=λp=>m p || (decide (p<k+1) && d p):=funext λp=>by
 grind
theorem F7 (h:d k=true):te (λp=>m p || (decide (p<k) && d p)) k=λp=>m p || (decide (p<k+1) && d p):=funext λp=>by
 grind[te]
theorem Wt (h:(cI D i).dirty k=false):dK D i k=dK D i (k+1):=by grind[dK]
theorem HM (h:¬(¬(i+1<D.snaps.length)/\D.time=(cI D i).time)):dK D i k=dK D i (k+1):=by grind[dK]
def UE (h1:¬(i+1<D.snaps.length))(J:D.time=(cI D i).time)(h:(cI D i).dirty k=true):te (dK D i k) k=dK D i (k+1):=by
 unfold dK;rw[kaT ⟨h1,J⟩,kaT ⟨h1,J⟩];exact F7 h
def JT:(tK D i k).time=(cI D (i+1)).time:=by unfold tK;split <;> rfl
theorem UF (h:(cI D i).dirty k=false):AF D i k=AF D i (k+1):=by
 grind[tK,AF]
theorem DO (h:¬(i+1<D.snaps.length/\(cI D (i+1)).time=(cI D i).time)):AF D i k=AF D i (k+1):=by
 grind[AF,tK]
theorem OT (h1:i+1<D.snaps.length):(AF D i k)[i+1]? =some (tK D i k):=by
 grind[AF]
def RL (h1:i+1<D.snaps.length)(J:(cI D (i+1)).time=(cI D i).time)(h:(cI D i).dirty k=true)(hk:k<16):(bU (AF D i k)).set (i+1) ((oY (tK D i k)).set (19+k*1) (Bo true))=bU (AF D i (k+1)):=by
 rw[OQ _ _ hk];unfold AF;rw[kaT h1,kaT h1];have:sr (tK D i k) (te (tK D i k).dirty k)=tK D i (k+1):=by
  unfold tK;rw[kaT J,kaT J];show sr (cI D (i+1)) (te (λp=>(cI D (i+1)).dirty p || (decide (p<k) && (cI D i).dirty p)) k)=_;rw[F7 h]
 simp_all[bU]
theorem K_zero:dK D i 0=D.dirty/\AF D i 0=D.snaps:=by
 constructor
 ·grind[dK]
 ·unfold AF;split
  ·rename_i h;have e:tK D i 0=cI D (i+1):=by simp_all[tK]
   simp_all[dP]
  ·rfl
def OU {p}(hp:p<16):(m p || (decide (p<16) && d p))=tu m d p:=by unfold tu;simp[hp]
def UG {sz O nx J}:iT sz B (dK D i 16) O nx J=iT sz B (oq D i) O nx J:=Lq λp hp=>by
 unfold dK oq;split
 ·exact OU hp
 ·rfl
theorem RM:bU (AF D i 16)=bU (oV D i):=by
 unfold AF oV;by_cases h1:i+1<D.snaps.length
 ·rw[kaT h1];by_cases J:(cI D (i+1)).time=(cI D i).time
  ·rw[kaT ⟨h1,J⟩];unfold tK;rw[kaT J];simp only[bU,kbj];congr 1
  ·rw[kaU (λhh=>J hh.2)];have:tK D i 16=cI D (i+1):=by unfold tK;rw[kaU J]
   simp_all[dP]
 grind
theorem HN {l'}(h:bU l=bU l'):bU (l.eraseIdx i)=bU (l'.eraseIdx i):=by
 grind[bU,List.eraseIdx_eq_take_drop_succ,List.map_take,List.map_drop]
def OV (m d:Nat->Bool)(k:Nat):Nat->Bool:=λp=>m p || (decide (p<k) && d p)
theorem OW m d k:(λi=>if i=k then (OV m d k k || d k) else OV m d k i)=OV m d (k+1):=funext λp=>by
 grind[OV]
def OX m d:OV m d 0=m:=funext λp=>by simp[OV]
def RN m d:bA (OV m d 16)=bA (tu m d):=OR λp hp=>OU hp
def w5 b D(X:D.snaps.length<=1000000)(hn: -9223372036854775808<=D.next)F:cqq 78 [ptr b 0] (iD b (D)::F) (R1 (.tuple #[I (Eb D),I (BU D)]) (iD b (HH D)::F)):=by
 refine Ct.of func78 W 63 ntmps78 (by simp) λw0=>?_;refine kN b (D) ?_;intro S cs;refine A<|gA<|T<|ac<|A<|C<|M aa<|gF 35 XW W Yy<|gL (sl S D.snaps.length cs) YX<|M (aP YK)<|M bE<|C<|gK ao<|gK aa<|gK (aw 34 XW W Xu)<|gK (aA (v:=I D.next) Xv (hv:=⟨rfl⟩))<|gK aQ<|M cv<|ab<|ah ?_ ?_<;>intro R
 ·simp at R;have hw:BU D=8:=(by unfold BU;rw[kaT (by omega)]);refine A<|gA<|T ?_;refine e8 (iT ((D).size) ((D).blocks) ((D).dirty) ((D).time) ((D).next) (sl S (D).snaps.length cs)) (bU (D).snaps) S cs b (D) ?_;rw[show iD b D=iD b (HH D) by unfold HH;rw[iOm]];exact am rfl rfl (by rw[show Eb D=0 by unfold Eb;rw[iOm],hw];rfl)
 ·simp at R;have hw:BU D=0:=(by unfold BU;rw[iOm]);refine ai<|ac ?_;refine eE (Lf:=pcc b (iT ((D).size) ((D).blocks) ((D).dirty) ((D).time) ((D).next) (sl S (D).snaps.length cs)) 139::F) (plN [0,2,4,6,8,10,12,14,16,18,20,22,24,26,28,30,32,34,36,38,40,42,44,46,48,50,53,55,56,58]) 30 ?_;refine dM W<|dM W<|dV W aa<|dF W 35 XW W Yy<|dL W (sl S D.snaps.length cs) YX<|dM W<|dV W aa<|dF W 34 XW W Xu<|dL W (I D.next) Xv<|dM W<|dV W aa<|dF W 33 XW W Xu<|dL W (I D.time) Xv<|dM W<|dV W aa<|dF W 0 XW W Xu<|dL W (I D.size) Xv<|dM W<|dV W aa<|dF W 1 XW W Y1<|dV W (bj (vs:=s16 D.blocks) isAgg130 Y1 (Lr _ _ _ _ _ _))<|dM W<|dV W aa<|dF W 17 XW W YG<|dV W (bj (vs:=m16 D.dirty) Z7 YG (Ls _ _ _ _ _ _))<|dV W (aS (OS D.next D.time D.size D.blocks D.dirty))<|cQ W (ap [oY (⟨D.next,D.time,D.size,D.blocks,D.dirty⟩:SnapM)] YK YQ ZY (by simp[F4])) ?_;rintro _ _ ⟨V,rfl,rfl⟩;refine cQ W (aR YK YQ ZY Tryz.typeInfo247 (hn:=by rw[fg]) (by simp[F4]) (by simp[oY,Go.Sl.ones,Go.Sl.one]) ⟨by omega,by decide,by decide⟩) ?_;rintro _ _ ⟨O,J,rfl,rfl⟩;rw[show bU D.snaps++ [oY (⟨D.next,D.time,D.size,D.blocks,D.dirty⟩:SnapM)]=bU (D.snaps++ [(⟨D.next,D.time,D.size,D.blocks,D.dirty⟩:SnapM)]) by simp[bU]];refine dV W aa<|dF W 35 XW W Yy ?_;refine aN ?_;refine gU (aJ (iT ((D).size) ((D).blocks) ((D).dirty) ((D).time) ((D).next) (sl O (D.snaps.length+1) J)) Yy (by rw[iA];decide) (hcs:=by exact BW _ _ _ _ _ _ _))<|ab<|A<|C<|M (aS F6)<|M aa<|gF 17 XW W YG<|gU (az (cs:=iT ((D).size) ((D).blocks) ((D).dirty) ((D).time) ((D).next) (sl O (D.snaps.length+1) J)) (vs:=m16 λ_=>false) (iT ((D).size) ((D).blocks) (λ_=>false) ((D).time) ((D).next) (sl O (D.snaps.length+1) J)) YG (by rw[iA];decide) (hcs:=by exact F5 _ _ _ _ _ _ _))<|ab<|A<|C<|M aa<|gF 34 XW W Xu<|gL (I D.next) Xv<|gP<|M aa<|gF 34 XW W Xu<|gU (aJ (iT ((D).size) ((D).blocks) (λ_=>false) ((D).time) (D.next+1) (sl O (D.snaps.length+1) J)) Xu (by rw[iA];decide) (hcs:=by exact OL _ _ _ _ _ _ _))<|ab<|A<|C<|M aa<|gF 34 XW W Xu<|gL (I (D.next+1)) Xv<|M (eG (cK (by omega)))<|gA<|T ?_
  refine e8 (iT ((D).size) ((D).blocks) (λ_=>false) ((D).time) (D.next+1) (sl O (D.snaps.length+1) J)) (bU (D.snaps++ [(⟨D.next,D.time,D.size,D.blocks,D.dirty⟩:SnapM)])) O J b (⟨D.size,D.blocks,λ_=>false,D.time,D.next+1,D.snaps++ [⟨D.next,D.time,D.size,D.blocks,D.dirty⟩]⟩) (hC:=by simp) ?_;rw[show iD b ⟨D.size,D.blocks,λ_=>false,D.time,D.next+1,D.snaps++ [⟨D.next,D.time,D.size,D.blocks,D.dirty⟩]⟩=iD b (HH D) by unfold HH;rw[kaT hw]];exact am rfl rfl (by rw[show Eb D=D.next+1 - 1 by unfold Eb;rw[kaT hw];omega,hw];rfl)
def w6 b D id(hsl:D.snaps.length<=1000000)F:cqq 79 [ptr b 0,I id] (iD b (D)::F) (R1 (I (HK D id)) (iD b (HL D id)::F)):=by
 refine Ct.of func79 W 89 ntmps79 (by simp) λw0=>?_;refine A<|T<|A<|C<|C<|gR (vB call151 (jw b D id (by omega)))<|T<|ac<|A<|C<|M aG<|ab<|ah ?_ ?_<;>intro h12
 ·simp at h12;refine A<|T ?_;rw[show iD b D=iD b (HL D id) by unfold HL;rw[kaT (by omega)]];exact am rfl rfl (by rw[show HK D id=5 by unfold HK;rw[kaT (by omega)]];rfl)
 ·simp at h12;obtain ⟨i,s,hfi,hs,hid,hil⟩:=ik (show ¬dI D.snaps id<0 by omega);rw[hfi];refine kN b (D) ?_;intro S cs;have hir:i<(bU D.snaps).length:=(by rw[fg];exact hil);have R:=dP hs;refine mC S λhcap=>?_;rw[fg] at hcap;refine ai<|A<|C<|M aa<|gF 35 XW W Yy<|gL (sl S D.snaps.length cs) YX<|C<|M (av i YK YQ hil hir)<|M (bO (row:=oY s) isAgg247 YQ (gq hs))<|gI (aO #[I 0,I 0,I 0,ay [],ay [],ay [],ay [],ay [],ay [],ay [],ay [],ay [],ay [],ay [],ay [],ay [],ay [],ay [],ay [],Bo false,Bo false,Bo false,Bo false,Bo false,Bo false,Bo false,Bo false,Bo false,Bo false,Bo false,Bo false,Bo false,Bo false,Bo false,Bo false] ZY) ?_;rintro _ _ ⟨b6,rfl,rfl⟩;refine gU (az (cs:=#[I 0,I 0,I 0,ay [],ay [],ay [],ay [],ay [],ay [],ay [],ay [],ay [],ay [],ay [],ay [],ay [],ay [],ay [],ay [],Bo false,Bo false,Bo false,Bo false,Bo false,Bo false,Bo false,Bo false,Bo false,Bo false,Bo false,Bo false,Bo false,Bo false,Bo false,Bo false]) (vs:=oY s) (oY s).toArray YQ (by simp) (hcs:=by exact bG))<|ab<|ac<|ac ?_;rw[show iT D.size D.blocks D.dirty D.time D.next (sl S D.snaps.length cs)=iT D.size D.blocks (dK D i 0) D.time D.next (sl S D.snaps.length cs) by rw[K_zero.1],show bU D.snaps=bU (AF D i 0) by rw[K_zero.2]];refine al<|T<|ak ?_;refine aL (α:=Nat) (λk=>k<=16) (λk=>U [(0,ptr b 0),(5,I i),(6,ptr b6 0),(7,I k)]) (λk=>pcc b6 (oY s).toArray 247::pcc b (iT ((D).size) ((D).blocks) (dK D i k) ((D).time) ((D).next) (sl S (D).snaps.length cs)) 139::be 247 35 S cs (bU (AF D i k))::F) (λk=>16 - k) 0 (by simp) [0,5,6,7] rfl ?_;intro k hk16;refine ac<|A<|C<|M aG<|ab<|ah ?_ ?_<;>intro h21
  ·simp at h21;have hk:k<16:=(by omega);refine ai<|ac<|ak<|ac<|A<|C<|gF 19 Ze W YG<|M (bp k Zh XL hk)<|M (aA (v:=Bo (s.dirty k)) Yp (hv:=⟨RK _ _ hk⟩))<|M cS<|ab<|ah ?_ ?_<;>intro V
   ·simp at V;refine aF ?_;refine al<|C<|gP<|T ?_;rw[Wt (by rw[R];exact V),UF (by rw[R];exact V)];exact an (k+1) (by omega) (by omega) [0,5,6,7] rfl
   ·simp at V;refine ai<|A<|C<|gP<|C<|M aa<|gF 35 XW W Yy<|gL (sl S D.snaps.length cs) YX<|M (aP YK)<|M bE<|ab<|ah ?_ ?_<;>intro h36
    ·simp at h36;have J:¬(i+1<D.snaps.length):=(by omega);refine ac ?_;refine dy jM ?_;refine dM W<|dV W aa<|dF W 33 XW W Xu<|dL W (I D.time) Xv<|dF W 1 Ze W Xu<|dL W (I s.time) Xv<|dV W bE ?_;refine aN<|ah ?_ ?_<;>intro X
     ·simp at X;refine al<|C<|C<|M aa<|gF 17 XW W YG<|M (bp k Zh XL hk)<|gU (aJ (iT ((D).size) ((D).blocks) (dK D i (k+1)) ((D).time) ((D).next) (sl S (D).snaps.length cs)) XL (by rw[iA];omega) (hcs:=by rw[uN _ _ _ _ _ _ _ hk,UE J (by rw[R];exact X) (by rw[R];exact V)]))<|ab<|aE<|al<|C<|gP<|T ?_;rw[DO (k:=k) (λhh=>J hh.1)];exact an (k+1) (by omega) (by omega) [0,5,6,7] rfl
     ·simp at X;refine ai<|aE<|al<|C<|gP<|T ?_;rw[DO (k:=k) (λhh=>J hh.1),HM (k:=k) (λhh=>X (by rw[R] at hh;exact hh.2))];exact an (k+1) (by omega) (by omega) [0,5,6,7] rfl
    ·simp at h36;have J:i+1<D.snaps.length:=(by omega);have O:i+1<(bU (AF D i k)).length:=(by rw[fg,uR];exact J);refine ac ?_;refine dy jI ?_;refine dM W<|dV W aa<|dF W 35 XW W Yy<|dL W (sl S D.snaps.length cs) YX<|dM W<|dV W (bx (cK (by omega)))<|dV W (av (i+1) YK YQ J O)<|dV W (aK (j:=(i+1)) 1 Ze W Xu O)<|dV W (bS (v:=I (tK D i k).time) Xv (gq (OT J)))<|dF W 1 Ze W Xu<|dL W (I s.time) Xv<|dV W bE ?_;refine aN<|ah ?_ ?_<;>intro Y
     ·simp at Y;refine al<|C<|M aa<|gF 35 XW W Yy<|gL (sl S D.snaps.length cs) YX<|C<|gP<|C<|M (av (i+1) YK YQ J O)<|M (aK (j:=(i+1)) 19 Ze W YG O)<|M (yb (i:=i+1) (f:=19) k Zh XL W W W hk O)<|io (tr (row:=oY (tK D i k)) (f:=19+k*1) XL (gq (OT J)) (by omega)) ?_;rintro _ _ rfl;rw[RL J (by rw[R];rw[<-JT (k:=k)];exact Y) (by rw[R];exact V) hk];refine ab<|aE<|al<|C<|gP<|T ?_;rw[HM (k:=k) (λhh=>hh.1 J)];exact an (k+1) (by omega) (by omega) [0,5,6,7] rfl
     ·simp at Y;refine ai<|aE<|al<|C<|gP<|T ?_;rw[HM (k:=k) (λhh=>hh.1 J),DO (k:=k) (λhh=>Y (by rw[JT];rw[R] at hh;exact hh.2))];exact an (k+1) (by omega) (by omega) [0,5,6,7] rfl
  ·simp at h21;obtain rfl:k=16:=(by omega);refine aF ?_;refine ac ?_;refine aY 247 35 [] ?_;refine eE (Lf:=pcc b (iT ((D).size) ((D).blocks) (dK D i 16) ((D).time) ((D).next) (sl S (D).snaps.length cs)) 139::F) (plN [0,2,4,6,8,10,12,16,18,20,22,24,26,28,15,31,32,34]) 18 ?_;refine dM rfl<|dM rfl<|dV rfl aa<|dF rfl 35 XW rfl Yy<|dL rfl (sl S D.snaps.length cs) YX<|dM rfl<|dV rfl (lO (h:=i) YK YQ rfl rfl rfl (by omega))<|dM rfl<|dV rfl aa<|dF rfl 35 XW rfl Yy<|dL rfl (sl S D.snaps.length cs) YX<|dM rfl<|dV rfl (bx (cK (by omega)))<|dV rfl (iG (l:=i+1) YK YQ rfl rfl (by omega) (by omega))<|cQ rfl (x9 (s2:=S) (p:=0) YK YQ ZY rfl Tryz.typeInfo247 (by decide) rfl rfl rfl (.inl ⟨rfl,rfl⟩) (by rw[fg,uR];omega) (λr hr=>by simp only[bU,kbV] at hr;obtain ⟨x,_,rfl⟩:=hr;rfl) (λr hr=>by simp only[bU,kbV] at hr;obtain ⟨x,_,rfl⟩:=hr;rfl) ⟨by omega,by decide,by decide⟩) ?_;rintro _ _ ⟨s78,c78,rfl,rfl⟩;refine cQ rfl (x9 (s2:=S) (p:=i+1) YK YQ ZY rfl Tryz.typeInfo247 (by decide) rfl rfl (by simp[bU,uR];omega) (by unfold At;split;exact .inr<|.inr (by omega);exact .inr<|.inl rfl) (by rw[fg,uR];omega) (λr hr=>by simp only[bU,kbV] at hr;obtain ⟨x,_,rfl⟩:=hr;rfl) (λr hr=>by simp only[bU,kbV] at hr;obtain ⟨x,_,rfl⟩:=hr;rfl) ⟨by omega,by decide,by decide⟩) ?_;rintro _ _ ⟨s86,Z,rfl,rfl⟩;rw[Lt _ _ _ uR];refine dV W aa<|dF W 35 XW W Yy ?_;refine aN ?_;refine gU (aJ (iT ((D).size) ((D).blocks) (dK D i 16) ((D).time) ((D).next) (sl s86 (0+i+(D.snaps.length - (i+1))) Z)) Yy (by rw[iA];decide) (hcs:=by exact BW _ _ _ _ _ _ _))<|ab<|A<|T ?_;rw[UG,show bU ((AF D i 16).eraseIdx i)=bU ((oV D i).eraseIdx i) from HN RM];refine e8 (iT ((D).size) ((D).blocks) (oq D i) ((D).time) ((D).next) (sl s86 (0+i+(D.snaps.length - (i+1))) Z)) (bU ((oV D i).eraseIdx i)) s86 Z b (⟨D.size,D.blocks,oq D i,D.time,D.next,(oV D i).eraseIdx i⟩) (hC:=by rw[kcK,show (oV D i).length=D.snaps.length by unfold oV;split <;> simp,kaT hil,show 0+i+(D.snaps.length - (i+1))=D.snaps.length - 1 by omega]) ?_;rw[show iD b ⟨D.size,D.blocks,oq D i,D.time,D.next,(oV D i).eraseIdx i⟩=iD b (HL D id) by unfold HL;rw[iOm,hfi,kcy]]
   exact am rfl rfl (by rw[show HK D id=0 by unfold HK;rw[iOm]];rfl)
def ng b D x y(hsl:D.snaps.length<=1000000)F:cqq 72 [ptr b 0,I x,I y] (iD b (D)::F) (WI (λv=> .tuple #[v,I (kT D x y)]) 142 2 (iC D x y).length (aV (iC D x y)) (iD b (D)::F)):=by
 refine Ct.of func72 W 77 ntmps72 (by simp) λw0=>?_;refine A<|gA<|T<|A<|C<|C<|gR (vB call151 (jw b D x (by omega)))<|T<|A<|C<|C<|gR (vB call151 (jw b D y (by omega)))<|T<|ac<|A<|C<|M aG<|C<|gK ao<|gK aG<|M cv<|ab<|ah ?_ ?_<;>intro h24
 ·simp at h24;refine A<|gA<|T ?_;have hE:kT D x y=5:=(by unfold kT;rw[kaT (by omega)]);have hA:iC D x y=[]:=(by unfold iC;rw[iOm]);refine aY 142 2 (aV (iC D x y)) (hr:=by rw[hA];rfl) ?_;exact nA (f:=λv=> .tuple #[v,I (kT D x y)]) rfl rfl (by rw[hA]) (by rw[hE];rfl)
 ·simp at h24;refine ai<|ac<|ac ?_;obtain ⟨ia,sa,O,hsa,_,hla⟩:=ik (show ¬dI D.snaps x<0 by omega);obtain ⟨ib,sb,R,hsb,_,hlb⟩:=ik (show ¬dI D.snaps y<0 by omega);rw[O,R];refine al<|C<|C<|M aQ<|ab ?_;refine lV (α:=Unit) (λ_=>True) (λ_=>U [(0,ptr b 0),(8,I ((oW D x y:Nat):Int)),(9,I ((pU D x y:Nat):Int))]) (λ_=>iD b (D)::F) ?_ ?_
  ·apply ah<;>intro h27
   ·simp at h27;refine al<|C<|C<|gA<|T ?_;rw[show ((ib:Nat):Int)=((oW D x y:Nat):Int) by unfold oW;rw[O,R,kaT (by omega)];simp,show ((ia:Nat):Int)=((pU D x y:Nat):Int) by unfold pU;rw[O,R,iOm];simp];exact cJ () trivial [0,8,9] rfl
   ·simp at h27;refine ai ?_;rw[show ((ia:Nat):Int)=((oW D x y:Nat):Int) by unfold oW;rw[O,R,iOm];simp,show ((ib:Nat):Int)=((pU D x y:Nat):Int) by unfold pU;rw[O,R];split <;> simp <;> omega];exact cJ () trivial [0,8,9] rfl
  rintro ⟨⟩ -;refine ac<|ac ?_;refine kN b (D) ?_;intro V cs;have hb1:oW D x y<D.snaps.length:=(by unfold oW;rw[O,R];split <;> rw[kcy] <;> assumption);have hb2:pU D x y<D.snaps.length:=(by unfold pU;rw[O,R];split <;> rw[kcy] <;> assumption);have hb3:oW D x y<=pU D x y:=(by unfold oW pU;rw[O,R];split <;> split <;> simp <;> omega);generalize AG:oW D x y=J at*;generalize hhi:pU D x y=hi at*;obtain ⟨s1,hs1⟩:∃s,D.snaps[J]? =some s:=⟨_,kbN hb1⟩;obtain ⟨s2,hs2⟩:∃s,D.snaps[hi]? =some s:=⟨_,kbN hb2⟩;have hr1:J<(bU D.snaps).length:=(by rw[fg];exact hb1);have hr2:hi<(bU D.snaps).length:=(by rw[fg];exact hb2);have Z:=dP hs1;have hse2:=dP hs2;refine dy jC ?_;refine dM W<|dV W aa<|dF W 35 XW W Yy<|dL W (sl V D.snaps.length cs) YX<|dM W<|dV W (av J YK YQ hb1 hr1)<|dV W (aK (j:=J) 1 Ze W Xu hr1)<|dV W (bS (v:=I s1.time) Xv (gq hs1))<|dM W<|dV W aa<|dF W 35 XW W Yy<|dL W (sl V D.snaps.length cs) YX<|dM W<|dV W (av hi YK YQ hb2 hr2)<|dV W (aK (j:=hi) 1 Ze W Xu hr2)<|dV W (bS (v:=I s2.time) Xv (gq hs2))<|dV W iE ?_;refine aN<|ah ?_ ?_<;>intro Y
  ·simp at Y;have hE:kT D x y=7:=(by unfold kT;rw[iOm,AG,hhi,Z,hse2,kaT Y]);have hA:iC D x y=[]:=(by unfold iC;rw[iOm]);refine A<|gA<|T ?_;refine e8 (iT ((D).size) ((D).blocks) ((D).dirty) ((D).time) ((D).next) (sl V (D).snaps.length cs)) (bU (D).snaps) V cs b (D) ?_;refine aY 142 2 (aV (iC D x y)) (hr:=by rw[hA];rfl) ?_;exact nA (f:=λv=> .tuple #[v,I (kT D x y)]) rfl rfl (by rw[hA]) (by rw[hE];rfl)
  ·simp at Y;have hE:kT D x y=0:=(by unfold kT;rw[iOm,AG,hhi,Z,hse2,kaU (λhh=>hh Y)]);have hA:iC D x y=dr (AC D J (hi - J)):=(by unfold iC;rw[kaT hE,AG,hhi]);refine ai<|A<|gI (aO (bA (λ_=>false)) (λw=>by rw[L8];exact ZZ w)) ?_;rintro _ _ ⟨X,rfl,rfl⟩;rw[show bA (λ_=>false)=bA (AC D J 0) from rfl];refine ab<|ac<|A<|C<|gP<|T<|ak ?_;refine aL (α:=Nat) (λc=>c<=hi - J) (λc=>U [(0,ptr b 0),(9,I hi),(10,ptr X 0),(11,I ((J:Int)+1+c))]) (λc=>pcc X (bA (AC D J c)) 136::pcc b (iT ((D).size) ((D).blocks) ((D).dirty) ((D).time) ((D).next) (sl V (D).snaps.length cs)) 139::be 247 35 V cs (bU D.snaps)::F) (λc=>hi - J - c) 0 (by simp) [0,9,10,11] rfl ?_;intro c hc;refine ac<|A<|C<|C<|M qe<|ab<|ah ?_ ?_<;>intro h51
   ·simp at h51;refine ai<|ac<|ak<|ac ?_;obtain ⟨s3,hs3⟩:∃s,D.snaps[J+1+c]? =some s:=⟨_,kbN (by omega)⟩;have hkc:J+1+c<D.snaps.length:=(by omega);have S:J+1+c<(bU D.snaps).length:=(by rw[fg];exact hkc);have hs3e:=dP hs3;rw[show bA (AC D J c)=bA (OV (AC D J c) s3.dirty 0) by rw[OX]];refine al<|T<|ak ?_;refine aL (α:=Nat) (λk=>k<=16) (λk=>U [(0,ptr b 0),(9,I hi),(10,ptr X 0),(11,I ((J:Int)+1+c)),(12,I k)]) (λk=>pcc X (bA (OV (AC D J c) s3.dirty k)) 136::pcc b (iT ((D).size) ((D).blocks) ((D).dirty) ((D).time) ((D).next) (sl V (D).snaps.length cs)) 139::be 247 35 V cs (bU D.snaps)::F) (λk=>16 - k) 0 (by simp) [0,9,10,11,12] rfl ?_;intro k hk16;refine ac<|A<|C<|M aG<|ab<|ah ?_ ?_<;>intro h55
    ·simp at h55;have hk:k<16:=(by omega);refine ai<|ac<|ak<|al<|C<|C<|M (bp k Zh XL hk)<|M (aA (v:=Bo (OV (AC D J c) s3.dirty k k)) Yp (hv:=⟨qQ hk⟩))<|C<|gK ao<|gK aa<|gK (aw 35 XW W Yy)<|gK (aA (v:=sl V D.snaps.length cs) YX (hv:=⟨rfl⟩))<|gK ao<|gK ao<|gK (av (J+1+c) YK YQ (hj:=by omega) hkc S)<|gK (aK (j:=(J+1+c)) 19 Ze W YG S)<|gK (yb (i:=J+1+c) (f:=19) k Zh XL W W W hk S)<|gK (bS (f:=19+k*1) (v:=Bo (s3.dirty k)) Yp (gq hs3) (hv:=⟨OP _ _ hk⟩))<|M cv<|M (bp k Zh XL hk)<|gU (aJ (bA (OV (AC D J c) s3.dirty (k+1))) XL (by simp[bA,bL];omega) (hcs:=by rw[x3 hk,OW]))<|ab<|aE<|al<|C<|gP<|T ?_;exact an (k+1) (by omega) (by omega) [0,9,10,11,12] rfl
    ·simp at h55;obtain rfl:k=16:=(by omega);refine aF ?_;refine aE<|al<|C<|gP<|T ?_;rw[RN,show tu (AC D J c) s3.dirty=AC D J (c+1) by rw[<-hs3e];rfl];exact an (c+1) (by omega) (by omega) [0,9,10,11] rfl (he:=by simp[U];try omega)
   ·simp at h51;obtain rfl:c=hi - J:=(by omega);refine aF ?_;refine A<|M (bj (vs:=bL (AC D J (hi - J))) Z7 YG (hl:=jh _) ls)<|gI (uA call152 (u5 (AC D J (hi - J)))) ?_;rintro _ _ ⟨s76,c76,rfl,rfl⟩;refine gA<|T ?_;refine e8 (iT ((D).size) ((D).blocks) ((D).dirty) ((D).time) ((D).next) (sl V (D).snaps.length cs)) (bU (D).snaps) V cs b (D) ?_;rw[<-hA];exact nA (f:=λv=> .tuple #[v,I (kT D x y)]) rfl rfl rfl (by rw[hE];rfl)
theorem UH D a:0<=(fy D a).2:=by grind[fy]
theorem UI D x y:0<=kT D x y:=by grind[kT]
def kinds:kS≠kW/\kS≠kZ:=by decide
theorem Wu D x y:(iC D x y).length<=1000000:=by grind[iC,ly]
theorem uS {m n}:∀{k:Nat},(∀p,p<k->m p=n p)->cM m k=cM n k
 | 0,_=>rfl
 | k+1,h=>by simp only[cM,uS (k:=k) (λp hp=>h p (by omega)),h k (by omega)]
theorem DP {m}:∀{k:Nat},(∀p,p<k->m p=false)->cM m k=0
 | 0,_=>rfl
 | k+1,h=>by simp[cM,DP (k:=k) (λp hp=>h p (by omega)),h k (by omega)]
def wH (m:Nat->Bool)(f t:Int)(p:Nat):Bool:=m p && (decide (f<=p) && decide ((p:Int)<t))
variable {f:Int}
theorem JU j:cM (wH m f k) (k+j)=cM (wH m f k) k:=by
 induction j with
 | zero=>rfl
 | succ j J=>grind[cM,wH]
theorem RO (h:k<16):cM (wH m f (k+1:Nat)) 16=cM (wH m f k) 16+if m k=true/\f<=k then 1 else 0:=by
 have J:cM (wH m f (k+1:Nat)) 16=cM (wH m f (k+1:Nat)) (k+1):=by
  have:=JU (m:=m) (f:=f) (k:=k+1) (15 - k);grind
 have O:cM (wH m f k) 16=cM (wH m f k) k:=by
  have:=JU (m:=m) (f:=f) (k:=k) (16 - k);grind
 rw[J,O,cM,uS (m:=wH m f (k+1:Nat)) (n:=wH m f k)]
 ·grind[wH]
 grind[wH]
def OY (m:Nat->Bool)(f many:Int)(r:(Nat->Bool)×Int):Prop:=
 (r.2= -1/\(∀p,p<16->r.1 p=wH m f 16 p)/\cM r.1 16<=many)\/(f<r.2/\r.2<16/\(∀p,p<16->r.1 p=wH m f r.2 p)/\cM r.1 16=many)
theorem OZ m f many(R:0<=f)(h1:1<=many):∀(r k:Nat) (out:Nat->Bool) (n:Nat),r+k=16->(∀p,p<16->out p=wH m f k p)->n=cM out 16->(n:Int)<=many->OY m f many (pg m f many r k out n)
 | 0,k,out,n,hr,ho,hn,hm=>by
  obtain rfl:k=16:=(by omega);exact .inl ⟨rfl,ho,by show (cM out 16:Int)<=many;omega⟩
 | r+1,k,out,n,hr,ho,hn,hm=>by
  have hk:k<16:=(by omega);unfold pg;have hcs:cM out 16=cM (wH m f k) 16:=uS ho;by_cases O:(!m k || decide ((k:Int)<f))=true
  ·rw[kaT O];refine OZ m f many R h1 r (k+1) out n (by omega) (λp hp=>?_) hn hm
   grind[wH]
  ·rw[kaU O];simp at O;by_cases J:(n:Int)=many
   ·rw[kaT J];refine .inr ⟨?_,by simp only;omega,ho,by grind⟩
    grind[DP,wH]
   ·rw[kaU J];have key:∀p,p<16->(if p=k then true else out p)=wH m f (k+1:Nat) p:=λp hp=>by
     grind[wH]
    refine OZ m f many R h1 r (k+1) (λi=>if i=k then true else out i) (n+1) (by omega) key ?_ (by omega)
    grind[uS,RO]
def RP m{many}(J:0<=f)(h1:1<=many):OY m f many (ov m f many):=
 OZ m f many J h1 16 0 (λ_=>false) 0 rfl (λp hp=>by simp[wH]) (by rw[DP (by simp)]) (by omega)
def kO (V:VdM)(snap sess:Int):List Nat->RpM->Int->RpM->Prop
 | [],z,e,z2=>e=0/\z2=z
 | p::l,z,e,z2=>if (lm V snap p).2.2≠0 then e=(lm V snap p).2.2/\z2=z else if ez z sess p (lm V snap p).1≠0 then e=ez z sess p (lm V snap p).1/\z2=z else ∃so co,kO V snap sess l (z.putted sess p (lm V snap p).1 so co) e z2
def gt (m:Nat->Bool)(f:Nat):List Nat:=(List.range' f (16 - f)).filter m
def BX (h:k<16):gt m k=if m k=true then k::gt m (k+1) else gt m (k+1):=by
 unfold gt;rw[show 16 - k=(16 - (k+1))+1 by omega,List.range'_succ,List.filter_cons]
theorem F8 (h:16<=k):gt m k=[]:=by
 grind[gt]
theorem BZ {q}{f t:Nat}(S:f<=t)(ht:t<=16)(hq:∀p,p<16->q p=wH m f t p):gt q 0++gt m t=gt m f:=by
 unfold gt;have O:List.range' 0 (16 - 0)=List.range' 0 f++(List.range' f (t - f)++List.range' t (16 - t)):=by
  rw[show List.range' f (t - f)++List.range' t (16 - t)=List.range' f (16 - f) by
   have:=kdv (s:=f) (m:=t - f) (n:=16 - t)
   grind]
  have:=kdv (s:=0) (m:=f) (n:=16 - f)
  grind
 have R:List.range' f (16 - f)=List.range' f (t - f)++List.range' t (16 - t):=by
  have:=kdv (s:=f) (m:=t - f) (n:=16 - t);rw[show f+(t - f)=t by omega,show t - f+(16 - t)=16 - f by omega] at this;exact this.symm
 rw[O,R,kb9,kb9,kb9];have J:(List.range' 0 f).filter q=[]:=kcC.2 λp hp=>by
  grind[wH]
 have a2:(List.range' t (16 - t)).filter q=[]:=kcC.2 λp hp=>by
  grind[wH]
 have a3:(List.range' f (t - f)).filter q=(List.range' f (t - f)).filter m:=kdw λp hp=>by
  rw[kch] at hp;rw[hq p (by omega)];simp[wH];omega
 rw[J,a2,a3];simp
theorem RQ q(h:k<16):Ek (dr q) (k:Int)=q k:=by
 grind[RB,tc]
theorem Lu {many}(R:0<=f/\f<=16)(h1:1<=many):∃t:Nat,f.toNat<=t/\t<=16/\gt (ov m f many).1 0++gt m t=gt m f.toNat/\(((ov m f many).2<0/\t=16)\/(f<(ov m f many).2/\(ov m f many).2=t)):=by
 rcases RP m R.1 h1 with ⟨J,O,_⟩ | ⟨J,O,S,_⟩
 ·grind[BZ]
 ·exact ⟨(ov m f many).2.toNat,by omega,by omega,BZ (by omega) (by omega) λp hp=>by grind, .inr ⟨J,by omega⟩⟩
def w7 bv b Y V z0 sess J l s cap O(hR0:Rok z0)(hsl:V.snaps.length<=1000000)(hsz:∀s∈V.snaps,s.size<=16)(hdl:∀p,(lm V J p).1.length<=9223372036854775807)(hl:l.length<=1000000)(hv:Cj l)(hp1:1<=O)F:cqq 144 [ptr bv 0,ptr b 0,I sess,I J,sl s l.length cap,I O] (gp bv V::dD b Y z0::roL 2 s (aV l)::F) (λv L'=>∃e z2,kO V J sess (gt (mk l) 0) z0 e z2/\v=bQ e/\L'=gp bv V::dD b Y z2::roL 2 s (aV l)::F):=by
 refine Ct.of func144 W 56 ntmps144 (by simp) λw0=>?_;refine A<|T<|A<|T<|ac<|ak ?_;refine aL (α:=Int×RpM) (λy=>y.1<=16/\Rok y.2/\∀e z2,kO V J sess (if y.1<0 then [] else gt (mk l) y.1.toNat) y.2 e z2->kO V J sess (gt (mk l) 0) z0 e z2) (λy=>U [(0,ptr bv 0),(1,ptr b 0),(2,I sess),(3,I J),(4,sl s l.length cap),(5,I O),(13,I y.1)]) (λy=>gp bv V::dD b Y y.2::roL 2 s (aV l)::F) (λy=>if y.1<0 then 0 else 17 - y.1.toNat) (0,z0) ⟨by simp,hR0,λe z2 h=>h⟩ [0,1,2,3,4,5,13] rfl ?_;rintro ⟨fr,z1⟩ ⟨hf16,hR1,Z⟩;simp only[] at hf16 hR1 Z ⊢;refine ac<|A<|C<|M kp<|ab<|ah ?_ ?_<;>intro h21
 ·have hfr:0<=fr/\fr<=16:=⟨by simpa using h21,hf16⟩;refine ai<|ak<|A<|C<|C<|C<|gI (uB call210 (Ck l s cap fr O hl hv)) ?_;rintro _ _ ⟨X,c26,rfl,rfl⟩;obtain ⟨t,ht1,ht2,hpos,hnx⟩:=Lu (m:=mk l) (f:=fr) (many:=O) hfr hp1;refine bz X ?_;generalize (ov (mk l) fr O).1=q at*;generalize (ov (mk l) fr O).2=nx at*;refine C<|gX (sl X (dr q).length c26)<|gX (I nx)<|gA<|T<|ac<|A<|C<|ab<|ak ?_;refine aL (α:=Nat×RpM) (λy=>y.1<=16/\Rok y.2/\∀e z2,kO V J sess (gt q y.1++gt (mk l) t) y.2 e z2->kO V J sess (gt (mk l) 0) z0 e z2) (λy=>U [(0,ptr bv 0),(1,ptr b 0),(2,I sess),(3,I J),(4,sl s l.length cap),(5,I O),(14,sl X (dr q).length c26),(15,I nx),(29,I y.1)]) (λy=>gp bv V::dD b Y y.2::roL 2 X (aV (dr q))::roL 2 s (aV l)::F) (λy=>16 - y.1) (0,z1) ⟨by simp,hR1,λe z2 h=>Z e z2 (by rw[iOm,<-hpos];exact h)⟩ [0,1,2,3,4,5,14,15,29] rfl ?_;rintro ⟨k,z⟩ ⟨hk,hR,hI⟩;simp only[] at hk hR hI ⊢;refine A<|M aG<|ab<|ac<|ah ?_ ?_<;>intro h30
  ·simp at h30;have S:k<16:=(by omega);refine ai<|ac<|ak<|A<|C<|T<|ac<|A<|C<|C<|gR (vB call211 (El (dr q) X c26 (k:Int) (by unfold Td;omega) (by have:=ly q;omega) (lB q))) ?_;rw[RQ q S];refine M cS<|ab<|ah ?_ ?_<;>intro h35
   ·have hqk:q k=false:=(by simpa using h35);refine aF ?_;refine al<|gP<|C<|ab ?_;exact an (k+1,z) ⟨by simp only[];omega,hR,λe z2 h=>hI e z2 (by rw[BX S,kaU (by rw[hqk];simp)];exact h)⟩ (by simp only[];omega) [0,1,2,3,4,5,14,15,29] rfl
   ·have hqk:q k=true:=(by simpa using h35);have hq0:gt q k=k::gt q (k+1):=(by rw[BX S,kaT hqk]);rw[hq0] at hI;refine ai<|A<|C<|C<|C<|gR (vB call212 (AB bv V J (k:Int) hsl hsz))<|C<|gX (ay (lm V J (k:Int)).1)<|gX (I (lm V J (k:Int)).2.1)<|gX (bQ (lm V J (k:Int)).2.2)<|gA<|gA<|T<|ac<|A<|C<|M (fX XF)<|ab<|ah ?_ ?_<;>intro h45
    ·have hrd:(lm V J (k:Int)).2.2=0:=(by simpa using h45);refine al<|C<|C<|C<|C<|gI (uB call32 (vY b Y z sess (k:Int) (lm V J (k:Int)).1 hR (hdl _))) ?_;rintro _ _ (⟨he,rfl,rfl⟩ | ⟨he,so,co,rfl,rfl⟩)
     ·refine T<|A<|C<|M (bX XF)<|ab<|ah ?_ ?_<;>intro R
      ·refine A<|C<|T ?_;exact ar (gp bv V::dD b Y z::roL 2 s (aV l)::F) rfl ⟨_,z,hI _ z (by show kO V J sess (k::(gt q (k+1)++gt (mk l) t)) z _ z;unfold kO;rw[iOm,kaT he];exact ⟨rfl,rfl⟩),rfl,rfl⟩
      ·have hz:ez z sess (k:Int) (lm V J (k:Int)).1=0:=(by simpa using R);exact absurd hz he
     ·refine T<|A<|C<|M (bX XF)<|ab<|ah ?_ ?_<;>intro R
      ·simp at R
      ·refine ai<|aE<|al<|gP<|C<|ab ?_;exact an (k+1,z.putted sess (k:Int) (lm V J (k:Int)).1 so co) ⟨by simp only[];omega,hR.put he,λe z2 h=>hI e z2 (by show kO V J sess (k::(gt q (k+1)++gt (mk l) t)) z e z2;unfold kO;rw[iOm,iOm];exact ⟨so,co,h⟩)⟩ (by simp only[];omega) [0,1,2,3,4,5,14,15,29] rfl
    ·have hrd:¬(lm V J (k:Int)).2.2=0:=(by simpa using h45);refine ai<|A<|C<|M (bX XF)<|ab<|ah ?_ ?_<;>intro R
     ·refine A<|C<|T ?_
      first | exact ar (gp bv V::dD b Y z1::roL 2 s (aV l)::F) rfl ⟨0,z1,Z 0 z1 (by rw[kaT hfr];exact ⟨rfl,rfl⟩),rfl,rfl⟩ | exact ar (gp bv V::dD b Y z::roL 2 s (aV l)::F) rfl ⟨_,z,hI _ z (by show kO V J sess (k::(gt q (k+1)++gt (mk l) t)) z _ z;unfold kO;rw[kaT hrd];exact ⟨rfl,rfl⟩),rfl,rfl⟩
     ·exact absurd (by simpa using R) hrd
  ·simp at h30;obtain rfl:k=16:=(by omega);refine aF ?_;refine al<|C<|T<|aE ?_;refine an (nx,z) ⟨by simp only[];omega,hR,?_⟩ ?_ [0,1,2,3,4,5,13] rfl
   ·intro e z2 h;refine hI e z2 ?_;rw[F8 (by omega),kby];rcases hnx with ⟨h1,h2⟩ | ⟨h1,h2⟩
    ·rw[h2,F8 (by omega)];rw[kaT h1] at h;exact h
    ·rw[iOm,h2] at h;simpa using h
   ·simp only[];rcases hnx with ⟨h1,h2⟩ | ⟨h1,h2⟩
    ·rw[kaT h1,iOm];omega
    ·rw[iOm,iOm];omega
 ·have hfr:fr<0:=(by simp at h21;omega);refine aF ?_;refine A<|T ?_
  first | exact ar (gp bv V::dD b Y z1::roL 2 s (aV l)::F) rfl ⟨0,z1,Z 0 z1 (by rw[kaT hfr];exact ⟨rfl,rfl⟩),rfl,rfl⟩ | exact ar (gp bv V::dD b Y z::roL 2 s (aV l)::F) rfl ⟨_,z,hI _ z (by show kO V J sess (k::(gt q (k+1)++gt (mk l) t)) z _ z;unfold kO;rw[kaT hrd];exact ⟨rfl,rfl⟩),rfl,rfl⟩
theorem uT {V J sess}:∀{l:List Nat} {z z2:RpM} {e:Int},Rok z->kO V J sess l z e z2->Rok z2/\SameS z z2
 | [],z,z2,e,R,h=>by obtain ⟨_,rfl⟩:=h;exact ⟨R,SameS.refl _⟩
 | p::l,z,z2,e,R,h=>by
  unfold kO at h;by_cases h1:(lm V J p).2.2≠0
  ·grind[SameS.refl]
  ·rw[kaU h1] at h;by_cases O:ez z sess p (lm V J p).1≠0
   ·grind[SameS.refl]
   ·rw[kaU O] at h;obtain ⟨so,co,h⟩:=h;obtain ⟨a,b⟩:=uT (R.put (Decidable.not_not.1 O)) h;exact ⟨a,(n4 _ _ _ _ _ _).trans b⟩
theorem Dk.same {D z2}(h:Dk i D z)(s:SameS z z2):Dk i D z2:=by
 obtain ⟨O,s2,J,_⟩:=s;exact ⟨h.ok,h.s80,by rw[O];exact h.hd,by rw[J];exact h.len,by rw[J];exact h.okr,by rw[s2];exact h.used,by rw[J];exact h.srt⟩
def O0 {l id}(h:hJ l id=none):nW l id=l:=by
 simp_all[hJ,nW]
def pV (D:DiskM)(V:VdM)(z:RpM)(disk snap base:Int)(m:Nat->Bool)(page n e:Int)(D2:DiskM)(z2:RpM):Prop:=
 if (fy V snap).2≠0 then n=0/\e=(fy V snap).2/\D2=D/\z2=z
 else if page<1 then n=0/\e=1/\D2=D/\z2=z
 else if cr z base disk (fy V snap).1≠0 then n=0/\e=cr z base disk (fy V snap).1/\D2=D/\z2=z
 else ∃a e1 z1,kO V snap z.next (gt (mk (dr (uY m (fy V snap).1))) 0) (z.begun a base disk (fy V snap).1) e1 z1/\
  ((e1≠0/\n=0/\e=e1/\D2=D/\z2=z1.sess (nW z1.ses z.next))\/
   (e1=0/\∃n1 e2 y,zw D z1 z.next n1 e2 D2 y/\((e2≠0/\n=0/\e=e2/\z2=y.sess (nW y.ses z.next))\/(e2=0/\n=n1/\e=0/\z2=y))))
def B0 {id}(h:hJ z.ses id=none):z.sess (nW z.ses id)=z:=by rw[O0 h];rfl
def p5 {ee}bv b R V z D disk J base l s cap X(hR:Rok z)(hn:z.next<=999999)(hD:Dk 1000 D z)(hsl:V.snaps.length<=1000000)(hsz:∀s∈V.snaps,s.size<=16)(hdl:∀p,(lm V J p).1.length<=9223372036854775807)(hl:l.length<=1000000)(hv:Cj l)F:cqq 69 [ptr bv 0,ptr b 0,I disk,I J,I base,sl s l.length cap,I X] (bo ee::gp bv V::dD b R z::cj 179 319 R (D)::roL 2 s (aV l)::F) (λv L'=>∃n e D2 z2,pV D V z disk J base (mk l) X n e D2 z2/\v= .tuple #[I n,bQ e]/\L'=dD b R (z2)::gp bv V::cj 179 319 R (D2)::bo ee::roL 2 s (aV l)::F):=by
 refine Ct.of func69 W 71 ntmps69 (by simp) λw0=>?_;refine A<|gA<|T<|A<|C<|C<|gR (vB call143 (wY bv V J hsl))<|C<|gX (I (fy V J).1)<|gX (bQ (fy V J).2)<|gA<|T<|ac<|A<|C<|M (bX XF)<|ab<|ah ?_ ?_<;>intro h27
 ·have O:(fy V J).2≠0:=(by simpa using h27);refine A<|C<|gA<|T ?_;exact ar (dD b R (z)::gp bv V::cj 179 319 R (D)::bo ee::roL 2 s (aV l)::F) rfl ⟨0,(fy V J).2,D,z,by unfold pV;rw[kaT O];exact ⟨rfl,rfl,rfl,rfl⟩,rfl,rfl⟩
 ·have O:¬(fy V J).2≠0:=(by simpa using h27);refine ai<|ac<|A<|C<|M aG<|ab<|ah ?_ ?_<;>intro h30
  ·have S:X<1:=(by simpa using h30);refine A<|M (ba XG)<|gA<|T ?_;exact ar (dD b R (z)::gp bv V::cj 179 319 R (D)::bo ee::roL 2 s (aV l)::F) rfl ⟨0,1,D,z,by unfold pV;rw[kaU O,kaT S];exact ⟨rfl,rfl,rfl,rfl⟩,rfl,rfl⟩
  ·have S:¬X<1:=(by simpa using h30);refine ai<|A<|C<|C<|C<|C<|gI (uB call31 (sV b R z base disk (fy V J).1 hR)) ?_;rintro _ _ (⟨hbe,rfl,rfl⟩ | ⟨hbe,a,rfl,rfl⟩)
   ·refine C<|gX (I 0)<|gX (bQ (cr z base disk (fy V J).1))<|gA<|T<|ac<|A<|C<|M (bX XF)<|ab<|ah ?_ ?_<;>intro h41
    ·refine A<|C<|gA<|T ?_;exact ar (dD b R (z)::gp bv V::cj 179 319 R (D)::bo ee::roL 2 s (aV l)::F) rfl ⟨0,cr z base disk (fy V J).1,D,z,by unfold pV;rw[kaU O,kaU S,kaT hbe];exact ⟨rfl,rfl,rfl,rfl⟩,rfl,rfl⟩
    ·exact absurd (by simpa using h41) hbe
   ·refine C<|gX (I z.next)<|gX (bQ 0)<|gA<|T<|ac<|A<|C<|M (bX XF)<|ab<|ah ?_ ?_<;>intro h41
    ·simp at h41
    ·refine ai<|A<|C<|C<|C<|C<|C<|C<|gI (uB call145 (Ej l s cap (fy V J).1 hl hv)) ?_;rintro _ _ ⟨s49,c49,rfl,rfl⟩;refine bz s49 ?_;refine C<|gI (uD call144 (w7 bv b R V (z.begun a base disk (fy V J).1) z.next J (dr (uY (mk l) (fy V J).1)) s49 c49 X (hR.begin hn hbe) hsl hsz hdl (by have:=ly (uY (mk l) (fy V J).1);omega) (lB _) (by omega))) ?_;rintro _ _ ⟨e1,Y,Z,rfl,rfl⟩;obtain ⟨hR1,hS1⟩:=uT (hR.begin hn hbe) Z;have hD1:Dk 1000 D Y:=Dk.same (z:=(z.begun a base disk (fy V J).1)) ⟨hD.ok,hD.s80,hD.hd,hD.len,hD.okr,hD.used,hD.srt⟩ hS1;refine T<|ac<|A<|C<|M (bX XF)<|ab<|ah ?_ ?_<;>intro h53
     ·have he1:e1≠0:=(by simpa using h53);refine A<|C<|C<|gI (uB call44 (m9 b R (Y) z.next)) ?_;rintro _ _ (⟨hno,rfl,rfl⟩ | ⟨w,hw,rfl,rfl⟩);rotate_left
      ·refine ab<|A<|C<|gA<|T ?_;exact ar (dD b R (Y.sess (nW Y.ses z.next))::gp bv V::cj 179 319 R (D)::bo ee::roL 2 s (aV l)::F) rfl ⟨0,e1,D,Y.sess (nW Y.ses z.next),by unfold pV;rw[kaU O,kaU S,iOm];exact ⟨a,e1,Y,Z, .inl ⟨he1,rfl,rfl,rfl,rfl⟩⟩,rfl,rfl⟩
      ·rw[<-B0 hno];refine ab<|A<|C<|gA<|T ?_;exact ar (dD b R (Y.sess (nW Y.ses z.next))::gp bv V::cj 179 319 R (D)::bo ee::roL 2 s (aV l)::F) rfl ⟨0,e1,D,Y.sess (nW Y.ses z.next),by unfold pV;rw[kaU O,kaU S,iOm];exact ⟨a,e1,Y,Z, .inl ⟨he1,rfl,rfl,rfl,rfl⟩⟩,rfl,rfl⟩
     ·have he1:e1=0:=(by simpa using h53);subst he1;refine ai<|A<|C<|C<|gI (uD (A0:=bo ee) call33 (rO b R 1000 Y z.next hR1 D hD1 (by decide))) ?_;rintro _ _ ⟨n1,e2,D2,y,hf,rfl,rfl⟩;refine C<|gX (I n1)<|gX (bQ e2)<|gA<|T<|ac<|A<|C<|M (bX XF)<|ab<|ah ?_ ?_<;>intro h65
      ·have he2:e2≠0:=(by simpa using h65);refine A<|C<|C<|gI (uB call44 (m9 b R (y) z.next)) ?_;rintro _ _ (⟨hno,rfl,rfl⟩ | ⟨w,hw,rfl,rfl⟩);rotate_left
       ·refine ab<|A<|C<|gA<|T ?_;exact ar (dD b R (y.sess (nW y.ses z.next))::gp bv V::cj 179 319 R (D2)::bo ee::roL 2 s (aV l)::F) rfl ⟨0,e2,D2,y.sess (nW y.ses z.next),by unfold pV;rw[kaU O,kaU S,iOm];exact ⟨a,0,Y,Z, .inr ⟨rfl,n1,e2,y,hf, .inl ⟨he2,rfl,rfl,rfl⟩⟩⟩,rfl,rfl⟩
       ·rw[<-B0 hno];refine ab<|A<|C<|gA<|T ?_;exact ar (dD b R (y.sess (nW y.ses z.next))::gp bv V::cj 179 319 R (D2)::bo ee::roL 2 s (aV l)::F) rfl ⟨0,e2,D2,y.sess (nW y.ses z.next),by unfold pV;rw[kaU O,kaU S,iOm];exact ⟨a,0,Y,Z, .inr ⟨rfl,n1,e2,y,hf, .inl ⟨he2,rfl,rfl,rfl⟩⟩⟩,rfl,rfl⟩
      ·have he2:e2=0:=(by simpa using h65);subst he2;refine ai<|A<|C<|gA<|T ?_;exact ar (dD b R (y)::gp bv V::cj 179 319 R (D2)::bo ee::roL 2 s (aV l)::F) rfl ⟨n1,0,D2,y,by unfold pV;rw[kaU O,kaU S,iOm];exact ⟨a,0,Y,Z, .inr ⟨rfl,n1,0,y,hf, .inr ⟨rfl,rfl,rfl,rfl⟩⟩⟩,rfl,rfl⟩
def SQ x y w:(Instr.build 142 #[(0,I x),(1,I y)]).run Tryz.prog w= .ok (.agg #[I x,I y]) w:=by
 simp[Instr.build,Zf,kar,Xu,Instr.fill,bB,show ∀k:Int,(I k).cells=#[I k] from λ_=>rfl]
def z6:List Area:=[⟨0,16⟩]
def JV:Cj z6:=λa J=>by
 unfold z6 at J;rw[kcv] at J;subst J;decide
def w9 {ee}bv b bd V z D disk snap page(hR:Rok z)(hn:z.next<=999999)(hD:Dk 1000 D z)(hsl:V.snaps.length<=1000000)(hsz:∀s∈V.snaps,s.size<=16)(hdl:∀p,(lm V snap p).1.length<=9223372036854775807)F:Ct Tryz.prog 20 [ptr bv 0,ptr b 0,I disk,I snap,I page] (bo ee::gp bv V::dD b bd z::cj 179 319 bd (D)::F) (λv L'=>∃n e D2 z2,pV D V z disk snap 0 (mk z6) page n e D2 z2/\v= .tuple #[I n,bQ e]/\L'=dD b bd z2::gp bv V::cj 179 319 bd (D2)::bo ee::F):=by
 refine Ct.of func20 W 22 ntmps20 (by simp) λw0=>?_;refine A (gA (T (A (C (C (C (C (M (aS (SQ 0 16)) (gI (ap (aV z6) Ys Yt Zf (by simp[z6,aV])) ?_)))))))));rintro _ _ ⟨b17,rfl,rfl⟩;refine C ?_;refine bz (some ⟨b17,0,none⟩) ?_;refine gI (uF (A0:=bo ee) call69 (p5 bv b bd V z D disk snap 0 z6 (some ⟨b17,0,none⟩) 1 page hR hn hD hsl hsz hdl (by decide) JV)) ?_;rintro _ _ ⟨n,e,D2,z2,hc,rfl,rfl⟩;refine gX (I n) (gX (bQ e) (gA (T ?_)));exact ar (dD b bd z2::gp bv V::cj 179 319 bd (D2)::bo ee::F) rfl ⟨n,e,D2,z2,hc,rfl,rfl⟩
def xb {ee}bv b S V z D disk O J base R(hR:Rok z)(hn:z.next<=999999)(hD:Dk 1000 D z)(hsl:V.snaps.length<=1000000)(hsz:∀s∈V.snaps,s.size<=16)(hdl:∀p,(lm V O p).1.length<=9223372036854775807)(hca:(iC V J O).length<=1000000)(hvc:Cj (iC V J O))F:cqq 22 [ptr bv 0,ptr b 0,I disk,I O,I J,I base,I R] (bo ee::gp bv V::dD b S z::cj 179 319 S (D)::F) (λv L'=>∃n e Z z2,((kT V J O≠0/\n=0/\e=kT V J O/\Z=D/\z2=z)\/(kT V J O=0/\pV D V z disk O base (mk (iC V J O)) R n e Z z2))/\v= .tuple #[I n,bQ e]/\L'=dD b S z2::gp bv V::cj 179 319 S (Z)::bo ee::F):=by
 refine Ct.of func22 W 38 ntmps22 (by simp) λw0=>?_;refine A<|gA<|T<|A<|C<|C<|C<|gI (uB call71 (oX bv V J O hsl)) ?_;rintro _ _ ⟨Y,c22,rfl,rfl⟩;refine bz Y ?_;refine C<|gX (sl Y (iC V J O).length c22)<|gX (bQ (kT V J O))<|gA<|T<|ac<|A<|C<|M (bX XF)<|ab<|ah ?_ ?_<;>intro h26
 ·have X:kT V J O≠0:=(by simpa using h26);refine A<|C<|gA<|T ?_;exact ar (dD b S z::gp bv V::cj 179 319 S (D)::bo ee::F) rfl ⟨0,kT V J O,D,z, .inl ⟨X,rfl,rfl,rfl,rfl⟩,rfl,rfl⟩
 ·have X:kT V J O=0:=(by simpa using h26);refine ai<|A<|C<|C<|C<|C<|C<|C<|C<|gI (uF (A0:=bo ee) call69 (p5 bv b S V z D disk O base (iC V J O) Y c22 R hR hn hD hsl hsz hdl hca hvc)) ?_;rintro _ _ ⟨n,e,Z,z2,hc,rfl,rfl⟩;refine gX (I n)<|gX (bQ e)<|gA<|T ?_;exact ar (dD b S z2::gp bv V::cj 179 319 S (Z)::bo ee::F) rfl ⟨n,e,Z,z2, .inr ⟨X,hc⟩,rfl,rfl⟩
end Go.Proofs.YthdjckbjjfiopabGreatDoor