/- Several texts in one: walks and rules used by them. No condition. -/
import Derived.Test.YthdjckbjjfiopabGreatDoorCartG
import Derived.Test.YthdjckbjjfiopabGreatDoorCartD
import Derived.Test.YthdjckbjjfiopabGreatDoorCartF
import Derived.Shelf.SlSortCmp.NoneTotal
import Derived.Test.YthdjckbjjfiopabGreatDoorCartB
import Derived.Test.YthdjckbjjfiopabGreatDoorCartE
set_option linter.unusedSimpArgs false
set_option linter.unusedVariables false
set_option synthInstance.maxSize 9999
set_option synthInstance.maxHeartbeats 0
set_option linter.defProp false
set_option maxHeartbeats 800000
namespace Go.Proofs.YthdjckbjjfiopabGreatDoor
open _root_.Go.Proofs.Tryz
open Go.Sl Go.Proofs
def UL {N:fU}(h:l9 24 N)(q:Int):(lk (tb cl 24 N) q).isSome=(N q).isSome:=by
 grind[Gj]
def PG {N:fU}{F:IM}{o:Bool}{id kind:Int}(h:nu N F o id kind=true):o=true:=by
 grind[nu]
def PH {Q:IM}{l:List Int}(h:cm Q (cA l))(k:Int):cm (Jv Q k (cA l k+1)) (cA (l++ [k])):=by
 rw[show cA (l++ [k])=del (cA l) k 1 from funext λq=>Ps l k q];exact GO h k
def Fa {Q:IM}{c:Int->Int}(h:cm Q c)(q:Int):(lk (mi Q) q).getD (I 0)=I (c q):=by rw[mb,h.1]
def MK {N:fU}(h:l9 24 N){q:Int}{m:Nd}(hm:N q=some m):q∈(tb cl 24 N).map (·.1):=by
 rw[mW];exact mem_ids.2 ⟨h q m hm,by rw[hm];rfl⟩
def Se {B:pN}(h:l9 40 B){q:Int}{x:Bk}(hx:B q=some x):q∈(tb cL 40 B).map (·.1):=by
 rw[mW];exact mem_ids.2 ⟨h q x hx,by rw[hx];rfl⟩
def tV {rest J:MM}{k:Int}{v:Value}(h:rest.Perm ((k,v)::J)){q:Int}(hq:q∈rest.map (·.1)):q=k\/q∈J.map (·.1):=by
 grind
def qm {rest J M:MM}{p:Int×Value}(h:rest.Perm (p::J))(hs:∀p∈rest,p∈M):∀p∈J,p∈M:=λq hq=>hs q (h.mem_iff.2 (kac _ hq))
def xt {rest J M:MM}{p:Int×Value}(h:rest.Perm (p::J))(hs:∀p∈rest,p∈M):p∈M:=hs p (h.mem_iff.2 (by simp))
def tW {rest J:MM}{p:Int×Value}(h:rest.Perm (p::J)):J.length<rest.length:=by have:=h.length_eq;simp at this;omega
def TY (m:Nd):∀i,i<4->(kd m)[i]? =some (bU m i)
 | 0,_=>rfl
 | 1,_=>rfl
 | 2,_=>rfl
 | 3,_=>rfl
 | i+4,h=>absurd h (by omega)
def pz (b x p r O V R rm:Nat)(es:Array MapEntry)(clk:Nat)(S:SI)(L:List Pt)(n:Int)(s:Option Addr)(c:Nat)(Q:IM)(o:Bool)(id kind:Int)(hs:l9 24 S.N)(F:List ag):Ct Tryz.prog 248 [I id,I kind,ptr O 0,ptr V 0,ptr R 0] (pt O (.cells #[ptr b 0] 53 (0,0))::pt V (.cells #[Bo (o)] 4 (0,0))::pt R (.cells #[.map (some rm)] 286 (0,0))::mp rm (mi Q)::pt b (.cells #[ptr x 0,sl s (L).length c,I (n)] 123 (0,0))::pt x (.cells #[ptr p 0, .map (some r)] 231 (0,0))::sH r es clk (tb cl 24 S.N)::F) (R1 (.tuple #[]) (pt O (.cells #[ptr b 0] 53 (0,0))::pt V (.cells #[Bo (nu S.N Q o id kind)] 4 (0,0))::pt R (.cells #[.map (some rm)] 286 (0,0))::mp rm (mi (qh Q id kind))::pt b (.cells #[ptr x 0,sl s (L).length c,I (n)] 123 (0,0))::pt x (.cells #[ptr p 0, .map (some r)] 231 (0,0))::sH r es clk (tb cl 24 S.N)::F)):=by
 refine Ct.of func248 rR 43 ntmps248 (by simp) λw0=>?_;refine ac (gS (gM (gV bT (ab ?_))));apply ah<;>intro J
 ·simp at J;rw[show nu S.N Q o id kind=o by unfold nu;rw[YB J],show qh Q id kind=Q by unfold qh;rw[YB J]];exact ao rfl rfl rfl
 ·simp at J;refine ai (gS (gL (ptr b 0) WI (gV aa (gF 0 Vr rR VK (gL (ptr x 0) VN (gV aa (gF 1 VA rR VU (gL (.map (some r)) VY (gM (gV (d8 (v:=cl (gN S.N id)) (bb:=(S.N id).isSome) VZ Vf Wa (LY hs id) (UL hs id)) (gM (gX (cl (gN S.N id)) (gX (Bo (S.N id).isSome) (gI (aO #[I 0,I 0,I 0,I 0,I 0] Wa) ?_))))))))))))));rintro _ _ ⟨X,rfl,rfl⟩;refine gU (ax (cs:=#[I 0,I 0,I 0,I 0,I 0]) (vs:=km (gN S.N id)) (km (gN S.N id)).toArray VD (by simp) (hcs:=by exact aJ)) (gQ (gS (gL (Bo o) V6 (gM (gK aq (gV dD (gM ?_)))))));rcases hb1:(o && (S.N id).isSome) with _ | _
  ·refine bE (bE (bE (bE (bE (bE (bE (bE (bE (bE (bE (gV eT (gU (aK #[Bo false] Vt (by simp)) (ab (am (gL (.map (some rm)) Xf (gM (gM (ir (cn Wu Vf) ?_))))))))))))))))));rintro _ _ rfl;rw[r9];refine ab ?_;rw[show nu S.N Q o id kind=false by unfold nu;rw[YC J,<-ka1,hb1];rfl,show qh Q id kind=Jv Q id kind by unfold qh;rw[YC J]];exact fY rfl rfl rfl
  ·refine bc (az (v:= .map (some rm)) Xf) (bc aq (bc (cI (v:=I ((li Q id).getD 0)) Wu Vf VL (mb Q id 0)) (bc bT (bc aq ?_))));by_cases h0:(li Q id).getD 0=0
   ·refine bE (hw:=by rw[Zv h0];rfl) (bE (hw:=by rw[Zv h0];rfl) (bE (hw:=by rw[Zv h0];rfl) (bE (hw:=by rw[Zv h0];rfl) (bE (hw:=by rw[Zv h0];rfl) (bc (fl (hq:=by exact Zv h0)) (gV fl (gU (aK #[Bo true] Vt (by simp)) (ab (am (gL (.map (some rm)) Xf (gM (gM (ir (cn Wu Vf) ?_)))))))))))));rintro _ _ rfl;rw[r9];refine ab ?_;rw[show nu S.N Q o id kind=true by unfold nu;rw[YC J,<-ka1,hb1,Zv h0];rfl,show qh Q id kind=Jv Q id kind by unfold qh;rw[YC J]];exact fY rfl rfl rfl
   ·refine bc (hw:=by exact Zt h0) (az (v:= .map (some rm)) Xf) (bc (hw:=by exact Zt h0) aq (bc (hw:=by exact Zt h0) (cI (v:=I ((li Q id).getD 0)) Wu Vf VL (mb Q id 0)) (bc (hw:=by exact Zt h0) aq (bc (hw:=by exact Zt h0) bT (bc (eT (hq:=by exact Zt h0)) (gV fl (gU (aK #[Bo (decide ((li Q id).getD 0=kind))] Vt (by simp)) (ab (am (gL (.map (some rm)) Xf (gM (gM (ir (cn Wu Vf) ?_)))))))))))));rintro _ _ rfl;rw[r9];refine ab ?_;rw[show nu S.N Q o id kind=decide ((li Q id).getD 0=kind) by unfold nu;rw[YC J,<-ka1,hb1,Zt h0];simp,show qh Q id kind=Jv Q id kind by unfold qh;rw[YC J]];exact fY rfl rfl rfl
def qn (b:Nat)(S:SI)(L:List Pt)(n:Int)(hl:L.length<=6)(hs:l9 24 S.N)(F:List ag):Ct Tryz.prog 193 [ptr b 0] (gO b S L n::F) (λv L'=>∃rm Q o,v= .tuple #[.map (some rm),Bo o]/\L'=mp rm (mi Q)::gO b S L n::F/\(o=true ↔ KindsP S.N L)/\(o=true->∀q,(li Q q).getD 0=1 ↔ mN L q)):=by
 refine Ct.of func193 rR 70 ntmps193 (by simp) λw0=>?_;refine ik b S L n ?_;intro x s c;refine fd x S ?_;intro p r;refine fj r ?_;intro es clk;refine gS (gI (di #[ptr b 0]) ?_);rintro _ _ ⟨b1,rfl,rfl⟩;refine gA (gQ (gS (gI (fw) ?_)));rintro _ _ ⟨J,rfl,rfl⟩;refine gI (pQ (.map none) zeroValue286) ?_;rintro _ _ ⟨R,rfl,rfl⟩;refine gU (aK #[.map (some J)] sizeOf286 (by simp)) (ab (gS (gI (pQ (Bo false) zeroValue4) ?_)));rintro _ _ ⟨V,rfl,rfl⟩;refine gU (aK #[Bo true] Vt (by simp)) (ab (gS (gV fK (gQ ?_))));refine pp J (mi []) (.refl _) ?_;refine ac (gS (gL (ptr b 0) WI (gV aa (gF 1 Vr rR Vx (gL (sl s (L).length c) VM (gV (aX Vv) (gM (ab (al ?_)))))))));refine aM (α:=Nat×Bool×IM) (λz=>z.1<=L.length/\K1 S.N (L.take z.1) z.2.1 z.2.2) (λz=>U [(1,ptr b1 0),(4,ptr R 0),(5,ptr V 0),(6, .func (.func 248) #[] #[ptr b1 0,ptr V 0,ptr R 0]),(18,sl s L.length c),(19,I L.length),(20,I z.1)]) (λz=>pt b1 (.cells #[ptr b 0] 53 (0,0))::pt V (.cells #[Bo (z.2.1)] 4 (0,0))::pt R (.cells #[.map (some J)] 286 (0,0))::mp J (mi z.2.2)::pt b (.cells #[ptr x 0,sl s (L).length c,I (n)] 123 (0,0))::pt x (.cells #[ptr p 0, .map (some r)] 231 (0,0))::sH r es clk (tb cl 24 S.N)::ml p S.B::bi 162 4 s c (fE (L))::F) (λz=>L.length - z.1) (0,true,[]) ⟨by simp,by simpa using RY S.N⟩ [1,4,5,6,18,19,20] rfl ?_;rintro ⟨j,o,Q⟩ ⟨hj,hK⟩;simp only[] at hj hK ⊢;refine gS (gV aI (ab (ac ?_)));apply ah<;>intro h21
 ·simp at h21;have hjn:j<L.length:=(by omega);obtain ⟨p0,hp⟩:∃p0,L[j]? =some p0:=⟨_,Zu hjn⟩;refine ai (ac (al (gS (gV (ay (j) Vv Vk hjn (by rw[cQ];exact hjn)) (gV (bJ (row:=aY p0) Wp Vk (gC hp)) (gI (aO #[I 0,I 0,I 0,I 0] VJ) ?_))))));rintro _ _ ⟨b8,rfl,rfl⟩;refine gU (ax (cs:=#[I 0,I 0,I 0,I 0]) (vs:=aY (p0)) (aY (p0)).toArray Vk (by simp) (hcs:=by exact aJ)) (ab (am (gM (gF 3 VC rR Vb (gL (I p0.root) Vc ?_)))));refine gI (fW (fi:=[]) (cap:=[ptr b1 0,ptr V 0,ptr R 0]) (Pre:=[pt b1 (.cells #[ptr b 0] 53 (0,0)),pt V (.cells #[Bo (o)] 4 (0,0)),pt R (.cells #[.map (some J)] 286 (0,0)),mp J (mi Q),pt b (.cells #[ptr x 0,sl s (L).length c,I (n)] 123 (0,0)),pt x (.cells #[ptr p 0, .map (some r)] 231 (0,0)),sH r es clk (tb cl 24 S.N)]) call248 rR rR (pz b x p r b1 V R J es clk S L n s c Q o (p0.root) 1 hs)) ?_;rintro _ _ ⟨rfl,rfl⟩;refine ab (aG (am (gP (gM (ab ?_)))));exact ap (j+1,nu S.N Q o p0.root 1,qh Q p0.root 1) ⟨by simp only[];omega,by simp only[];rw[<-fG hp];exact Pn hK p0⟩ (by simp only[];omega) [1,4,5,6,18,19,20] rfl
 ·simp at h21;obtain rfl:j=L.length:=(by omega);rw[Y3] at hK;refine aF ?_;refine ac (gS (gL (ptr b 0) WI (gV aa (gF 0 Vr rR VK (gL (ptr x 0) VN (gV aa (gF 1 VA rR VU (gL (.map (some r)) VY (gI (ii VZ) ?_)))))))));rintro _ _ ⟨b36,rfl,rfl⟩;refine ab (al ?_);refine aM (α:=MM×List Int×Option (Int×Value)×Bool×IM) (λz=>K2 S.N L z.2.1 [] z.2.2.2.1 z.2.2.2.2/\(∀q m,S.N q=some m->q∈z.2.1\/q∈z.1.map (·.1))/\∀p∈z.1,p∈tb cl 24 S.N) (λz=>U [(1,ptr b1 0),(4,ptr R 0),(5,ptr V 0),(6, .func (.func 248) #[] #[ptr b1 0,ptr V 0,ptr R 0]),(36,ptr b36 0)]) (λz=>x9 b36 r es clk z.1 z.2.2.1::pt b1 (.cells #[ptr b 0] 53 (0,0))::pt V (.cells #[Bo (z.2.2.2.1)] 4 (0,0))::pt R (.cells #[.map (some J)] 286 (0,0))::mp J (mi z.2.2.2.2)::pt b (.cells #[ptr x 0,sl s (L).length c,I (n)] 123 (0,0))::pt x (.cells #[ptr p 0, .map (some r)] 231 (0,0))::sH r es clk (tb cl 24 S.N)::ml p S.B::bi 162 4 s c (fE (L))::F) (λz=>z.1.length) (tb cl 24 S.N,[],none,o,Q) ⟨Ml hK,λq m h=> .inr (MK hs h),λ_ h=>h⟩ [1,4,5,6,36] rfl ?_;rintro ⟨rest,done,cur,o,Q⟩ ⟨hK,Y,X⟩;simp only[] at hK Y X ⊢;refine gS (gI j9 ?_);rintro _ _ (⟨hr,rfl,rfl⟩ | ⟨⟨k,v⟩,O,hq,rfl,rfl⟩)
  ·subst hr;refine gV aH (ab (ac ?_));refine dW ?_;refine aF ?_;refine ac ?_;refine cO (Lf:=[pt b1 (.cells #[ptr b 0] 53 (0,0)),pt V (.cells #[Bo (o)] 4 (0,0)),pt R (.cells #[.map (some J)] 286 (0,0)),mp J (mi Q),pt b (.cells #[ptr x 0,sl s (L).length c,I (n)] 123 (0,0)),pt x (.cells #[ptr p 0, .map (some r)] 231 (0,0)),sH r es clk (tb cl 24 S.N)]) jC ?_;refine dL rR (.map (some J)) Xf (dL rR (Bo o) V6 (dM rR (dJ rR (az (v:= .map (some J)) Xf) (dJ rR (lh Wu) (dJ rR (az (v:=ptr b 0) WI) (dJ rR aa (dJ rR (aw 0 Vr rR VK) (dJ rR (az (v:=ptr x 0) VN) (dJ rR aa (dJ rR (aw 1 VA rR VU) (dJ rR (az (v:= .map (some r)) VY) (dJ rR (lh VZ) (dJ rR bT (dV rR dD (dV rR aD (dV rR aD ?_))))))))))))))));refine aP ?_;refine gv J λhnd=>?_;rw[te] at hnd;have hend:=R4 hK (λq hq=>by obtain ⟨m,hm⟩:=kaG.1 hq;exact (Y q m hm).resolve_right (by simp)) hs hnd;refine bQ r ?_;refine ct p r x S (.refl _) ?_;refine cC b x s c (S) (L) (n) ?_;refine iR (L2:=mp J (mi Q)::gO b S L n::F) ?_;exact λa w hE hS=>wp_ret (bX (aW (vs:=[.map (some J),Bo (o && decide (((mi Q).length:Int)=((tb cl 24 S.N).length:Int)))]) rfl hE hS ⟨J,Q,_,rfl,rfl,by rw[gw,show (mi Q).length=Q.length by simp[mi]];exact hend.1,λho=>hend.2 (by rw[Yr] at ho;exact ho.1)⟩))
  ·obtain ⟨m,hm,hv,hk⟩:=uU (xt hq X);simp only at hv hk hm;subst hv;have Z:∀q m,S.N q=some m->q∈k::done\/q∈O.map (·.1):=λq m h=>by
    rcases Y q m h with h1 | h1
    ·exact .inl (kac _ h1)
    ·rcases tV hq h1 with h2 | h2
     ·exact .inl (by rw[h2];simp)
     ·exact .inr h2
   refine gV aH (ab (ac ?_));refine eH ?_;refine ai (al (gS (gV ij (gX (I k) (gX (cl m) (gI (aO #[I 0,I 0,I 0,I 0,I 0] Wa) ?_))))));rintro _ _ ⟨b10,rfl,rfl⟩;refine gA (gU (ax (cs:=#[I 0,I 0,I 0,I 0,I 0]) (vs:=km m) (km m).toArray VD (by simp) (hcs:=by exact aJ)) (ab (ac (gS (gL (.map (some J)) Xf (gM (gV (cI (v:=I ((li Q k).getD 0)) Wu Vf VL (mb Q k 0)) (gV fZ (ab ?_)))))))));apply ah<;>intro h45
   ·simp at h45;refine aF ?_;exact ap (O,k::done,some (k,cl m),o,Q) ⟨Pp hK h45,Z,qm hq X⟩ (tW hq) [1,4,5,6,36] rfl
   ·simp at h45;refine ai (gS (gF 0 Vy rR Vw (gV (aU (vs:=fQ m) V7 Vw vj) (gM (ab (al ?_))))));refine aM (α:=Nat×Bool×IM) (λz=>z.1<=4/\K2 S.N L done ((kd m).take z.1) z.2.1 z.2.2/\(z.2.1=true->mN L k)) (λz=>U [(1,ptr b1 0),(4,ptr R 0),(5,ptr V 0),(6, .func (.func 248) #[] #[ptr b1 0,ptr V 0,ptr R 0]),(36,ptr b36 0),(47, .agg (fQ m).toArray),(48,I z.1)]) (λz=>x9 b36 r es clk O (some (k,cl m))::pt b1 (.cells #[ptr b 0] 53 (0,0))::pt V (.cells #[Bo (z.2.1)] 4 (0,0))::pt R (.cells #[.map (some J)] 286 (0,0))::mp J (mi z.2.2)::pt b (.cells #[ptr x 0,sl s (L).length c,I (n)] 123 (0,0))::pt x (.cells #[ptr p 0, .map (some r)] 231 (0,0))::sH r es clk (tb cl 24 S.N)::ml p S.B::bi 162 4 s c (fE (L))::F) (λz=>4 - z.1) (0,o,Q) ⟨by simp,hK,λho=>Pq (by rw[<-ho];exact hK) h45⟩ [1,4,5,6,36,47,48] rfl ?_;rintro ⟨i,o,Q⟩ ⟨hi,hK2,hro⟩;simp only[] at hi hK2 hro ⊢;refine gS (gV aI (ab (ac ?_)));apply ah<;>intro h49
    ·simp at h49;have hi4:i<4:=(by omega);refine ai (ac (al (gS (gV (kO (v:=I (bU m i)) i VH Vb Vc hi4 (by simpa using gz m i hi4)) (gQ (am (gM (gM ?_))))))));refine gI (fW (fi:=[]) (cap:=[ptr b1 0,ptr V 0,ptr R 0]) (Pre:=[pt b1 (.cells #[ptr b 0] 53 (0,0)),pt V (.cells #[Bo (o)] 4 (0,0)),pt R (.cells #[.map (some J)] 286 (0,0)),mp J (mi Q),pt b (.cells #[ptr x 0,sl s (L).length c,I (n)] 123 (0,0)),pt x (.cells #[ptr p 0, .map (some r)] 231 (0,0)),sH r es clk (tb cl 24 S.N)]) call248 rR rR (pz b x p r b1 V R J es clk S L n s c Q o (bU m i) 2 hs)) ?_;rintro _ _ ⟨rfl,rfl⟩;refine ab (aG (am (gP (gM (ab ?_)))));exact ap (i+1,nu S.N Q o (bU m i) 2,qh Q (bU m i) 2) ⟨by simp only[];omega,by simp only[];rw[<-fG (TY m i hi4)];exact RZ hK2 hro hm (ze hi4),λh=>hro (PG h)⟩ (by simp only[];omega) [1,4,5,6,36,47,48] rfl
    ·simp at h49;obtain rfl:i=4:=(by omega);refine aF ?_;refine aG ?_;exact ap (O,k::done,some (k,cl m),o,Q) ⟨Pr hK2 hro hm,Z,qm hq X⟩ (tW hq) [1,4,5,6,36] rfl
def n7 (b:Nat)(S:SI)(L:List Pt)(n:Int)(rk:Nat)(Kd:IM)(hl:L.length<=6)(hs:l9 24 S.N)(hB:l9 40 S.B)(hpos:∀q x,S.B q=some x->0<x.2)(hK:∀q,(li Kd q).getD 0=1 ↔ mN L q)(F:List ag):Ct Tryz.prog 194 [ptr b 0, .map (some rk)] (mp rk (mi Kd)::gO b S L n::F) (λv L'=>∃o,v=Bo o/\L'=gO b S L n::F/\(o=true ↔ CountP S.B S.N L)):=by
  refine Ct.of func194 rR 126 ntmps194 (by simp) λw0=>?_;refine ik b S L n ?_;intro x s c;refine fd x S ?_;intro p r;refine fj r ?_;intro es clk;refine gS (gQ (gS (gI (fw) ?_)));rintro _ _ ⟨b17,rfl,rfl⟩;refine gI (fw) ?_;rintro _ _ ⟨O,rfl,rfl⟩;refine gA (gQ ?_);refine pp b17 (mi []) (.refl _) ?_;refine pp O (mi []) (.refl _) ?_;refine ac (gS (gM (gV aa (gF 1 Vr rR Vx (gL (sl s (L).length c) VM (gV (aX Vv) (gM (ab (al ?_)))))))));refine aM (α:=Nat×IM) (λz=>z.1<=L.length/\cm z.2 (cA ((L.take z.1).map (·.root)))) (λz=>U [(0,ptr b 0),(1, .map (some rk)),(5, .map (some b17)),(6, .map (some O)),(22,sl s L.length c),(23,I L.length),(24,I z.1)]) (λz=>mp b17 (mi z.2)::mp O (mi [])::mp rk (mi Kd)::pt b (.cells #[ptr x 0,sl s (L).length c,I (n)] 123 (0,0))::pt x (.cells #[ptr p 0, .map (some r)] 231 (0,0))::sH r es clk (tb cl 24 S.N)::ml p S.B::bi 162 4 s c (fE (L))::F) (λz=>L.length - z.1) (0,[]) ⟨by simp,Mm⟩ [0,1,5,6,22,23,24] rfl ?_;rintro ⟨j,Q⟩ ⟨hj,hQ⟩;simp only[] at hj hQ ⊢;refine gS (gV aI (ab (ac ?_)));apply ah<;>intro h25
  · simp at h25;have hjn:j<L.length:=(by omega);obtain ⟨p0,hp⟩:∃p0,L[j]? =some p0:=⟨_,Zu hjn⟩;refine ai (ac (al (gS (gV (ay (j) Vv Vk hjn (by rw[cQ];exact hjn)) (gV (bJ (row:=aY p0) Wp Vk (gC hp)) (gI (aO #[I 0,I 0,I 0,I 0] VJ) ?_))))));rintro _ _ ⟨b8,rfl,rfl⟩;refine gU (ax (cs:=#[I 0,I 0,I 0,I 0]) (vs:=aY (p0)) (aY (p0)).toArray Vk (by simp) (hcs:=by exact aJ)) (ab (am (gM (gF 3 VC rR Vb (gL (I p0.root) Vc (gV (cI (v:=I (cA ((L.take j).map (·.root)) p0.root)) Wu Vf VL (Fa hQ _)) (gV (bO (da (by have:=QF ((L.take j).map (·.root)) p0.root;have h9:=QG ((L.take j).map (·.root)) p0.root;rw[ZU,Y8] at h9;omega))) (ir (cn Wu Vf) ?_))))))));rintro _ _ rfl;rw[r9];refine ab (aG (am (gP (gM (ab ?_)))));exact ap (j+1,Jv Q p0.root (cA ((L.take j).map (·.root)) p0.root+1)) ⟨by simp only[];omega,by simp only[];rw[<-fG hp,Yu];exact PH hQ p0.root⟩ (by simp only[];omega) [0,1,5,6,22,23,24] rfl
  · simp at h25;obtain rfl:j=L.length:=(by omega);rw[Y3] at hQ;refine aF ?_;refine ac (gS (gM (gV aa (gF 0 Vr rR VK (gL (ptr x 0) VN (gV aa (gF 1 VA rR VU (gL (.map (some r)) VY (gI (ii VZ) ?_)))))))));rintro _ _ ⟨b41,rfl,rfl⟩;refine ab (al ?_);refine aM (α:=MM×Option (Int×Value)×IM×IM×(Int->Int)×(Int->Int)) (λz=>Cnt S.N L z.1 z.2.2.2.2.1 z.2.2.2.2.2/\cm z.2.2.1 z.2.2.2.2.1/\cm z.2.2.2.1 z.2.2.2.2.2/\(∀q m,S.N q=some m->q∈z.1.map (·.1)\/¬fc m)/\∀p∈z.1,p∈tb cl 24 S.N) (λz=>U [(0,ptr b 0),(1, .map (some rk)),(5, .map (some b17)),(6, .map (some O)),(41,ptr b41 0)]) (λz=>x9 b41 r es clk z.1 z.2.1::mp b17 (mi z.2.2.1)::mp O (mi z.2.2.2.1)::mp rk (mi Kd)::pt b (.cells #[ptr x 0,sl s (L).length c,I (n)] 123 (0,0))::pt x (.cells #[ptr p 0, .map (some r)] 231 (0,0))::sH r es clk (tb cl 24 S.N)::ml p S.B::bi 162 4 s c (fE (L))::F) (λz=>z.1.length) (tb cl 24 S.N,none,Q,[],cA (L.map (·.root)),λ_=>0) ⟨J9,hQ,Mm,λq m h=> .inl (MK hs h),λ_ h=>h⟩ [0,1,5,6,41] rfl ?_;rintro ⟨rest,cur,Q1,Q2,c1,c2⟩ ⟨Z,hQ1,hQ2,hnz,J⟩;simp only[] at Z hQ1 hQ2 hnz J ⊢;refine gS (gI j9 ?_);rintro _ _ (⟨hr,rfl,rfl⟩ | ⟨⟨k,v⟩,X,hq,rfl,rfl⟩)
    · subst hr;have hnz':∀q m,S.N q=some m->¬fc m:=λq m h=>(hnz q m h).resolve_left (by simp);refine gV aH (ab (ac ?_));refine dW ?_;refine aF ?_;refine gS (gM (ir (iv Wu Vf) ?_));rintro _ _ ⟨rfl,rfl⟩;rw[Gt];refine ab (gS (gM (ir (iv Wu Vf) ?_)));rintro _ _ ⟨rfl,rfl⟩;rw[Gt];refine ab ?_;have hE1:=Io hQ1;have hE2:=Io hQ2;obtain ⟨D1,eD1⟩:∃D:Int->Int,D=λq=>if q=0 then 0 else c1 q:=⟨_,rfl⟩
      obtain ⟨D2,eD2⟩:∃D:Int->Int,D=λq=>if q=0 then 0 else c2 q:=⟨_,rfl⟩
      have hD1:cm (yf Q1 0) D1:=(by rw[eD1];exact hE1);have hD2:cm (yf Q2 0) D2:=(by rw[eD2];exact hE2);refine ac (gS (gM (gV aa (gF 0 Vr rR VK (gL (ptr x 0) VN (gV aa (gF 1 VA rR VU (gL (.map (some r)) VY (gI (ii VZ) ?_)))))))));rintro _ _ ⟨b78,rfl,rfl⟩;refine ab (al ?_);refine aM (α:=MM×Option (Int×Value)) (λz=>(∀q m,S.N q=some m->q∈z.1.map (·.1)\/D1 q=m.refs)/\∀p∈z.1,p∈tb cl 24 S.N) (λz=>U [(0,ptr b 0),(5, .map (some b17)),(6, .map (some O)),(78,ptr b78 0)]) (λz=>x9 b78 r es clk z.1 z.2::mp b17 (mi (yf Q1 0))::mp O (mi (yf Q2 0))::mp rk (mi Kd)::pt b (.cells #[ptr x 0,sl s (L).length c,I (n)] 123 (0,0))::pt x (.cells #[ptr p 0, .map (some r)] 231 (0,0))::sH r es clk (tb cl 24 S.N)::ml p S.B::bi 162 4 s c (fE (L))::F) (λz=>z.1.length) (tb cl 24 S.N,none) ⟨λq m h=> .inl (MK hs h),λ_ h=>h⟩ [0,5,6,78] rfl ?_;rintro ⟨rest,cur⟩ ⟨hnn,J⟩;simp only[] at hnn J ⊢;refine gS (gI j9 ?_);rintro _ _ (⟨hr,rfl,rfl⟩ | ⟨⟨k,v⟩,X,hq,rfl,rfl⟩)
      · subst hr;have hnn':∀q m,S.N q=some m->D1 q=m.refs:=λq m h=>(hnn q m h).resolve_left (by simp);refine gV aH (ab (ac ?_));refine dW ?_;refine aF ?_;refine ac (ac ?_);refine kj p S.B ?_;intro r2;refine fj r2 ?_;intro es2 clk2;refine am (gM (gV aa (gF 0 Vr rR VK (gL (ptr x 0) VN (gV aa (gF 0 VA rR Wy (gL (ptr p 0) WC (gV aa (gF 0 Ws rR Wm (gL (.map (some r2)) Wt (gI (ii We) ?_)))))))))));rintro _ _ ⟨b100,rfl,rfl⟩;refine ab (al ?_);refine aM (α:=MM×Option (Int×Value)) (λz=>(∀q y,S.B q=some y->q∈z.1.map (·.1)\/D2 q=y.2)/\∀p∈z.1,p∈tb cL 40 S.B) (λz=>U [(0,ptr b 0),(6, .map (some O)),(100,ptr b100 0)]) (λz=>x9 b100 r2 es2 clk2 z.1 z.2::mp b17 (mi (yf Q1 0))::mp O (mi (yf Q2 0))::mp rk (mi Kd)::pt b (.cells #[ptr x 0,sl s (L).length c,I (n)] 123 (0,0))::pt x (.cells #[ptr p 0, .map (some r)] 231 (0,0))::sH r es clk (tb cl 24 S.N)::pt p (.cells #[.map (some r2)] 234 (0,0))::sH r2 es2 clk2 (tb cL 40 S.B)::bi 162 4 s c (fE (L))::F) (λz=>z.1.length) (tb cL 40 S.B,none) ⟨λq m h=> .inl (Se hB h),λ_ h=>h⟩ [0,6,100] rfl ?_;rintro ⟨rest,cur⟩ ⟨hbb,J⟩;simp only[] at hbb J ⊢;refine gS (gI j9 ?_);rintro _ _ (⟨hr,rfl,rfl⟩ | ⟨⟨k,v⟩,X,hq,rfl,rfl⟩)
        · subst hr;have hbb':∀q y,S.B q=some y->D2 q=y.2:=λq y h=>(hbb q y h).resolve_left (by simp);refine gV aH (ab (ac ?_));refine dW ?_;refine aF ?_;refine ac ?_;refine cO (Lf:=[mp O (mi (yf Q2 0)),pt b (.cells #[ptr x 0,sl s (L).length c,I (n)] 123 (0,0)),pt x (.cells #[ptr p 0, .map (some r)] 231 (0,0)),pt p (.cells #[.map (some r2)] 234 (0,0)),sH r2 es2 clk2 (tb cL 40 S.B)]) jM ?_;refine dM rR (dV rR (lh Wu) (dM rR (dV rR aa (dF rR 0 Vr rR VK (dL rR (ptr x 0) VN (dV rR aa (dF rR 0 VA rR Wy (dL rR (ptr p 0) WC (dV rR aa (dF rR 0 Ws rR Wm (dL rR (.map (some r2)) Wt (dV rR (lh We) (dV rR bT (dV rR aD ?_))))))))))))));refine aP ?_
          first
          | (refine bQ r ?_
             refine ct p r x S (.refl _) ?_;refine cC b x s c (S) (L) (n) ?_;refine iR (L2:=gO b S L n::F) ?_;exact λa w R V=>wp_ret (bX (aW (vs:=[Bo false]) rfl R V ⟨false,rfl,rfl,(λh=>by cases h),λh=>absurd h (λhc=>hc.nz k m hm hno)⟩)))
          | (subst eD1
             refine bQ r ?_;refine ct p r x S (.refl _) ?_;refine cC b x s c (S) (L) (n) ?_;refine iR (L2:=gO b S L n::F) ?_;exact λa w R V=>wp_ret (bX (aW (vs:=[Bo false]) rfl R V ⟨false,rfl,rfl,(λh=>by cases h),λh=>absurd h (oY Z hs hm h89)⟩)))
          | (subst eD2
             refine bQ r2 ?_;refine dP r2 p S.B (.refl _) ?_;refine bQ r ?_;refine ct p r x S (.refl _) ?_;refine cC b x s c (S) (L) (n) ?_;refine iR (L2:=gO b S L n::F) ?_;exact λa w R V=>wp_ret (bX (aW (vs:=[Bo false]) rfl R V ⟨false,rfl,rfl,(λh=>by cases h),λh=>absurd h (oZ Z hB hy Y)⟩)))
          | (refine gv O λhnd=>?_
             rw[te] at hnd;subst eD1 eD2;have hend:=qZ Z hnz' hnn' hbb' hB hs hpos hD2 hnd;refine bQ r2 ?_;refine dP r2 p S.B (.refl _) ?_;refine bQ r ?_;refine ct p r x S (.refl _) ?_;refine cC b x s c (S) (L) (n) ?_;refine iR (L2:=gO b S L n::F) ?_;exact λa w R V=>wp_ret (bX (aW (vs:=[Bo (decide (((mi (yf Q2 0)).length:Int)=((tb cL 40 S.B).length:Int)))]) rfl R V ⟨_,rfl,rfl,by rw[gw,show (mi (yf Q2 0)).length=(yf Q2 0).length by simp[mi]];exact hend⟩)))
        · obtain ⟨y,hy,hv,hk⟩:=uU (xt hq J);simp only at hv hk hy;subst hv;refine gV aH (ab (ac ?_));refine eH ?_;refine ai (al (gS (gV ij (gX (I k) (gX (cL y) (gI (aO #[aC [],I 0] Wk) ?_))))));rintro _ _ ⟨b16,rfl,rfl⟩;refine gA (gU (ax (cs:=#[aC [],I 0]) (vs:=[aC y.1,I y.2]) #[aC y.1,I y.2] VV (by simp) (hcs:=by exact aJ)) (ab (gS (gM (gM (gV (cI (v:=I (D2 k)) Wu Vf VL (Fa hD2 _)) (gF 1 Wf rR Vb (gL (I y.2) Vc (gV fZ (ab ?_))))))))));apply ah<;>intro Y
          · have Y:D2 k≠y.2:=(by simpa using Y);refine gS (gQ ?_)
            first
            | (refine bQ r ?_
               refine ct p r x S (.refl _) ?_;refine cC b x s c (S) (L) (n) ?_;refine iR (L2:=gO b S L n::F) ?_;exact λa w R V=>wp_ret (bX (aW (vs:=[Bo false]) rfl R V ⟨false,rfl,rfl,(λh=>by cases h),λh=>absurd h (λhc=>hc.nz k m hm hno)⟩)))
            | (subst eD1
               refine bQ r ?_;refine ct p r x S (.refl _) ?_;refine cC b x s c (S) (L) (n) ?_;refine iR (L2:=gO b S L n::F) ?_;exact λa w R V=>wp_ret (bX (aW (vs:=[Bo false]) rfl R V ⟨false,rfl,rfl,(λh=>by cases h),λh=>absurd h (oY Z hs hm h89)⟩)))
            | (subst eD2
               refine bQ r2 ?_;refine dP r2 p S.B (.refl _) ?_;refine bQ r ?_;refine ct p r x S (.refl _) ?_;refine cC b x s c (S) (L) (n) ?_;refine iR (L2:=gO b S L n::F) ?_;exact λa w R V=>wp_ret (bX (aW (vs:=[Bo false]) rfl R V ⟨false,rfl,rfl,(λh=>by cases h),λh=>absurd h (oZ Z hB hy Y)⟩)))
            | (refine gv O λhnd=>?_
               rw[te] at hnd;subst eD1 eD2;have hend:=qZ Z hnz' hnn' hbb' hB hs hpos hD2 hnd;refine bQ r2 ?_;refine dP r2 p S.B (.refl _) ?_;refine bQ r ?_;refine ct p r x S (.refl _) ?_;refine cC b x s c (S) (L) (n) ?_;refine iR (L2:=gO b S L n::F) ?_;exact λa w R V=>wp_ret (bX (aW (vs:=[Bo (decide (((mi (yf Q2 0)).length:Int)=((tb cL 40 S.B).length:Int)))]) rfl R V ⟨_,rfl,rfl,by rw[gw,show (mi (yf Q2 0)).length=(yf Q2 0).length by simp[mi]];exact hend⟩)))
          · have Y:D2 k=y.2:=(by simpa using Y);refine ai (aG ?_);exact ap (X,some (k,cL y)) ⟨(λq m' h=>by
              rcases hbb q m' h with h1 | h1
              · rcases tV hq h1 with rfl | h2
                · rw[hy] at h;injection h with h;subst h;exact .inr Y
                · exact .inl h2
              · exact .inr h1),qm hq J⟩ (tW hq) [0,6,100] rfl
      · obtain ⟨m,hm,hv,hk⟩:=uU (xt hq J);simp only at hv hk hm;subst hv;refine gV aH (ab (ac ?_));refine eH ?_;refine ai (al (gS (gV ij (gX (I k) (gX (cl m) (gI (aO #[I 0,I 0,I 0,I 0,I 0] Wa) ?_))))));rintro _ _ ⟨b14,rfl,rfl⟩;refine gA (gU (ax (cs:=#[I 0,I 0,I 0,I 0,I 0]) (vs:=km m) (km m).toArray VD (by simp) (hcs:=by exact aJ)) (ab (gS (gM (gM (gV (cI (v:=I (D1 k)) Wu Vf VL (Fa hD1 _)) (gF 4 Vy rR Vb (gL (I m.refs) Vc (gV fZ (ab ?_))))))))));apply ah<;>intro h89
        · have h89:D1 k≠m.refs:=(by simpa using h89);refine gS (gQ ?_)
          first
          | (refine bQ r ?_
             refine ct p r x S (.refl _) ?_;refine cC b x s c (S) (L) (n) ?_;refine iR (L2:=gO b S L n::F) ?_;exact λa w R V=>wp_ret (bX (aW (vs:=[Bo false]) rfl R V ⟨false,rfl,rfl,(λh=>by cases h),λh=>absurd h (λhc=>hc.nz k m hm hno)⟩)))
          | (subst eD1
             refine bQ r ?_;refine ct p r x S (.refl _) ?_;refine cC b x s c (S) (L) (n) ?_;refine iR (L2:=gO b S L n::F) ?_;exact λa w R V=>wp_ret (bX (aW (vs:=[Bo false]) rfl R V ⟨false,rfl,rfl,(λh=>by cases h),λh=>absurd h (oY Z hs hm h89)⟩)))
          | (subst eD2
             refine bQ r2 ?_;refine dP r2 p S.B (.refl _) ?_;refine bQ r ?_;refine ct p r x S (.refl _) ?_;refine cC b x s c (S) (L) (n) ?_;refine iR (L2:=gO b S L n::F) ?_;exact λa w R V=>wp_ret (bX (aW (vs:=[Bo false]) rfl R V ⟨false,rfl,rfl,(λh=>by cases h),λh=>absurd h (oZ Z hB hy Y)⟩)))
          | (refine gv O λhnd=>?_
             rw[te] at hnd;subst eD1 eD2;have hend:=qZ Z hnz' hnn' hbb' hB hs hpos hD2 hnd;refine bQ r2 ?_;refine dP r2 p S.B (.refl _) ?_;refine bQ r ?_;refine ct p r x S (.refl _) ?_;refine cC b x s c (S) (L) (n) ?_;refine iR (L2:=gO b S L n::F) ?_;exact λa w R V=>wp_ret (bX (aW (vs:=[Bo (decide (((mi (yf Q2 0)).length:Int)=((tb cL 40 S.B).length:Int)))]) rfl R V ⟨_,rfl,rfl,by rw[gw,show (mi (yf Q2 0)).length=(yf Q2 0).length by simp[mi]];exact hend⟩)))
        · have h89:D1 k=m.refs:=(by simpa using h89);refine ai (aG ?_);exact ap (X,some (k,cl m)) ⟨(λq m' h=>by
            rcases hnn q m' h with h1 | h1
            · rcases tV hq h1 with rfl | h2
              · rw[hm] at h;injection h with h;subst h;exact .inr h89
              · exact .inl h2
            · exact .inr h1),qm hq J⟩ (tW hq) [0,5,6,78] rfl
    · obtain ⟨m,hm,hv,hk⟩:=uU (xt hq J);simp only at hv hk hm;subst hv;refine gV aH (ab (ac ?_));refine eH ?_;refine ai (al (gS (gV ij (gX (I k) (gX (cl m) (gI (aO #[I 0,I 0,I 0,I 0,I 0] Wa) ?_))))));rintro _ _ ⟨b10,rfl,rfl⟩;refine gA (gU (ax (cs:=#[I 0,I 0,I 0,I 0,I 0]) (vs:=km m) (km m).toArray VD (by simp) (hcs:=by exact aJ)) (ab (ac (gS (gF 0 Vy rR Vw (gV (aU (vs:=fQ m) V7 Vw vj) (gM (ab (al ?_)))))))));refine aM (α:=Nat×IM×IM×(Int->Int)×(Int->Int)) (λz=>z.1<=4/\Cni S.N L X k m z.1 z.2.2.2.1 z.2.2.2.2/\cm z.2.1 z.2.2.2.1/\cm z.2.2.1 z.2.2.2.2) (λz=>U [(0,ptr b 0),(1, .map (some rk)),(5, .map (some b17)),(6, .map (some O)),(41,ptr b41 0),(9,I k),(10,ptr b10 0),(48, .agg (fQ m).toArray),(49,I z.1)]) (λz=>x9 b41 r es clk X (some (k,cl m))::pt b10 (.cells (km m).toArray 187 (0,0))::mp b17 (mi z.2.1)::mp O (mi z.2.2.1)::mp rk (mi Kd)::pt b (.cells #[ptr x 0,sl s (L).length c,I (n)] 123 (0,0))::pt x (.cells #[ptr p 0, .map (some r)] 231 (0,0))::sH r es clk (tb cl 24 S.N)::ml p S.B::bi 162 4 s c (fE (L))::F) (λz=>4 - z.1) (0,Q1,Q2,c1,c2) ⟨by simp,R8 Z hq hm,hQ1,hQ2⟩ [0,1,5,6,41,9,10,48,49] rfl ?_;rintro ⟨i,Q1,Q2,c1,c2⟩ ⟨hi,hC,hQ1,hQ2⟩;simp only[] at hi hC hQ1 hQ2 ⊢;refine gS (gV aI (ab (ac ?_)));apply ah<;>intro h50
      · simp at h50;have hi4:i<4:=(by omega);refine ai (ac (al (gS (gV (kO (v:=I (bU m i)) i VH Vb Vc hi4 (by simpa using gz m i hi4)) (gQ (gS (gM (gM (gV (cI (v:=I ((li Kd k).getD 0)) Wu Vf VL (mb Kd k 0)) (gV bT (ab ?_)))))))))));apply ah<;>intro h55
        · have h55:(li Kd k).getD 0=1:=(by simpa using h55);refine am (gM (gM (gV (cI (v:=I (c1 (bU m i))) Wu Vf VL (Fa hQ1 _)) (gV (bO (da (by have:=hQ1.2.2 (bU m i);have:=(Mn hC hl (bU m i)).1;omega))) (ir (cn Wu Vf) ?_)))));rintro _ _ rfl;rw[r9];refine ab (aG (am (gP (gM (ab ?_)))));exact ap (i+1,Jv Q1 (bU m i) (c1 (bU m i)+1),Q2,del c1 (bU m i) 1,c2) ⟨by simp only[];omega,TS hC hi4 ((hK k).1 h55),GO hQ1 _,hQ2⟩ (by simp only[];omega) [0,1,5,6,41,9,10,48,49] rfl
        · have h55:¬(li Kd k).getD 0=1:=(by simpa using h55);refine am (gM (gM (gV (cI (v:=I (c2 (bU m i))) Wu Vf VL (Fa hQ2 _)) (gV (bO (da (by have:=hQ2.2.2 (bU m i);have:=(Mn hC hl (bU m i)).2;omega))) (ir (cn Wu Vf) ?_)))));rintro _ _ rfl;rw[r9];refine ab (aG (am (gP (gM (ab ?_)))));exact ap (i+1,Q1,Jv Q2 (bU m i) (c2 (bU m i)+1),c1,del c2 (bU m i) 1) ⟨by simp only[];omega,TU hC hi4 (λh=>h55 ((hK k).2 h)),hQ1,GO hQ2 _⟩ (by simp only[];omega) [0,1,5,6,41,9,10,48,49] rfl
      · simp at h50;obtain rfl:i=4:=(by omega);refine aF ?_;refine gS (gF 0 Vy rR Vw (gV (aU (vs:=fQ m) V7 Vw vj) (gV (aR QC) (gV (KU eqGuardType185 rR rR (QB m yN)) (ab ?_)))));apply ah<;>intro h68
        · have hno:fc m:=of_decide_eq_true h68;refine gS (gQ ?_)
          first
          | (refine bQ r ?_
             refine ct p r x S (.refl _) ?_;refine cC b x s c (S) (L) (n) ?_;refine iR (L2:=gO b S L n::F) ?_;exact λa w R V=>wp_ret (bX (aW (vs:=[Bo false]) rfl R V ⟨false,rfl,rfl,(λh=>by cases h),λh=>absurd h (λhc=>hc.nz k m hm hno)⟩)))
          | (subst eD1
             refine bQ r ?_;refine ct p r x S (.refl _) ?_;refine cC b x s c (S) (L) (n) ?_;refine iR (L2:=gO b S L n::F) ?_;exact λa w R V=>wp_ret (bX (aW (vs:=[Bo false]) rfl R V ⟨false,rfl,rfl,(λh=>by cases h),λh=>absurd h (oY Z hs hm h89)⟩)))
          | (subst eD2
             refine bQ r2 ?_;refine dP r2 p S.B (.refl _) ?_;refine bQ r ?_;refine ct p r x S (.refl _) ?_;refine cC b x s c (S) (L) (n) ?_;refine iR (L2:=gO b S L n::F) ?_;exact λa w R V=>wp_ret (bX (aW (vs:=[Bo false]) rfl R V ⟨false,rfl,rfl,(λh=>by cases h),λh=>absurd h (oZ Z hB hy Y)⟩)))
          | (refine gv O λhnd=>?_
             rw[te] at hnd;subst eD1 eD2;have hend:=qZ Z hnz' hnn' hbb' hB hs hpos hD2 hnd;refine bQ r2 ?_;refine dP r2 p S.B (.refl _) ?_;refine bQ r ?_;refine ct p r x S (.refl _) ?_;refine cC b x s c (S) (L) (n) ?_;refine iR (L2:=gO b S L n::F) ?_;exact λa w R V=>wp_ret (bX (aW (vs:=[Bo (decide (((mi (yf Q2 0)).length:Int)=((tb cL 40 S.B).length:Int)))]) rfl R V ⟨_,rfl,rfl,by rw[gw,show (mi (yf Q2 0)).length=(yf Q2 0).length by simp[mi]];exact hend⟩)))
        · have h68:¬fc m:=of_decide_eq_false h68;refine ai (aG ?_);exact ap (X,some (k,cl m),Q1,Q2,c1,c2) ⟨Pu hC,hQ1,hQ2,(λq m' h=>by
            rcases hnz q m' h with h1 | h1
            · rcases tV hq h1 with rfl | h2
              · rw[hm] at h;injection h with h;subst h;exact .inr h68
              · exact .inl h2
            · exact .inr h1),qm hq J⟩ (tW hq) [0,1,5,6,41] rfl
def xu {ρ:Type}{m n:Nat}{B:Int->Option ρ}(h:l9 n B)(hm:m<=n)(J:∀q∈bZ n B,q<=m):l9 m B:=λq x e=>by
 have h1:=h q x e;have O:=J q (mem_ids.2 ⟨h1,by rw[e];rfl⟩);omega
def ML {S:SI}{L:List Pt}{p:Pt}(h:FS S L)(hp:∀i:Nat,p.size<=(i:Int)->i<16->jn S p.root i=[]):FS S (L++ [p]):=λx hx i h1 J=>by
 rcases Zn.1 hx with hx | hx
 ·exact h x hx i h1 J
 grind
def PI (S:SI):FS S []:=λp hp=>by cases hp
def MN (b:Nat)(st:PS)(F:List ag):Value->List ag->Prop:=λv L'=>(v=Bo true/\WholeP st/\L'=gO b ⟨st.B,st.N⟩ st.L st.n::F)\/(v=Bo false/\¬WholeP st/\L'=F)
section
variable {c:Cx}{E:dr}{L:List ag}{K:List KI}
def eZ {F:List ag}{b:Nat}{st:PS}{vs:List Value}(O:c.R=MN b st F)(he:¬WholeP st)(hr:gm E c.fn.results.toList=some vs)(hv:rN vs=Bo false)[S:Sub L F](hds:c.n.ds=[]:=by rfl):G c (.code .ret::K) E L:=
 λa w J V=>wp_ret (bX (aW (hds:=hds) hr J (S.sat V) (by rw[O];exact .inr ⟨hv,he,rfl⟩)))
def Iv {F:List ag}{b:Nat}{st:PS}{vs:List Value}(O:c.R=MN b st F)(he:WholeP st)(hr:gm E c.fn.results.toList=some vs)(hv:rN vs=Bo true)[S:Sub L (gO b ⟨st.B,st.N⟩ st.L st.n::F)](hds:c.n.ds=[]:=by rfl):G c (.code .ret::K) E L:=
 λa w J V=>wp_ret (bX (aW (hds:=hds) hr J (S.sat V) (by rw[O];exact .inl ⟨hv,he,rfl⟩)))
end
def Iw {st:PS}(h:Pok st)(O:l9 24 st.N)(J:l9 40 st.B):gJ 999 ⟨st.B,st.N⟩:=⟨J,λq x e=>(h.b q x e).1,O,λq m e=>(h.n q m e).1⟩
def MO (l:List ChangeM)(T:TypeId)(F:List ag):Value->List ag->Prop:=λv L'=>(∃st q,io none ps0 l=some st/\WholeP st/\v= .tuple #[ptr q 0,fv T 0]/\L'=gO q ⟨st.B,st.N⟩ st.L st.n::F)\/((∀st,io none ps0 l=some st->¬WholeP st)/\v= .tuple #[.pointer none,fv T 4]/\L'=F)
section
variable {c:Cx}{E:dr}{L:List ag}{K:List KI}
def GQ {F:List ag}{l:List ChangeM}{T:TypeId}{vs:List Value}(O:c.R=MO l T F)(he:∀st,io none ps0 l=some st->¬WholeP st)(hr:gm E c.fn.results.toList=some vs)(hv:rN vs= .tuple #[.pointer none,fv T 4])[S:Sub L F](hds:c.n.ds=[]:=by rfl):G c (.code .ret::K) E L:=
 λa w J V=>wp_ret (bX (aW (hds:=hds) hr J (S.sat V) (by rw[O];exact .inr ⟨he,hv,rfl⟩)))
def PJ {F:List ag}{l:List ChangeM}{T:TypeId}{st:PS}{q:Nat}{vs:List Value}(O:c.R=MO l T F)(he:io none ps0 l=some st)(hw:WholeP st)(hr:gm E c.fn.results.toList=some vs)(hv:rN vs= .tuple #[ptr q 0,fv T 0])[S:Sub L (gO q ⟨st.B,st.N⟩ st.L st.n::F)](hds:c.n.ds=[]:=by rfl):G c (.code .ret::K) E L:=
 λa w J V=>wp_ret (bX (aW (hds:=hds) hr J (S.sat V) (by rw[O];exact .inl ⟨st,q,he,hw,hv,rfl⟩)))
end
def C3:∀(l1:List ChangeM) {l2:List ChangeM} {O:Option ak} {st J:PS},io O st l1=some J->io O st (l1++l2)=io (match l1.getLast? with | none=>O | some c=>some c.key) J l2
 | [],l2,O,st,J,h=>by grind[io]
 | c::l1,l2,O,st,J,h=>by
  simp only[io,Zh] at h ⊢;split at h
  ·cases h
  ·rename_i R;rw[YC R];split at h
   ·cases h
   ·rename_i S hr;rw[C3 l1 h]
    grind
def PK (l:List ChangeM)(i:Nat):Option ak:=match (l.take i).getLast? with | none=>none | some c=>some c.key
def Kc {l:List ChangeM}{i:Nat}{st J:PS}{c:ChangeM}(h:io none ps0 (l.take i)=some st)(O:l[i]? =some c)(R:¬(Pi (PK l i) c=true\/c.gone=true))(hr:je st c=some J):io none ps0 (l.take (i+1))=some J:=by
 rw[<-fG O,C3 _ h]
 grind[io,PK]
def Bp {l:List ChangeM}{i:Nat}{st:PS}{c:ChangeM}(h:io none ps0 (l.take i)=some st)(O:l[i]? =some c)(J:(Pi (PK l i) c=true\/c.gone=true)\/je st c=none):io none ps0 l=none:=by
 have e:l=l.take i++c::l.drop (i+1):=by
  grind[List.drop_eq_getElem_cons,List.take_append_drop]
 rw[e,C3 _ h]
 grind[io,PK]
def TZ (l:List ChangeM):PK l 0=none:=by simp[PK]
def T0 {l:List ChangeM}{i:Nat}{c:ChangeM}(h:l[i]? =some c):PK l (i+1)=some c.key:=by
 grind[PK]
def Sf {st J:PS}{c:ChangeM}(h:je st c=some J):J.L.length<=st.L.length+1:=by
 by_cases O:c.key=[120]
 ·grind[je,xF]
 grind[Mj,KE,bF,nF,pF]
def rF (b p r:Nat)(N:fU)(m:Nat)(hm:(bZ m N).length<=1000)(F:List ag):Ct Tryz.prog 138 [ptr b 0] (pt b (.cells #[ptr p 0, .map (some r)] 231 (0,0))::mp r (tb cl m N)::F) (ww 3 1 (bZ m N).length (bz (bZ m N)) (pt b (.cells #[ptr p 0, .map (some r)] 231 (0,0))::mp r (tb cl m N)::F)):=by
 refine Ct.of func138 rR 21 ntmps138 (by simp) λw0=>?_;refine fj r ?_;intro es clk;refine bH 3 1 (bz []) ?_;refine gS (gQ (gS (gQ (ac (gS (gM (gV aa (gF 1 VA rR VU (gL (.map (some r)) VY (gI (ii VZ) ?_))))))))));rintro _ _ ⟨X,rfl,rfl⟩;refine ab (al ?_);refine aM (α:=MM×List Int×Option (Int×Value)×Option Addr×Nat) (λz=>(z.2.1++z.1.map (·.1)).Perm (bZ m N)) (λz=>U [(0,ptr b 0),(9,ptr X 0),(3,sl z.2.2.2.1 z.2.1.length z.2.2.2.2)]) (λz=>x9 X r es clk z.1 z.2.2.1::sH r es clk (tb cl m N)::pt b (.cells #[ptr p 0, .map (some r)] 231 (0,0))::bi 3 1 z.2.2.2.1 z.2.2.2.2 (bz z.2.1)::F) (λz=>z.1.length) (tb cl m N,[],none,none,0) (by rw[Zg,mW]) [0,9,3] rfl ?_;rintro ⟨rest,O,cur,s,c⟩ hp;simp only[] at hp ⊢;have Z:O.length<=1000:=(by have h1:=hp.length_eq;simp at h1;omega);refine gS (gI j9 ?_);rintro _ _ (⟨hr,rfl,rfl⟩ | ⟨⟨k,v⟩,J,hq,rfl,rfl⟩)
 ·subst hr;simp only[Yx,kaE] at hp;refine gV aH (ab (ac ?_));refine dW ?_;refine aF ?_;refine gS (gM (gR (vB call208 (ki O s O.length c rR (by omega))) ?_));rw[tc hp];refine ab (gS (gM (gQ ?_)));refine bQ r ?_;exact df rfl rfl rfl (by rw[hp.length_eq])
 ·have S:(O++k::J.map (·.1)).Perm (bZ m N):=by
   have h1:=((hq.map (·.1)).append_left O).symm.trans hp;simpa using h1
  refine gV aH (ab (ac ?_));refine eH ?_;refine ai (al (gS (gV ij (gX (I k) (gQ (am (gM (gM (gI (av [[I k]] Vi Vb VL (by simp)) ?_)))))))));rintro _ _ ⟨Y,rfl,rfl⟩;refine gI (bo Vi Vb VL Tryz.typeInfo3 (hn:=by exact bW _) (by simp) (by intro r hr;simp at hr;subst hr;rfl) ⟨by omega,by decide,by decide⟩) ?_;rintro _ _ ⟨V,R,rfl,rfl⟩;refine gQ (aG ?_);rw[show bz O++ [[I k]]=bz (O++ [k]) by simp[bz]];refine ap (J,O++ [k],some (k,v),V,R) (by simpa using S) (by have:=hq.length_eq;simp at this;simp;omega) [0,9,3] rfl (he:=by simp[U])
def tX (b r:Nat)(B:pN)(m:Nat)(hm:(bZ m B).length<=1000)(F:List ag):Ct Tryz.prog 137 [ptr b 0] (pt b (.cells #[.map (some r)] 234 (0,0))::mp r (tb cL m B)::F) (ww 3 1 (bZ m B).length (bz (bZ m B)) (pt b (.cells #[.map (some r)] 234 (0,0))::mp r (tb cL m B)::F)):=by
 refine Ct.of func137 rR 21 ntmps137 (by simp) λw0=>?_;refine fj r ?_;intro es clk;refine bH 3 1 (bz []) ?_;refine gS (gQ (gS (gQ (ac (gS (gM (gV aa (gF 0 Ws rR Wm (gL (.map (some r)) Wt (gI (ii We) ?_))))))))));rintro _ _ ⟨X,rfl,rfl⟩;refine ab (al ?_);refine aM (α:=MM×List Int×Option (Int×Value)×Option Addr×Nat) (λz=>(z.2.1++z.1.map (·.1)).Perm (bZ m B)) (λz=>U [(0,ptr b 0),(9,ptr X 0),(3,sl z.2.2.2.1 z.2.1.length z.2.2.2.2)]) (λz=>x9 X r es clk z.1 z.2.2.1::sH r es clk (tb cL m B)::pt b (.cells #[.map (some r)] 234 (0,0))::bi 3 1 z.2.2.2.1 z.2.2.2.2 (bz z.2.1)::F) (λz=>z.1.length) (tb cL m B,[],none,none,0) (by rw[Zg,mW]) [0,9,3] rfl ?_;rintro ⟨rest,O,cur,s,c⟩ hp;simp only[] at hp ⊢;have Z:O.length<=1000:=(by have h1:=hp.length_eq;simp at h1;omega);refine gS (gI j9 ?_);rintro _ _ (⟨hr,rfl,rfl⟩ | ⟨⟨k,v⟩,J,hq,rfl,rfl⟩)
 ·subst hr;simp only[Yx,kaE] at hp;refine gV aH (ab (ac ?_));refine dW ?_;refine aF ?_;refine gS (gM (gR (vB call208 (ki O s O.length c rR (by omega))) ?_));rw[tc hp];refine ab (gS (gM (gQ ?_)));refine bQ r ?_;exact df rfl rfl rfl (by rw[hp.length_eq])
 ·have S:(O++k::J.map (·.1)).Perm (bZ m B):=by
   have h1:=((hq.map (·.1)).append_left O).symm.trans hp;simpa using h1
  refine gV aH (ab (ac ?_));refine eH ?_;refine ai (al (gS (gV ij (gX (I k) (gQ (am (gM (gM (gI (av [[I k]] Vi Vb VL (by simp)) ?_)))))))));rintro _ _ ⟨Y,rfl,rfl⟩;refine gI (bo Vi Vb VL Tryz.typeInfo3 (hn:=by exact bW _) (by simp) (by intro r hr;simp at hr;subst hr;rfl) ⟨by omega,by decide,by decide⟩) ?_;rintro _ _ ⟨V,R,rfl,rfl⟩;refine gQ (aG ?_);rw[show bz O++ [[I k]]=bz (O++ [k]) by simp[bz]];refine ap (J,O++ [k],some (k,v),V,R) (by simpa using S) (by have:=hq.length_eq;simp at this;simp;omega) [0,9,3] rfl (he:=by simp[U])
def pA (b:Nat)(S:SI)(L:List Pt)(n:Int)(hl:L.length<=1000000)(hok:gJ 999 S)(hp16:∀p∈L,0<p.size/\p.size<=16)(F:List ag):Ct Tryz.prog 195 [ptr b 0] (gO b S L n::F) (λv L'=>∃o,v=Bo o/\L'=gO b S L n::F/\(o=true ↔ FS S L)):=by
  refine Ct.of func195 rR 31 ntmps195 (by simp) λw0=>?_;refine ik b S L n ?_;intro x s c;refine gS (gQ (ac (gS (gM (gV aa (gF 1 Vr rR Vx (gL (sl s (L).length c) VM (gV (aX Vv) (gM (ab (al ?_)))))))))));refine aM (α:=Nat) (λj=>j<=L.length/\FS S (L.take j)) (λj=>U [(0,ptr b 0),(9,sl s L.length c),(10,I L.length),(11,I j)]) (λj=>pt b (.cells #[ptr x 0,sl s (L).length c,I (n)] 123 (0,0))::kK x S::bi 162 4 s c (fE (L))::F) (λj=>L.length - j) 0 ⟨by simp,by simpa using PI S⟩ [0,9,10,11] rfl ?_;rintro j ⟨hj,hT⟩;refine gS (gV aI (ab (ac ?_)));apply ah<;>intro h12
  · simp at h12;have Z:j<L.length:=(by omega);obtain ⟨J,hp⟩:∃J,L[j]? =some J:=⟨_,Zu Z⟩;have hp0:=hp16 J (YW hp);refine ai (ac (al (gS (gV (ay (j) Vv Vk Z (by rw[cQ];exact Z)) (gV (bJ (row:=aY J) Wp Vk (gC hp)) (gI (aO #[I 0,I 0,I 0,I 0] VJ) ?_))))));rintro _ _ ⟨b4,rfl,rfl⟩;refine gU (ax (cs:=#[I 0,I 0,I 0,I 0]) (vs:=aY (J)) (aY (J)).toArray Vk (by simp) (hcs:=by exact aJ)) (ab (gS (gF 2 VC rR Vb (gL (I J.size) Vc (gQ ?_)))));obtain ⟨sz,hsz⟩:∃k:Nat,J.size=k:=⟨J.size.toNat,by omega⟩;refine al ?_;refine aM (α:=Nat) (λa=>a<=16/\sz<=a/\∀i,sz<=i->i<a->jn S J.root i=[]) (λa=>U [(0,ptr b 0),(9,sl s L.length c),(10,I L.length),(11,I j),(4,ptr b4 0),(5,I a)]) (λa=>pt b (.cells #[ptr x 0,sl s (L).length c,I (n)] 123 (0,0))::kK x S::bi 162 4 s c (fE (L))::pt b4 (.cells (aY J).toArray 162 (0,0))::F) (λa=>16 - a) sz ⟨by omega,by omega,λi h1 h2=>absurd h1 (by omega)⟩ [0,9,10,11,4,5] rfl (he:=by simp[U,hsz]) ?_;rintro a ⟨ha,hsa,V⟩;refine ac (gS (gM (gV aI (ab ?_))));apply ah<;>intro h18
    · simp at h18;have R:a<16:=(by omega);refine ai (ac (al (ac (gD (Lf:=[pt b (.cells #[ptr x 0,sl s (L).length c,I (n)] 123 (0,0)),pt b4 (.cells (aY J).toArray 162 (0,0))]) [(0,false),(1,false),(2,false),(3,false),(4,false),(5,false),(6,false),(7,true),(8,false)] (dM rR (dV rR aa (dF rR 0 Vr rR VK (dL rR (ptr x 0) VN (dF rR 3 VC rR Vb (dL rR (I J.root) Vc (dM rR (d7 rR (uB call98 (jo x S J.root a 999 hok (by decide) (by omega))) ?_))))))))))));rintro _ _ ⟨rfl,rfl⟩;refine dV rR np ?_;refine aP ?_;apply ah<;>intro O
      · simp at O;refine gS (gQ ?_)
        first
        | (refine cC b x s c (S) (L) (n) ?_
           exact λa w X Y=>wp_ret (bX (aW (vs:=[Bo true]) rfl X ((inferInstance:Sub _ (gO b S L n::F)).sat Y) ⟨true,rfl,rfl,λ_=>hT,λ_=>rfl⟩)))
        | (refine cC b x s c (S) (L) (n) ?_
           exact λa' w X Y=>wp_ret (bX (aW (vs:=[Bo false]) rfl X ((inferInstance:Sub _ (gO b S L n::F)).sat Y) ⟨false,rfl,rfl,(λh=>by cases h),λh=>absurd (h J (YW hp) a (by omega) R) O⟩)))
      · simp at O;refine ai (aG (am (gM (gP (gQ ?_)))));exact ap (a+1) ⟨by omega,by omega,λi h1 h2=>by
          rcases YL i a with h | h
          · exact V i h1 h
          · obtain rfl:i=a:=(by omega);exact O⟩ (by omega) [0,9,10,11,4,5] rfl
    · simp at h18;obtain rfl:a=16:=(by omega);refine aF ?_;refine aG (am (gP (gM (ab ?_))));exact ap (j+1) ⟨by omega,by rw[<-fG hp];exact ML hT λi h1 h2=>V i (by omega) h2⟩ (by omega) [0,9,10,11] rfl
  · simp at h12;obtain rfl:j=L.length:=(by omega);rw[Y3] at hT;refine aF ?_;refine gS (gQ ?_)
    first
    | (refine cC b x s c (S) (L) (n) ?_
       exact λa w X Y=>wp_ret (bX (aW (vs:=[Bo true]) rfl X ((inferInstance:Sub _ (gO b S L n::F)).sat Y) ⟨true,rfl,rfl,λ_=>hT,λ_=>rfl⟩)))
    | (refine cC b x s c (S) (L) (n) ?_
       exact λa' w X Y=>wp_ret (bX (aW (vs:=[Bo false]) rfl X ((inferInstance:Sub _ (gO b S L n::F)).sat Y) ⟨false,rfl,rfl,(λh=>by cases h),λh=>absurd (h J (YW hp) a (by omega) R) O⟩)))
def zo (b:Nat)(st:PS)(hP:Pok st)(hl:st.L.length<=1000000)(F:List ag):Ct Tryz.prog 120 [ptr b 0] (MH b st::F) (MN b st F):=by
 refine Ct.of func120 rR 119 ntmps120 (by simp) λw0=>?_;refine pa b st ?_;intro x p r r2 s cc;refine gS (gQ (ac (ac (gG [(0,false),(1,false),(2,false),(3,false),(4,false),(5,false),(6,false),(7,false),(8,false),(9,false),(10,false),(11,false),(12,false),(13,false),(14,false),(15,false),(16,false),(17,false),(18,false),(19,false),(20,false),(21,false),(22,false),(23,false),(24,false),(25,false),(26,false),(27,false),(28,false),(29,false),(30,false),(31,false),(32,false),(33,false),(34,false),(35,false),(36,false),(37,false),(38,false),(39,false),(40,false),(41,false),(42,false),(43,false),(44,false),(45,false),(46,false),(47,false),(48,false),(49,false),(50,false),(51,false),(52,false),(53,false),(54,false),(55,false),(56,false),(57,false),(58,false),(59,false),(60,false),(61,false),(62,false),(63,false),(64,false),(65,false)] (dM rR (dV rR aa (dF rR 1 Vr rR Vx (dL rR (sl s st.L.length cc) VM (dV rR (aX Vv) (dV rR aT (dM rR ?_)))))))))));by_cases g1:(6:Int)<(st.L.length:Int)
 ·refine aL rR (hw:=by rw[Zv g1];rfl) (aL rR (hw:=by rw[Zv g1];rfl) (aL rR (hw:=by rw[Zv g1];rfl) (aL rR (hw:=by rw[Zv g1];rfl) (aL rR (hw:=by rw[Zv g1];rfl) (aL rR (hw:=by rw[Zv g1];rfl) (aL rR (hw:=by rw[Zv g1];rfl) (aL rR (hw:=by rw[Zv g1];rfl) (aL rR (hw:=by rw[Zv g1];rfl) (dV rR (fl (hq:=by exact Zv g1)) (dM rR (aL rR (aL rR (aL rR (aL rR (aL rR (aL rR (aL rR (aL rR (aL rR (aL rR (aL rR (aL rR (dV rR fl (dM rR (aL rR (aL rR (aL rR (aL rR (aL rR (dV rR fl (dM rR (aL rR (aL rR (aL rR (aL rR (aL rR (aL rR (aL rR (aL rR ?_)))))))))))))))))))))))))))))))))))))));refine aL rR (aL rR (aL rR (aL rR (aL rR (aL rR (aL rR (aL rR (aL rR (aL rR (aL rR (aL rR (aL rR (aL rR (aL rR (aL rR (aL rR (aL rR (dV rR fl ?_))))))))))))))))));refine aP ?_;apply ah<;>intro V
  ·refine gS (gQ ?_);exact eZ rfl (λhw=>by have:=hw.len;omega) rfl rfl
  ·cases V
 ·refine aN rR (hw:=by exact Zt g1) aq (aN rR (hw:=by exact Zt g1) aa (aN rR (hw:=by exact Zt g1) (aw 0 Vr rR VK) (aN rR (hw:=by exact Zt g1) (az (v:=ptr x 0) VN) (aN rR (hw:=by exact Zt g1) aa (aN rR (hw:=by exact Zt g1) (aw 1 VA rR VU) (aN rR (hw:=by exact Zt g1) (az (v:= .map (some r)) VY) (aN rR (hw:=by exact Zt g1) (lh VZ) (aN rR (hw:=by exact Zt g1) aT (dV rR (eT (hq:=by exact Zt g1)) (dM rR ?_))))))))));by_cases O:(24:Int)<(((tb cl 999 st.N).length):Int)
  ·refine aL rR (hw:=by rw[Zv O];rfl) (aL rR (hw:=by rw[Zv O];rfl) (aL rR (hw:=by rw[Zv O];rfl) (aL rR (hw:=by rw[Zv O];rfl) (aL rR (hw:=by rw[Zv O];rfl) (aL rR (hw:=by rw[Zv O];rfl) (aL rR (hw:=by rw[Zv O];rfl) (aL rR (hw:=by rw[Zv O];rfl) (aL rR (hw:=by rw[Zv O];rfl) (aL rR (hw:=by rw[Zv O];rfl) (aL rR (hw:=by rw[Zv O];rfl) (aL rR (hw:=by rw[Zv O];rfl) (dV rR (fl (hq:=by exact Zv O)) (dM rR (aL rR (aL rR (aL rR (aL rR (aL rR (dV rR fl (dM rR (aL rR (aL rR (aL rR (aL rR (aL rR (aL rR (aL rR (aL rR (aL rR (aL rR (aL rR (aL rR (aL rR (aL rR (aL rR (aL rR (aL rR (aL rR (aL rR ?_)))))))))))))))))))))))))))))))))))))));refine aL rR (aL rR (aL rR (aL rR (aL rR (aL rR (aL rR (dV rR fl ?_)))))));refine aP ?_;apply ah<;>intro V
   ·refine gS (gQ ?_);exact eZ rfl (λhw=>by have h9:=ea 24 st.N;rw[gw,Ij (n:=999) (by decide) hw.sN] at O;omega) rfl rfl
   ·cases V
  ·refine aN rR (hw:=by exact Zt O) aq (aN rR (hw:=by exact Zt O) aa (aN rR (hw:=by exact Zt O) (aw 0 Vr rR VK) (aN rR (hw:=by exact Zt O) (az (v:=ptr x 0) VN) (aN rR (hw:=by exact Zt O) aa (aN rR (hw:=by exact Zt O) (aw 0 VA rR Wy) (aN rR (hw:=by exact Zt O) (az (v:=ptr p 0) WC) (aN rR (hw:=by exact Zt O) aa (aN rR (hw:=by exact Zt O) (aw 0 Ws rR Wm) (aN rR (hw:=by exact Zt O) (az (v:= .map (some r2)) Wt) (aN rR (hw:=by exact Zt O) (lh We) (aN rR (hw:=by exact Zt O) aT (dV rR (eT (hq:=by exact Zt O)) (dM rR ?_)))))))))))));by_cases g3:(40:Int)<((tb cL 999 st.B).length:Int)
   ·refine aL rR (hw:=by rw[Zv g3];rfl) (aL rR (hw:=by rw[Zv g3];rfl) (aL rR (hw:=by rw[Zv g3];rfl) (aL rR (hw:=by rw[Zv g3];rfl) (aL rR (hw:=by rw[Zv g3];rfl) (dV rR (fl (hq:=by exact Zv g3)) (dM rR (aL rR (aL rR (aL rR (aL rR (aL rR (aL rR (aL rR (aL rR (aL rR (aL rR (aL rR (aL rR (aL rR (aL rR (aL rR (aL rR (aL rR (aL rR (aL rR (aL rR (aL rR (aL rR (aL rR (aL rR (aL rR (aL rR (dV rR fl ?_)))))))))))))))))))))))))))))))));refine aP ?_;apply ah<;>intro V
    ·refine gS (gQ ?_);exact eZ rfl (λhw=>by have h9:=ea 40 st.B;rw[gw,Ij (n:=999) (by decide) hw.sB] at g3;omega) rfl rfl
    ·cases V
   ·refine aN rR (hw:=by exact Zt g3) aq (aN rR (hw:=by exact Zt g3) aa (aN rR (hw:=by exact Zt g3) (aw 2 Vr rR Vb) (aN rR (hw:=by exact Zt g3) (az (v:=I st.n) Vc) (aN rR (hw:=by exact Zt g3) aI (dV rR (eT (hq:=by exact Zt g3)) (dM rR ?_))))));by_cases g4:st.n<1
    ·refine aL rR (hw:=by rw[Zv g4];rfl) (aL rR (hw:=by rw[Zv g4];rfl) (aL rR (hw:=by rw[Zv g4];rfl) (aL rR (hw:=by rw[Zv g4];rfl) (aL rR (hw:=by rw[Zv g4];rfl) (aL rR (hw:=by rw[Zv g4];rfl) (aL rR (hw:=by rw[Zv g4];rfl) (aL rR (aL rR (aL rR (aL rR (aL rR (aL rR (aL rR (aL rR (aL rR (aL rR (aL rR (aL rR (aL rR (aL rR (aL rR (aL rR (aL rR (aL rR (aL rR (hw:=by rw[Zv g4];rfl) (dV rR (fl (hq:=by exact Zv g4)) ?_))))))))))))))))))))))))));refine aP ?_;apply ah<;>intro V
     ·refine gS (gQ ?_);exact eZ rfl (λhw=>by have:=hw.n1;omega) rfl rfl
     ·cases V
    ·refine aN rR (hw:=by exact Zt g4) aq (aN rR (hw:=by exact Zt g4) aa (aN rR (hw:=by exact Zt g4) (aw 1 Vr rR Vx) (aN rR (hw:=by exact Zt g4) (az (v:=sl s st.L.length cc) VM) (aN rR (hw:=by exact Zt g4) (aX Vv) (aN rR (hw:=by exact Zt g4) aT (aN rR (hw:=by exact Zt g4) aq ?_))))));by_cases J:(0:Int)<(st.L.length:Int)
     ·obtain ⟨pl,hpl⟩:∃pl,st.L[st.L.length - 1]? =some pl:=⟨_,Zu (by omega)⟩;have hpl2:st.L.getLast? =some pl:=(by rw[List.getLast?_eq_getElem?];exact hpl);refine aN rR (hw:=by exact Zv J) aq (aN rR (hw:=by exact Zv J) aa (aN rR (hw:=by exact Zv J) (aw 1 Vr rR Vx) (aN rR (hw:=by exact Zv J) (az (v:=sl s st.L.length cc) VM) (aN rR (hw:=by exact Zv J) aq (aN rR (hw:=by exact Zv J) aa (aN rR (hw:=by exact Zv J) (aw 1 Vr rR Vx) (aN rR (hw:=by exact Zv J) (az (v:=sl s st.L.length cc) VM) (aN rR (hw:=by exact Zv J) (aX Vv) (aN rR (hw:=by exact Zv J) (fe (da (by omega))) (aN rR (hw:=by exact Zv J) (ay (st.L.length - 1) Vv Vk (hj:=by omega) (by omega) (by rw[cQ];omega)) (aN rR (hw:=by exact Zv J) (aE (j:=st.L.length - 1) 0 VC rR Vb (by rw[cQ];omega)) (aN rR (hw:=by exact Zv J) (bC (v:=I pl.id) Vc (gC hpl)) (aN rR (hw:=by exact Zv J) aq (aN rR (hw:=by exact Zv J) aa (aN rR (hw:=by exact Zv J) (aw 2 Vr rR Vb) (aN rR (hw:=by exact Zv J) (az (v:=I st.n) Vc) (aN rR (hw:=by exact Zv J) j6 (aN rR (hw:=by exact Zt g4) (fl (hq:=by exact Zv J)) (dV rR (eT (hq:=by exact Zt g4)) ?_)))))))))))))))))));refine aP ?_;apply ah<;>intro V
      ·have g6:st.n<=pl.id:=(by simpa using V);refine gS (gQ ?_)
       first
       | exact eZ rfl (λhw=>by have:=hw.last pl hpl2;omega) rfl rfl
       | exact eZ rfl (λhw=>by obtain ⟨y,hy⟩:=kaG.1 S.2;have:=hw.sN q y hy;omega) rfl rfl
       | exact eZ rfl (λhw=>by obtain ⟨y,hy⟩:=kaG.1 S.2;have:=hw.sB q y hy;omega) rfl rfl
      ·have g6:¬st.n<=pl.id:=(by simpa using V);have hlast:∀p,st.L.getLast? =some p->p.id<st.n:=λp hp=>(by rw[hpl2] at hp;injection hp with hp;subst hp;omega);refine ai (ac (gS (gM (gV aa (gF 0 Vr rR VK (gL (ptr x 0) VN (gI (uC call138 (rF x p r st.N 999 (by rw[gw] at O;omega))) ?_)))))));rintro _ _ ⟨s79,c79,rfl,rfl⟩;refine bR s79 ?_;refine gV (aX Vi) (gM (ab (al ?_)));refine aM (α:=Nat) (λk=>k<=(bZ 999 st.N).length/\∀q∈(bZ 999 st.N).take k,q<=((24:Nat):Int)) (λk=>U [(0,ptr b 0),(79,sl s79 (bZ 999 st.N).length c79),(80,I (bZ 999 st.N).length),(81,I k)]) (λk=>roL 1 s79 (bz (bZ 999 st.N))::pt b (.cells #[ptr x 0,sl s st.L.length cc,I st.n] 123 (0,0))::pt x (.cells #[ptr p 0, .map (some r)] 231 (0,0))::pt p (.cells #[.map (some r2)] 234 (0,0))::mp r (tb cl 999 st.N)::mp r2 (tb cL 999 st.B)::bi 162 4 s cc (fE st.L)::F) (λk=>(bZ 999 st.N).length - k) 0 ⟨by simp,λq h=>by simp at h⟩ [0,79,80,81] rfl ?_;rintro k ⟨hk,Y⟩;refine gS (gV aI (ab (ac ?_)));apply ah<;>intro h82
       ·simp at h82;have hnl:(bZ 999 st.N).length<=24:=(by rw[gw] at O;omega);have R:k<(bZ 999 st.N).length:=(by omega);obtain ⟨q,hq⟩:∃q,(bZ 999 st.N)[k]? =some q:=⟨_,Zu R⟩;have S:=mem_ids.1 (YW hq);refine ai (ac (al (gS (gV (ay k Vi Vb R (by rw[bW];exact R)) (gV (bI (v:=I q) Vc (by exact dN hq) rR) (gQ (gS (gM (gV aT (ab ?_))))))))));apply ah<;>intro h86
        ·simp at h86;refine gS (gQ ?_)
         first
         | exact eZ rfl (λhw=>by have:=hw.last pl hpl2;omega) rfl rfl
         | exact eZ rfl (λhw=>by obtain ⟨y,hy⟩:=kaG.1 S.2;have:=hw.sN q y hy;omega) rfl rfl
         | exact eZ rfl (λhw=>by obtain ⟨y,hy⟩:=kaG.1 S.2;have:=hw.sB q y hy;omega) rfl rfl
        ·simp at h86;refine ai (aG (am (gP (gM (ab ?_)))));exact ap (k+1) ⟨by omega,λy hy=>by
          rw[<-fG hq,Zn,kad] at hy;rcases hy with hy | rfl
          ·exact Y y hy
          ·omega⟩ (by omega) [0,79,80,81] rfl
       ·simp at h82;obtain rfl:k=(bZ 999 st.N).length:=(by omega);rw[Y3] at Y;refine aF ?_;refine ac (gS (gM (gV aa (gF 0 Vr rR VK (gL (ptr x 0) VN (gV aa (gF 0 VA rR Wy (gL (ptr p 0) WC (gI (uC call137 (tX p r2 st.B 999 (by rw[gw] at g3;omega))) ?_)))))))));rintro _ _ ⟨s95,c95,rfl,rfl⟩;refine bR s95 ?_;refine gV (aX Vi) (gM (ab (al ?_)));refine aM (α:=Nat) (λk=>k<=(bZ 999 st.B).length/\∀q∈(bZ 999 st.B).take k,q<=((40:Nat):Int)) (λk=>U [(0,ptr b 0),(95,sl s95 (bZ 999 st.B).length c95),(96,I (bZ 999 st.B).length),(97,I k)]) (λk=>roL 1 s95 (bz (bZ 999 st.B))::pt b (.cells #[ptr x 0,sl s st.L.length cc,I st.n] 123 (0,0))::pt x (.cells #[ptr p 0, .map (some r)] 231 (0,0))::pt p (.cells #[.map (some r2)] 234 (0,0))::mp r (tb cl 999 st.N)::mp r2 (tb cL 999 st.B)::bi 162 4 s cc (fE st.L)::F) (λk=>(bZ 999 st.B).length - k) 0 ⟨by simp,λq h=>by simp at h⟩ [0,95,96,97] rfl ?_;rintro k ⟨hk,X⟩;refine gS (gV aI (ab (ac ?_)));apply ah<;>intro h98
        ·simp at h98;have hnl2:(bZ 999 st.B).length<=40:=(by rw[gw] at g3;omega);have R:k<(bZ 999 st.B).length:=(by omega);obtain ⟨q,hq⟩:∃q,(bZ 999 st.B)[k]? =some q:=⟨_,Zu R⟩;have S:=mem_ids.1 (YW hq);refine ai (ac (al (gS (gV (ay k Vi Vb R (by rw[bW];exact R)) (gV (bI (v:=I q) Vc (by exact dN hq) rR) (gQ (gS (gM (gV aT (ab ?_))))))))));apply ah<;>intro h102
         ·simp at h102;refine gS (gQ ?_)
          first
          | exact eZ rfl (λhw=>by have:=hw.last pl hpl2;omega) rfl rfl
          | exact eZ rfl (λhw=>by obtain ⟨y,hy⟩:=kaG.1 S.2;have:=hw.sN q y hy;omega) rfl rfl
          | exact eZ rfl (λhw=>by obtain ⟨y,hy⟩:=kaG.1 S.2;have:=hw.sB q y hy;omega) rfl rfl
         ·simp at h102;refine ai (aG (am (gP (gM (ab ?_)))));exact ap (k+1) ⟨by omega,λy hy=>by
           rw[<-fG hq,Zn,kad] at hy;rcases hy with hy | rfl
           ·exact X y hy
           ·omega⟩ (by omega) [0,95,96,97] rfl
        ·simp at h98;obtain rfl:k=(bZ 999 st.B).length:=(by omega);rw[Y3] at X;refine aF ?_;refine ac ?_;have Z:l9 24 st.N:=xu hP.sN (by decide) Y;have hsB:l9 40 st.B:=xu hP.sB (by decide) X;rw[CS (enc:=cl) (n:=999) (by decide) Z,CS (enc:=cL) (n:=999) (by decide) hsB];refine dP r2 p st.B (.refl _) ?_;refine ct p r x ⟨st.B,st.N⟩ (.refl _) ?_;refine cC b x s cc ⟨st.B,st.N⟩ st.L st.n ?_;refine am (gM (gI (uB call193 (qn b ⟨st.B,st.N⟩ st.L st.n (by omega) Z)) ?_));rintro _ _ ⟨rm,Q,o,rfl,rfl,hk1,hk2⟩;refine gM (gX (.map (some rm)) (gX (Bo o) (gA (gQ (gS (gM (gM ?_)))))));rcases hoo:o with _ | _
         ·have hkn:¬KindsP st.N st.L:=λh=>(by have:=hk1.2 h;rw[hoo] at this;cases this);refine bE (bE (bE (gV eT (gM (bE (bE (gV eT (gQ ?_))))))));exact eZ rfl (λhw=>by exact hkn hw.kinds) rfl rfl
         ·have hkp:KindsP st.N st.L:=hk1.1 hoo;refine bc aq (bc aq ?_);refine rQ (cX (Pre:=[mp rm (mi Q),gO b ⟨st.B,st.N⟩ st.L st.n]) call194 (n7 b ⟨st.B,st.N⟩ st.L st.n rm Q (by omega) Z hsB (λq x e=>(hP.b q x e).1.1) (hk2 hoo))) ?_;rintro _ _ ⟨o2,rfl,rfl,hc⟩;refine gV dD (gM ?_);rcases hoo2:o2 with _ | _
          ·have hcn:¬CountP st.B st.N st.L:=λh=>(by have:=hc.2 h;rw[hoo2] at this;cases this);refine bE (bE (gV eT (gQ ?_)));exact eZ rfl (λhw=>by exact hcn hw.counted) rfl rfl
          ·have hcp:CountP st.B st.N st.L:=hc.1 hoo2;refine bc aq ?_;refine rQ (cX (Pre:=[gO b ⟨st.B,st.N⟩ st.L st.n]) call195 (pA b ⟨st.B,st.N⟩ st.L st.n (by omega) (Iw hP Z hsB) (λp hp=>(hP.p p hp).2.2.1))) ?_;rintro _ _ ⟨o3,rfl,rfl,ht⟩;refine gV fl (gQ ?_);rcases hoo3:o3 with _ | _
           ·exact eZ rfl (λhw=>by have:=ht.2 hw.within;rw[hoo3] at this;cases this) rfl rfl
           ·exact Iv rfl ⟨by omega,by omega,hlast,Z,hsB,hkp,hcp,ht.1 hoo3⟩ rfl rfl
     ·have hlast:∀p,st.L.getLast? =some p->p.id<st.n:=λp hp=>by
       have h0:st.L=[]:=YT.1 (by omega);rw[h0] at hp;cases hp
      refine aL rR (hw:=by rw[Zt J];rfl) (aL rR (hw:=by rw[Zt J];rfl) (aL rR (hw:=by rw[Zt J];rfl) (aL rR (hw:=by rw[Zt J];rfl) (aL rR (hw:=by rw[Zt J];rfl) (aL rR (hw:=by rw[Zt J];rfl) (aL rR (hw:=by rw[Zt J];rfl) (aL rR (hw:=by rw[Zt J];rfl) (aL rR (hw:=by rw[Zt J];rfl) (aL rR (hw:=by rw[Zt J];rfl) (aL rR (hw:=by rw[Zt J];rfl) (aL rR (hw:=by rw[Zt J];rfl) (aL rR (hw:=by rw[Zt J];rfl) (aL rR (hw:=by rw[Zt J];rfl) (aL rR (hw:=by rw[Zt J];rfl) (aL rR (hw:=by rw[Zt J];rfl) (aL rR (hw:=by rw[Zt J];rfl) (aL rR (hw:=by rw[Zt J];rfl) (aN rR (hw:=by exact Zt g4) (eT (hq:=by exact Zt J)) (dV rR (eT (hq:=by exact Zt g4)) ?_)))))))))))))))))));refine aP ?_;apply ah<;>intro V
      ·cases V
      ·refine ai (ac (gS (gM (gV aa (gF 0 Vr rR VK (gL (ptr x 0) VN (gI (uC call138 (rF x p r st.N 999 (by rw[gw] at O;omega))) ?_)))))));rintro _ _ ⟨s79,c79,rfl,rfl⟩;refine bR s79 ?_;refine gV (aX Vi) (gM (ab (al ?_)));refine aM (α:=Nat) (λk=>k<=(bZ 999 st.N).length/\∀q∈(bZ 999 st.N).take k,q<=((24:Nat):Int)) (λk=>U [(0,ptr b 0),(79,sl s79 (bZ 999 st.N).length c79),(80,I (bZ 999 st.N).length),(81,I k)]) (λk=>roL 1 s79 (bz (bZ 999 st.N))::pt b (.cells #[ptr x 0,sl s st.L.length cc,I st.n] 123 (0,0))::pt x (.cells #[ptr p 0, .map (some r)] 231 (0,0))::pt p (.cells #[.map (some r2)] 234 (0,0))::mp r (tb cl 999 st.N)::mp r2 (tb cL 999 st.B)::bi 162 4 s cc (fE st.L)::F) (λk=>(bZ 999 st.N).length - k) 0 ⟨by simp,λq h=>by simp at h⟩ [0,79,80,81] rfl ?_;rintro k ⟨hk,Y⟩;refine gS (gV aI (ab (ac ?_)));apply ah<;>intro h82
       ·simp at h82;have hnl:(bZ 999 st.N).length<=24:=(by rw[gw] at O;omega);have R:k<(bZ 999 st.N).length:=(by omega);obtain ⟨q,hq⟩:∃q,(bZ 999 st.N)[k]? =some q:=⟨_,Zu R⟩;have S:=mem_ids.1 (YW hq);refine ai (ac (al (gS (gV (ay k Vi Vb R (by rw[bW];exact R)) (gV (bI (v:=I q) Vc (by exact dN hq) rR) (gQ (gS (gM (gV aT (ab ?_))))))))));apply ah<;>intro h86
        ·simp at h86;refine gS (gQ ?_)
         first
         | exact eZ rfl (λhw=>by have:=hw.last pl hpl2;omega) rfl rfl
         | exact eZ rfl (λhw=>by obtain ⟨y,hy⟩:=kaG.1 S.2;have:=hw.sN q y hy;omega) rfl rfl
         | exact eZ rfl (λhw=>by obtain ⟨y,hy⟩:=kaG.1 S.2;have:=hw.sB q y hy;omega) rfl rfl
        ·simp at h86;refine ai (aG (am (gP (gM (ab ?_)))));exact ap (k+1) ⟨by omega,λy hy=>by
          rw[<-fG hq,Zn,kad] at hy;rcases hy with hy | rfl
          ·exact Y y hy
          ·omega⟩ (by omega) [0,79,80,81] rfl
       ·simp at h82;obtain rfl:k=(bZ 999 st.N).length:=(by omega);rw[Y3] at Y;refine aF ?_;refine ac (gS (gM (gV aa (gF 0 Vr rR VK (gL (ptr x 0) VN (gV aa (gF 0 VA rR Wy (gL (ptr p 0) WC (gI (uC call137 (tX p r2 st.B 999 (by rw[gw] at g3;omega))) ?_)))))))));rintro _ _ ⟨s95,c95,rfl,rfl⟩;refine bR s95 ?_;refine gV (aX Vi) (gM (ab (al ?_)));refine aM (α:=Nat) (λk=>k<=(bZ 999 st.B).length/\∀q∈(bZ 999 st.B).take k,q<=((40:Nat):Int)) (λk=>U [(0,ptr b 0),(95,sl s95 (bZ 999 st.B).length c95),(96,I (bZ 999 st.B).length),(97,I k)]) (λk=>roL 1 s95 (bz (bZ 999 st.B))::pt b (.cells #[ptr x 0,sl s st.L.length cc,I st.n] 123 (0,0))::pt x (.cells #[ptr p 0, .map (some r)] 231 (0,0))::pt p (.cells #[.map (some r2)] 234 (0,0))::mp r (tb cl 999 st.N)::mp r2 (tb cL 999 st.B)::bi 162 4 s cc (fE st.L)::F) (λk=>(bZ 999 st.B).length - k) 0 ⟨by simp,λq h=>by simp at h⟩ [0,95,96,97] rfl ?_;rintro k ⟨hk,X⟩;refine gS (gV aI (ab (ac ?_)));apply ah<;>intro h98
        ·simp at h98;have hnl2:(bZ 999 st.B).length<=40:=(by rw[gw] at g3;omega);have R:k<(bZ 999 st.B).length:=(by omega);obtain ⟨q,hq⟩:∃q,(bZ 999 st.B)[k]? =some q:=⟨_,Zu R⟩;have S:=mem_ids.1 (YW hq);refine ai (ac (al (gS (gV (ay k Vi Vb R (by rw[bW];exact R)) (gV (bI (v:=I q) Vc (by exact dN hq) rR) (gQ (gS (gM (gV aT (ab ?_))))))))));apply ah<;>intro h102
         ·simp at h102;refine gS (gQ ?_)
          first
          | exact eZ rfl (λhw=>by have:=hw.last pl hpl2;omega) rfl rfl
          | exact eZ rfl (λhw=>by obtain ⟨y,hy⟩:=kaG.1 S.2;have:=hw.sN q y hy;omega) rfl rfl
          | exact eZ rfl (λhw=>by obtain ⟨y,hy⟩:=kaG.1 S.2;have:=hw.sB q y hy;omega) rfl rfl
         ·simp at h102;refine ai (aG (am (gP (gM (ab ?_)))));exact ap (k+1) ⟨by omega,λy hy=>by
           rw[<-fG hq,Zn,kad] at hy;rcases hy with hy | rfl
           ·exact X y hy
           ·omega⟩ (by omega) [0,95,96,97] rfl
        ·simp at h98;obtain rfl:k=(bZ 999 st.B).length:=(by omega);rw[Y3] at X;refine aF ?_;refine ac ?_;have Z:l9 24 st.N:=xu hP.sN (by decide) Y;have hsB:l9 40 st.B:=xu hP.sB (by decide) X;rw[CS (enc:=cl) (n:=999) (by decide) Z,CS (enc:=cL) (n:=999) (by decide) hsB];refine dP r2 p st.B (.refl _) ?_;refine ct p r x ⟨st.B,st.N⟩ (.refl _) ?_;refine cC b x s cc ⟨st.B,st.N⟩ st.L st.n ?_;refine am (gM (gI (uB call193 (qn b ⟨st.B,st.N⟩ st.L st.n (by omega) Z)) ?_));rintro _ _ ⟨rm,Q,o,rfl,rfl,hk1,hk2⟩;refine gM (gX (.map (some rm)) (gX (Bo o) (gA (gQ (gS (gM (gM ?_)))))));rcases hoo:o with _ | _
         ·have hkn:¬KindsP st.N st.L:=λh=>(by have:=hk1.2 h;rw[hoo] at this;cases this);refine bE (bE (bE (gV eT (gM (bE (bE (gV eT (gQ ?_))))))));exact eZ rfl (λhw=>by exact hkn hw.kinds) rfl rfl
         ·have hkp:KindsP st.N st.L:=hk1.1 hoo;refine bc aq (bc aq ?_);refine rQ (cX (Pre:=[mp rm (mi Q),gO b ⟨st.B,st.N⟩ st.L st.n]) call194 (n7 b ⟨st.B,st.N⟩ st.L st.n rm Q (by omega) Z hsB (λq x e=>(hP.b q x e).1.1) (hk2 hoo))) ?_;rintro _ _ ⟨o2,rfl,rfl,hc⟩;refine gV dD (gM ?_);rcases hoo2:o2 with _ | _
          ·have hcn:¬CountP st.B st.N st.L:=λh=>(by have:=hc.2 h;rw[hoo2] at this;cases this);refine bE (bE (gV eT (gQ ?_)));exact eZ rfl (λhw=>by exact hcn hw.counted) rfl rfl
          ·have hcp:CountP st.B st.N st.L:=hc.1 hoo2;refine bc aq ?_;refine rQ (cX (Pre:=[gO b ⟨st.B,st.N⟩ st.L st.n]) call195 (pA b ⟨st.B,st.N⟩ st.L st.n (by omega) (Iw hP Z hsB) (λp hp=>(hP.p p hp).2.2.1))) ?_;rintro _ _ ⟨o3,rfl,rfl,ht⟩;refine gV fl (gQ ?_);rcases hoo3:o3 with _ | _
           ·exact eZ rfl (λhw=>by have:=ht.2 hw.within;rw[hoo3] at this;cases this) rfl rfl
           ·exact Iv rfl ⟨by omega,by omega,hlast,Z,hsB,hkp,hcp,ht.1 hoo3⟩ rfl rfl
def T1 (x:Nat)(w:World):(Instr.build 123 #[(0,ptr x 0)]).run Tryz.prog w= .ok (.agg #[ptr x 0,sl none 0 0,I 0]) w:=by
 simp[Instr.build,X0,X4,VK,Instr.fill,bB,show (ptr x 0).cells=#[ptr x 0] from rfl,sl]
def Ix {l:List ChangeM}{i:Nat}{c J:ChangeM}(h:0<i->l[i - 1]? =some J):Pi (PK l i) c=(decide ((0:Int)<(i:Int)) && (Op.bytesLess c.key J.key || decide (c.key=J.key))):=by
 cases i with
 | zero=>rw[TZ];rfl
 | succ i=>
  have h1:l[i]? =some J:=h (by omega);rw[T0 h1];have e:decide ((0:Int)<((i+1:Nat):Int))=true:=Zv (by omega);rw[e,Z0]
  rfl
def zp (l:List ChangeM)(s:Option Addr)(cap:Nat)(hl:l.length<=1000000)(X:∀c∈l,c.key.length<=9223372036854775807/\c.val.length<=9223372036854775807)(F:List ag):Ct Tryz.prog 42 [sl s l.length cap] (tabs::roL 3 s (bx l)::F) (MO l 117 (tabs::roL 3 s (bx l)::F)):=by
 refine Ct.of func42 rR 47 ntmps42 (by simp) λw0=>?_;refine gS (gA (gQ (gS (gI (uA call118 (tG)) ?_))));rintro _ _ ⟨x,rfl,rfl⟩;refine gV (aR (T1 x)) (gI (di #[ptr x 0,sl none ps0.L.length 0,I ps0.n]) ?_);rintro _ _ ⟨Z,rfl,rfl⟩;refine gQ ?_;refine fd x ⟨λ_=>none,λ_=>none⟩ ?_;intro p r;refine kj p (λ_=>none) ?_;intro r2;refine pp r (tb cl 999 ps0.N) (by show (tb cl 24 (λ_=>none)).Perm (tb cl 999 (λ_=>none));rw[ma,ma]) ?_;refine pp r2 (tb cL 999 ps0.B) (by show (tb cL 40 (λ_=>none)).Perm (tb cL 999 (λ_=>none));rw[ma,ma]) ?_;refine bH 162 4 (fE ps0.L) ?_;refine pb Z x p r r2 none 0 ps0 ?_;refine ac (gS (gM (gV (aX Ve) (gM (ab (al ?_))))));refine aM (α:=Nat×PS) (λz=>z.1<=l.length/\io none ps0 (l.take z.1)=some z.2/\Pok z.2/\z.2.L.length<=z.1) (λz=>U [(0,sl s l.length cap),(4,ptr Z 0),(10,sl s l.length cap),(11,I l.length),(12,I z.1)]) (λz=>tabs::roL 3 s (bx l)::MH Z z.2::F) (λz=>l.length - z.1) (0,ps0) ⟨by simp,by simp[io],TB,by simp[ps0]⟩ [0,4,10,11,12] rfl ?_;rintro ⟨i,st⟩ ⟨hi,J,hP,hL⟩;simp only[] at hi J hP hL ⊢;refine gS (gV aI (ab (ac ?_)));apply ah<;>intro h13
 ·simp at h13;have hin:i<l.length:=(by omega);obtain ⟨c,hc⟩:∃c,l[i]? =some c:=⟨_,Zu hin⟩;obtain ⟨pc,hpc⟩:∃pc:ChangeM,0<i->l[i - 1]? =some pc:=⟨(l[i - 1]?).getD c,λh=>by rw[Zu (show i - 1<l.length by omega)];rfl⟩;refine ai (ac (al (gS (gM (gV (ay i Ve Vd hin (by rw[aQ];exact hin)) (gV (bJ (row:=aV c) Vz Vd (cY hc)) (gI (aO #[aC [],aC [],Bo false] Vo) ?_)))))));rintro _ _ ⟨b6,rfl,rfl⟩;refine gA (gU (ax (cs:=#[aC [],aC [],Bo false]) (vs:=aV c) (aV c).toArray Vd (by simp) (hcs:=by exact aJ)) (ab (ac (gD (Lf:=[pt b6 (.cells (aV c).toArray 174 (0,0)),roL 3 s (bx l)]) [(0,false),(1,false),(2,false),(3,false),(4,false),(5,false),(6,false),(7,false),(8,false),(9,false),(10,false),(11,false),(12,false),(13,false),(14,false),(15,false),(16,false),(17,false),(18,false),(19,false),(20,true),(21,false),(22,false)] (dM rR (dV rR aT (dM rR (dJ rR (aw 0 Vp rR Vh) (dJ rR (az (v:=aC c.key) Vj) (dJ rR aq (dJ rR aq (rO rR (λV=>fe (da (by simp at V;omega))) (rO rR (λV=>ay (i - 1) Ve Vd (hj:=by simp at V;omega) (by simp at V;omega) (by rw[aQ];simp at V;omega)) (rO rR (λV=>aE (j:=i - 1) 0 Vp rR Vh (by rw[aQ];simp at V;omega)) (rO rR (λV=>bC (v:=aC pc.key) Vj (cY (hpc (by simp at V;omega)))) (dJ rR (KQ rR rR) (dV rR dD (dM rR (dJ rR (aw 2 Vp rR Vt) (dJ rR (az (v:=Bo c.gone) V6) (dV rR cu (dM rR ?_))))))))))))))))))))));rcases hbd:((decide ((0:Int)<(i:Int)) && (Op.bytesLess c.key pc.key || decide (c.key=pc.key))) || c.gone) with _ | _
  ·refine aN rR aq ?_;rcases hrr:je st c with _ | Y
   ·refine aN rR (aU (vs:=aV c) Vz Vd bp) ?_;refine Gc rR (cX (Pre:=[tabs,MH Z st]) call119 (tU Z st c (by omega) (X c (YW hc)).1 (X c (YW hc)).2)) ?_;rintro _ _ O;unfold MI at O;rw[hrr] at O;obtain ⟨rfl,rfl⟩:=O;refine aN rR cE (dV rR eT ?_);refine aP ?_;apply ah<;>intro R
    ·refine gS (gV (aZ Vn) (gA (gQ ?_)));exact GQ rfl (λY S=>by rw[Bp J hc (.inr hrr)] at S;cases S) rfl rfl
    ·cases R
   ·refine aN rR (aU (vs:=aV c) Vz Vd bp) ?_;refine Gc rR (cX (Pre:=[tabs,MH Z st]) call119 (tU Z st c (by omega) (X c (YW hc)).1 (X c (YW hc)).2)) ?_;rintro _ _ O;unfold MI at O;rw[hrr] at O;obtain ⟨rfl,rfl⟩:=O;refine aN rR cE (dV rR eT ?_);refine aP ?_;apply ah<;>intro R
    ·cases R
    ·refine ai (aG (am (gP (gM (ab ?_)))));exact ap (i+1,Y) ⟨by simp only[];omega,Kc J hc (by rw[Ix hpc];simpa using hbd) hrr,Pj hP hrr,by have:=Sf hrr;simp only[];omega⟩ (by simp only[];omega) [0,4,10,11,12] rfl
  ·refine aL rR (aL rR ?_);refine Tj rR rR rR rR rR ?_;refine aL rR (dV rR fl ?_);refine aP ?_;apply ah<;>intro R
   ·refine gS (gV (aZ Vn) (gA (gQ ?_)));exact GQ rfl (λY S=>by rw[Bp J hc (.inl (by rw[Ix hpc];simpa using hbd))] at S;cases S) rfl rfl
   ·cases R
 ·simp at h13;obtain rfl:i=l.length:=(by omega);rw[Y3] at J;refine aF ?_;refine ac (gS (gM (gI (uB call120 (zo Z st hP (by omega))) ?_)));rintro _ _ (⟨rfl,hw,rfl⟩ | ⟨rfl,hw,rfl⟩)
  ·refine gV cE (ab ?_);apply ah<;>intro h44
   ·cases h44
   ·refine ai (gS (gM (gA (gQ ?_))));exact PJ rfl J hw rfl rfl
  ·refine gV cE (ab ?_);apply ah<;>intro h44
   ·refine gS (gV (aZ Vn) (gA (gQ ?_)));exact GQ rfl (λY S=>by rw[J] at S;injection S with S;rw[<-S];exact hw) rfl rfl
   ·cases h44
def jx (c:ChangeM):ChangeM:=⟨c.key,[],true⟩
def MP (a b:List ChangeM):List ChangeM:=(a.filter λc=>!uK b c.key).map jx++b.filter λc=>!decide (c∈a)
def mg:List ChangeM->List ChangeM->List ChangeM
 | [],b=>b
 | a,[]=>a.map jx
 | x::a,y::b=>if kl x.key y.key=true then jx x::mg a (y::b) else if kl y.key x.key=true then y::mg (x::a) b else if x=y then mg a b else y::mg a b
termination_by a b=>a.length+b.length
def vu (b:List ChangeM):mg [] b=b:=by unfold mg;rfl
theorem tY (a:List ChangeM):mg a []=a.map jx:=by
 grind[mg]
def zq {x y:ChangeM}{a b:List ChangeM}(h:kl x.key y.key=true):mg (x::a) (y::b)=jx x::mg a (y::b):=by
 rw[mg];rw[YB h]
def zt {x y:ChangeM}{a b:List ChangeM}(h1:¬kl x.key y.key=true)(h:kl y.key x.key=true):mg (x::a) (y::b)=y::mg (x::a) b:=by
 grind[mg]
def qo {x y:ChangeM}{a b:List ChangeM}(h1:¬kl x.key y.key=true)(h:¬kl y.key x.key=true):mg (x::a) (y::b)=(if x=y then [] else [y])++mg a b:=by
 grind[mg]
def isS_iff {l:List ChangeM}{k:ak}:uK l k=true ↔ ∃r∈l,r.key=k:=by grind[uK]
theorem mB:∀{a b:List ChangeM},srt a->srt b->∀c,c∈mg a b ↔ (∃x∈a,c=jx x/\∀y∈b,y.key≠x.key)\/(c∈b/\c ∉ a)
 | [],b,_,_,c=>by rw[vu];simp
 | x::a,[],_,_,c=>by
  grind[tY]
 | x::a,y::b,V,X,c=>by
  have J:=kaj.1 V;have O:=kaj.1 X;by_cases h1:kl x.key y.key=true
  ·rw[zq h1,Y5,mB J.2 X]
   grind[mf,kf]
  ·by_cases S:kl y.key x.key=true
   ·rw[zt h1 S,Y5,mB V O.2]
    grind
   ·have hk:x.key=y.key:=by
     grind[sc]
    have Y:∀z∈b,z.key≠x.key:=λz R e=>mf (O.1 z R) (by rw[e,hk]);have Z:∀z∈a,z.key≠y.key:=λz R e=>mf (J.1 z R) (by rw[e,hk]);rw[qo h1 S,Zn,mB J.2 O.2]
    grind
termination_by a b=>a.length+b.length
def GR {k:ak}{a b:List ChangeM}(O:srt a)(R:srt b)(h1:∀x∈a,kl k x.key=true)(J:∀x∈b,kl k x.key=true):∀x∈mg a b,kl k x.key=true:=λx hx=>by
 rcases (mB O R x).1 hx with ⟨z,S,rfl,_⟩ | ⟨h,_⟩
 ·exact h1 z S
 ·exact J x h
theorem sn:∀{a b:List ChangeM},srt a->srt b->srt (mg a b)
 | [],b,_,S=>by rw[vu];exact S
 | x::a,[],R,_=>by
  rw[tY];unfold srt;rw[kaS];exact R
 | x::a,y::b,R,S=>by
  have O:=kaj.1 R;have J:=kaj.1 S;by_cases h1:kl x.key y.key=true
  ·rw[zq h1];refine kaj.2 ⟨GR O.2 S O.1 λz V=>?_,sn O.2 S⟩;rcases Y5.1 V with rfl | V
   ·exact h1
   ·exact kf h1 (J.1 z V)
  ·by_cases X:kl y.key x.key=true
   ·rw[zt h1 X];refine kaj.2 ⟨GR R J.2 (λz V=>?_) J.1,sn R J.2⟩
    grind[kf]
   ·have hk:x.key=y.key:=by
     grind[sc]
    rw[qo h1 X];split
    ·exact sn O.2 J.2
    ·exact kaj.2 ⟨GR O.2 J.2 (λz V=>by grind) J.1,sn O.2 J.2⟩
termination_by a b=>a.length+b.length
def MQ {x y:ChangeM}{l m:List ChangeM}(hl:srt (x::l))(hm:srt (y::m))(h:∀c,c∈x::l ↔ c∈y::m):x=y:=by
 have J:=kaj.1 hl;have O:=kaj.1 hm
 grind[lI]
theorem C4:∀{l m:List ChangeM},srt l->srt m->(∀c,c∈l ↔ c∈m)->l=m
 | [],[],_,_,_=>rfl
 | [],y::m,_,_,h=>by have:=(h y).2 (by simp);cases this
 | x::l,[],_,_,h=>by have:=(h x).1 (by simp);cases this
 | x::l,y::m,hl,hm,h=>by
  obtain rfl:=MQ hl hm h;have J:=kaj.1 hl;have O:=kaj.1 hm;rw[C4 J.2 O.2 λc=>?_]
  grind[yq]
def PL {l:List ChangeM}(h:srt l){x y:ChangeM}(hx:x∈l)(hy:y∈l)(e:x.key=y.key):x=y:=by
 induction l with
 | nil=>cases hx
 | cons z l R=>
  have O:=kaj.1 h;rcases Y5.1 hx with h1 | h1
  ·grind[mf]
  ·rcases Y5.1 hy with J | J
   ·grind[mf]
   ·exact R O.2 h1 J
theorem MR {a b:List ChangeM}(c:ChangeM):c∈MP a b ↔ (∃x∈a,c=jx x/\∀y∈b,y.key≠x.key)\/(c∈b/\c ∉ a):=by
 grind[MP,uK]
def Ke {a b:List ChangeM}(J:srt a)(O:srt b):(MP a b).Pairwise λx y=>x.key≠y.key:=by
 unfold MP;rw[kan];refine ⟨?_,(ka2 _ O).imp λh=>mf h,λx hx y hy=>?_⟩
 ·rw[kaS];exact (ka2 _ J).imp λh=>mf h
 ·obtain ⟨z,R,rfl⟩:=Zz.1 hx;rw[ZV] at R hy;intro e;have:uK b z.key=true:=isS_iff.2 ⟨y,hy.1,e.symm⟩
  grind
def GS {a b l:List ChangeM}(J:srt a)(O:srt b)(hp:l.Perm (MP a b))(hs:l.Pairwise λx y=>kl y.key x.key=false):l=mg a b:=by
 have hk:l.Pairwise λx y=>x.key≠y.key:=(hp.pairwise_iff (λh=>Ne.symm h)).2 (Ke J O);have hl:srt l:=(hs.and hk).imp fun {x y} h=>by
  grind[sc]
 grind[C4,sn,MR,mB]
def MS {l:List ChangeM}(h:srt l)(c:ChangeM):c∈l ↔ uK l c.key=true/\l[ln l c.key]? =some c:=by
 constructor
 ·intro J;have h1:uK l c.key=true:=isS_iff.2 ⟨c,J,rfl⟩;refine ⟨h1,?_⟩;rw[yu h] at h1;split at h1
  ·rename_i r hr;rw[hr,PL h (YW hr) J (by simpa using h1)]
  ·cases h1
 grind
open Go.Sl Go.Proofs Go.Sort Go.RowKit
instance instInhC:Inhabited ChangeM:=⟨⟨[],[],false⟩⟩
def QI (x y:ChangeM):Int:=Lib.compareBytes x.key y.key
theorem xw (x y:ChangeM):ltOf QI x y=kl x.key y.key:=by
 grind[ltOf,QI,wj]
def Sg:SWO (ltOf QI) where
 irrefl x:=by rw[xw,yq]
 trans x y z h1 h2:=by grind[xw,kf]
 ntrans x y z h1 h2:=by
  grind[xw,sc,kf]
def PM (x y:ChangeM)(W:World):Calls Tryz.prog 235 #[.agg #[aC x.key,aC x.val,Bo x.gone], .agg #[aC y.key,aC y.val,Bo y.gone]] W λe w'=>e= .returned (I (QI x y))/\∃q R,w'=grow (W.drewN q) R:=by
 have J:=λO=>Tryz.strings_Compare ⟨⟨x.key⟩⟩ ⟨⟨y.key⟩⟩ O;change ∀O,Calls Tryz.prog 188 #[aC x.key,aC y.key] O (λe w'=>e= .returned (I (QI x y))/\w'=O) at J;generalize QI x y=r at J ⊢
 go_enter func235,ntmps235
 go_wp2_with (go_at_call 188;refine (J _).mono ?_;rintro e w' ⟨rfl,rfl⟩)
 go_ret
 exact ⟨rfl,0,_,by rw[alloc_eq_grow,alloc_eq_grow,grow_grow];rfl⟩
def MT (blk off size:Nat)(w:World):CmpLays Tryz.prog 235 #[] aV 3 QI blk off size w:=
 λ_ _ _ _ x y=>PM x y _
def Sh (l:List ChangeM):Prop:=l.Pairwise λa b=>kl b.key a.key=false
def Fb (l:List ChangeM)(s:Option Addr)(n cap:Nat)(hn:n=l.length)(X:l.length<4611686018427387904)(F:List ag):
  Ct Tryz.prog 234 [sl s n cap, .func (.func 235) #[] #[]] (bi 174 3 s cap (bx l)::F) (λv L'=>∃l',l'.Perm l/\Sh l'/\v= .tuple #[]/\L'=bi 174 3 s cap (bx l')::F):=λw0 w hS=>by
 subst hn;rcases dz hS with ⟨rfl,hr,rfl,S⟩ | ⟨b,cs,rfl,h1,h2,h3,h4,S⟩
 ·have hz:l=[]:=(by simpa [bx] using hr);subst hz;refine (AnyF.slices_SortFunc_none {Tryz.sortFn with} none 0 (.func (.func 235) #[] #[]) w).mono ?_;rintro e w' ⟨rfl,rfl⟩;exact ⟨_,hS,[], .refl _,List.Pairwise.nil,rfl,rfl⟩
 ·have Z:=S.at_;have hlen:l.length<=cap:=(by simpa [bx] using h2);have eg:∀args w,(callFunc 235 args).run Tryz.prog w= .ok (.enter 235 args) w:=call235;have hH:HoldsK aV 3 w b 0 l.toArray:=λj hj=>by
   have R:j<l.length*3:=(by simpa [size_flatK] using hj);have hrow:=h4 (j / 3) (aV l[j / 3]) (by rw[cY (Zu (by omega))]) (j % 3);have V:∃v,(aV l[j / 3])[j % 3]? =some v/\(flatK aV 3 l.toArray)[j]! =v:=by
    refine ⟨_,Zu (by simp[aV];omega),?_⟩;rw[get_flatK _ _ _ _ (by simpa using R)];simp[show j / 3<l.length by omega,show j % 3<(aV l[j / 3]).length by simp[aV];omega]
   obtain ⟨v,hv,he⟩:=V;have hc:=hrow v hv;rw[show j / 3*3+j % 3=j by omega] at hc;have:=iH Z hc;refine ⟨?_,by simp[World.frozen?,Z]⟩;rw[he];simpa using this
  refine (AnyQ.slices_SortFunc Tryz.sortFn 3 Vz Vd aV (λ_=>rfl) (λx v hv=>by simp only[aV,Y5,kaf,or_false] at hv;rcases hv with rfl | rfl | rfl <;> rfl) QI Sg 235 #[] b 0 cap l.toArray w eg (MT b 0 _ w) hH (Yk.1 Z).1 (by simpa using X)).mono ?_;rintro e w' ⟨rfl,J,m,os,hp,hso,rfl⟩;obtain ⟨hp1,_,hp3⟩:=hp;have hsz:J.size=l.length:=(by simpa using hp1);have Y:J.toList.Perm l:=by
   have e1:J.extract 0 l.toArray.size=J:=(by rw[<-hp1];simp);have e2:l.toArray.extract 0 l.toArray.size=l.toArray:=(by simp);rw[e1,e2] at hp3;simpa using hp3
  have O:Sh J.toList:=by
   rw[Sh,Yi];intro i j hi hj hij;have R:j<J.size:=(by simpa using hj);have hi':i<J.size:=(by simpa using hi);have:=hso i j (by omega) hij (by simpa [hsz] using R);rw[xw] at this;simpa [hi',R] using this
  have e1:sortWorldK aV 3 w b 0 m J os=grow {(Sort.ahead w m) with heap:=(Sort.ahead w m).heap.setIfInBounds b (.cells (putCells id 0 (flatK aV 3 J) cs) 174 (0,0))} os:=by
   unfold sortWorldK putRowK putRow mapBlock;congr 2;apply YY;intro i;rw[ZG,kaC];have X:=(Yk.1 Z).1;show (if b=i then _ else _)=_;by_cases hk:b=i
   ·subst hk;have he:(Sort.ahead w m).heap[b]? =some (.cells cs 174 (0,0)):=Z;rw[YB rfl,YB rfl,he,YB (by exact X)]
    rfl
   ·rw[YC hk,YC hk]
  rw[e1];have hS2:=(S.drew (w.drawn+m)).set (w':={(Sort.ahead w m) with heap:=(Sort.ahead w m).heap.setIfInBounds b (.cells (putCells id 0 (flatK aV 3 J) cs) 174 (0,0))}) rfl;have hS3:=qU os.toList hS2;refine ⟨_,fy (cap:=cap) (sz:=3) (rows:=bx J.toList) hS3 (by simp[putCells,h1]) (by simp[bx,hsz];exact hlen) (lP _) ?_,J.toList,Y,O,rfl,rfl⟩;intro j row hj f v hf;simp only[bx,Zw] at hj;obtain ⟨x,hx,rfl⟩:=Ym.1 hj;obtain ⟨hjl,hxe⟩:=Yh.1 hx;have hjd:j<J.size:=(by simpa using hjl);have hf3:f<3:=(by have:=(Yh.1 hf).1;simpa [aV] using this);simp only[bG,YR];have hsz3:j*3+f<(flatK aV 3 J).size:=(by rw[size_flatK];omega);have hcs:j*3+f<cs.size:=(by rw[h1];omega);have e2:(putCells id 0 (flatK aV 3 J) cs)[j*3+f]? =some ((flatK aV 3 J)[j*3+f]!):=by
   have hnot:¬J.size*3<=j*3+f:=(by omega);simp[putCells,hcs,hsz3,hnot]
  rw[e2,get_flatK _ _ _ _ (by omega),show (j*3+f) / 3=j by omega,show (j*3+f) % 3=f by omega];have hxd:J[j]! =x:=(by simp at hxe;simp[hjd,hxe]);rw[hxd];have:=(Yh.1 hf);obtain ⟨hfl,hfe⟩:=this;simp[hfl,hfe]
end Go.Proofs.YthdjckbjjfiopabGreatDoor
namespace Go.Proofs.YthdjckbjjfiopabGreatDoor
open _root_.Go.Proofs.Tryz
open Go.Sl Go.Proofs
def T2 (k:ak)(w:World):(Instr.build 174 #[(0,aC k),(2,Bo true)]).run Tryz.prog w= .ok (.agg (aV ⟨k,[],true⟩).toArray) w:=by
 simp[Instr.build,Vo,Xv,Vt,Vh,Instr.fill,bB,aV,show (aC k).cells=#[aC k] from rfl,show (Bo true).cells=#[Bo true] from rfl]
def KG (a b:List ChangeM):List ChangeM:=(a.filter λc=>!uK b c.key).map jx
def MU (a b:List ChangeM):List ChangeM:=b.filter λc=>!decide (c∈a)
def Fc {l b:List ChangeM}{k:Nat}{c:ChangeM}(h:l[k]? =some c):KG (l.take (k+1)) b=KG (l.take k) b++if uK b c.key=true then [] else [jx c]:=by
 unfold KG;rw[<-fG h,ZR,Yu]
 grind
def zu {a l:List ChangeM}{k:Nat}{c:ChangeM}(h:l[k]? =some c):MU a (l.take (k+1))=MU a (l.take k)++if c∈a then [] else [c]:=by
 unfold MU;rw[<-fG h,ZR]
 grind
def C5 (a b:List ChangeM):(KG a b).length<=a.length:=by grind[KG]
def Iy (a b:List ChangeM):(MU a b).length<=b.length:=by grind[MU]
def nf (x:ChangeM)(k:ak)(F:List ag):Ct Tryz.prog 233 [.agg (aV x).toArray,aC k] (F) (R1 (I (Lib.compareBytes x.key k)) F):=by
 refine Ct.of func233 rR 9 ntmps233 (by simp) λw0=>?_;refine gS (gI (di (aV x).toArray) ?_);rintro _ _ ⟨J,rfl,rfl⟩;refine gQ (gS (gF 0 Vp rR Vh (gL (aC x.key) Vj (gM (gR (vA call188 (mh x.key k)) (gQ ?_))))));refine ao rR rR ?_;exact rfl
def lB (l:List ChangeM)(s:Option Addr)(cap:Nat)(k:ak)(hs:srt l)(hl:l.length<=1000000)(F:List ag):Ct Tryz.prog 186 [sl s l.length cap,aC k, .func (.func 233) #[] #[]] (roL 3 s (bx l)::F) (R1 (.tuple #[I (ln l k),Bo (uK l k)]) (roL 3 s (bx l)::F)):=by
 refine Ct.of func186 rR 49 ntmps186 (by simp) λw0=>?_;refine gS (gA (gQ (gS (gM (gV (aX Ve) (gQ (gS (gM (gA (gQ (ac (al ?_))))))))))));refine aM (α:=Nat×Nat) (λz=>z.1<=ln l k/\ln l k<=z.2/\z.2<=l.length) (λz=>U [(0,sl s l.length cap),(1,aC k),(2, .func (.func 233) #[] #[]),(8,I l.length),(9,I z.1),(10,I z.2)]) (λ_=>roL 3 s (bx l)::F) (λz=>z.2 - z.1) (0,l.length) ⟨by simp,HF _ _,Yf _⟩ [0,1,2,8,9,10] rfl ?_;rintro ⟨i,j⟩ ⟨hi,hj,Y⟩;simp only[] at hi hj Y ⊢;refine ac (gS (gM (gM (gV aI (ab ?_)))));apply ah<;>intro X
 ·simp at X;refine ai (al (ac ?_));have S:(i+j) / 2<l.length:=(by omega);obtain ⟨x,hx⟩:∃x,l[(i+j) / 2]? =some x:=⟨_,Zu S⟩;have V:(i+j) / 2<(bx l).length:=(by rw[aQ];exact S);have Z:=Lz hs k hx;refine am (gM (gM (gP (gV (cP Vf Xn (sT (by omega))) (gV (lU (r:=(((i+j) / 2:Nat):Int)) (by rw[show min ((1:Int).toNat) IntKind.u64.bits=1 by decide,kau _ (by decide)];omega)) (gV (cP Xn Vf (da (by omega))) (gQ (gS (gM (gM (gM (gV (ay ((i+j) / 2) Ve Vd S V) (gV (bJ (row:=aV x) Vz Vd (cY hx)) (gM ?_))))))))))))));refine gI (fW (fi:=[]) (cap:=[]) (Pre:=[]) call233 rR rR (nf x k)) ?_;rintro _ _ ⟨rfl,rfl⟩;refine gV aI (ab ?_);apply ah<;>intro O
  ·simp at O;refine am (gM (gP (gQ (aG ?_))));exact ap ((i+j) / 2+1,j) ⟨by simp only[];have:=Z.1 ((wj _ _).1.1 O);omega,hj,Y⟩ (by simp only[];omega) [0,1,2,8,9,10] rfl
  ·simp at O;refine am (gM (gQ (aG ?_)));exact ap (i,(i+j) / 2) ⟨hi,by simp only[];rcases YL ((i+j) / 2) (ln l k) with h | h;have:=(wj _ _).1.2 (Z.2 h);omega;exact h,by simp only[];omega⟩ (by simp only[];omega) [0,1,2,8,9,10] rfl
 ·simp at X;obtain rfl:i=ln l k:=(by omega);refine aF ?_;refine gS (gM (gM (gM (gV aI (gM ?_)))));by_cases R:ln l k<l.length
  ·obtain ⟨x,hx⟩:∃x,l[ln l k]? =some x:=⟨_,Zu R⟩;have V:ln l k<(bx l).length:=(by rw[aQ];exact R);have J:decide ((ln l k:Int)<l.length)=true:=Zv (by omega);refine bc (hw:=by exact J) aq (bc (hw:=by exact J) aq (bc (hw:=by exact J) aq (bc (hw:=by exact J) (ay (ln l k) Ve Vd R V) (bc (hw:=by exact J) (bJ (row:=aV x) Vz Vd (cY hx)) (bc (hw:=by exact J) aq ?_)))));refine rQ (hw:=by exact J) (fW (fi:=[]) (cap:=[]) (Pre:=[]) call233 rR rR (nf x k)) ?_;rintro _ _ ⟨rfl,rfl⟩;refine bc (hw:=by exact J) bT (gV dD (gA (gQ ?_)));exact ao rfl rfl (by rw[yu hs,hx];show Value.tuple #[I (ln l k),Bo (decide ((ln l k:Int)<l.length) && decide (Lib.compareBytes x.key k=0))]=_;rw[J,Z0,decide_eq_decide.2 (wj x.key k).2])
  ·have J:decide ((ln l k:Int)<l.length)=false:=Zt (by omega);refine bE (hw:=by rw[J];rfl) (bE (hw:=by rw[J];rfl) (bE (hw:=by rw[J];rfl) (bE (hw:=by rw[J];rfl) (bE (hw:=by rw[J];rfl) (bE (hw:=by rw[J];rfl) (bE (hw:=by rw[J];rfl) (bE (hw:=by rw[J];rfl) (gV (eT (hq:=by exact J)) (gA (gQ ?_))))))))));exact ao rfl rfl (by rw[yu hs,kav (by omega)];rfl)
def vv (a b:List ChangeM)(s s':Option Addr)(cap O:Nat)(ha:a.length<=1000000)(hb:b.length<=1000000)(V:srt a)(hsb:srt b)(F:List ag):Ct Tryz.prog 172 [sl s a.length cap,sl s' b.length O] (roL 3 s (bx a)::roL 3 s' (bx b)::F) (ww 174 3 (mg a b).length (bx (mg a b)) (roL 3 s (bx a)::roL 3 s' (bx b)::F)):=by
 refine Ct.of func172 rR 70 ntmps172 (by simp) λw0=>?_;refine gS (gQ (gS (gQ (gS (gQ (ac (ac ?_)))))));refine bH 174 3 (bx (KG (a.take 0) b)) ?_;refine am (gM (gV (aX Ve) (gM (ab (al ?_)))));refine aM (α:=Nat×Option Addr×Nat) (λz=>z.1<=a.length) (λz=>U [(0,sl s a.length cap),(1,sl s' b.length O),(5,sl z.2.1 (KG (a.take z.1) b).length z.2.2),(6, .func (.func 233) #[] #[]),(15,sl s a.length cap),(16,I a.length),(17,I z.1)]) (λz=>bi 174 3 z.2.1 z.2.2 (bx (KG (a.take z.1) b))::roL 3 s (bx a)::roL 3 s' (bx b)::F) (λz=>a.length - z.1) (0,none,0) (by simp) [0,1,5,6,15,16,17] rfl ?_;rintro ⟨k,s3,c3⟩ hk;simp only[] at hk ⊢;have hgl:=C5 (a.take k) b;rw[Y8] at hgl;refine gS (gV aI (ab (ac ?_)));apply ah<;>intro h18
 ·simp at h18;have R:k<a.length:=(by omega);obtain ⟨x,hx⟩:∃x,a[k]? =some x:=⟨_,Zu R⟩;refine ai (ac (al (gS (gV (ay k Ve Vd R (by rw[aQ];exact R)) (gV (bJ (row:=aV x) Vz Vd (cY hx)) (gI (aO #[aC [],aC [],Bo false] Vo) ?_))))));rintro _ _ ⟨b8,rfl,rfl⟩;refine gU (ax (cs:=#[aC [],aC [],Bo false]) (vs:=aV x) (aV x).toArray Vd (by simp) (hcs:=by exact aJ)) (ab (gS (gM (gF 0 Vp rR Vh (gL (aC x.key) Vj (gM (gR (vB call186 (lB b s' O x.key hsb (by omega))) (gM (gX (I (ln b x.key)) (gX (Bo (uK b x.key)) (gA (gQ (gS (gM (gV cE (ab ?_))))))))))))))));apply ah<;>intro h30
  ·have S:uK b x.key=false:=(by simpa using h30);have J:=Fc (b:=b) hx;rw[S,YC (by simp)] at J;refine am (gM (gF 0 Vp rfl Vh (gL (aC x.key) Vj (gV (aR (T2 x.key)) (gI (av [aV (jx x)] Ve Vd Vo (by intro r hr;simp at hr;subst hr;rfl)) ?_)))));rintro _ _ ⟨b35,rfl,rfl⟩;refine gI (bo Ve Vd Vo Tryz.typeInfo174 (hn:=by exact aQ _) (by intro r hr;simp at hr;subst hr;rfl) (by intro r hr;simp at hr;subst hr;rfl) ⟨by omega,by decide,by decide⟩) ?_;rintro _ _ ⟨s36,c36,rfl,rfl⟩;rw[fb];refine gQ (aG (am (gP (gM (ab ?_)))));rw[<-J];exact ap (k+1,s36,c36) (by simp only[];omega) (by simp only[];omega) [0,1,5,6,15,16,17] rfl (he:=by first | rfl | simp[U,J])
  ·have S:uK b x.key=true:=(by simpa using h30);have J:=Fc (b:=b) hx;rw[S,YB rfl,kaE] at J;refine ai (aG (am (gP (gM (ab ?_)))));rw[<-J];exact ap (k+1,s3,c3) (by simp only[];omega) (by simp only[];omega) [0,1,5,6,15,16,17] rfl (he:=by first | rfl | simp[U,J])
 ·simp at h18;obtain rfl:k=a.length:=(by omega);rw[Y3];refine aF ?_;refine ac (ac ?_);refine kE s3 (bx (KG a b++MU a (b.take 0))) (by simp[MU]) ?_;refine am (gM (gV (aX Ve) (gM (ab (al ?_)))));refine aM (α:=Nat×Option Addr×Nat) (λz=>z.1<=b.length) (λz=>U [(0,sl s a.length cap),(1,sl s' b.length O),(5,sl z.2.1 ((KG a b).length+(MU a (b.take z.1)).length) z.2.2),(6, .func (.func 233) #[] #[]),(38,sl s' b.length O),(39,I b.length),(40,I z.1)]) (λz=>bi 174 3 z.2.1 z.2.2 (bx (KG a b++MU a (b.take z.1)))::roL 3 s (bx a)::roL 3 s' (bx b)::F) (λz=>b.length - z.1) (0,s3,c3) (by simp) [0,1,5,6,38,39,40] rfl (he:=by simp[U,MU,sl]) ?_;rintro ⟨k,s3,c3⟩ hk;simp only[] at hk ⊢;have hgl:=C5 a b;have hnl:=Iy a (b.take k);rw[Y8] at hnl;refine gS (gV aI (ab (ac ?_)));apply ah<;>intro h41
  ·simp at h41;have R:k<b.length:=(by omega);obtain ⟨y,hy⟩:∃y,b[k]? =some y:=⟨_,Zu R⟩;refine ai (ac (al (gS (gV (ay k Ve Vd R (by rw[aQ];exact R)) (gV (bJ (row:=aV y) Vz Vd (cY hy)) (gI (aO #[aC [],aC [],Bo false] Vo) ?_))))));rintro _ _ ⟨b12,rfl,rfl⟩;refine gU (ax (cs:=#[aC [],aC [],Bo false]) (vs:=aV y) (aV y).toArray Vd (by simp) (hcs:=by exact aJ)) (ab (gS (gM (gF 0 Vp rR Vh (gL (aC y.key) Vj (gM (gR (vB call186 (lB a s cap y.key V (by omega))) (gM (gX (I (ln a y.key)) (gX (Bo (uK a y.key)) (gA (gQ (ac ?_)))))))))))));refine cO (Lf:=[roL 3 s (bx a),pt b12 (.cells (aV y).toArray 174 (0,0))]) jE ?_;refine dM rR (dV rR cE (dM rR ?_));by_cases Z:uK a y.key=true
   ·obtain ⟨r0,hr0⟩:∃r0,a[ln a y.key]? =some r0:=by
     have X:=Z;rw[yu V] at X;split at X
     ·exact ⟨_,‹_›⟩
     ·cases X
    have hrl:=(Yh.1 hr0).1;rw[Z];refine aN rR aq (aN rR aq (aN rR (ay (ln a y.key) Ve Vd hrl (by rw[aQ];exact hrl)) (aN rR (bJ (row:=aV r0) Vz Vd (cY hr0)) (aN rR (aU (vs:=aV y) Vz Vd bp) (aN rR (xI eqGuardType174 (AQ r0 y)) (dV rR eT ?_))))));refine aP ?_;apply ah<;>intro Y
    ·have hne:¬y∈a:=λh=>(by have X:=((MS V y).1 h).2;rw[hr0] at X;injection X with X;subst X;simp at Y);have J:=zu (a:=a) hy;rw[YC hne] at J;refine am (gM (gV (aU (vs:=aV y) Vz Vd bp) (gI (av [aV (y)] Ve Vd Vo (by intro r hr;simp at hr;subst hr;rfl)) ?_)));rintro _ _ ⟨b64,rfl,rfl⟩;refine gI (bo Ve Vd Vo Tryz.typeInfo174 (hn:=by rw[aQ,Z1]) (by intro r hr;simp at hr;subst hr;rfl) (by intro r hr;simp at hr;subst hr;rfl) ⟨by omega,by decide,by decide⟩) ?_;rintro _ _ ⟨s65,c65,rfl,rfl⟩;rw[fb,Zf];refine gQ (aG (am (gP (gM (ab ?_)))));rw[<-J];exact ap (k+1,s65,c65) (by simp only[];omega) (by simp only[];omega) [0,1,5,6,38,39,40] rfl (he:=by first | rfl | simp[U,J,YE])
    ·have hmm:y∈a:=by
      have X:r0=y:=(by simpa using Y);rw[<-X];exact YW hr0
     have J:=zu (a:=a) hy;rw[YB hmm,kaE] at J;refine ai (aG (am (gP (gM (ab ?_)))));rw[<-J];exact ap (k+1,s3,c3) (by simp only[];omega) (by simp only[];omega) [0,1,5,6,38,39,40] rfl (he:=by first | rfl | simp[U,J])
   ·have hin':uK a y.key=false:=(by simpa using Z);rw[hin'];refine aL rR (aL rR (aL rR (aL rR (aL rR (aL rR (dV rR fl ?_))))));refine aP ?_;apply ah<;>intro Y
    ·have hne:¬y∈a:=λh=>Z ((MS V y).1 h).1;have J:=zu (a:=a) hy;rw[YC hne] at J;refine am (gM (gV (aU (vs:=aV y) Vz Vd bp) (gI (av [aV (y)] Ve Vd Vo (by intro r hr;simp at hr;subst hr;rfl)) ?_)));rintro _ _ ⟨b64,rfl,rfl⟩;refine gI (bo Ve Vd Vo Tryz.typeInfo174 (hn:=by rw[aQ,Z1]) (by intro r hr;simp at hr;subst hr;rfl) (by intro r hr;simp at hr;subst hr;rfl) ⟨by omega,by decide,by decide⟩) ?_;rintro _ _ ⟨s65,c65,rfl,rfl⟩;rw[fb,Zf];refine gQ (aG (am (gP (gM (ab ?_)))));rw[<-J];exact ap (k+1,s65,c65) (by simp only[];omega) (by simp only[];omega) [0,1,5,6,38,39,40] rfl (he:=by first | rfl | simp[U,J,YE])
    ·cases Y
  ·simp at h41;obtain rfl:k=b.length:=(by omega);rw[Y3];refine aF ?_;refine gS (gM (gI (uB call234 (Fb (KG a b++MU a b) s3 _ c3 (by rw[Z1]) (by have:=C5 a b;have:=Iy a b;rw[Z1];omega))) ?_));rintro _ _ ⟨l',hp,hso,rfl,rfl⟩;have hmg:=GS V hsb hp hso;subst hmg;refine ab (gS (gM (gQ ?_)));exact df rfl rfl rfl (by rw[hp.length_eq,Z1])
def T3 {S:SI}{L:List Pt}{n:Int}{G:Gh}(h:Con S L n G):∀c∈bD S L n,c.key.length<=9223372036854775807/\c.val.length<=9223372036854775807:=λc J=>by
 have w:=h.wr;unfold bD at J;rcases Zn.1 J with J | J
 ·rcases Zn.1 J with J | J
  ·rcases Zn.1 J with J | J
   ·unfold dI at J;obtain ⟨q,hq,rfl⟩:=Zz.1 J;obtain ⟨V,O⟩:=mem_ids.1 hq;obtain ⟨x,hx⟩:=kaG.1 O;have R:=w.b q x hx
    grind[iN,gB,J6]
   ·unfold d6 at J;obtain ⟨q,hq,rfl⟩:=Zz.1 J;obtain ⟨V,O⟩:=mem_ids.1 hq;have R:=It h.sm q;have h1:=iN (n:=q) (by omega);have X:=tT (n:=gN S.N q) (by omega) (λk hk=>by have:=R.2 k hk;omega) 4 (by omega)
    grind[GP,J7]
  ·obtain ⟨p,hp,rfl⟩:=Zz.1 J;have R:=w.p p hp
   grind[iN,mM]
 ·rw[kad] at J;subst J;have h1:=bY (n:=n) (by have:=w.n1;omega)
  grind[vq]
def zw:∀(a b:List ChangeM),(mg a b).length<=a.length+b.length
 | [],b=>by rw[vu];simp
 | x::a,[]=>by rw[tY];simp
 | x::a,y::b=>by
  by_cases h1:kl x.key y.key=true
  ·rw[zq h1];have:=zw a (y::b);grind
  ·by_cases J:kl y.key x.key=true
   ·rw[zt h1 J];have:=zw (x::a) b;grind
   ·rw[qo h1 J];have:=zw a b
    grind
termination_by a b=>a.length+b.length
structure SeE where
 key:Int
 a:Nat
 so:Option Addr
 co:Nat
 base:Int
 disk:Int
 size:Int
 puts:List PutM
structure MoE where
 key:Int
 a:Nat
 r:Nat
 point:Int
 over:List (Int×ak)
def Al (l:List (Int×ak)):MM:=l.map λp=>(p.1,aC p.2)
def DK:List (Int×ak)->Int->Option ak
 | [],_=>none
 | p::l,q=>if p.1=q then some p.2 else DK l q
def GT (l:List (Int×ak))(q:Int)(d:ak):List (Int×ak):=if (DK l q).isSome then l.map λp=>if p.1=q then (q,d) else p else l++ [(q,d)]
theorem Iz:∀(l:List (Int×ak)) (q:Int),lk (Al l) q=(DK l q).map aC
 | [],q=>rfl
 | p::l,q=>by
  have J:=Iz l q
  grind[Al,lk,DK]
def IA (l:List (Int×ak))(q:Int)(d:ak):l6 (Al l) q (aC d)=Al (GT l q d):=by
 grind[l6,GT,Iz,Al,List.map_congr_left]
def fp (l:List SeE):MM:=l.map λe=>(e.key,ptr e.a 0)
def fq (l:List MoE):MM:=l.map λe=>(e.key,ptr e.a 0)
def gk (l:List SeE)(id:Int):Option SeE:=l.find? λe=>decide (e.key=id)
def ng (l:List MoE)(id:Int):Option MoE:=l.find? λe=>decide (e.key=id)
def nw:∀(l:List SeE) (q:Int),lk (fp l) q=(gk l q).map λe=>ptr e.a 0
 | [],q=>rfl
 | e::l,q=>by
  have J:=nw l q
  grind[gk,fp,lk]
def pd:∀(l:List MoE) (q:Int),lk (fq l) q=(ng l q).map λe=>ptr e.a 0
 | [],q=>rfl
 | e::l,q=>by
  have J:=pd l q
  grind[ng,fq,lk]
def Fe {l:List SeE}{e:SeE}(h:∀x∈l,x.key≠e.key):l6 (fp l) e.key (ptr e.a 0)=fp (l++ [e]):=by
 unfold l6;rw[lk_none.2 (λp hp=>by grind[fp]),YC (by simp)];simp[fp]
def Ff {l:List MoE}{e:MoE}(h:∀x∈l,x.key≠e.key):l6 (fq l) e.key (ptr e.a 0)=fq (l++ [e]):=by
 unfold l6;rw[lk_none.2 (λp hp=>by grind[fq]),YC (by simp)];simp[fq]
def lR (l:List SeE)(id:Int):List SeE:=l.filter λe=>!decide (e.key=id)
def DL (l:List MoE)(id:Int):List MoE:=l.filter λe=>!decide (e.key=id)
def tZ (l:List SeE)(id:Int):pJ (fp l) id=fp (lR l id):=by
 unfold pJ fp lR;rw[Z3]
 rfl
def Fg (l:List MoE)(id:Int):pJ (fq l) id=fq (DL l id):=by
 unfold pJ fq DL;rw[Z3]
 rfl
def Fh {l:List SeE}{i:Nat}{e e':SeE}(h:l[i]? =some e)(hk:e'.key=e.key)(J:e'.a=e.a):fp (l.set i e')=fp l:=by
 unfold fp;rw[Y1];refine Zx λj=>?_
 grind
def Fj {l:List MoE}{i:Nat}{e e':MoE}(h:l[i]? =some e)(hk:e'.key=e.key)(J:e'.a=e.a):fq (l.set i e')=fq l:=by
 unfold fq;rw[Y1];refine Zx λj=>?_
 grind
def eG {α:Type}{l:List α}{i:Nat}{e:α}(h:l[i]? =some e):l.set i e=l:=by
 refine Zx λj=>?_
 grind
structure RpM where
 h:HdM
 used:Nat
 rows:List ChangeM
 S:SI
 L:List Pt
 n:Int
 ses:List SeE
 mou:List MoE
 next:Int
def Bq (e:SeE):List ag:=[pt e.a (.cells #[I e.base,I e.disk,I e.size,sl e.so e.puts.length e.co] 168 (0,0)),bi 86 2 e.so e.co (cZ e.puts)]
def DM (e:MoE):List ag:=[pt e.a (.cells #[I e.point, .map (some e.r)] 215 (0,0)),mp e.r (Al e.over)]
structure RpA where
 bs:Nat
 bl:Nat
 so:Option Addr
 co:Nat
 bv:Nat
 rs:Nat
 rm:Nat
def UZ (b bd:Nat)(z:RpM)(q:RpA):List ag:=
 [pt b (.cells #[ptr q.bs 0,ptr q.bv 0, .map (some q.rs), .map (some q.rm),I z.next] 103 (0,0)),pt q.bs (.cells (lg bd z.h q.bl q.so z.rows.length q.co) 198 (0,0)),pt q.bl (.cells (ge bd 122 (200 - 122) z.h.first z.used) 273 (0,0)),roL 3 q.so (bx z.rows),gO q.bv z.S z.L z.n,mp q.rs (fp z.ses),big Bq z.ses,mp q.rm (fq z.mou),big DM z.mou]
def dB (b bd:Nat)(z:RpM):ag:=hx (UZ b bd z)
section
variable {c:Cx}{E:dr}{L:List ag}{K:List KI}
def fH {F:List ag}(b J:Nat)(z:RpM)[R:Rem L (dB b J z) F](k:∀bs bl so co bv rs rm,G c K E (pt b (.cells #[ptr bs 0,ptr bv 0, .map (some rs), .map (some rm),I z.next] 103 (0,0))::pt bs (.cells (lg J z.h bl so z.rows.length co) 198 (0,0))::pt bl (.cells (ge J 122 (200 - 122) z.h.first z.used) 273 (0,0))::roL 3 so (bx z.rows)::gO bv z.S z.L z.n::mp rs (fp z.ses)::big Bq z.ses::mp rm (fq z.mou)::big DM z.mou::F)):G c K E L:=jl (dB b J z) rfl λq=>k q.bs q.bl q.so q.co q.bv q.rs q.rm
def MV {F:List ag}(l:List SeE)(i:Nat){e:SeE}(he:l[i]? =some e)[R:Rem L (big Bq l) F](k:G c K E (pt e.a (.cells #[I e.base,I e.disk,I e.size,sl e.so e.puts.length e.co] 168 (0,0))::bi 86 2 e.so e.co (cZ e.puts)::big Bq (l.eraseIdx i)::F)):G c K E L:=qJ (f:=Bq) l i he _ rfl k
def MW {F:List ag}(l:List MoE)(i:Nat){e:MoE}(he:l[i]? =some e)[R:Rem L (big DM l) F](k:G c K E (pt e.a (.cells #[I e.point, .map (some e.r)] 215 (0,0))::mp e.r (Al e.over)::big DM (l.eraseIdx i)::F)):G c K E L:=qJ (f:=DM) l i he _ rfl k
def cw {F:List ag}(b J:Nat)(z:RpM)(bs bl:Nat)(so:Option Addr)(co bv rs rm:Nat)[O:Split L [pt b (.cells #[ptr bs 0,ptr bv 0, .map (some rs), .map (some rm),I z.next] 103 (0,0)),pt bs (.cells (lg J z.h bl so z.rows.length co) 198 (0,0)),pt bl (.cells (ge J 122 (200 - 122) z.h.first z.used) 273 (0,0)),roL 3 so (bx z.rows),gO bv z.S z.L z.n,mp rs (fp z.ses),big Bq z.ses,mp rm (fq z.mou),big DM z.mou] F](k:G c K E (dB b J z::F)):G c K E L:=
 ic (A:=UZ b J z) [pt b (.cells #[ptr bs 0,ptr bv 0, .map (some rs), .map (some rm),I z.next] 103 (0,0)),pt bs (.cells (lg J z.h bl so z.rows.length co) 198 (0,0)),pt bl (.cells (ge J 122 (200 - 122) z.h.first z.used) 273 (0,0)),roL 3 so (bx z.rows),gO bv z.S z.L z.n,mp rs (fp z.ses),big Bq z.ses,mp rm (fq z.mou),big DM z.mou] (dB b J z) ⟨bs,bl,so,co,bv,rs,rm⟩ k
end
structure SOk (e:SeE):Prop where
 size:1<=e.size/\e.size<=16
 nodup:(e.puts.map (·.at_)).Nodup
 rng:∀p∈e.puts,(0<=p.at_/\p.at_<e.size)/\p.data.length<=6
structure Rok (z:RpM):Prop where
 con:∃G,Con z.S z.L z.n G
 next:1<=z.next/\z.next<=1000000
 keyS:∀e∈z.ses,1<=e.key/\e.key<z.next
 keyM:∀e∈z.mou,1<=e.key/\e.key<z.next
 sesS:∀e∈z.ses,SOk e
theorem SOk.len {e:SeE}(h:SOk e):e.puts.length<=16:=by
 have h1:=tf h.nodup (m:=(List.range 16).map λk:Nat=>(k:Int)) λq hq=>by
  obtain ⟨p,hp,rfl⟩:=Zz.1 hq;have J:=(h.rng p hp).1;have O:=h.size;exact Zz.2 ⟨p.at_.toNat,by grind,by omega⟩
 simpa using h1
theorem Rok.putS {z:RpM}(R:Rok z):∀e∈z.ses,e.puts.length<=16/\∀p∈e.puts,p.data.length<=6:=λe he=>⟨(R.sesS e he).len,λp hp=>((R.sesS e he).rng p hp).2⟩
structure Dk (i:Nat) (D:DiskM) (z:RpM):Prop where
 ok:nO 200 i D
 s80:tw D
 hd:z.h.ep<=1000000/\z.h.side<=1/\1<=z.h.first/\z.h.first<=1000000000
 len:z.rows.length<=80
 okr:∀r∈z.rows,Cq r
 used:z.used<=200 - 122
 srt:srt z.rows
def RpM.kept (z:RpM)(e:Int)(h:HdM)(used:Nat)(rows:List ChangeM)(S:SI)(L:List Pt)(n:Int):RpM:=if e=0 then ⟨h,used,rows,S,L,n,z.ses,z.mou,z.next⟩ else ⟨h,used,rows,z.S,z.L,z.n,z.ses,z.mou,z.next⟩
def Si (z:RpM)(S:SI)(L:List Pt)(n:Int):List ChangeM:=mg (bD z.S z.L z.n) (bD S L n)
def C6:∀{l:List SeE},((fp l).map (·.1)).Nodup->∀{e e':SeE},e∈l->e'∈l->e.key=e'.key->e=e'
 | [],_,e,e',h,_,_=>by cases h
 | a::l,hn,e,e',h,O,hk=>by
  simp only[fp,Yw,ZL,Zz] at hn;rcases Y5.1 h with rfl | g
  ·rcases Y5.1 O with rfl | J
   ·rfl
   ·exact absurd ⟨_,⟨e',J,rfl⟩,hk.symm⟩ hn.1
  ·rcases Y5.1 O with rfl | J
   ·exact absurd ⟨_,⟨e,g,rfl⟩,hk⟩ hn.1
   ·exact C6 (by simpa [fp] using hn.2) g J hk
def C7:∀{l:List MoE},((fq l).map (·.1)).Nodup->∀{e e':MoE},e∈l->e'∈l->e.key=e'.key->e=e'
 | [],_,e,e',h,_,_=>by cases h
 | a::l,hn,e,e',h,O,hk=>by
  simp only[fq,Yw,ZL,Zz] at hn;rcases Y5.1 h with rfl | g
  ·rcases Y5.1 O with rfl | J
   ·rfl
   ·exact absurd ⟨_,⟨e',J,rfl⟩,hk.symm⟩ hn.1
  ·rcases Y5.1 O with rfl | J
   ·exact absurd ⟨_,⟨e,g,rfl⟩,hk⟩ hn.1
   ·exact C7 (by simpa [fq] using hn.2) g J hk
def MX {l:List SeE}(hn:((fp l).map (·.1)).Nodup){done rest J:MM}{p:Int×Value}(hp:(done++rest).Perm (fp l))(hq:rest.Perm (p::J)):(∃i e,l[i]? =some e/\p=(e.key,ptr e.a 0)/\i<l.length)/\((done++ [p])++J).Perm (fp l):=by
 have h1:(done++p::J).Perm (fp l):=(hq.append_left done).symm.trans hp;refine ⟨?_,by simpa using h1⟩;have hm:p∈fp l:=h1.mem_iff.1 (by simp)
 grind[fp,List.getElem?_of_mem]
def MY {l:List MoE}(hn:((fq l).map (·.1)).Nodup){done rest J:MM}{p:Int×Value}(hp:(done++rest).Perm (fq l))(hq:rest.Perm (p::J)):(∃i e,l[i]? =some e/\p=(e.key,ptr e.a 0)/\i<l.length)/\((done++ [p])++J).Perm (fq l):=by
 have h1:(done++p::J).Perm (fq l):=(hq.append_left done).symm.trans hp;refine ⟨?_,by simpa using h1⟩;have hm:p∈fq l:=h1.mem_iff.1 (by simp)
 grind[fq,List.getElem?_of_mem]
def eW (z:RpM)(id:Int):Bool:=z.ses.any (λe=>decide (e.base=id)) || z.mou.any λe=>decide (e.point=id)
def lC (b:Nat)(v1 v2 v3 v4:Value)(J:Int)(O:0<=J/\J<=1000000000)(F:List ag):Ct Tryz.prog 93 [ptr b 0] (pt b (.cells #[v1,v2,v3,v4,I J] 103 (0,0))::F) (R1 (I J) (pt b (.cells #[v1,v2,v3,v4,I (J+1)] 103 (0,0))::F)):=by
 refine Ct.of func93 rR 15 ntmps93 (by simp) λw0=>?_;refine gS (gQ (gS (gM (gV aa (gF 4 VO rfl Vb (gL (I J) Vc (gV (bO (r:=J+1) (da (by omega))) (gV aa (gF 4 VO rfl Vb (gU (aK #[v1,v2,v3,v4,I (J+1)] Vb (by simp)) (ab (gS (gM (gV aa (gF 4 VO rfl Vb (gL (I (J+1)) Vc (gV (fe (r:=J) (by rw[show J+1 - 1=J by omega];exact da (by omega))) (gQ ?_))))))))))))))))));refine ao rR rR ?_;exact rfl
def mC (b J:Nat)(z:RpM)(hl:z.L.length<=1000000)(F:List ag):Ct Tryz.prog 16 [ptr b 0] (dB b J z::F) (λv L'=>∃q,v=ptr q 0/\L'=gO q z.S z.L z.n::dB b J z::F):=by
 refine Ct.of func16 rR 8 ntmps16 (by simp) λw0=>?_;refine fH b J z ?_;intro bs bl so co bv rs rm;refine gS (gQ (gS (gM (gV aa (gF 1 VO rR WQ (gL (ptr bv 0) WI (gI (uB call66 (fX bv z.S z.L z.n hl)) ?_)))))));rintro _ _ ⟨q,rfl,rfl⟩;refine gQ ?_;refine cw b J (z) bs bl so co bv rs rm ?_;exact an (gO q z.S z.L z.n::dB b J z::F) rfl ⟨q,rfl,rfl⟩
def kp {ee:Bool}(b R v i:Nat)(D:DiskM)(z:RpM)(V:SI)(L':List Pt)(X:Int)(G G':Gh)(hC:Con z.S z.L z.n G)(hC':Con V L' X G')(hD:Dk i D z)(hi:i<=100000)(F:List ag):Ct Tryz.prog 97 [ptr b 0,ptr v 0] (bh ee::dB b R z::cf 179 319 R (D)::gO v V L' X::F) (λv0 L0=>∃e D2 Y O J,ED D z.h z.rows (200 - 122) z.used (Si z V L' X) e D2 Y O J/\v0=bM e/\L0=dB b R (z.kept e Y O J V L' X)::cf 179 319 R (D2)::bh ee::F):=by
 have hlen:=hC.v.len;have hrow:=n4 (S:=z.S) (n:=z.n) hlen;have hlen':=hC'.v.len;have hrow':=n4 (S:=V) (n:=X) hlen';have hml:=zw (bD z.S z.L z.n) (bD V L' X);refine Ct.of func97 rR 26 ntmps97 (by simp) λw0=>?_;refine fH b R z ?_;intro bs bl so co bv rs rm;refine gS (gQ (ac ?_));refine cO (Lf:=[pt b (.cells #[ptr bs 0,ptr bv 0, .map (some rs), .map (some rm),I (z.next)] 103 (0,0))]) jW ?_;refine dM rR (dV rR aa (dF rR 0 VO rR sizeOf95 (dL rR (ptr bs 0) WH (dM rR (dV rR aa (dF rR 1 VO rR WQ (dL rR (ptr bv 0) WI (dM rR (d7 rR (uC (A0:=bh ee) call104 (nv (ee:=ee) bv z.S z.L z.n hC.sm)) ?_)))))))));rintro _ _ ⟨s14,c14,rfl,rfl⟩;refine bR s14 ?_;refine d7 rR (uC (A0:=bh ee) call104 (nv (ee:=ee) v V L' X hC'.sm)) ?_;rintro _ _ ⟨FT,c16,rfl,rfl⟩;refine bR FT ?_;refine d7 rR (uC call172 (vv (bD z.S z.L z.n) (bD V L' X) s14 FT c14 c16 (by omega) (by omega) (lc hC.wr) (lc hC'.wr))) ?_;rintro _ _ ⟨s17,c17,rfl,rfl⟩;refine bR s17 ?_;refine d7 rR (uF call103 (pw bs R z.h bl so co z.rows 200 i z.used D hD.ok hi hD.s80 (by decide) hD.hd hD.len hD.okr hD.used hD.srt (mg (bD z.S z.L z.n) (bD V L' X)) s17 c17 (by omega))) ?_;rintro _ _ ⟨e,D2,Y,O,J,bl2,s2,Z,hcom,rfl,rfl⟩;refine dV rR aD ?_;refine aP ?_;refine ac (gS (gM (gV (fO Vl) (ab ?_))));apply ah<;>intro h20
 ·have he0:e=0:=(by simpa using h20);refine am (gM (gM (gV aa (gF 1 VO rR WQ (gU (aK #[ptr bs 0,ptr v 0, .map (some rs), .map (some rm),I z.next] WQ (by simp)) (ab (gS (gM (gQ ?_)))))))));refine cw b R (⟨Y,O,J,V,L',X,z.ses,z.mou,z.next⟩) bs bl2 s2 Z v rs rm ?_;exact an (dB b R ⟨Y,O,J,V,L',X,z.ses,z.mou,z.next⟩::cf 179 319 R (D2)::bh ee::F) rfl ⟨e,D2,Y,O,J,hcom,rfl,by unfold RpM.kept;rw[YB he0]⟩
 ·have he0:¬e=0:=(by simpa using h20);refine ai (gS (gM (gQ ?_)));refine cw b R (⟨Y,O,J,z.S,z.L,z.n,z.ses,z.mou,z.next⟩) bs bl2 s2 Z bv rs rm ?_;exact an (dB b R ⟨Y,O,J,z.S,z.L,z.n,z.ses,z.mou,z.next⟩::cf 179 319 R (D2)::bh ee::F) rfl ⟨e,D2,Y,O,J,hcom,rfl,by unfold RpM.kept;rw[YC he0]⟩
def nh (b R:Nat)(z:RpM)(id:Int)(F:List ag):Ct Tryz.prog 123 [ptr b 0,I id] (dB b R z::F) (R1 (Bo (eW z id)) (dB b R z::F)):=by
 refine Ct.of func123 rR 39 ntmps123 (by simp) λw0=>?_;refine fH b R z ?_;intro bs bl so co bv rs rm;refine gv rs (λhnS=>?_);refine gv rm (λhnM=>?_);refine gS (gQ (ac (ac ?_)));refine fj rs ?_;intro es clk;refine am (gM (gV aa (gF 2 VO rR Xb (gL (.map (some rs)) Xg (gI (ii Xh) ?_)))));rintro _ _ ⟨b13,rfl,rfl⟩;refine ab (al ?_);refine aM (α:=MM×MM×Option (Int×Value)) (λy=>(y.2.1++y.1).Perm (fp z.ses)/\∀e∈z.ses,(e.key,ptr e.a 0)∈y.2.1->e.base≠id) (λ_=>U [(0,ptr b 0),(1,I id),(13,ptr b13 0)]) (λy=>x9 b13 rs es clk y.1 y.2.2::sH rs es clk (fp z.ses)::pt b (.cells #[ptr bs 0,ptr bv 0, .map (some rs), .map (some rm),I (z.next)] 103 (0,0))::pt bs (.cells (lg R (z.h) bl so (z.rows.length) co) 198 (0,0))::pt bl (.cells (ge R 122 (200 - 122) (z.h.first) (z.used)) 273 (0,0))::roL 3 so (bx z.rows)::gO bv z.S z.L z.n::big Bq z.ses::mp rm (fq z.mou)::big DM z.mou::F) (λy=>y.1.length) (fp z.ses,[],none) ⟨.refl _,by simp⟩ [0,1,13] rfl ?_;rintro ⟨rest,done,cur⟩ ⟨hp,Z⟩;simp only[] at hp Z ⊢;refine gS (gI j9 ?_);rintro _ _ (⟨hr,rfl,rfl⟩ | ⟨p,J,hq,rfl,rfl⟩)
 ·subst hr;have hS:∀e∈z.ses,e.base≠id:=λe he=>Z e he (by have:=hp.mem_iff (a:=(e.key,ptr e.a 0));rw[kaE] at this;exact this.2 (Zz.2 ⟨e,he,rfl⟩));refine gV aH (ab (ac ?_));refine dW ?_;refine aF ?_;refine ac (ac ?_);refine bQ rs ?_;refine fj rm ?_;intro es2 V;refine am (gM (gV aa (gF 3 VO rR Xi (gL (.map (some rm)) Xq (gI (ii Xr) ?_)))));rintro _ _ ⟨b28,rfl,rfl⟩;refine ab (al ?_);refine aM (α:=MM×MM×Option (Int×Value)) (λy=>(y.2.1++y.1).Perm (fq z.mou)/\∀e∈z.mou,(e.key,ptr e.a 0)∈y.2.1->e.point≠id) (λ_=>U [(0,ptr b 0),(1,I id),(28,ptr b28 0)]) (λy=>x9 b28 rm es2 V y.1 y.2.2::sH rm es2 V (fq z.mou)::pt b (.cells #[ptr bs 0,ptr bv 0, .map (some rs), .map (some rm),I (z.next)] 103 (0,0))::pt bs (.cells (lg R (z.h) bl so (z.rows.length) co) 198 (0,0))::pt bl (.cells (ge R 122 (200 - 122) (z.h.first) (z.used)) 273 (0,0))::roL 3 so (bx z.rows)::gO bv z.S z.L z.n::big Bq z.ses::mp rs (fp z.ses)::big DM z.mou::F) (λy=>y.1.length) (fq z.mou,[],none) ⟨.refl _,by simp⟩ [0,1,28] rfl ?_;rintro ⟨rest,done,cur⟩ ⟨hp,O⟩;simp only[] at hp O ⊢;refine gS (gI j9 ?_);rintro _ _ (⟨hr,rfl,rfl⟩ | ⟨p,J,hq,rfl,rfl⟩)
  ·subst hr;have hM:∀e∈z.mou,e.point≠id:=λe he=>O e he (by have:=hp.mem_iff (a:=(e.key,ptr e.a 0));rw[kaE] at this;exact this.2 (Zz.2 ⟨e,he,rfl⟩));refine gV aH (ab (ac ?_));refine dW ?_;refine aF ?_;refine gS (gQ ?_);refine bQ rm ?_;refine cw b R (z) bs bl so co bv rs rm ?_;exact ao rfl rfl (by show Bo false=_;congr 1;symm;unfold eW;rw[kaV,kal,kal];exact ⟨λe he=>by simpa using hS e he,λe he=>by simpa using hM e he⟩)
  ·obtain ⟨⟨i,e,he,rfl,hi⟩,hp2⟩:=MY hnM hp hq;refine gV aH (ab (ac ?_));refine eH ?_;refine ai (al (gS (gV ij (gX (ptr e.a 0) (gQ (ac ?_))))));refine MW z.mou i he ?_;refine am (gM (gV aa (gF 0 XS rR Vb (gL (I e.point) Vc (gM (gV bT (ab ?_)))))));refine de (f:=DM) z.mou i e [pt e.a (.cells #[I e.point, .map (some e.r)] 215 (0,0)),mp e.r (Al e.over)] hi ?_;rw[eG he];apply ah<;>intro Y
   ·simp at Y;refine gS (gQ ?_);refine bQ rm ?_;refine cw b R (z) bs bl so co bv rs rm ?_;exact ao rfl rfl (by show Bo true=_;congr 1;symm;unfold eW;rw[Zi,Y4,Y4];exact .inr ⟨e,YW he,by simpa using Y⟩)
   ·refine ai (aG ?_);refine ap (J,done++ [(e.key,ptr e.a 0)],some (e.key,ptr e.a 0)) ⟨hp2,λx hx hm=>?_⟩ (by have:=hq.length_eq;simp at this;simp;omega) [0,1,28] rfl;rcases Zn.1 hm with hm | hm
    ·exact O x hx hm
    ·have hk:x.key=e.key:=(by simp at hm;exact hm.1);rw[C7 hnM hx (YW he) hk];simpa using Y
 ·obtain ⟨⟨i,e,he,rfl,hi⟩,hp2⟩:=MX hnS hp hq;refine gV aH (ab (ac ?_));refine eH ?_;refine ai (al (gS (gV ij (gX (ptr e.a 0) (gQ (ac ?_))))));refine MV z.ses i he ?_;refine am (gM (gV aa (gF 0 W6 rR Vb (gL (I e.base) Vc (gM (gV bT (ab ?_)))))));refine de (f:=Bq) z.ses i e [pt e.a (.cells #[I e.base,I e.disk,I e.size,sl e.so e.puts.length e.co] 168 (0,0)),bi 86 2 e.so e.co (cZ e.puts)] hi ?_;rw[eG he];apply ah<;>intro X
  ·simp at X;refine gS (gQ ?_);refine bQ rs ?_;refine cw b R (z) bs bl so co bv rs rm ?_;exact ao rfl rfl (by show Bo true=_;congr 1;symm;unfold eW;rw[Zi,Y4,Y4];exact .inl ⟨e,YW he,by simpa using X⟩)
  ·refine ai (aG ?_);refine ap (J,done++ [(e.key,ptr e.a 0)],some (e.key,ptr e.a 0)) ⟨hp2,λx hx hm=>?_⟩ (by have:=hq.length_eq;simp at this;simp;omega) [0,1,13] rfl;rcases Zn.1 hm with hm | hm
   ·exact Z x hx hm
   ·have hk:x.key=e.key:=(by simp at hm;exact hm.1);rw[C6 hnS hx (YW he) hk];simpa using X
def zx {α:Type}(p:α->Bool):∀l:List α,l.find? p=l[l.findIdx p]?
 | []=>rfl
 | a::l=>by
  rw[List.find?_cons,ka4];cases h:p a with
  | true=>simp
  | false=>simpa using zx p l
def wF (l:List SeE)(id:Int):Nat:=l.findIdx λe=>decide (e.key=id)
def DO (l:List MoE)(id:Int):Nat:=l.findIdx λe=>decide (e.key=id)
def pf {l:List SeE}{id:Int}{e:SeE}(h:gk l id=some e):l[wF l id]? =some e/\e.key=id/\wF l id<l.length:=by
 have h1:=h;unfold gk at h1;rw[zx] at h1;have J:=List.find?_some h;exact ⟨h1,by simpa using J,(Yh.1 h1).1⟩
def ph {l:List MoE}{id:Int}{e:MoE}(h:ng l id=some e):l[DO l id]? =some e/\e.key=id/\DO l id<l.length:=by
 have h1:=h;unfold ng at h1;rw[zx] at h1;have J:=List.find?_some h;exact ⟨h1,by simpa using J,(Yh.1 h1).1⟩
def Ad (L:List Pt)(base disk:Int):Int:=if base=0 then 0 else match bg L base with
 | none=>5
 | some p=>if p.disk≠disk then 3 else 0
def ce (z:RpM)(base disk size:Int):Int:=if disk<1\/999<disk\/size<1\/16<size then 1 else if Ad z.L base disk≠0 then Ad z.L base disk else if z.ses.length=3 then 8 else 0
def RpM.sess (z:RpM)(l:List SeE):RpM:=⟨z.h,z.used,z.rows,z.S,z.L,z.n,l,z.mou,z.next⟩
def RpM.moun (z:RpM)(l:List MoE):RpM:=⟨z.h,z.used,z.rows,z.S,z.L,z.n,z.ses,l,z.next⟩
def RpM.begun (z:RpM)(a:Nat)(base disk size:Int):RpM:=⟨z.h,z.used,z.rows,z.S,z.L,z.n,z.ses++ [⟨z.next,a,none,0,base,disk,size,[]⟩],z.mou,z.next+1⟩
def RpM.mounted (z:RpM)(a r:Nat)(id:Int):RpM:=⟨z.h,z.used,z.rows,z.S,z.L,z.n,z.ses,z.mou++ [⟨z.next,a,r,id,[]⟩],z.next+1⟩
def e9 (z:RpM)(id:Int):Int:=match bg z.L id with
 | none=>5
 | some _=>if z.mou.length=3 then 8 else 0
def dw (z:RpM)(id at_:Int):ak×Int:=match ng z.mou id with
 | none=>([],5)
 | some m=>if (py z.S z.L m.point at_).2≠0 then ([],(py z.S z.L m.point at_).2) else match DK m.over at_ with
  | some d=>(d,0)
  | none=>((py z.S z.L m.point at_).1,0)
def ei (z:RpM)(id at_:Int)(d:ak):Int:=if (dw z id at_).2≠0 then (dw z id at_).2 else if 6<d.length then 2 else 0
def RpM.written (z:RpM)(id at_:Int)(d:ak):RpM:=match ng z.mou id with
 | none=>z
 | some m=>z.moun (z.mou.set (DO z.mou id) ⟨m.key,m.a,m.r,m.point,GT m.over at_ d⟩)
def T4 (x y k:Int)(w:World):(Instr.build 168 #[(0,I x),(1,I y),(2,I k)]).run Tryz.prog w= .ok (.agg #[I x,I y,I k,sl none 0 0]) w:=by
 simp[Instr.build,zeroValue168,runUnderlying168,Vb,Instr.fill,bB,sl,show ∀k:Int,(I k).cells=#[I k] from λ_=>rfl]
def T5 (x:Int)(r:Nat)(w:World):(Instr.build 215 #[(0,I x),(1, .map (some r))]).run Tryz.prog w= .ok (.agg #[I x, .map (some r)]) w:=by
 simp[Instr.build,zeroValue215,runUnderlying215,Vb,XB,Instr.fill,bB,show ∀k:Int,(I k).cells=#[I k] from λ_=>rfl,show (Value.map (some r)).cells=#[.map (some r)] from rfl]
def mD (b R:Nat)(z:RpM)(base disk size:Int)(hR:Rok z)(F:List ag):Ct Tryz.prog 31 [ptr b 0,I base,I disk,I size] (dB b R z::F) (λv L'=>(ce z base disk size≠0/\v= .tuple #[I 0,bM (ce z base disk size)]/\L'=dB b R z::F)\/(ce z base disk size=0/\∃a,v= .tuple #[I z.next,bM 0]/\L'=dB b R (z.begun a base disk size)::F)):=by
 obtain ⟨G0,hC⟩:=hR.con;have hlen:=hC.v.len;have hnx:=hR.next;refine Ct.of func31 rR 67 ntmps31 (by simp) λw0=>?_;refine fH b R z ?_;intro bs bl so co bv rs rm;refine gS (gA (gQ (ac (gS (gM (gV aI (gM (gK aq (gK aT (gV cu (gM (gK aq (gK aI (gV cu (gM (gK aq (gK aT (gV cu (ab ?_)))))))))))))))))));apply ah<;>intro Z
 ·have J:disk<1\/999<disk\/size<1\/16<size:=(by simp at Z;omega);refine gS (gV (aZ Vn) (gA (gQ ?_)));refine cw b R (z) bs bl so co bv rs rm ?_;exact an (dB b R (z)::F) rfl (.inl ⟨by unfold ce;rw[YB J];decide,by unfold ce;rw[YB J];rfl,rfl⟩)
 ·have J:¬(disk<1\/999<disk\/size<1\/16<size):=(by simp at Z;omega);refine ai (ac (gS (gM (gV fZ (ab ?_)))));refine ls (α:=Unit) (λ_=>Ad z.L base disk=0) (λ_=>U [(0,ptr b 0),(1,I base),(2,I disk),(3,I size)]) (λ_=>pt b (.cells #[ptr bs 0,ptr bv 0, .map (some rs), .map (some rm),I (z.next)] 103 (0,0))::pt bs (.cells (lg R (z.h) bl so (z.rows.length) co) 198 (0,0))::pt bl (.cells (ge R 122 (200 - 122) (z.h.first) (z.used)) 273 (0,0))::roL 3 so (bx z.rows)::gO bv z.S z.L z.n::mp rs (fp z.ses)::big Bq z.ses::mp rm (fq z.mou)::big DM z.mou::F) ?_ ?_
  ·apply ah<;>intro X
   ·simp at X;refine gS (gM (gV aa (gF 1 VO rR WQ (gL (ptr bv 0) WI (gM (gR (vB call92 (dC bv z.S z.L z.n base (by omega))) (gM (gX (.agg (aY ((bg z.L base).getD i6)).toArray) (gX (Bo (bg z.L base).isSome) (gI (aO #[I 0,I 0,I 0,I 0] VJ) ?_))))))))));rintro _ _ ⟨b10,rfl,rfl⟩;refine gU (ax (cs:=#[I 0,I 0,I 0,I 0]) (vs:=aY (((bg z.L base).getD i6))) (aY (((bg z.L base).getD i6))).toArray Vk (by simp) (hcs:=by exact aJ)) (gQ (ac (gS (gM (gV cE (ab ?_))))));apply ah<;>intro Y
    ·simp at Y;refine gS (gV (aZ Vn) (gA (gQ ?_)));refine cw b R (z) bs bl so co bv rs rm ?_;exact an (dB b R (z)::F) rfl (have ho:Ad z.L base disk=5:=by unfold Ad;rw[YC X,Y]
      .inl ⟨by unfold ce;rw[YC J,YB (by omega),ho];decide,by unfold ce;rw[YC J,YB (by omega),ho];rfl,rfl⟩)
    ·simp at Y;obtain ⟨p,hf⟩:=kaG.1 Y;rw[show (bg z.L base).getD i6=p by rw[hf];rfl];refine ai (gS (gF 1 VC rR Vb (gL (I p.disk) Vc (gM (gV fZ (ab ?_))))));apply ah<;>intro h45
     ·simp at h45;refine gS (gV (aZ Vn) (gA (gQ ?_)));refine cw b R (z) bs bl so co bv rs rm ?_;exact an (dB b R (z)::F) rfl (have ho:Ad z.L base disk=3:=by unfold Ad;rw[YC X,hf];simp only;rw[YB (by omega)]
       .inl ⟨by unfold ce;rw[YC J,YB (by omega),ho];decide,by unfold ce;rw[YC J,YB (by omega),ho];rfl,rfl⟩)
     ·simp at h45;refine ai ?_;exact cF () (by unfold Ad;rw[YC X,hf];simp only;rw[YC (by omega)]) [0,1,2,3] rfl
   ·simp at X;refine ai ?_;exact cF () (by unfold Ad;rw[YB X]) [0,1,2,3] rfl
  rintro _ hof;refine ac (gS (gM (gV aa (gF 2 VO rR Xb (gL (.map (some rs)) Xg (gV (lh Xh) (gV bT (ab ?_))))))));apply ah<;>intro h52
  ·have O:z.ses.length=3:=(by simp[fp] at h52;omega);refine gS (gV (aZ Vn) (gA (gQ ?_)));refine cw b R (z) bs bl so co bv rs rm ?_;exact an (dB b R (z)::F) rfl (.inl ⟨by unfold ce;rw[YC J,YC (by omega),YB O];decide,by unfold ce;rw[YC J,YC (by omega),YB O];rfl,rfl⟩)
  ·have O:¬z.ses.length=3:=(by simp[fp] at h52;omega);refine ai (gS (gM (gR (vB call93 (lC b (ptr bs 0) (ptr bv 0) (.map (some rs)) (.map (some rm)) z.next (by omega))) (gQ (gS (gM (gV aa (gF 2 VO rR Xb (gL (.map (some rs)) Xg (gM (gM (gM (gM (gV (aR (T4 base disk size)) (gI (di #[I base,I disk,I size,sl none 0 0]) ?_)))))))))))))));rintro _ _ ⟨V,rfl,rfl⟩;refine ir (cn Xh Vf) ?_;rintro _ _ rfl;rw[Fe (l:=z.ses) (e:=(⟨z.next,V,none,0,base,disk,size,[]⟩:SeE)) (λx hx=>by have:=hR.keyS x hx;show x.key≠z.next;omega)];refine bH 86 2 (cZ []) ?_;refine th (f:=Bq) z.ses (⟨z.next,V,none,0,base,disk,size,[]⟩:SeE) [pt V (.cells #[I base,I disk,I size,sl none 0 0] 168 (0,0)),bi 86 2 none 0 (cZ [])] rfl ?_;refine ab (gS (gM (gA (gQ ?_))));refine cw b R (⟨z.h,z.used,z.rows,z.S,z.L,z.n,z.ses++ [⟨z.next,V,none,0,base,disk,size,[]⟩],z.mou,z.next+1⟩) bs bl so co bv rs rm ?_;exact an (dB b R (⟨z.h,z.used,z.rows,z.S,z.L,z.n,z.ses++ [⟨z.next,V,none,0,base,disk,size,[]⟩],z.mou,z.next+1⟩)::F) rfl (.inr ⟨by unfold ce;rw[YC J,YC (by omega),YC O],V,rfl,rfl⟩)
def jq (b J:Nat)(z:RpM)(id:Int)(F:List ag):Ct Tryz.prog 44 [ptr b 0,I id] (dB b J z::F) (λv L'=>(gk z.ses id=none/\v=bM 5/\L'=dB b J z::F)\/(∃e,gk z.ses id=some e/\v=bM 0/\L'=dB b J (z.sess (lR z.ses id))::F)):=by
 refine Ct.of func44 rR 18 ntmps44 (by simp) λw0=>?_;refine fH b J z ?_;intro bs bl so co bv rs rm;refine gS (gQ (ac (gS (gM (gV aa (gF 2 VO rfl Xb (gL (.map (some rs)) Xg (gM (gV (cI (v:= .pointer ((gk z.ses id).map λe=>⟨e.a,0,none⟩)) Xh Vf X5 (by rw[nw];cases gk z.ses id <;> rfl)) (gV (rX X6) (ab ?_)))))))))));apply ah<;>intro O
 ·have V:gk z.ses id=none:=(by simpa using O);refine gS (gV (aZ Vn) (gQ ?_));refine cw b J (z) bs bl so co bv rs rm ?_;exact an (dB b J (z)::F) rfl (.inl ⟨V,rfl,rfl⟩)
 ·obtain ⟨e,R⟩:∃e,gk z.ses id=some e:=kaG.1 (by cases hq:gk z.ses id with
   | none=>rw[hq] at O;cases O
   | some _=>rfl)
  obtain ⟨he,X,hi⟩:=pf R;rw[R];refine ai (gS (gM (gV aa (gF 2 VO rR Xb (gL (.map (some rs)) Xg (gM (ir (iv Xh Vf) ?_)))))));rintro _ _ ⟨rfl,rfl⟩;rw[tZ];refine nJ (f:=Bq) z.ses (lR z.ses id) ZE ?_;refine ab (gS (gQ ?_));refine cw b J (⟨z.h,z.used,z.rows,z.S,z.L,z.n,lR z.ses id,z.mou,z.next⟩) bs bl so co bv rs rm ?_;exact an (dB b J (⟨z.h,z.used,z.rows,z.S,z.L,z.n,lR z.ses id,z.mou,z.next⟩)::F) rfl (.inr ⟨e,rfl,rfl,rfl⟩)
def qp (b J:Nat)(z:RpM)(id:Int)(F:List ag):Ct Tryz.prog 49 [ptr b 0,I id] (dB b J z::F) (λv L'=>(ng z.mou id=none/\v=bM 5/\L'=dB b J z::F)\/(∃e,ng z.mou id=some e/\v=bM 0/\L'=dB b J (z.moun (DL z.mou id))::F)):=by
 refine Ct.of func49 rR 18 ntmps49 (by simp) λw0=>?_;refine fH b J z ?_;intro bs bl so co bv rs rm;refine gS (gQ (ac (gS (gM (gV aa (gF 3 VO rfl Xi (gL (.map (some rm)) Xq (gM (gV (cI (v:= .pointer ((ng z.mou id).map λe=>⟨e.a,0,none⟩)) Xr Vf X7 (by rw[pd];cases ng z.mou id <;> rfl)) (gV (rX underlying212) (ab ?_)))))))))));apply ah<;>intro O
 ·have V:ng z.mou id=none:=(by simpa using O);refine gS (gV (aZ Vn) (gQ ?_));refine cw b J (z) bs bl so co bv rs rm ?_;exact an (dB b J (z)::F) rfl (.inl ⟨V,rfl,rfl⟩)
 ·obtain ⟨e,R⟩:∃e,ng z.mou id=some e:=kaG.1 (by cases hq:ng z.mou id with
   | none=>rw[hq] at O;cases O
   | some _=>rfl)
  obtain ⟨he,X,hi⟩:=ph R;rw[R];refine ai (gS (gM (gV aa (gF 3 VO rR Xi (gL (.map (some rm)) Xq (gM (ir (iv Xr Vf) ?_)))))));rintro _ _ ⟨rfl,rfl⟩;rw[Fg];refine nJ (f:=DM) z.mou (DL z.mou id) ZE ?_;refine ab (gS (gQ ?_));refine cw b J (⟨z.h,z.used,z.rows,z.S,z.L,z.n,z.ses,DL z.mou id,z.next⟩) bs bl so co bv rs rm ?_;exact an (dB b J (⟨z.h,z.used,z.rows,z.S,z.L,z.n,z.ses,DL z.mou id,z.next⟩)::F) rfl (.inr ⟨e,rfl,rfl,rfl⟩)
def sq (b V:Nat)(z:RpM)(id:Int)(Z:Rok z)(F:List ag):Ct Tryz.prog 48 [ptr b 0,I id] (dB b V z::F) (λv L'=>(e9 z id≠0/\v= .tuple #[I 0,bM (e9 z id)]/\L'=dB b V z::F)\/(e9 z id=0/\∃a r,v= .tuple #[I z.next,bM 0]/\L'=dB b V (z.mounted a r id)::F)):=by
 obtain ⟨G0,hC⟩:=Z.con;have hlen:=hC.v.len;have hnx:=Z.next;refine Ct.of func48 rR 40 ntmps48 (by simp) λw0=>?_;refine fH b V z ?_;intro bs bl so co bv rs rm;refine gS (gA (gQ (gS (gM (gV aa (gF 1 VO rR WQ (gL (ptr bv 0) WI (gM (gR (vB call92 (dC bv z.S z.L z.n id (by omega))) (gM (gX (.agg (aY ((bg z.L id).getD i6)).toArray) (gX (Bo (bg z.L id).isSome) (gI (aO #[I 0,I 0,I 0,I 0] VJ) ?_)))))))))))));rintro _ _ ⟨b6,rfl,rfl⟩;refine gU (ax (cs:=#[I 0,I 0,I 0,I 0]) (vs:=aY (((bg z.L id).getD i6))) (aY (((bg z.L id).getD i6))).toArray Vk (by simp) (hcs:=by exact aJ)) (gQ (ac (gS (gM (gV cE (ab ?_))))));apply ah<;>intro X
 ·simp at X;refine gS (gV (aZ Vn) (gA (gQ ?_)));refine cw b V (z) bs bl so co bv rs rm ?_;exact an (dB b V (z)::F) rfl (have ho:e9 z id=5:=by unfold e9;rw[X]
   .inl ⟨by rw[ho];decide,by rw[ho];rfl,rfl⟩)
 ·simp at X;obtain ⟨p,hf⟩:=kaG.1 X;rw[show (bg z.L id).getD i6=p by rw[hf];rfl];refine ai (ac (gS (gM (gV aa (gF 3 VO rR Xi (gL (.map (some rm)) Xq (gV (lh Xr) (gV bT (ab ?_)))))))));apply ah<;>intro Y
  ·have O:z.mou.length=3:=(by simp[fq] at Y;omega);refine gS (gV (aZ Vn) (gA (gQ ?_)));refine cw b V (z) bs bl so co bv rs rm ?_;exact an (dB b V (z)::F) rfl (have ho:e9 z id=8:=by unfold e9;rw[hf];simp only;rw[YB O]
    .inl ⟨by rw[ho];decide,by rw[ho];rfl,rfl⟩)
  ·have O:¬z.mou.length=3:=(by simp[fq] at Y;omega);refine ai (gS (gM (gR (vB call93 (lC b (ptr bs 0) (ptr bv 0) (.map (some rs)) (.map (some rm)) z.next (by omega))) (gQ (gS (gM (gV aa (gF 3 VO rR Xi (gL (.map (some rm)) Xq (gM (gM (gI (fw) ?_))))))))))));rintro _ _ ⟨J,rfl,rfl⟩;refine gV (aR (T5 id J)) (gI (di #[I id, .map (some J)]) ?_);rintro _ _ ⟨R,rfl,rfl⟩;refine ir (cn Xr Vf) ?_;rintro _ _ rfl;rw[Ff (l:=z.mou) (e:=(⟨z.next,R,J,id,[]⟩:MoE)) (λx hx=>by have:=Z.keyM x hx;show x.key≠z.next;omega)];refine th (f:=DM) z.mou (⟨z.next,R,J,id,[]⟩:MoE) [pt R (.cells #[I id, .map (some J)] 215 (0,0)),mp J []] rfl ?_;refine ab (gS (gM (gA (gQ ?_))));refine cw b V (⟨z.h,z.used,z.rows,z.S,z.L,z.n,z.ses,z.mou++ [⟨z.next,R,J,id,[]⟩],z.next+1⟩) bs bl so co bv rs rm ?_;exact an (dB b V (⟨z.h,z.used,z.rows,z.S,z.L,z.n,z.ses,z.mou++ [⟨z.next,R,J,id,[]⟩],z.next+1⟩)::F) rfl (.inr ⟨by unfold e9;rw[hf];simp only;rw[YC O],R,J,rfl,by unfold RpM.mounted;rfl⟩)
end Go.Proofs.YthdjckbjjfiopabGreatDoor