/- Several texts in one: walks and rules used by them. No condition. -/
import Derived.Test.YthdjckbjjfiopabGreatDoorCnsD
import Derived.Test.YthdjckbjjfiopabGreatDoorCnsB
import Derived.Shelf.SlSortCmp.NoneTotal
import Derived.Test.YthdjckbjjfiopabGreatDoorCnsC
import Derived.Test.YthdjckbjjfiopabGreatDoorCnsA
set_option linter.unusedSimpArgs false
set_option linter.unusedVariables false
set_option synthInstance.maxSize 9999
set_option synthInstance.maxHeartbeats 0
set_option linter.defProp false
set_option maxHeartbeats 800000
namespace Go.Proofs.YthdjckbjjfiopabGreatDoor
open _root_.Go.Proofs.Tryz
open Go.Sl Go.Proofs
def W4 {N:fZ}(h:mE 24 N)q:(lk (tb cl 24 N) q).isSome=(N q).isSome:=by
 grind[GK]
def Ri {N F o id kind}(h:oe N F o id kind=true):o=true:=by
 grind[oe]
def Rj {Q l}(h:cm Q (cA l))k:cm (Kv Q k (cA l k+1)) (cA (l++ [k])):=by
 rw[show cA (l++ [k])=del (cA l) k 1 from funext λq=>Q5 l k q];exact Hl h k
def Ft {Q c}(h:cm Q c)q:(lk (mi Q) q).getD (I 0)=I (c q):=by rw[mI,h.1]
def NI {N:fZ}(h:mE 24 N){q m}(hm:N q=some m):q∈(tb cl 24 N).map (·.1):=by
 rw[nH];exact mem_ids.2 ⟨h q m hm,by rw[hm];rfl⟩
def Uk {B:qc}(h:mE 40 B){q x}(hx:B q=some x):q∈(tb cP 40 B).map (·.1):=by
 rw[nH];exact mem_ids.2 ⟨h q x hx,by rw[hx];rfl⟩
variable {J:MM}
theorem ul {rest:MM}{k v}(h:rest.Perm ((k,v)::J)){q}(hq:q∈rest.map (·.1)):q=k\/q∈J.map (·.1):=by
 grind
variable {p:Int×Value}
def qG {rest bq:MM}(h:rest.Perm (p::J))(hs:∀p∈rest,p∈bq):∀p∈J,p∈bq:=λq hq=>hs q (h.mem_iff.2 (kcn _ hq))
def xI {rest bq:MM}(h:rest.Perm (p::J))(hs:∀p∈rest,p∈bq):p∈bq:=hs p (h.mem_iff.2 (by simp))
def um {rest:MM}(h:rest.Perm (p::J)):J.length<rest.length:=by have:=h.length_eq;simp at this;omega
def V9 m:∀i,i<4->(kd m)[i]? =some (bZ m i)
 | 0,_=>rfl
 | 1,_=>rfl
 | 2,_=>rfl
 | 3,_=>rfl
 | i+4,h=>absurd h (by omega)
def pZ b x p r O V R rm es clk(S:SI)(L:List Pt)n s c Q o id kind(hs:mE 24 S.N)F:cqq 248 [I id,I kind,ptr O 0,ptr V 0,ptr R 0] (pcc O #[ptr b 0] 53::pcc V #[Bo (o)] 4::pcc R #[.map (some rm)] 286::mp rm (mi Q)::pcc b #[ptr x 0,sl s (L).length c,I (n)] 123::pcc x #[ptr p 0, .map (some r)] 231::tj r es clk (tb cl 24 S.N)::F) (R1 (.tuple #[]) (pcc O #[ptr b 0] 53::pcc V #[Bo (oe S.N Q o id kind)] 4::pcc R #[.map (some rm)] 286::mp rm (mi (qB Q id kind))::pcc b #[ptr x 0,sl s (L).length c,I (n)] 123::pcc x #[ptr p 0, .map (some r)] 231::tj r es clk (tb cl 24 S.N)::F)):=by
 refine Ct.of func248 W 43 ntmps248 (by simp) λw0=>?_;refine ac<|A<|C<|M bE<|ab<|ah ?_ ?_<;>intro J
 ·simp at J;rw[show oe S.N Q o id kind=o by unfold oe;rw[kaT J],show qB Q id kind=Q by unfold qB;rw[kaT J]];exact am rfl rfl rfl
 ·simp at J;refine ai<|A<|gL (ptr b 0) Y6<|M aa<|gF 0 XK W X7<|gL (ptr x 0) Yb<|M aa<|gF 1 XX W Yf<|gL (.map (some r)) Yk<|C<|M (ed (v:=cl (gN S.N id)) (bb:=(S.N id).isSome) Yl XA Yx (PX hs id) (W4 hs id))<|C<|gX (cl (gN S.N id))<|gX (Bo (S.N id).isSome)<|gI (aO #[I 0,I 0,I 0,I 0,I 0] Yx) ?_;rintro _ _ ⟨X,rfl,rfl⟩;refine gU (az (cs:=#[I 0,I 0,I 0,I 0,I 0]) (vs:=kV (gN S.N id)) (kV (gN S.N id)).toArray X0 (by simp) (hcs:=by exact aH))<|T<|A<|gL (Bo o) Yp<|C<|gK ao<|M dc<|C ?_;rcases hb1:(o && (S.N id).isSome) with _ | _
  ·refine bi<|bi<|bi<|bi<|bi<|bi<|bi<|bi<|bi<|bi<|bi<|M fa<|gU (aJ #[Bo false] XL (by simp))<|ab<|al<|gL (.map (some rm)) Zy<|C<|C<|io (cq YP XA) ?_;rintro _ _ rfl;rw[sJ];refine ab ?_;rw[show oe S.N Q o id kind=false by unfold oe;rw[kaU J,<-kdi,hb1];rfl,show qB Q id kind=Kv Q id kind by unfold qB;rw[kaU J]];exact gh rfl rfl rfl
  ·refine bh (aA (v:= .map (some rm)) Zy)<|bh ao<|bh (cW (v:=I ((li Q id).getD 0)) YP XA X5 (mI Q id 0))<|bh bE<|bh ao ?_;by_cases h0:(li Q id).getD 0=0
   ·refine bi (hw:=by rw[kci h0];rfl)<|bi (hw:=by rw[kci h0];rfl)<|bi (hw:=by rw[kci h0];rfl)<|bi (hw:=by rw[kci h0];rfl)<|bi (hw:=by rw[kci h0];rfl)<|bh (eV (hq:=by exact kci h0))<|M eV<|gU (aJ #[Bo true] XL (by simp))<|ab<|al<|gL (.map (some rm)) Zy<|C<|C<|io (cq YP XA) ?_;rintro _ _ rfl;rw[sJ];refine ab ?_;rw[show oe S.N Q o id kind=true by unfold oe;rw[kaU J,<-kdi,hb1,kci h0];rfl,show qB Q id kind=Kv Q id kind by unfold qB;rw[kaU J]];exact gh rfl rfl rfl
   ·refine bh (hw:=by exact kcj h0) (aA (v:= .map (some rm)) Zy)<|bh (hw:=by exact kcj h0) ao<|bh (hw:=by exact kcj h0) (cW (v:=I ((li Q id).getD 0)) YP XA X5 (mI Q id 0))<|bh (hw:=by exact kcj h0) ao<|bh (hw:=by exact kcj h0) bE<|bh (fa (hq:=by exact kcj h0))<|M eV<|gU (aJ #[Bo (decide ((li Q id).getD 0=kind))] XL (by simp))<|ab<|al<|gL (.map (some rm)) Zy<|C<|C<|io (cq YP XA) ?_;rintro _ _ rfl;rw[sJ];refine ab ?_;rw[show oe S.N Q o id kind=decide ((li Q id).getD 0=kind) by unfold oe;rw[kaU J,<-kdi,hb1,kcj h0];simp,show qB Q id kind=Kv Q id kind by unfold qB;rw[kaU J]];exact gh rfl rfl rfl
def qH b S L n(hl:L.length<=6)(hs:mE 24 S.N)F:cqq 193 [ptr b 0] (iq b S L n::F) (λv L'=>∃rm Q o,v= .tuple #[.map (some rm),Bo o]/\L'=mp rm (mi Q)::iq b S L n::F/\(o=true ↔ KindsP S.N L)/\(o=true->∀q,(li Q q).getD 0=1 ↔ nu L q)):=by
 refine Ct.of func193 W 70 ntmps193 (by simp) λw0=>?_;refine ge b S L n ?_;intro x s c;refine fl x S ?_;intro p r;refine ft r ?_;intro es clk;refine A<|gI (dw #[ptr b 0]) ?_;rintro _ _ ⟨b1,rfl,rfl⟩;refine gA<|T<|A<|gI (fH) ?_;rintro _ _ ⟨J,rfl,rfl⟩;refine gI (qf (.map none) zeroValue286) ?_;rintro _ _ ⟨R,rfl,rfl⟩;refine gU (aJ #[.map (some J)] sizeOf286 (by simp))<|ab<|A<|gI (qf (Bo false) zeroValue4) ?_;rintro _ _ ⟨V,rfl,rfl⟩;refine gU (aJ #[Bo true] XL (by simp))<|ab<|A<|M fV<|T ?_;refine nG J (mi []) (.refl _) ?_;refine ac<|A<|gL (ptr b 0) Y6<|M aa<|gF 1 XK W XS<|gL (sl s (L).length c) Ya<|M (aP XP)<|C<|ab<|ak ?_;refine aL (α:=Nat×Bool×IM) (λz=>z.1<=L.length/\K1 S.N (L.take z.1) z.2.1 z.2.2) (λz=>U [(1,ptr b1 0),(4,ptr R 0),(5,ptr V 0),(6, .func (.func 248) #[] #[ptr b1 0,ptr V 0,ptr R 0]),(18,sl s L.length c),(19,I L.length),(20,I z.1)]) (λz=>pcc b1 #[ptr b 0] 53::pcc V #[Bo (z.2.1)] 4::pcc R #[.map (some J)] 286::mp J (mi z.2.2)::pcc b #[ptr x 0,sl s (L).length c,I (n)] 123::pcc x #[ptr p 0, .map (some r)] 231::tj r es clk (tb cl 24 S.N)::nj p S.B::be 162 4 s c (gb (L))::F) (λz=>L.length - z.1) (0,true,[]) ⟨by simp,by simpa using T7 S.N⟩ [1,4,5,6,18,19,20] rfl ?_;rintro ⟨j,o,Q⟩ ⟨hj,hK⟩;simp only[] at hj hK ⊢;refine A<|M aG<|ab<|ac<|ah ?_ ?_<;>intro h21
 ·simp at h21;have hjn:j<L.length:=(by omega);obtain ⟨p0,hp⟩:∃p0,L[j]? =some p0:=⟨_,kbN hjn⟩;refine ai<|ac<|ak<|A<|M (av (j) XP XE hjn (by rw[cR];exact hjn))<|M (bO (row:=aW p0) YI XE (g8 hp))<|gI (aO #[I 0,I 0,I 0,I 0] X4) ?_;rintro _ _ ⟨b8,rfl,rfl⟩;refine gU (az (cs:=#[I 0,I 0,I 0,I 0]) (vs:=aW (p0)) (aW (p0)).toArray XE (by simp) (hcs:=by exact aH))<|ab<|al<|C<|gF 3 XQ W Xu<|gL (I p0.root) Xv ?_;refine gI (gc (fi:=[]) (cap:=[ptr b1 0,ptr V 0,ptr R 0]) (Pre:=[pcc b1 #[ptr b 0] 53,pcc V #[Bo (o)] 4,pcc R #[.map (some J)] 286,mp J (mi Q),pcc b #[ptr x 0,sl s (L).length c,I (n)] 123,pcc x #[ptr p 0, .map (some r)] 231,tj r es clk (tb cl 24 S.N)]) call248 W W (pZ b x p r b1 V R J es clk S L n s c Q o (p0.root) 1 hs)) ?_;rintro _ _ ⟨rfl,rfl⟩;refine ab<|aE<|al<|gP<|C<|ab ?_;exact an (j+1,oe S.N Q o p0.root 1,qB Q p0.root 1) ⟨by simp only[];omega,by simp only[];rw[<-fP hp];exact QY hK p0⟩ (by simp only[];omega) [1,4,5,6,18,19,20] rfl
 ·simp at h21;obtain rfl:j=L.length:=(by omega);rw[kbl] at hK;refine aF ?_;refine ac<|A<|gL (ptr b 0) Y6<|M aa<|gF 0 XK W X7<|gL (ptr x 0) Yb<|M aa<|gF 1 XX W Yf<|gL (.map (some r)) Yk<|gI (iv Yl) ?_;rintro _ _ ⟨b36,rfl,rfl⟩;refine ab<|ak ?_;refine aL (α:=MM×List Int×Option (Int×Value)×Bool×IM) (λz=>K2 S.N L z.2.1 [] z.2.2.2.1 z.2.2.2.2/\(∀q m,S.N q=some m->q∈z.2.1\/q∈z.1.map (·.1))/\∀p∈z.1,p∈tb cl 24 S.N) (λz=>U [(1,ptr b1 0),(4,ptr R 0),(5,ptr V 0),(6, .func (.func 248) #[] #[ptr b1 0,ptr V 0,ptr R 0]),(36,ptr b36 0)]) (λz=>yc b36 r es clk z.1 z.2.2.1::pcc b1 #[ptr b 0] 53::pcc V #[Bo (z.2.2.2.1)] 4::pcc R #[.map (some J)] 286::mp J (mi z.2.2.2.2)::pcc b #[ptr x 0,sl s (L).length c,I (n)] 123::pcc x #[ptr p 0, .map (some r)] 231::tj r es clk (tb cl 24 S.N)::nj p S.B::be 162 4 s c (gb (L))::F) (λz=>z.1.length) (tb cl 24 S.N,[],none,o,Q) ⟨Nh hK,λq m h=> .inr (NI hs h),λ_ h=>h⟩ [1,4,5,6,36] rfl ?_;rintro ⟨rest,done,cur,o,Q⟩ ⟨hK,Y,X⟩;simp only[] at hK Y X ⊢;refine A<|gI kz ?_;rintro _ _ (⟨hr,rfl,rfl⟩ | ⟨⟨k,v⟩,O,hq,rfl,rfl⟩)
  ·subst hr;refine M aB<|ab<|ac ?_;refine dY ?_;refine aF ?_;refine ac ?_;refine cn (Lf:=[pcc b1 #[ptr b 0] 53,pcc V #[Bo (o)] 4,pcc R #[.map (some J)] 286,mp J (mi Q),pcc b #[ptr x 0,sl s (L).length c,I (n)] 123,pcc x #[ptr p 0, .map (some r)] 231,tj r es clk (tb cl 24 S.N)]) jC ?_;refine dL W (.map (some J)) Zy<|dL W (Bo o) Yp<|dM W<|dJ W (aA (v:= .map (some J)) Zy)<|dJ W (ky YP)<|dJ W (aA (v:=ptr b 0) Y6)<|dJ W aa<|dJ W (aw 0 XK W X7)<|dJ W (aA (v:=ptr x 0) Yb)<|dJ W aa<|dJ W (aw 1 XX W Yf)<|dJ W (aA (v:= .map (some r)) Yk)<|dJ W (ky Yl)<|dJ W bE<|dV W dc<|dV W ax<|dV W ax ?_;refine aN ?_;refine gY J λhnd=>?_;rw[tF] at hnd;have hend:=Ua hK (λq hq=>by obtain ⟨m,hm⟩:=kcX.1 hq;exact (Y q m hm).resolve_right (by simp)) hs hnd;refine bT r ?_;refine cC p r x S (.refl _) ?_;refine cF b x s c (S) (L) (n) ?_;refine jf (L2:=mp J (mi Q)::iq b S L n::F) ?_;exact λa w hE hS=>wp_ret (cb (bf (vs:=[.map (some J),Bo (o && decide (((mi Q).length:Int)=((tb cl 24 S.N).length:Int)))]) rfl hE hS ⟨J,Q,_,rfl,rfl,by rw[fF,show (mi Q).length=Q.length by simp[mi]];exact hend.1,λho=>hend.2 (by rw[kaJ] at ho;exact ho.1)⟩))
  ·obtain ⟨m,hm,hv,hk⟩:=vg (xI hq X);simp only at hv hk hm;subst hv;have Z:∀q m,S.N q=some m->q∈k::done\/q∈O.map (·.1):=λq m h=>by
    rcases Y q m h with h1 | h1
    ·exact .inl<|kcn _ h1
    ·rcases ul hq h1 with h2 | h2
     ·exact .inl (by rw[h2];simp)
     ·exact .inr h2
   refine M aB<|ab<|ac ?_;refine d6 ?_;refine ai<|ak<|A<|M iw<|gX (I k)<|gX (cl m)<|gI (aO #[I 0,I 0,I 0,I 0,I 0] Yx) ?_;rintro _ _ ⟨b10,rfl,rfl⟩;refine gA<|gU (az (cs:=#[I 0,I 0,I 0,I 0,I 0]) (vs:=kV m) (kV m).toArray X0 (by simp) (hcs:=by exact aH))<|ab<|ac<|A<|gL (.map (some J)) Zy<|C<|M (cW (v:=I ((li Q k).getD 0)) YP XA X5 (mI Q k 0))<|M iE<|ab<|ah ?_ ?_<;>intro h45
   ·simp at h45;refine aF ?_;exact an (O,k::done,some (k,cl m),o,Q) ⟨Q0 hK h45,Z,qG hq X⟩ (um hq) [1,4,5,6,36] rfl
   ·simp at h45;refine ai<|A<|gF 0 XV W XR<|M (bj (vs:=ga m) Yu XR vK)<|C<|ab<|ak ?_;refine aL (α:=Nat×Bool×IM) (λz=>z.1<=4/\K2 S.N L done ((kd m).take z.1) z.2.1 z.2.2/\(z.2.1=true->nu L k)) (λz=>U [(1,ptr b1 0),(4,ptr R 0),(5,ptr V 0),(6, .func (.func 248) #[] #[ptr b1 0,ptr V 0,ptr R 0]),(36,ptr b36 0),(47, .agg (ga m).toArray),(48,I z.1)]) (λz=>yc b36 r es clk O (some (k,cl m))::pcc b1 #[ptr b 0] 53::pcc V #[Bo (z.2.1)] 4::pcc R #[.map (some J)] 286::mp J (mi z.2.2)::pcc b #[ptr x 0,sl s (L).length c,I (n)] 123::pcc x #[ptr p 0, .map (some r)] 231::tj r es clk (tb cl 24 S.N)::nj p S.B::be 162 4 s c (gb (L))::F) (λz=>4 - z.1) (0,o,Q) ⟨by simp,hK,λho=>Q3 (by rw[<-ho];exact hK) h45⟩ [1,4,5,6,36,47,48] rfl ?_;rintro ⟨i,o,Q⟩ ⟨hi,hK2,hro⟩;simp only[] at hi hK2 hro ⊢;refine A<|M aG<|ab<|ac<|ah ?_ ?_<;>intro h49
    ·simp at h49;have hi4:i<4:=(by omega);refine ai<|ac<|ak<|A<|M (ln (v:=I (bZ m i)) i X6 Xu Xv hi4 (by simpa using g7 m i hi4))<|T<|al<|C<|C ?_;refine gI (gc (fi:=[]) (cap:=[ptr b1 0,ptr V 0,ptr R 0]) (Pre:=[pcc b1 #[ptr b 0] 53,pcc V #[Bo (o)] 4,pcc R #[.map (some J)] 286,mp J (mi Q),pcc b #[ptr x 0,sl s (L).length c,I (n)] 123,pcc x #[ptr p 0, .map (some r)] 231,tj r es clk (tb cl 24 S.N)]) call248 W W (pZ b x p r b1 V R J es clk S L n s c Q o (bZ m i) 2 hs)) ?_;rintro _ _ ⟨rfl,rfl⟩;refine ab<|aE<|al<|gP<|C<|ab ?_;exact an (i+1,oe S.N Q o (bZ m i) 2,qB Q (bZ m i) 2) ⟨by simp only[];omega,by simp only[];rw[<-fP (V9 m i hi4)];exact T8 hK2 hro hm (ze hi4),λh=>hro (Ri h)⟩ (by simp only[];omega) [1,4,5,6,36,47,48] rfl
    ·simp at h49;obtain rfl:i=4:=(by omega);refine aF ?_;refine aE ?_;exact an (O,k::done,some (k,cl m),o,Q) ⟨Q4 hK2 hro hm,Z,qG hq X⟩ (um hq) [1,4,5,6,36] rfl
def oQ b S L n rk Kd(hl:L.length<=6)(hs:mE 24 S.N)(hB:mE 40 S.B)(hpos:∀q x,S.B q=some x->0<x.2)(hK:∀q,(li Kd q).getD 0=1 ↔ nu L q)F:cqq 194 [ptr b 0, .map (some rk)] (mp rk (mi Kd)::iq b S L n::F) (λv L'=>∃o,v=Bo o/\L'=iq b S L n::F/\(o=true ↔ CountP S.B S.N L)):=by
  refine Ct.of func194 W 126 ntmps194 (by simp) λw0=>?_;refine ge b S L n ?_;intro x s c;refine fl x S ?_;intro p r;refine ft r ?_;intro es clk;refine A<|T<|A<|gI (fH) ?_;rintro _ _ ⟨b17,rfl,rfl⟩;refine gI (fH) ?_;rintro _ _ ⟨O,rfl,rfl⟩;refine gA<|T ?_;refine nG b17 (mi []) (.refl _) ?_;refine nG O (mi []) (.refl _) ?_;refine ac<|A<|C<|M aa<|gF 1 XK W XS<|gL (sl s (L).length c) Ya<|M (aP XP)<|C<|ab<|ak ?_;refine aL (α:=Nat×IM) (λz=>z.1<=L.length/\cm z.2 (cA ((L.take z.1).map (·.root)))) (λz=>U [(0,ptr b 0),(1, .map (some rk)),(5, .map (some b17)),(6, .map (some O)),(22,sl s L.length c),(23,I L.length),(24,I z.1)]) (λz=>mp b17 (mi z.2)::mp O (mi [])::mp rk (mi Kd)::pcc b #[ptr x 0,sl s (L).length c,I (n)] 123::pcc x #[ptr p 0, .map (some r)] 231::tj r es clk (tb cl 24 S.N)::nj p S.B::be 162 4 s c (gb (L))::F) (λz=>L.length - z.1) (0,[]) ⟨by simp,Ni⟩ [0,1,5,6,22,23,24] rfl ?_;rintro ⟨j,Q⟩ ⟨hj,hQ⟩;simp only[] at hj hQ ⊢;refine A<|M aG<|ab<|ac<|ah ?_ ?_<;>intro h25
  · simp at h25;have hjn:j<L.length:=(by omega);obtain ⟨p0,hp⟩:∃p0,L[j]? =some p0:=⟨_,kbN hjn⟩;refine ai<|ac<|ak<|A<|M (av (j) XP XE hjn (by rw[cR];exact hjn))<|M (bO (row:=aW p0) YI XE (g8 hp))<|gI (aO #[I 0,I 0,I 0,I 0] X4) ?_;rintro _ _ ⟨b8,rfl,rfl⟩;refine gU (az (cs:=#[I 0,I 0,I 0,I 0]) (vs:=aW (p0)) (aW (p0)).toArray XE (by simp) (hcs:=by exact aH))<|ab<|al<|C<|gF 3 XQ W Xu<|gL (I p0.root) Xv<|M (cW (v:=I (cA ((L.take j).map (·.root)) p0.root)) YP XA X5 (Ft hQ _))<|M (bx (cK (by have:=SA ((L.take j).map (·.root)) p0.root;have h9:=SB ((L.take j).map (·.root)) p0.root;rw[kcc,kbq] at h9;omega)))<|io (cq YP XA) ?_;rintro _ _ rfl;rw[sJ];refine ab<|aE<|al<|gP<|C<|ab ?_;exact an (j+1,Kv Q p0.root (cA ((L.take j).map (·.root)) p0.root+1)) ⟨by simp only[];omega,by simp only[];rw[<-fP hp,kaM];exact Rj hQ p0.root⟩ (by simp only[];omega) [0,1,5,6,22,23,24] rfl
  · simp at h25;obtain rfl:j=L.length:=(by omega);rw[kbl] at hQ;refine aF ?_;refine ac<|A<|C<|M aa<|gF 0 XK W X7<|gL (ptr x 0) Yb<|M aa<|gF 1 XX W Yf<|gL (.map (some r)) Yk<|gI (iv Yl) ?_;rintro _ _ ⟨b41,rfl,rfl⟩;refine ab<|ak ?_;refine aL (α:=MM×Option (Int×Value)×IM×IM×(Int->Int)×(Int->Int)) (λz=>Cnt S.N L z.1 z.2.2.2.2.1 z.2.2.2.2.2/\cm z.2.2.1 z.2.2.2.2.1/\cm z.2.2.2.1 z.2.2.2.2.2/\(∀q m,S.N q=some m->q∈z.1.map (·.1)\/¬fk m)/\∀p∈z.1,p∈tb cl 24 S.N) (λz=>U [(0,ptr b 0),(1, .map (some rk)),(5, .map (some b17)),(6, .map (some O)),(41,ptr b41 0)]) (λz=>yc b41 r es clk z.1 z.2.1::mp b17 (mi z.2.2.1)::mp O (mi z.2.2.2.1)::mp rk (mi Kd)::pcc b #[ptr x 0,sl s (L).length c,I (n)] 123::pcc x #[ptr p 0, .map (some r)] 231::tj r es clk (tb cl 24 S.N)::nj p S.B::be 162 4 s c (gb (L))::F) (λz=>z.1.length) (tb cl 24 S.N,none,Q,[],cA (L.map (·.root)),λ_=>0) ⟨K6,hQ,Ni,λq m h=> .inl (NI hs h),λ_ h=>h⟩ [0,1,5,6,41] rfl ?_;rintro ⟨rest,cur,Q1,Q2,c1,c2⟩ ⟨Z,hQ1,hQ2,hnz,J⟩;simp only[] at Z hQ1 hQ2 hnz J ⊢;refine A<|gI kz ?_;rintro _ _ (⟨hr,rfl,rfl⟩ | ⟨⟨k,v⟩,X,hq,rfl,rfl⟩)
    · subst hr;have hnz':∀q m,S.N q=some m->¬fk m:=λq m h=>(hnz q m h).resolve_left (by simp);refine M aB<|ab<|ac ?_;refine dY ?_;refine aF ?_;refine A<|C<|io (iI YP XA) ?_;rintro _ _ ⟨rfl,rfl⟩;rw[GU];refine ab<|A<|C<|io (iI YP XA) ?_;rintro _ _ ⟨rfl,rfl⟩;rw[GU];refine ab ?_;have hE1:=I9 hQ1;have hE2:=I9 hQ2;obtain ⟨D1,eD1⟩:∃D:Int->Int,D=λq=>if q=0 then 0 else c1 q:=⟨_,rfl⟩
      obtain ⟨D2,eD2⟩:∃D:Int->Int,D=λq=>if q=0 then 0 else c2 q:=⟨_,rfl⟩
      have hD1:cm (yj Q1 0) D1:=(by rw[eD1];exact hE1);have hD2:cm (yj Q2 0) D2:=(by rw[eD2];exact hE2);refine ac<|A<|C<|M aa<|gF 0 XK W X7<|gL (ptr x 0) Yb<|M aa<|gF 1 XX W Yf<|gL (.map (some r)) Yk<|gI (iv Yl) ?_;rintro _ _ ⟨b78,rfl,rfl⟩;refine ab<|ak ?_;refine aL (α:=MM×Option (Int×Value)) (λz=>(∀q m,S.N q=some m->q∈z.1.map (·.1)\/D1 q=m.refs)/\∀p∈z.1,p∈tb cl 24 S.N) (λz=>U [(0,ptr b 0),(5, .map (some b17)),(6, .map (some O)),(78,ptr b78 0)]) (λz=>yc b78 r es clk z.1 z.2::mp b17 (mi (yj Q1 0))::mp O (mi (yj Q2 0))::mp rk (mi Kd)::pcc b #[ptr x 0,sl s (L).length c,I (n)] 123::pcc x #[ptr p 0, .map (some r)] 231::tj r es clk (tb cl 24 S.N)::nj p S.B::be 162 4 s c (gb (L))::F) (λz=>z.1.length) (tb cl 24 S.N,none) ⟨λq m h=> .inl (NI hs h),λ_ h=>h⟩ [0,5,6,78] rfl ?_;rintro ⟨rest,cur⟩ ⟨hnn,J⟩;simp only[] at hnn J ⊢;refine A<|gI kz ?_;rintro _ _ (⟨hr,rfl,rfl⟩ | ⟨⟨k,v⟩,X,hq,rfl,rfl⟩)
      · subst hr;have hnn':∀q m,S.N q=some m->D1 q=m.refs:=λq m h=>(hnn q m h).resolve_left (by simp);refine M aB<|ab<|ac ?_;refine dY ?_;refine aF ?_;refine ac<|ac ?_;refine kI p S.B ?_;intro r2;refine ft r2 ?_;intro es2 clk2;refine al<|C<|M aa<|gF 0 XK W X7<|gL (ptr x 0) Yb<|M aa<|gF 0 XX W YY<|gL (ptr p 0) Y3<|M aa<|gF 0 YN W YH<|gL (.map (some r2)) YO<|gI (iv Yz) ?_;rintro _ _ ⟨b100,rfl,rfl⟩;refine ab<|ak ?_;refine aL (α:=MM×Option (Int×Value)) (λz=>(∀q y,S.B q=some y->q∈z.1.map (·.1)\/D2 q=y.2)/\∀p∈z.1,p∈tb cP 40 S.B) (λz=>U [(0,ptr b 0),(6, .map (some O)),(100,ptr b100 0)]) (λz=>yc b100 r2 es2 clk2 z.1 z.2::mp b17 (mi (yj Q1 0))::mp O (mi (yj Q2 0))::mp rk (mi Kd)::pcc b #[ptr x 0,sl s (L).length c,I (n)] 123::pcc x #[ptr p 0, .map (some r)] 231::tj r es clk (tb cl 24 S.N)::pcc p #[.map (some r2)] 234::tj r2 es2 clk2 (tb cP 40 S.B)::be 162 4 s c (gb (L))::F) (λz=>z.1.length) (tb cP 40 S.B,none) ⟨λq m h=> .inl (Uk hB h),λ_ h=>h⟩ [0,6,100] rfl ?_;rintro ⟨rest,cur⟩ ⟨hbb,J⟩;simp only[] at hbb J ⊢;refine A<|gI kz ?_;rintro _ _ (⟨hr,rfl,rfl⟩ | ⟨⟨k,v⟩,X,hq,rfl,rfl⟩)
        · subst hr;have hbb':∀q y,S.B q=some y->D2 q=y.2:=λq y h=>(hbb q y h).resolve_left (by simp);refine M aB<|ab<|ac ?_;refine dY ?_;refine aF ?_;refine ac ?_;refine cn (Lf:=[mp O (mi (yj Q2 0)),pcc b #[ptr x 0,sl s (L).length c,I (n)] 123,pcc x #[ptr p 0, .map (some r)] 231,pcc p #[.map (some r2)] 234,tj r2 es2 clk2 (tb cP 40 S.B)]) jL ?_;refine dM W<|dV W (ky YP)<|dM W<|dV W aa<|dF W 0 XK W X7<|dL W (ptr x 0) Yb<|dV W aa<|dF W 0 XX W YY<|dL W (ptr p 0) Y3<|dV W aa<|dF W 0 YN W YH<|dL W (.map (some r2)) YO<|dV W (ky Yz)<|dV W bE<|dV W ax ?_;refine aN ?_
          first
          | (refine bT r ?_
             refine cC p r x S (.refl _) ?_;refine cF b x s c (S) (L) (n) ?_;refine jf (L2:=iq b S L n::F) ?_;exact λa w R V=>wp_ret (cb (bf (vs:=[Bo false]) rfl R V ⟨false,rfl,rfl,(λh=>by cases h),λh=>absurd h (λhc=>hc.nz k m hm hno)⟩)))
          | (subst eD1
             refine bT r ?_;refine cC p r x S (.refl _) ?_;refine cF b x s c (S) (L) (n) ?_;refine jf (L2:=iq b S L n::F) ?_;exact λa w R V=>wp_ret (cb (bf (vs:=[Bo false]) rfl R V ⟨false,rfl,rfl,(λh=>by cases h),λh=>absurd h (pG Z hs hm h89)⟩)))
          | (subst eD2
             refine bT r2 ?_;refine dZ r2 p S.B (.refl _) ?_;refine bT r ?_;refine cC p r x S (.refl _) ?_;refine cF b x s c (S) (L) (n) ?_;refine jf (L2:=iq b S L n::F) ?_;exact λa w R V=>wp_ret (cb (bf (vs:=[Bo false]) rfl R V ⟨false,rfl,rfl,(λh=>by cases h),λh=>absurd h (pH Z hB hy Y)⟩)))
          | (refine gY O λhnd=>?_
             rw[tF] at hnd;subst eD1 eD2;have hend:=rq Z hnz' hnn' hbb' hB hs hpos hD2 hnd;refine bT r2 ?_;refine dZ r2 p S.B (.refl _) ?_;refine bT r ?_;refine cC p r x S (.refl _) ?_;refine cF b x s c (S) (L) (n) ?_;refine jf (L2:=iq b S L n::F) ?_;exact λa w R V=>wp_ret (cb (bf (vs:=[Bo (decide (((mi (yj Q2 0)).length:Int)=((tb cP 40 S.B).length:Int)))]) rfl R V ⟨_,rfl,rfl,by rw[fF,show (mi (yj Q2 0)).length=(yj Q2 0).length by simp[mi]];exact hend⟩)))
        · obtain ⟨y,hy,hv,hk⟩:=vg (xI hq J);simp only at hv hk hy;subst hv;refine M aB<|ab<|ac ?_;refine d6 ?_;refine ai<|ak<|A<|M iw<|gX (I k)<|gX (cP y)<|gI (aO #[ay [],I 0] YL) ?_;rintro _ _ ⟨b16,rfl,rfl⟩;refine gA<|gU (az (cs:=#[ay [],I 0]) (vs:=[ay y.1,I y.2]) #[ay y.1,I y.2] Yn (by simp) (hcs:=by exact aH))<|ab<|A<|C<|C<|M (cW (v:=I (D2 k)) YP XA X5 (Ft hD2 _))<|gF 1 YF W Xu<|gL (I y.2) Xv<|M iE<|ab<|ah ?_ ?_<;>intro Y
          · have Y:D2 k≠y.2:=(by simpa using Y);refine A<|T ?_
            first
            | (refine bT r ?_
               refine cC p r x S (.refl _) ?_;refine cF b x s c (S) (L) (n) ?_;refine jf (L2:=iq b S L n::F) ?_;exact λa w R V=>wp_ret (cb (bf (vs:=[Bo false]) rfl R V ⟨false,rfl,rfl,(λh=>by cases h),λh=>absurd h (λhc=>hc.nz k m hm hno)⟩)))
            | (subst eD1
               refine bT r ?_;refine cC p r x S (.refl _) ?_;refine cF b x s c (S) (L) (n) ?_;refine jf (L2:=iq b S L n::F) ?_;exact λa w R V=>wp_ret (cb (bf (vs:=[Bo false]) rfl R V ⟨false,rfl,rfl,(λh=>by cases h),λh=>absurd h (pG Z hs hm h89)⟩)))
            | (subst eD2
               refine bT r2 ?_;refine dZ r2 p S.B (.refl _) ?_;refine bT r ?_;refine cC p r x S (.refl _) ?_;refine cF b x s c (S) (L) (n) ?_;refine jf (L2:=iq b S L n::F) ?_;exact λa w R V=>wp_ret (cb (bf (vs:=[Bo false]) rfl R V ⟨false,rfl,rfl,(λh=>by cases h),λh=>absurd h (pH Z hB hy Y)⟩)))
            | (refine gY O λhnd=>?_
               rw[tF] at hnd;subst eD1 eD2;have hend:=rq Z hnz' hnn' hbb' hB hs hpos hD2 hnd;refine bT r2 ?_;refine dZ r2 p S.B (.refl _) ?_;refine bT r ?_;refine cC p r x S (.refl _) ?_;refine cF b x s c (S) (L) (n) ?_;refine jf (L2:=iq b S L n::F) ?_;exact λa w R V=>wp_ret (cb (bf (vs:=[Bo (decide (((mi (yj Q2 0)).length:Int)=((tb cP 40 S.B).length:Int)))]) rfl R V ⟨_,rfl,rfl,by rw[fF,show (mi (yj Q2 0)).length=(yj Q2 0).length by simp[mi]];exact hend⟩)))
          · have Y:D2 k=y.2:=(by simpa using Y);refine ai<|aE ?_;exact an (X,some (k,cP y)) ⟨(λq m' h=>by
              rcases hbb q m' h with h1 | h1
              · rcases ul hq h1 with rfl | h2
                · rw[hy] at h;injection h with h;subst h;exact .inr Y
                · exact .inl h2
              · exact .inr h1),qG hq J⟩ (um hq) [0,6,100] rfl
      · obtain ⟨m,hm,hv,hk⟩:=vg (xI hq J);simp only at hv hk hm;subst hv;refine M aB<|ab<|ac ?_;refine d6 ?_;refine ai<|ak<|A<|M iw<|gX (I k)<|gX (cl m)<|gI (aO #[I 0,I 0,I 0,I 0,I 0] Yx) ?_;rintro _ _ ⟨b14,rfl,rfl⟩;refine gA<|gU (az (cs:=#[I 0,I 0,I 0,I 0,I 0]) (vs:=kV m) (kV m).toArray X0 (by simp) (hcs:=by exact aH))<|ab<|A<|C<|C<|M (cW (v:=I (D1 k)) YP XA X5 (Ft hD1 _))<|gF 4 XV W Xu<|gL (I m.refs) Xv<|M iE<|ab<|ah ?_ ?_<;>intro h89
        · have h89:D1 k≠m.refs:=(by simpa using h89);refine A<|T ?_
          first
          | (refine bT r ?_
             refine cC p r x S (.refl _) ?_;refine cF b x s c (S) (L) (n) ?_;refine jf (L2:=iq b S L n::F) ?_;exact λa w R V=>wp_ret (cb (bf (vs:=[Bo false]) rfl R V ⟨false,rfl,rfl,(λh=>by cases h),λh=>absurd h (λhc=>hc.nz k m hm hno)⟩)))
          | (subst eD1
             refine bT r ?_;refine cC p r x S (.refl _) ?_;refine cF b x s c (S) (L) (n) ?_;refine jf (L2:=iq b S L n::F) ?_;exact λa w R V=>wp_ret (cb (bf (vs:=[Bo false]) rfl R V ⟨false,rfl,rfl,(λh=>by cases h),λh=>absurd h (pG Z hs hm h89)⟩)))
          | (subst eD2
             refine bT r2 ?_;refine dZ r2 p S.B (.refl _) ?_;refine bT r ?_;refine cC p r x S (.refl _) ?_;refine cF b x s c (S) (L) (n) ?_;refine jf (L2:=iq b S L n::F) ?_;exact λa w R V=>wp_ret (cb (bf (vs:=[Bo false]) rfl R V ⟨false,rfl,rfl,(λh=>by cases h),λh=>absurd h (pH Z hB hy Y)⟩)))
          | (refine gY O λhnd=>?_
             rw[tF] at hnd;subst eD1 eD2;have hend:=rq Z hnz' hnn' hbb' hB hs hpos hD2 hnd;refine bT r2 ?_;refine dZ r2 p S.B (.refl _) ?_;refine bT r ?_;refine cC p r x S (.refl _) ?_;refine cF b x s c (S) (L) (n) ?_;refine jf (L2:=iq b S L n::F) ?_;exact λa w R V=>wp_ret (cb (bf (vs:=[Bo (decide (((mi (yj Q2 0)).length:Int)=((tb cP 40 S.B).length:Int)))]) rfl R V ⟨_,rfl,rfl,by rw[fF,show (mi (yj Q2 0)).length=(yj Q2 0).length by simp[mi]];exact hend⟩)))
        · have h89:D1 k=m.refs:=(by simpa using h89);refine ai<|aE ?_;exact an (X,some (k,cl m)) ⟨(λq m' h=>by
            rcases hnn q m' h with h1 | h1
            · rcases ul hq h1 with rfl | h2
              · rw[hm] at h;injection h with h;subst h;exact .inr h89
              · exact .inl h2
            · exact .inr h1),qG hq J⟩ (um hq) [0,5,6,78] rfl
    · obtain ⟨m,hm,hv,hk⟩:=vg (xI hq J);simp only at hv hk hm;subst hv;refine M aB<|ab<|ac ?_;refine d6 ?_;refine ai<|ak<|A<|M iw<|gX (I k)<|gX (cl m)<|gI (aO #[I 0,I 0,I 0,I 0,I 0] Yx) ?_;rintro _ _ ⟨b10,rfl,rfl⟩;refine gA<|gU (az (cs:=#[I 0,I 0,I 0,I 0,I 0]) (vs:=kV m) (kV m).toArray X0 (by simp) (hcs:=by exact aH))<|ab<|ac<|A<|gF 0 XV W XR<|M (bj (vs:=ga m) Yu XR vK)<|C<|ab<|ak ?_;refine aL (α:=Nat×IM×IM×(Int->Int)×(Int->Int)) (λz=>z.1<=4/\Cni S.N L X k m z.1 z.2.2.2.1 z.2.2.2.2/\cm z.2.1 z.2.2.2.1/\cm z.2.2.1 z.2.2.2.2) (λz=>U [(0,ptr b 0),(1, .map (some rk)),(5, .map (some b17)),(6, .map (some O)),(41,ptr b41 0),(9,I k),(10,ptr b10 0),(48, .agg (ga m).toArray),(49,I z.1)]) (λz=>yc b41 r es clk X (some (k,cl m))::pcc b10 (kV m).toArray 187::mp b17 (mi z.2.1)::mp O (mi z.2.2.1)::mp rk (mi Kd)::pcc b #[ptr x 0,sl s (L).length c,I (n)] 123::pcc x #[ptr p 0, .map (some r)] 231::tj r es clk (tb cl 24 S.N)::nj p S.B::be 162 4 s c (gb (L))::F) (λz=>4 - z.1) (0,Q1,Q2,c1,c2) ⟨by simp,Ue Z hq hm,hQ1,hQ2⟩ [0,1,5,6,41,9,10,48,49] rfl ?_;rintro ⟨i,Q1,Q2,c1,c2⟩ ⟨hi,hC,hQ1,hQ2⟩;simp only[] at hi hC hQ1 hQ2 ⊢;refine A<|M aG<|ab<|ac<|ah ?_ ?_<;>intro h50
      · simp at h50;have hi4:i<4:=(by omega);refine ai<|ac<|ak<|A<|M (ln (v:=I (bZ m i)) i X6 Xu Xv hi4 (by simpa using g7 m i hi4))<|T<|A<|C<|C<|M (cW (v:=I ((li Kd k).getD 0)) YP XA X5 (mI Kd k 0))<|M bE<|ab<|ah ?_ ?_<;>intro h55
        · have h55:(li Kd k).getD 0=1:=(by simpa using h55);refine al<|C<|C<|M (cW (v:=I (c1 (bZ m i))) YP XA X5 (Ft hQ1 _))<|M (bx (cK (by have:=hQ1.2.2 (bZ m i);have:=(Nj hC hl (bZ m i)).1;omega)))<|io (cq YP XA) ?_;rintro _ _ rfl;rw[sJ];refine ab<|aE<|al<|gP<|C<|ab ?_;exact an (i+1,Kv Q1 (bZ m i) (c1 (bZ m i)+1),Q2,del c1 (bZ m i) 1,c2) ⟨by simp only[];omega,VZ hC hi4 ((hK k).1 h55),Hl hQ1 _,hQ2⟩ (by simp only[];omega) [0,1,5,6,41,9,10,48,49] rfl
        · have h55:¬(li Kd k).getD 0=1:=(by simpa using h55);refine al<|C<|C<|M (cW (v:=I (c2 (bZ m i))) YP XA X5 (Ft hQ2 _))<|M (bx (cK (by have:=hQ2.2.2 (bZ m i);have:=(Nj hC hl (bZ m i)).2;omega)))<|io (cq YP XA) ?_;rintro _ _ rfl;rw[sJ];refine ab<|aE<|al<|gP<|C<|ab ?_;exact an (i+1,Q1,Kv Q2 (bZ m i) (c2 (bZ m i)+1),c1,del c2 (bZ m i) 1) ⟨by simp only[];omega,V0 hC hi4 (λh=>h55 ((hK k).2 h)),hQ1,Hl hQ2 _⟩ (by simp only[];omega) [0,1,5,6,41,9,10,48,49] rfl
      · simp at h50;obtain rfl:i=4:=(by omega);refine aF ?_;refine A<|gF 0 XV W XR<|M (bj (vs:=ga m) Yu XR vK)<|M (aS Sx)<|M (LW eqGuardType185 W W (Sw m yN))<|ab<|ah ?_ ?_<;>intro h68
        · have hno:fk m:=kd0 h68;refine A<|T ?_
          first
          | (refine bT r ?_
             refine cC p r x S (.refl _) ?_;refine cF b x s c (S) (L) (n) ?_;refine jf (L2:=iq b S L n::F) ?_;exact λa w R V=>wp_ret (cb (bf (vs:=[Bo false]) rfl R V ⟨false,rfl,rfl,(λh=>by cases h),λh=>absurd h (λhc=>hc.nz k m hm hno)⟩)))
          | (subst eD1
             refine bT r ?_;refine cC p r x S (.refl _) ?_;refine cF b x s c (S) (L) (n) ?_;refine jf (L2:=iq b S L n::F) ?_;exact λa w R V=>wp_ret (cb (bf (vs:=[Bo false]) rfl R V ⟨false,rfl,rfl,(λh=>by cases h),λh=>absurd h (pG Z hs hm h89)⟩)))
          | (subst eD2
             refine bT r2 ?_;refine dZ r2 p S.B (.refl _) ?_;refine bT r ?_;refine cC p r x S (.refl _) ?_;refine cF b x s c (S) (L) (n) ?_;refine jf (L2:=iq b S L n::F) ?_;exact λa w R V=>wp_ret (cb (bf (vs:=[Bo false]) rfl R V ⟨false,rfl,rfl,(λh=>by cases h),λh=>absurd h (pH Z hB hy Y)⟩)))
          | (refine gY O λhnd=>?_
             rw[tF] at hnd;subst eD1 eD2;have hend:=rq Z hnz' hnn' hbb' hB hs hpos hD2 hnd;refine bT r2 ?_;refine dZ r2 p S.B (.refl _) ?_;refine bT r ?_;refine cC p r x S (.refl _) ?_;refine cF b x s c (S) (L) (n) ?_;refine jf (L2:=iq b S L n::F) ?_;exact λa w R V=>wp_ret (cb (bf (vs:=[Bo (decide (((mi (yj Q2 0)).length:Int)=((tb cP 40 S.B).length:Int)))]) rfl R V ⟨_,rfl,rfl,by rw[fF,show (mi (yj Q2 0)).length=(yj Q2 0).length by simp[mi]];exact hend⟩)))
        · have h68:¬fk m:=kd1 h68;refine ai<|aE ?_;exact an (X,some (k,cl m),Q1,Q2,c1,c2) ⟨Q6 hC,hQ1,hQ2,(λq m' h=>by
            rcases hnz q m' h with h1 | h1
            · rcases ul hq h1 with rfl | h2
              · rw[hm] at h;injection h with h;subst h;exact .inr h68
              · exact .inl h2
            · exact .inr h1),qG hq J⟩ (um hq) [0,1,5,6,41] rfl
def xJ {ρ m n}{B:Int->Option ρ}(h:mE n B)(hm:m<=n)(J:∀q∈ck n B,q<=m):mE m B:=λq x e=>by
 have h1:=h q x e;have O:=J q (mem_ids.2 ⟨h1,by rw[e];rfl⟩);omega
theorem NJ {S L}{p:Pt}(h:Gq S L)(hp:∀i:Nat,p.size<=(i:Int)->i<16->jj S p.root i=[]):Gq S (L++ [p]):=λx hx i h1 J=>by
 rcases kbF.1 hx with hx | hx
 ·exact h x hx i h1 J
 grind
def Rk S:Gq S []:=λp hp=>by cases hp
def NK (b:Nat)(st:PS)(F:List ag):Value->List ag->Prop:=λv L'=>(v=Bo true/\WholeP st/\L'=iq b ⟨st.B,st.N⟩ st.L st.n::F)\/(v=Bo false/\¬WholeP st/\L'=F)
variable {c:Cx}{E:di}{F L:List ag}{K:List KI}{vs:List Value}
def ff {b:Nat}{st:PS}(O:c.R=NK b st F)(he:¬WholeP st)(hr:fY E c.fn.results.toList=some vs)(hv:tn vs=Bo false)[S:Sub L F](hds:c.n.ds=[]:=by rfl):G c (.code .ret::K) E L:=
 λa w J V=>wp_ret (cb (bf (hds:=hds) hr J (S.sat V) (by rw[O];exact .inr ⟨hv,he,rfl⟩)))
def Jh {b:Nat}{st:PS}(O:c.R=NK b st F)(he:WholeP st)(hr:fY E c.fn.results.toList=some vs)(hv:tn vs=Bo true)[S:Sub L (iq b ⟨st.B,st.N⟩ st.L st.n::F)](hds:c.n.ds=[]:=by rfl):G c (.code .ret::K) E L:=
 λa w J V=>wp_ret (cb (bf (hds:=hds) hr J (S.sat V) (by rw[O];exact .inl ⟨hv,he,rfl⟩)))
def Ji {st}(h:Pok st)(O:mE 24 st.N)(J:mE 40 st.B):ii 999 ⟨st.B,st.N⟩:=⟨J,λq x e=>(h.b q x e).1,O,λq m e=>(h.n q m e).1⟩
def NL (l:List ChangeM)(ec:TypeId)(F:List ag):Value->List ag->Prop:=λv L'=>(∃st q,iz none ps0 l=some st/\WholeP st/\v= .tuple #[ptr q 0,fA ec 0]/\L'=iq q ⟨st.B,st.N⟩ st.L st.n::F)\/((∀st,iz none ps0 l=some st->¬WholeP st)/\v= .tuple #[.pointer none,fA ec 4]/\L'=F)
variable {l:List ChangeM}
def Hn {ec:TypeId}(O:c.R=NL l ec F)(he:∀st,iz none ps0 l=some st->¬WholeP st)(hr:fY E c.fn.results.toList=some vs)(hv:tn vs= .tuple #[.pointer none,fA ec 4])[S:Sub L F](hds:c.n.ds=[]:=by rfl):G c (.code .ret::K) E L:=
 λa w J V=>wp_ret (cb (bf (hds:=hds) hr J (S.sat V) (by rw[O];exact .inr ⟨he,hv,rfl⟩)))
def Rl {ec:TypeId}{st:PS}{q:Nat}(O:c.R=NL l ec F)(he:iz none ps0 l=some st)(hw:WholeP st)(hr:fY E c.fn.results.toList=some vs)(hv:tn vs= .tuple #[ptr q 0,fA ec 0])[S:Sub L (iq q ⟨st.B,st.N⟩ st.L st.n::F)](hds:c.n.ds=[]:=by rfl):G c (.code .ret::K) E L:=
 λa w J V=>wp_ret (cb (bf (hds:=hds) hr J (S.sat V) (by rw[O];exact .inl ⟨st,q,he,hw,hv,rfl⟩)))
theorem Dm:∀(l1:List ChangeM) {l2:List ChangeM} {O:Option Bytes} {st J:PS},iz O st l1=some J->iz O st (l1++l2)=iz (match l1.getLast? with | none=>O | some c=>some c.key) J l2
 | [],l2,O,st,J,h=>by grind[iz]
 | c::l1,l2,O,st,J,h=>by
  simp only[iz,kbz] at h ⊢;split at h
  ·cases h
  ·rename_i R;rw[kaU R];split at h
   ·cases h
   ·rename_i S hr;rw[Dm l1 h]
    grind
def Rm (l:List ChangeM)(i:Nat):Option Bytes:=match (l.take i).getLast? with | none=>none | some c=>some c.key
variable {i:Nat}{c:ChangeM}
theorem K9 {st J}(h:iz none ps0 (l.take i)=some st)(O:l[i]? =some c)(R:¬(QU (Rm l i) c=true\/c.gone=true))(hr:ju st c=some J):iz none ps0 (l.take (i+1))=some J:=by
 rw[<-fP O,Dm _ h]
 grind[iz,Rm]
theorem Bz {st}(h:iz none ps0 (l.take i)=some st)(O:l[i]? =some c)(J:(QU (Rm l i) c=true\/c.gone=true)\/ju st c=none):iz none ps0 l=none:=by
 have e:l=l.take i++c::l.drop (i+1):=by
  grind[List.drop_eq_getElem_cons,List.take_append_drop]
 rw[e,Dm _ h]
 grind[iz,Rm]
def Wa l:Rm l 0=none:=by simp[Rm]
theorem Wb (h:l[i]? =some c):Rm l (i+1)=some c.key:=by
 grind[Rm]
theorem Ul {st J}(h:ju st c=some J):J.L.length<=st.L.length+1:=by
 by_cases O:c.key=[120]
 ·grind[ju,xF]
 grind[Nf,LG,bF,nF,pF]
def sc b p r(N:fZ)m(hm:(ck m N).length<=1000)F:cqq 138 [ptr b 0] (pcc b #[ptr p 0, .map (some r)] 231::mp r (tb cl m N)::F) (uX 3 1 (ck m N).length (bc (ck m N)) (pcc b #[ptr p 0, .map (some r)] 231::mp r (tb cl m N)::F)):=by
 refine Ct.of func138 W 21 ntmps138 (by simp) λw0=>?_;refine ft r ?_;intro es clk;refine aY 3 1 (bc []) ?_;refine A<|T<|A<|T<|ac<|A<|C<|M aa<|gF 1 XX W Yf<|gL (.map (some r)) Yk<|gI (iv Yl) ?_;rintro _ _ ⟨X,rfl,rfl⟩;refine ab<|ak ?_;refine aL (α:=MM×List Int×Option (Int×Value)×Option Addr×Nat) (λz=>(z.2.1++z.1.map (·.1)).Perm (ck m N)) (λz=>U [(0,ptr b 0),(9,ptr X 0),(3,sl z.2.2.2.1 z.2.1.length z.2.2.2.2)]) (λz=>yc X r es clk z.1 z.2.2.1::tj r es clk (tb cl m N)::pcc b #[ptr p 0, .map (some r)] 231::be 3 1 z.2.2.2.1 z.2.2.2.2 (bc z.2.1)::F) (λz=>z.1.length) (tb cl m N,[],none,none,0) (by rw[kby,nH]) [0,9,3] rfl ?_;rintro ⟨rest,O,cur,s,c⟩ hp;simp only[] at hp ⊢;have Z:O.length<=1000:=(by have h1:=hp.length_eq;simp at h1;omega);refine A<|gI kz ?_;rintro _ _ (⟨hr,rfl,rfl⟩ | ⟨⟨k,v⟩,J,hq,rfl,rfl⟩)
 ·subst hr;simp only[kaP,kcV] at hp;refine M aB<|ab<|ac ?_;refine dY ?_;refine aF ?_;refine A<|C<|gR (vB call208 (kG O s O.length c W (by omega))) ?_;rw[tD hp];refine ab<|A<|C<|T ?_;refine bT r ?_;exact cU rfl rfl rfl (by rw[hp.length_eq])
 ·have S:(O++k::J.map (·.1)).Perm (ck m N):=by
   have h1:=((hq.map (·.1)).append_left O).symm.trans hp;simpa using h1
  refine M aB<|ab<|ac ?_;refine d6 ?_;refine ai<|ak<|A<|M iw<|gX (I k)<|T<|al<|C<|C<|gI (ap [[I k]] XB Xu X5 (by simp)) ?_;rintro _ _ ⟨Y,rfl,rfl⟩;refine gI (aR XB Xu X5 Tryz.typeInfo3 (hn:=by exact cw _) (by simp) (by intro r hr;simp at hr;subst hr;rfl) ⟨by omega,by decide,by decide⟩) ?_;rintro _ _ ⟨V,R,rfl,rfl⟩;refine T<|aE ?_;rw[show bc O++ [[I k]]=bc (O++ [k]) by simp[bc]];refine an (J,O++ [k],some (k,v),V,R) (by simpa using S) (by have:=hq.length_eq;simp at this;simp;omega) [0,9,3] rfl (he:=by simp[U])
def un b r(B:qc)m(hm:(ck m B).length<=1000)F:cqq 137 [ptr b 0] (pcc b #[.map (some r)] 234::mp r (tb cP m B)::F) (uX 3 1 (ck m B).length (bc (ck m B)) (pcc b #[.map (some r)] 234::mp r (tb cP m B)::F)):=by
 refine Ct.of func137 W 21 ntmps137 (by simp) λw0=>?_;refine ft r ?_;intro es clk;refine aY 3 1 (bc []) ?_;refine A<|T<|A<|T<|ac<|A<|C<|M aa<|gF 0 YN W YH<|gL (.map (some r)) YO<|gI (iv Yz) ?_;rintro _ _ ⟨X,rfl,rfl⟩;refine ab<|ak ?_;refine aL (α:=MM×List Int×Option (Int×Value)×Option Addr×Nat) (λz=>(z.2.1++z.1.map (·.1)).Perm (ck m B)) (λz=>U [(0,ptr b 0),(9,ptr X 0),(3,sl z.2.2.2.1 z.2.1.length z.2.2.2.2)]) (λz=>yc X r es clk z.1 z.2.2.1::tj r es clk (tb cP m B)::pcc b #[.map (some r)] 234::be 3 1 z.2.2.2.1 z.2.2.2.2 (bc z.2.1)::F) (λz=>z.1.length) (tb cP m B,[],none,none,0) (by rw[kby,nH]) [0,9,3] rfl ?_;rintro ⟨rest,O,cur,s,c⟩ hp;simp only[] at hp ⊢;have Z:O.length<=1000:=(by have h1:=hp.length_eq;simp at h1;omega);refine A<|gI kz ?_;rintro _ _ (⟨hr,rfl,rfl⟩ | ⟨⟨k,v⟩,J,hq,rfl,rfl⟩)
 ·subst hr;simp only[kaP,kcV] at hp;refine M aB<|ab<|ac ?_;refine dY ?_;refine aF ?_;refine A<|C<|gR (vB call208 (kG O s O.length c W (by omega))) ?_;rw[tD hp];refine ab<|A<|C<|T ?_;refine bT r ?_;exact cU rfl rfl rfl (by rw[hp.length_eq])
 ·have S:(O++k::J.map (·.1)).Perm (ck m B):=by
   have h1:=((hq.map (·.1)).append_left O).symm.trans hp;simpa using h1
  refine M aB<|ab<|ac ?_;refine d6 ?_;refine ai<|ak<|A<|M iw<|gX (I k)<|T<|al<|C<|C<|gI (ap [[I k]] XB Xu X5 (by simp)) ?_;rintro _ _ ⟨Y,rfl,rfl⟩;refine gI (aR XB Xu X5 Tryz.typeInfo3 (hn:=by exact cw _) (by simp) (by intro r hr;simp at hr;subst hr;rfl) ⟨by omega,by decide,by decide⟩) ?_;rintro _ _ ⟨V,R,rfl,rfl⟩;refine T<|aE ?_;rw[show bc O++ [[I k]]=bc (O++ [k]) by simp[bc]];refine an (J,O++ [k],some (k,v),V,R) (by simpa using S) (by have:=hq.length_eq;simp at this;simp;omega) [0,9,3] rfl (he:=by simp[U])
def p4 b S L n(hl:L.length<=1000000)(hok:ii 999 S)(hp16:∀p∈L,0<p.size/\p.size<=16)F:cqq 195 [ptr b 0] (iq b S L n::F) (λv L'=>∃o,v=Bo o/\L'=iq b S L n::F/\(o=true ↔ Gq S L)):=by
  refine Ct.of func195 W 31 ntmps195 (by simp) λw0=>?_;refine ge b S L n ?_;intro x s c;refine A<|T<|ac<|A<|C<|M aa<|gF 1 XK W XS<|gL (sl s (L).length c) Ya<|M (aP XP)<|C<|ab<|ak ?_;refine aL (α:=Nat) (λj=>j<=L.length/\Gq S (L.take j)) (λj=>U [(0,ptr b 0),(9,sl s L.length c),(10,I L.length),(11,I j)]) (λj=>pcc b #[ptr x 0,sl s (L).length c,I (n)] 123::lM x S::be 162 4 s c (gb (L))::F) (λj=>L.length - j) 0 ⟨by simp,by simpa using Rk S⟩ [0,9,10,11] rfl ?_;rintro j ⟨hj,hT⟩;refine A<|M aG<|ab<|ac<|ah ?_ ?_<;>intro h12
  · simp at h12;have Z:j<L.length:=(by omega);obtain ⟨J,hp⟩:∃J,L[j]? =some J:=⟨_,kbN Z⟩;have hp0:=hp16 J (kbe hp);refine ai<|ac<|ak<|A<|M (av (j) XP XE Z (by rw[cR];exact Z))<|M (bO (row:=aW J) YI XE (g8 hp))<|gI (aO #[I 0,I 0,I 0,I 0] X4) ?_;rintro _ _ ⟨b4,rfl,rfl⟩;refine gU (az (cs:=#[I 0,I 0,I 0,I 0]) (vs:=aW (J)) (aW (J)).toArray XE (by simp) (hcs:=by exact aH))<|ab<|A<|gF 2 XQ W Xu<|gL (I J.size) Xv<|T ?_;obtain ⟨sz,hsz⟩:∃k:Nat,J.size=k:=⟨J.size.toNat,by omega⟩;refine ak ?_;refine aL (α:=Nat) (λa=>a<=16/\sz<=a/\∀i,sz<=i->i<a->jj S J.root i=[]) (λa=>U [(0,ptr b 0),(9,sl s L.length c),(10,I L.length),(11,I j),(4,ptr b4 0),(5,I a)]) (λa=>pcc b #[ptr x 0,sl s (L).length c,I (n)] 123::lM x S::be 162 4 s c (gb (L))::pcc b4 (aW J).toArray 162::F) (λa=>16 - a) sz ⟨by omega,by omega,λi h1 h2=>absurd h1 (by omega)⟩ [0,9,10,11,4,5] rfl (he:=by simp[U,hsz]) ?_;rintro a ⟨ha,hsa,V⟩;refine ac<|A<|C<|M aG<|ab<|ah ?_ ?_<;>intro h18
    · simp at h18;have R:a<16:=(by omega);refine ai<|ac<|ak<|ac ?_;refine cn (Lf:=[pcc b #[ptr x 0,sl s (L).length c,I (n)] 123,pcc b4 (aW J).toArray 162]) jX ?_;refine dM W<|dV W aa<|dF W 0 XK W X7<|dL W (ptr x 0) Yb<|dF W 3 XQ W Xu<|dL W (I J.root) Xv<|dM W<|cQ W (uB call98 (j4 x S J.root a 999 hok (by decide) (by omega))) ?_;rintro _ _ ⟨rfl,rfl⟩;refine dV W lN ?_;refine aN<|ah ?_ ?_<;>intro O
      · simp at O;refine A<|T ?_
        first
        | (refine cF b x s c (S) (L) (n) ?_
           exact λa w X Y=>wp_ret (cb (bf (vs:=[Bo true]) rfl X ((inferInstance:Sub _ (iq b S L n::F)).sat Y) ⟨true,rfl,rfl,λ_=>hT,λ_=>rfl⟩)))
        | (refine cF b x s c (S) (L) (n) ?_
           exact λa' w X Y=>wp_ret (cb (bf (vs:=[Bo false]) rfl X ((inferInstance:Sub _ (iq b S L n::F)).sat Y) ⟨false,rfl,rfl,(λh=>by cases h),λh=>absurd (h J (kbe hp) a (by omega) R) O⟩)))
      · simp at O;refine ai<|aE<|al<|C<|gP<|T ?_;exact an (a+1) ⟨by omega,by omega,λi h1 h2=>by
          rcases ka3 i a with h | h
          · exact V i h1 h
          · obtain rfl:i=a:=(by omega);exact O⟩ (by omega) [0,9,10,11,4,5] rfl
    · simp at h18;obtain rfl:a=16:=(by omega);refine aF ?_;refine aE<|al<|gP<|C<|ab ?_;exact an (j+1) ⟨by omega,by rw[<-fP hp];exact NJ hT λi h1 h2=>V i (by omega) h2⟩ (by omega) [0,9,10,11] rfl
  · simp at h12;obtain rfl:j=L.length:=(by omega);rw[kbl] at hT;refine aF ?_;refine A<|T ?_
    first
    | (refine cF b x s c (S) (L) (n) ?_
       exact λa w X Y=>wp_ret (cb (bf (vs:=[Bo true]) rfl X ((inferInstance:Sub _ (iq b S L n::F)).sat Y) ⟨true,rfl,rfl,λ_=>hT,λ_=>rfl⟩)))
    | (refine cF b x s c (S) (L) (n) ?_
       exact λa' w X Y=>wp_ret (cb (bf (vs:=[Bo false]) rfl X ((inferInstance:Sub _ (iq b S L n::F)).sat Y) ⟨false,rfl,rfl,(λh=>by cases h),λh=>absurd (h J (kbe hp) a (by omega) R) O⟩)))
def zm b st(hP:Pok st)(hl:st.L.length<=1000000)F:Ct Tryz.prog 120 [ptr b 0] (NF b st::F) (NK b st F):=by
 refine Ct.of func120 W 119 ntmps120 (by simp) λw0=>?_;refine pJ b st ?_;intro x p r r2 s cc;refine A (T (ac (ac (gG [(0,false),(1,false),(2,false),(3,false),(4,false),(5,false),(6,false),(7,false),(8,false),(9,false),(10,false),(11,false),(12,false),(13,false),(14,false),(15,false),(16,false),(17,false),(18,false),(19,false),(20,false),(21,false),(22,false),(23,false),(24,false),(25,false),(26,false),(27,false),(28,false),(29,false),(30,false),(31,false),(32,false),(33,false),(34,false),(35,false),(36,false),(37,false),(38,false),(39,false),(40,false),(41,false),(42,false),(43,false),(44,false),(45,false),(46,false),(47,false),(48,false),(49,false),(50,false),(51,false),(52,false),(53,false),(54,false),(55,false),(56,false),(57,false),(58,false),(59,false),(60,false),(61,false),(62,false),(63,false),(64,false),(65,false)] (dM W (dV W aa (dF W 1 XK W XS (dL W (sl s st.L.length cc) Ya (dV W (aP XP) (dV W aQ (dM W ?_)))))))))));by_cases g1:(6:Int)<(st.L.length:Int)
 ·refine aM W (hw:=by rw[kci g1];rfl) (aM W (hw:=by rw[kci g1];rfl) (aM W (hw:=by rw[kci g1];rfl) (aM W (hw:=by rw[kci g1];rfl) (aM W (hw:=by rw[kci g1];rfl) (aM W (hw:=by rw[kci g1];rfl) (aM W (hw:=by rw[kci g1];rfl) (aM W (hw:=by rw[kci g1];rfl) (aM W (hw:=by rw[kci g1];rfl) (dV W (eV (hq:=by exact kci g1)) (dM W (aM W (aM W (aM W (aM W (aM W (aM W (aM W (aM W (aM W (aM W (aM W (aM W (dV W eV (dM W (aM W (aM W (aM W (aM W (aM W (dV W eV (dM W (aM W (aM W (aM W (aM W (aM W (aM W (aM W (aM W ?_)))))))))))))))))))))))))))))))))))))));refine aM W (aM W (aM W (aM W (aM W (aM W (aM W (aM W (aM W (aM W (aM W (aM W (aM W (aM W (aM W (aM W (aM W (aM W (dV W eV ?_))))))))))))))))));refine aN ?_;apply ah<;>intro h74
  ·refine A (T ?_);exact ff rfl (λhw=>by have:=hw.len;omega) rfl rfl
  ·cases h74
 ·refine aU W (hw:=by exact kcj g1) ao (aU W (hw:=by exact kcj g1) aa (aU W (hw:=by exact kcj g1) (aw 0 XK W X7) (aU W (hw:=by exact kcj g1) (aA (v:=ptr x 0) Yb) (aU W (hw:=by exact kcj g1) aa (aU W (hw:=by exact kcj g1) (aw 1 XX W Yf) (aU W (hw:=by exact kcj g1) (aA (v:= .map (some r)) Yk) (aU W (hw:=by exact kcj g1) (ky Yl) (aU W (hw:=by exact kcj g1) aQ (dV W (fa (hq:=by exact kcj g1)) (dM W ?_))))))))));by_cases g2:(24:Int)<(((tb cl 999 st.N).length):Int)
  ·refine aM W (hw:=by rw[kci g2];rfl) (aM W (hw:=by rw[kci g2];rfl) (aM W (hw:=by rw[kci g2];rfl) (aM W (hw:=by rw[kci g2];rfl) (aM W (hw:=by rw[kci g2];rfl) (aM W (hw:=by rw[kci g2];rfl) (aM W (hw:=by rw[kci g2];rfl) (aM W (hw:=by rw[kci g2];rfl) (aM W (hw:=by rw[kci g2];rfl) (aM W (hw:=by rw[kci g2];rfl) (aM W (hw:=by rw[kci g2];rfl) (aM W (hw:=by rw[kci g2];rfl) (dV W (eV (hq:=by exact kci g2)) (dM W (aM W (aM W (aM W (aM W (aM W (dV W eV (dM W (aM W (aM W (aM W (aM W (aM W (aM W (aM W (aM W (aM W (aM W (aM W (aM W (aM W (aM W (aM W (aM W (aM W (aM W (aM W ?_)))))))))))))))))))))))))))))))))))))));refine aM W (aM W (aM W (aM W (aM W (aM W (aM W (dV W eV ?_)))))));refine aN ?_;apply ah<;>intro h74
   ·refine A (T ?_);exact ff rfl (λhw=>by have h9:=eM 24 st.N;rw[fF,I5 (n:=999) (by decide) hw.sN] at g2;omega) rfl rfl
   ·cases h74
  ·refine aU W (hw:=by exact kcj g2) ao (aU W (hw:=by exact kcj g2) aa (aU W (hw:=by exact kcj g2) (aw 0 XK W X7) (aU W (hw:=by exact kcj g2) (aA (v:=ptr x 0) Yb) (aU W (hw:=by exact kcj g2) aa (aU W (hw:=by exact kcj g2) (aw 0 XX W YY) (aU W (hw:=by exact kcj g2) (aA (v:=ptr p 0) Y3) (aU W (hw:=by exact kcj g2) aa (aU W (hw:=by exact kcj g2) (aw 0 YN W YH) (aU W (hw:=by exact kcj g2) (aA (v:= .map (some r2)) YO) (aU W (hw:=by exact kcj g2) (ky Yz) (aU W (hw:=by exact kcj g2) aQ (dV W (fa (hq:=by exact kcj g2)) (dM W ?_)))))))))))));by_cases g3:(40:Int)<((tb cP 999 st.B).length:Int)
   ·refine aM W (hw:=by rw[kci g3];rfl) (aM W (hw:=by rw[kci g3];rfl) (aM W (hw:=by rw[kci g3];rfl) (aM W (hw:=by rw[kci g3];rfl) (aM W (hw:=by rw[kci g3];rfl) (dV W (eV (hq:=by exact kci g3)) (dM W (aM W (aM W (aM W (aM W (aM W (aM W (aM W (aM W (aM W (aM W (aM W (aM W (aM W (aM W (aM W (aM W (aM W (aM W (aM W (aM W (aM W (aM W (aM W (aM W (aM W (aM W (dV W eV ?_)))))))))))))))))))))))))))))))));refine aN ?_;apply ah<;>intro h74
    ·refine A (T ?_);exact ff rfl (λhw=>by have h9:=eM 40 st.B;rw[fF,I5 (n:=999) (by decide) hw.sB] at g3;omega) rfl rfl
    ·cases h74
   ·refine aU W (hw:=by exact kcj g3) ao (aU W (hw:=by exact kcj g3) aa (aU W (hw:=by exact kcj g3) (aw 2 XK W Xu) (aU W (hw:=by exact kcj g3) (aA (v:=I st.n) Xv) (aU W (hw:=by exact kcj g3) aG (dV W (fa (hq:=by exact kcj g3)) (dM W ?_))))));by_cases g4:st.n<1
    ·refine aM W (hw:=by rw[kci g4];rfl) (aM W (hw:=by rw[kci g4];rfl) (aM W (hw:=by rw[kci g4];rfl) (aM W (hw:=by rw[kci g4];rfl) (aM W (hw:=by rw[kci g4];rfl) (aM W (hw:=by rw[kci g4];rfl) (aM W (hw:=by rw[kci g4];rfl) (aM W (aM W (aM W (aM W (aM W (aM W (aM W (aM W (aM W (aM W (aM W (aM W (aM W (aM W (aM W (aM W (aM W (aM W (aM W (hw:=by rw[kci g4];rfl) (dV W (eV (hq:=by exact kci g4)) ?_))))))))))))))))))))))))));refine aN ?_;apply ah<;>intro h74
     ·refine A (T ?_);exact ff rfl (λhw=>by have:=hw.n1;omega) rfl rfl
     ·cases h74
    ·refine aU W (hw:=by exact kcj g4) ao (aU W (hw:=by exact kcj g4) aa (aU W (hw:=by exact kcj g4) (aw 1 XK W XS) (aU W (hw:=by exact kcj g4) (aA (v:=sl s st.L.length cc) Ya) (aU W (hw:=by exact kcj g4) (aP XP) (aU W (hw:=by exact kcj g4) aQ (aU W (hw:=by exact kcj g4) ao ?_))))));by_cases g5:(0:Int)<(st.L.length:Int)
     ·obtain ⟨pl,hpl⟩:∃pl,st.L[st.L.length - 1]? =some pl:=⟨_,kbN (by omega)⟩;have hpl2:st.L.getLast? =some pl:=(by rw[List.getLast?_eq_getElem?];exact hpl);refine aU W (hw:=by exact kci g5) ao (aU W (hw:=by exact kci g5) aa (aU W (hw:=by exact kci g5) (aw 1 XK W XS) (aU W (hw:=by exact kci g5) (aA (v:=sl s st.L.length cc) Ya) (aU W (hw:=by exact kci g5) ao (aU W (hw:=by exact kci g5) aa (aU W (hw:=by exact kci g5) (aw 1 XK W XS) (aU W (hw:=by exact kci g5) (aA (v:=sl s st.L.length cc) Ya) (aU W (hw:=by exact kci g5) (aP XP) (aU W (hw:=by exact kci g5) (eG (cK (by omega))) (aU W (hw:=by exact kci g5) (av (st.L.length - 1) XP XE (hj:=by omega) (by omega) (by rw[cR];omega)) (aU W (hw:=by exact kci g5) (aK (j:=st.L.length - 1) 0 XQ W Xu (by rw[cR];omega)) (aU W (hw:=by exact kci g5) (bS (v:=I pl.id) Xv (g8 hpl)) (aU W (hw:=by exact kci g5) ao (aU W (hw:=by exact kci g5) aa (aU W (hw:=by exact kci g5) (aw 2 XK W Xu) (aU W (hw:=by exact kci g5) (aA (v:=I st.n) Xv) (aU W (hw:=by exact kci g5) kp (aU W (hw:=by exact kcj g4) (eV (hq:=by exact kci g5)) (dV W (fa (hq:=by exact kcj g4)) ?_)))))))))))))))))));refine aN ?_;apply ah<;>intro h74
      ·have g6:st.n<=pl.id:=(by simpa using h74);refine A (T ?_)
       first
       | exact ff rfl (λhw=>by have:=hw.last pl hpl2;omega) rfl rfl
       | exact ff rfl (λhw=>by obtain ⟨y,hy⟩:=kcX.1 hqi.2;have:=hw.sN q y hy;omega) rfl rfl
       | exact ff rfl (λhw=>by obtain ⟨y,hy⟩:=kcX.1 hqi.2;have:=hw.sB q y hy;omega) rfl rfl
      ·have g6:¬st.n<=pl.id:=(by simpa using h74);have hlast:∀p,st.L.getLast? =some p->p.id<st.n:=λp hp=>(by rw[hpl2] at hp;injection hp with hp;subst hp;omega);refine ai (ac (A (C (M aa (gF 0 XK W X7 (gL (ptr x 0) Yb (gI (uC call138 (sc x p r st.N 999 (by rw[fF] at g2;omega))) ?_)))))));rintro _ _ ⟨s79,c79,rfl,rfl⟩;refine bz s79 ?_;refine M (aP XB) (C (ab (ak ?_)));refine aL (α:=Nat) (λk=>k<=(ck 999 st.N).length/\∀q∈(ck 999 st.N).take k,q<=((24:Nat):Int)) (λk=>U [(0,ptr b 0),(79,sl s79 (ck 999 st.N).length c79),(80,I (ck 999 st.N).length),(81,I k)]) (λk=>roL 1 s79 (bc (ck 999 st.N))::pt b (.cells #[ptr x 0,sl s st.L.length cc,I st.n] 123 (0,0))::pt x (.cells #[ptr p 0, .map (some r)] 231 (0,0))::pt p (.cells #[.map (some r2)] 234 (0,0))::mp r (tb cl 999 st.N)::mp r2 (tb cP 999 st.B)::be 162 4 s cc (gb st.L)::F) (λk=>(ck 999 st.N).length - k) 0 ⟨by simp,λq h=>by simp at h⟩ [0,79,80,81] rfl ?_;rintro k ⟨hk,hN24⟩;refine A (M aG (ab (ac ?_)));apply ah<;>intro h82
       ·simp at h82;have hnl:(ck 999 st.N).length<=24:=(by rw[fF] at g2;omega);have hki:k<(ck 999 st.N).length:=(by omega);obtain ⟨q,hq⟩:∃q,(ck 999 st.N)[k]? =some q:=⟨_,kbN hki⟩;have hqi:=mem_ids.1 (kbe hq);refine ai (ac (ak (A (M (av k XB Xu hki (by rw[cw];exact hki)) (M (aI (v:=I q) Xv (by exact fO hq) W) (T (A (C (M aQ (ab ?_))))))))));apply ah<;>intro h86
        ·simp at h86;refine A (T ?_)
         first
         | exact ff rfl (λhw=>by have:=hw.last pl hpl2;omega) rfl rfl
         | exact ff rfl (λhw=>by obtain ⟨y,hy⟩:=kcX.1 hqi.2;have:=hw.sN q y hy;omega) rfl rfl
         | exact ff rfl (λhw=>by obtain ⟨y,hy⟩:=kcX.1 hqi.2;have:=hw.sB q y hy;omega) rfl rfl
        ·simp at h86;refine ai (aE (al (gP (C (ab ?_)))));exact an (k+1) ⟨by omega,λy hy=>by
          rw[<-fP hq,kbF,kcv] at hy;rcases hy with hy | rfl
          ·exact hN24 y hy
          ·omega⟩ (by omega) [0,79,80,81] rfl
       ·simp at h82;obtain rfl:k=(ck 999 st.N).length:=(by omega);rw[kbl] at hN24;refine aF ?_;refine ac (A (C (M aa (gF 0 XK W X7 (gL (ptr x 0) Yb (M aa (gF 0 XX W YY (gL (ptr p 0) Y3 (gI (uC call137 (un p r2 st.B 999 (by rw[fF] at g3;omega))) ?_)))))))));rintro _ _ ⟨s95,c95,rfl,rfl⟩;refine bz s95 ?_;refine M (aP XB) (C (ab (ak ?_)));refine aL (α:=Nat) (λk=>k<=(ck 999 st.B).length/\∀q∈(ck 999 st.B).take k,q<=((40:Nat):Int)) (λk=>U [(0,ptr b 0),(95,sl s95 (ck 999 st.B).length c95),(96,I (ck 999 st.B).length),(97,I k)]) (λk=>roL 1 s95 (bc (ck 999 st.B))::pt b (.cells #[ptr x 0,sl s st.L.length cc,I st.n] 123 (0,0))::pt x (.cells #[ptr p 0, .map (some r)] 231 (0,0))::pt p (.cells #[.map (some r2)] 234 (0,0))::mp r (tb cl 999 st.N)::mp r2 (tb cP 999 st.B)::be 162 4 s cc (gb st.L)::F) (λk=>(ck 999 st.B).length - k) 0 ⟨by simp,λq h=>by simp at h⟩ [0,95,96,97] rfl ?_;rintro k ⟨hk,hB40⟩;refine A (M aG (ab (ac ?_)));apply ah<;>intro h98
        ·simp at h98;have hnl2:(ck 999 st.B).length<=40:=(by rw[fF] at g3;omega);have hki:k<(ck 999 st.B).length:=(by omega);obtain ⟨q,hq⟩:∃q,(ck 999 st.B)[k]? =some q:=⟨_,kbN hki⟩;have hqi:=mem_ids.1 (kbe hq);refine ai (ac (ak (A (M (av k XB Xu hki (by rw[cw];exact hki)) (M (aI (v:=I q) Xv (by exact fO hq) W) (T (A (C (M aQ (ab ?_))))))))));apply ah<;>intro h102
         ·simp at h102;refine A (T ?_)
          first
          | exact ff rfl (λhw=>by have:=hw.last pl hpl2;omega) rfl rfl
          | exact ff rfl (λhw=>by obtain ⟨y,hy⟩:=kcX.1 hqi.2;have:=hw.sN q y hy;omega) rfl rfl
          | exact ff rfl (λhw=>by obtain ⟨y,hy⟩:=kcX.1 hqi.2;have:=hw.sB q y hy;omega) rfl rfl
         ·simp at h102;refine ai (aE (al (gP (C (ab ?_)))));exact an (k+1) ⟨by omega,λy hy=>by
           rw[<-fP hq,kbF,kcv] at hy;rcases hy with hy | rfl
           ·exact hB40 y hy
           ·omega⟩ (by omega) [0,95,96,97] rfl
        ·simp at h98;obtain rfl:k=(ck 999 st.B).length:=(by omega);rw[kbl] at hB40;refine aF ?_;refine ac ?_;have hsN:mE 24 st.N:=xJ hP.sN (by decide) hN24;have hsB:mE 40 st.B:=xJ hP.sB (by decide) hB40;rw[Db (enc:=cl) (n:=999) (by decide) hsN,Db (enc:=cP) (n:=999) (by decide) hsB];refine dZ r2 p st.B (.refl _) ?_;refine cC p r x ⟨st.B,st.N⟩ (.refl _) ?_;refine cF b x s cc ⟨st.B,st.N⟩ st.L st.n ?_;refine al (C (gI (uB call193 (qH b ⟨st.B,st.N⟩ st.L st.n (by omega) hsN)) ?_));rintro _ _ ⟨rm,Q,o,rfl,rfl,hk1,hk2⟩;refine C (gX (.map (some rm)) (gX (Bo o) (gA (T (A (C (C ?_)))))));rcases hoo:o with _ | _
         ·have hkn:¬KindsP st.N st.L:=λh=>(by have:=hk1.2 h;rw[hoo] at this;cases this);refine bi (bi (bi (M fa (C (bi (bi (M fa (T ?_))))))));exact ff rfl (λhw=>by exact hkn hw.kinds) rfl rfl
         ·have hkp:KindsP st.N st.L:=hk1.1 hoo;refine bh ao (bh ao ?_);refine wK (dQ (Pre:=[mp rm (mi Q),iq b ⟨st.B,st.N⟩ st.L st.n]) call194 (oQ b ⟨st.B,st.N⟩ st.L st.n rm Q (by omega) hsN hsB (λq x e=>(hP.b q x e).1.1) (hk2 hoo))) ?_;rintro _ _ ⟨o2,rfl,rfl,hc⟩;refine M dc (C ?_);rcases hoo2:o2 with _ | _
          ·have hcn:¬CountP st.B st.N st.L:=λh=>(by have:=hc.2 h;rw[hoo2] at this;cases this);refine bi (bi (M fa (T ?_)));exact ff rfl (λhw=>by exact hcn hw.counted) rfl rfl
          ·have hcp:CountP st.B st.N st.L:=hc.1 hoo2;refine bh ao ?_;refine wK (dQ (Pre:=[iq b ⟨st.B,st.N⟩ st.L st.n]) call195 (p4 b ⟨st.B,st.N⟩ st.L st.n (by omega) (Ji hP hsN hsB) (λp hp=>(hP.p p hp).2.2.1))) ?_;rintro _ _ ⟨o3,rfl,rfl,ht⟩;refine M eV (T ?_);rcases hoo3:o3 with _ | _
           ·exact ff rfl (λhw=>by have:=ht.2 hw.within;rw[hoo3] at this;cases this) rfl rfl
           ·exact Jh rfl ⟨by omega,by omega,hlast,hsN,hsB,hkp,hcp,ht.1 hoo3⟩ rfl rfl
     ·have hlast:∀p,st.L.getLast? =some p->p.id<st.n:=λp hp=>by
       have h0:st.L=[]:=kbb.1 (by omega);rw[h0] at hp;cases hp
      refine aM W (hw:=by rw[kcj g5];rfl) (aM W (hw:=by rw[kcj g5];rfl) (aM W (hw:=by rw[kcj g5];rfl) (aM W (hw:=by rw[kcj g5];rfl) (aM W (hw:=by rw[kcj g5];rfl) (aM W (hw:=by rw[kcj g5];rfl) (aM W (hw:=by rw[kcj g5];rfl) (aM W (hw:=by rw[kcj g5];rfl) (aM W (hw:=by rw[kcj g5];rfl) (aM W (hw:=by rw[kcj g5];rfl) (aM W (hw:=by rw[kcj g5];rfl) (aM W (hw:=by rw[kcj g5];rfl) (aM W (hw:=by rw[kcj g5];rfl) (aM W (hw:=by rw[kcj g5];rfl) (aM W (hw:=by rw[kcj g5];rfl) (aM W (hw:=by rw[kcj g5];rfl) (aM W (hw:=by rw[kcj g5];rfl) (aM W (hw:=by rw[kcj g5];rfl) (aU W (hw:=by exact kcj g4) (fa (hq:=by exact kcj g5)) (dV W (fa (hq:=by exact kcj g4)) ?_)))))))))))))))))));refine aN ?_;apply ah<;>intro h74
      ·cases h74
      ·refine ai (ac (A (C (M aa (gF 0 XK W X7 (gL (ptr x 0) Yb (gI (uC call138 (sc x p r st.N 999 (by rw[fF] at g2;omega))) ?_)))))));rintro _ _ ⟨s79,c79,rfl,rfl⟩;refine bz s79 ?_;refine M (aP XB) (C (ab (ak ?_)));refine aL (α:=Nat) (λk=>k<=(ck 999 st.N).length/\∀q∈(ck 999 st.N).take k,q<=((24:Nat):Int)) (λk=>U [(0,ptr b 0),(79,sl s79 (ck 999 st.N).length c79),(80,I (ck 999 st.N).length),(81,I k)]) (λk=>roL 1 s79 (bc (ck 999 st.N))::pt b (.cells #[ptr x 0,sl s st.L.length cc,I st.n] 123 (0,0))::pt x (.cells #[ptr p 0, .map (some r)] 231 (0,0))::pt p (.cells #[.map (some r2)] 234 (0,0))::mp r (tb cl 999 st.N)::mp r2 (tb cP 999 st.B)::be 162 4 s cc (gb st.L)::F) (λk=>(ck 999 st.N).length - k) 0 ⟨by simp,λq h=>by simp at h⟩ [0,79,80,81] rfl ?_;rintro k ⟨hk,hN24⟩;refine A (M aG (ab (ac ?_)));apply ah<;>intro h82
       ·simp at h82;have hnl:(ck 999 st.N).length<=24:=(by rw[fF] at g2;omega);have hki:k<(ck 999 st.N).length:=(by omega);obtain ⟨q,hq⟩:∃q,(ck 999 st.N)[k]? =some q:=⟨_,kbN hki⟩;have hqi:=mem_ids.1 (kbe hq);refine ai (ac (ak (A (M (av k XB Xu hki (by rw[cw];exact hki)) (M (aI (v:=I q) Xv (by exact fO hq) W) (T (A (C (M aQ (ab ?_))))))))));apply ah<;>intro h86
        ·simp at h86;refine A (T ?_)
         first
         | exact ff rfl (λhw=>by have:=hw.last pl hpl2;omega) rfl rfl
         | exact ff rfl (λhw=>by obtain ⟨y,hy⟩:=kcX.1 hqi.2;have:=hw.sN q y hy;omega) rfl rfl
         | exact ff rfl (λhw=>by obtain ⟨y,hy⟩:=kcX.1 hqi.2;have:=hw.sB q y hy;omega) rfl rfl
        ·simp at h86;refine ai (aE (al (gP (C (ab ?_)))));exact an (k+1) ⟨by omega,λy hy=>by
          rw[<-fP hq,kbF,kcv] at hy;rcases hy with hy | rfl
          ·exact hN24 y hy
          ·omega⟩ (by omega) [0,79,80,81] rfl
       ·simp at h82;obtain rfl:k=(ck 999 st.N).length:=(by omega);rw[kbl] at hN24;refine aF ?_;refine ac (A (C (M aa (gF 0 XK W X7 (gL (ptr x 0) Yb (M aa (gF 0 XX W YY (gL (ptr p 0) Y3 (gI (uC call137 (un p r2 st.B 999 (by rw[fF] at g3;omega))) ?_)))))))));rintro _ _ ⟨s95,c95,rfl,rfl⟩;refine bz s95 ?_;refine M (aP XB) (C (ab (ak ?_)));refine aL (α:=Nat) (λk=>k<=(ck 999 st.B).length/\∀q∈(ck 999 st.B).take k,q<=((40:Nat):Int)) (λk=>U [(0,ptr b 0),(95,sl s95 (ck 999 st.B).length c95),(96,I (ck 999 st.B).length),(97,I k)]) (λk=>roL 1 s95 (bc (ck 999 st.B))::pt b (.cells #[ptr x 0,sl s st.L.length cc,I st.n] 123 (0,0))::pt x (.cells #[ptr p 0, .map (some r)] 231 (0,0))::pt p (.cells #[.map (some r2)] 234 (0,0))::mp r (tb cl 999 st.N)::mp r2 (tb cP 999 st.B)::be 162 4 s cc (gb st.L)::F) (λk=>(ck 999 st.B).length - k) 0 ⟨by simp,λq h=>by simp at h⟩ [0,95,96,97] rfl ?_;rintro k ⟨hk,hB40⟩;refine A (M aG (ab (ac ?_)));apply ah<;>intro h98
        ·simp at h98;have hnl2:(ck 999 st.B).length<=40:=(by rw[fF] at g3;omega);have hki:k<(ck 999 st.B).length:=(by omega);obtain ⟨q,hq⟩:∃q,(ck 999 st.B)[k]? =some q:=⟨_,kbN hki⟩;have hqi:=mem_ids.1 (kbe hq);refine ai (ac (ak (A (M (av k XB Xu hki (by rw[cw];exact hki)) (M (aI (v:=I q) Xv (by exact fO hq) W) (T (A (C (M aQ (ab ?_))))))))));apply ah<;>intro h102
         ·simp at h102;refine A (T ?_)
          first
          | exact ff rfl (λhw=>by have:=hw.last pl hpl2;omega) rfl rfl
          | exact ff rfl (λhw=>by obtain ⟨y,hy⟩:=kcX.1 hqi.2;have:=hw.sN q y hy;omega) rfl rfl
          | exact ff rfl (λhw=>by obtain ⟨y,hy⟩:=kcX.1 hqi.2;have:=hw.sB q y hy;omega) rfl rfl
         ·simp at h102;refine ai (aE (al (gP (C (ab ?_)))));exact an (k+1) ⟨by omega,λy hy=>by
           rw[<-fP hq,kbF,kcv] at hy;rcases hy with hy | rfl
           ·exact hB40 y hy
           ·omega⟩ (by omega) [0,95,96,97] rfl
        ·simp at h98;obtain rfl:k=(ck 999 st.B).length:=(by omega);rw[kbl] at hB40;refine aF ?_;refine ac ?_;have hsN:mE 24 st.N:=xJ hP.sN (by decide) hN24;have hsB:mE 40 st.B:=xJ hP.sB (by decide) hB40;rw[Db (enc:=cl) (n:=999) (by decide) hsN,Db (enc:=cP) (n:=999) (by decide) hsB];refine dZ r2 p st.B (.refl _) ?_;refine cC p r x ⟨st.B,st.N⟩ (.refl _) ?_;refine cF b x s cc ⟨st.B,st.N⟩ st.L st.n ?_;refine al (C (gI (uB call193 (qH b ⟨st.B,st.N⟩ st.L st.n (by omega) hsN)) ?_));rintro _ _ ⟨rm,Q,o,rfl,rfl,hk1,hk2⟩;refine C (gX (.map (some rm)) (gX (Bo o) (gA (T (A (C (C ?_)))))));rcases hoo:o with _ | _
         ·have hkn:¬KindsP st.N st.L:=λh=>(by have:=hk1.2 h;rw[hoo] at this;cases this);refine bi (bi (bi (M fa (C (bi (bi (M fa (T ?_))))))));exact ff rfl (λhw=>by exact hkn hw.kinds) rfl rfl
         ·have hkp:KindsP st.N st.L:=hk1.1 hoo;refine bh ao (bh ao ?_);refine wK (dQ (Pre:=[mp rm (mi Q),iq b ⟨st.B,st.N⟩ st.L st.n]) call194 (oQ b ⟨st.B,st.N⟩ st.L st.n rm Q (by omega) hsN hsB (λq x e=>(hP.b q x e).1.1) (hk2 hoo))) ?_;rintro _ _ ⟨o2,rfl,rfl,hc⟩;refine M dc (C ?_);rcases hoo2:o2 with _ | _
          ·have hcn:¬CountP st.B st.N st.L:=λh=>(by have:=hc.2 h;rw[hoo2] at this;cases this);refine bi (bi (M fa (T ?_)));exact ff rfl (λhw=>by exact hcn hw.counted) rfl rfl
          ·have hcp:CountP st.B st.N st.L:=hc.1 hoo2;refine bh ao ?_;refine wK (dQ (Pre:=[iq b ⟨st.B,st.N⟩ st.L st.n]) call195 (p4 b ⟨st.B,st.N⟩ st.L st.n (by omega) (Ji hP hsN hsB) (λp hp=>(hP.p p hp).2.2.1))) ?_;rintro _ _ ⟨o3,rfl,rfl,ht⟩;refine M eV (T ?_);rcases hoo3:o3 with _ | _
           ·exact ff rfl (λhw=>by have:=ht.2 hw.within;rw[hoo3] at this;cases this) rfl rfl
           ·exact Jh rfl ⟨by omega,by omega,hlast,hsN,hsB,hkp,hcp,ht.1 hoo3⟩ rfl rfl
def Wc x w:(Instr.build 123 #[(0,ptr x 0)]).run Tryz.prog w= .ok (.agg #[ptr x 0,sl none 0 0,I 0]) w:=by
 simp[Instr.build,kak,kal,X7,Instr.fill,bB,show (ptr x 0).cells=#[ptr x 0] from rfl,sl]
def Jj {J}(h:0<i->l[i - 1]? =some J):QU (Rm l i) c=(decide ((0:Int)<(i:Int)) && (Op.bytesLess c.key J.key || decide (c.key=J.key))):=by
 cases i with
 | zero=>rw[Wa];rfl
 | succ i=>
  have h1:l[i]? =some J:=h (by omega);rw[Wb h1];have e:decide ((0:Int)<((i+1:Nat):Int))=true:=kci (by omega);rw[e,kco]
  rfl
def zn l s cap(hl:l.length<=1000000)(X:∀c∈l,c.key.length<=9223372036854775807/\c.val.length<=9223372036854775807)F:cqq 42 [sl s l.length cap] (tabs::roL 3 s (bI l)::F) (NL l 117 (tabs::roL 3 s (bI l)::F)):=by
 refine Ct.of func42 W 47 ntmps42 (by simp) λw0=>?_;refine A<|gA<|T<|A<|gI (uA call118 (t1)) ?_;rintro _ _ ⟨x,rfl,rfl⟩;refine M (aS (Wc x))<|gI (dw #[ptr x 0,sl none ps0.L.length 0,I ps0.n]) ?_;rintro _ _ ⟨Z,rfl,rfl⟩;refine T ?_;refine fl x ⟨λ_=>none,λ_=>none⟩ ?_;intro p r;refine kI p (λ_=>none) ?_;intro r2;refine nG r (tb cl 999 ps0.N) (by show (tb cl 24 (λ_=>none)).Perm (tb cl 999 (λ_=>none));rw[mF,mF]) ?_;refine nG r2 (tb cP 999 ps0.B) (by show (tb cP 40 (λ_=>none)).Perm (tb cP 999 (λ_=>none));rw[mF,mF]) ?_;refine aY 162 4 (gb ps0.L) ?_;refine pK Z x p r r2 none 0 ps0 ?_;refine ac<|A<|C<|M (aP Xy)<|C<|ab<|ak ?_;refine aL (α:=Nat×PS) (λz=>z.1<=l.length/\iz none ps0 (l.take z.1)=some z.2/\Pok z.2/\z.2.L.length<=z.1) (λz=>U [(0,sl s l.length cap),(4,ptr Z 0),(10,sl s l.length cap),(11,I l.length),(12,I z.1)]) (λz=>tabs::roL 3 s (bI l)::NF Z z.2::F) (λz=>l.length - z.1) (0,ps0) ⟨by simp,by simp[iz],VJ,by simp[ps0]⟩ [0,4,10,11,12] rfl ?_;rintro ⟨i,st⟩ ⟨hi,J,hP,hL⟩;simp only[] at hi J hP hL ⊢;refine A<|M aG<|ab<|ac<|ah ?_ ?_<;>intro h13
 ·simp at h13;have hin:i<l.length:=(by omega);obtain ⟨c,hc⟩:∃c,l[i]? =some c:=⟨_,kbN hin⟩;obtain ⟨pc,hpc⟩:∃pc:ChangeM,0<i->l[i - 1]? =some pc:=⟨(l[i - 1]?).getD c,λh=>by rw[kbN (show i - 1<l.length by omega)];rfl⟩;refine ai<|ac<|ak<|A<|C<|M (av i Xy Xw hin (by rw[aT];exact hin))<|M (bO (row:=bg c) XU Xw (de hc))<|gI (aO #[ay [],ay [],Bo false] XH) ?_;rintro _ _ ⟨b6,rfl,rfl⟩;refine gA<|gU (az (cs:=#[ay [],ay [],Bo false]) (vs:=bg c) (bg c).toArray Xw (by simp) (hcs:=by exact aH))<|ab<|ac<|gD (Lf:=[pcc b6 (bg c).toArray 174,roL 3 s (bI l)]) (plN [0,2,4,6,8,10,12,14,16,18,20,22,24,26,28,30,32,34,36,38,41,42,44])<|dM W<|dV W aQ<|dM W<|dJ W (aw 0 XJ W Xx)<|dJ W (aA (v:=ay c.key) XD)<|dJ W ao<|dJ W ao<|sv W (λV=>eG (cK (by simp at V;omega)))<|sv W (λV=>av (i - 1) Xy Xw (hj:=by simp at V;omega) (by simp at V;omega) (by rw[aT];simp at V;omega))<|sv W (λV=>aK (j:=i - 1) 0 XJ W Xx (by rw[aT];simp at V;omega))<|sv W (λV=>bS (v:=ay pc.key) XD (de (hpc (by simp at V;omega))))<|dJ W (LS W W)<|dV W dc<|dM W<|dJ W (aw 2 XJ W XL)<|dJ W (aA (v:=Bo c.gone) Yp)<|dV W cv<|dM W ?_;rcases hbd:((decide ((0:Int)<(i:Int)) && (Op.bytesLess c.key pc.key || decide (c.key=pc.key))) || c.gone) with _ | _
  ·refine aU W ao ?_;rcases hrr:ju st c with _ | Y
   ·refine aU W (bj (vs:=bg c) XU Xw bM) ?_;refine Qb W (dQ (Pre:=[tabs,NF Z st]) call119 (uk Z st c (by omega) (X c (kbe hc)).1 (X c (kbe hc)).2)) W ?_;rintro _ _ O;unfold NG at O;rw[hrr] at O;obtain ⟨rfl,rfl⟩:=O;refine aU W cS<|dV W fa ?_;refine aN<|ah ?_ ?_<;>intro R
    ·refine A<|M (ba XG)<|gA<|T ?_;exact Hn rfl (λY S=>by rw[Bz J hc (.inr hrr)] at S;cases S) rfl rfl
    ·cases R
   ·refine aU W (bj (vs:=bg c) XU Xw bM) ?_;refine Qb W (dQ (Pre:=[tabs,NF Z st]) call119 (uk Z st c (by omega) (X c (kbe hc)).1 (X c (kbe hc)).2)) W ?_;rintro _ _ O;unfold NG at O;rw[hrr] at O;obtain ⟨rfl,rfl⟩:=O;refine aU W cS<|dV W fa ?_;refine aN<|ah ?_ ?_<;>intro R
    ·cases R
    ·refine ai<|aE<|al<|gP<|C<|ab ?_;exact an (i+1,Y) ⟨by simp only[];omega,K9 J hc (by rw[Jj hpc];simpa using hbd) hrr,QV hP hrr,by have:=Ul hrr;simp only[];omega⟩ (by simp only[];omega) [0,4,10,11,12] rfl
  ·refine aM W<|aM W ?_;refine Vu W W W W W ?_;refine aM W<|dV W eV ?_;refine aN<|ah ?_ ?_<;>intro R
   ·refine A<|M (ba XG)<|gA<|T ?_;exact Hn rfl (λY S=>by rw[Bz J hc (.inl (by rw[Jj hpc];simpa using hbd))] at S;cases S) rfl rfl
   ·cases R
 ·simp at h13;obtain rfl:i=l.length:=(by omega);rw[kbl] at J;refine aF ?_;refine ac<|A<|C<|gI (uB call120 (zm Z st hP (by omega))) ?_;rintro _ _ (⟨rfl,hw,rfl⟩ | ⟨rfl,hw,rfl⟩)
  ·refine M cS<|ab<|ah ?_ ?_<;>intro h44
   ·cases h44
   ·refine ai<|A<|C<|gA<|T ?_;exact Rl rfl J hw rfl rfl
  ·refine M cS<|ab<|ah ?_ ?_<;>intro h44
   ·refine A<|M (ba XG)<|gA<|T ?_;exact Hn rfl (λY S=>by rw[J] at S;injection S with S;rw[<-S];exact hw) rfl rfl
   ·cases h44
def ke (c:ChangeM):ChangeM:=⟨c.key,[],true⟩
def NM (a b:List ChangeM):List ChangeM:=(a.filter λc=>!u1 b c.key).map ke++b.filter λc=>!decide (c∈a)
def mg:List ChangeM->List ChangeM->List ChangeM
 | [],b=>b
 | a,[]=>a.map ke
 | x::a,y::b=>if kl x.key y.key=true then ke x::mg a (y::b) else if kl y.key x.key=true then y::mg (x::a) b else if x=y then mg a b else y::mg a b
termination_by a b=>a.length+b.length
def vV b:mg [] b=b:=by unfold mg;rfl
theorem uo a:mg a []=a.map ke:=by
 grind[mg]
variable {x y:ChangeM}{a b:List ChangeM}
def zo (h:kl x.key y.key=true):mg (x::a) (y::b)=ke x::mg a (y::b):=by
 rw[mg];rw[kaT h]
theorem zp (h1:¬kl x.key y.key=true)(h:kl y.key x.key=true):mg (x::a) (y::b)=y::mg (x::a) b:=by
 grind[mg]
theorem qI (h1:¬kl x.key y.key=true)(h:¬kl y.key x.key=true):mg (x::a) (y::b)=(if x=y then [] else [y])++mg a b:=by
 grind[mg]
theorem isS_iff {k}:u1 l k=true ↔ ∃r∈l,r.key=k:=by grind[u1]
theorem m8:∀{a b:List ChangeM},srt a->srt b->∀c,c∈mg a b ↔ (∃x∈a,c=ke x/\∀y∈b,y.key≠x.key)\/(c∈b/\c ∉ a)
 | [],b,_,_,c=>by rw[vV];simp
 | x::a,[],_,_,c=>by
  grind[uo]
 | x::a,y::b,V,X,c=>by
  have J:=kcB.1 V;have O:=kcB.1 X;by_cases h1:kl x.key y.key=true
  ·rw[zo h1,kbn,m8 J.2 X]
   grind[mL,kD]
  ·by_cases S:kl y.key x.key=true
   ·rw[zp h1 S,kbn,m8 V O.2]
    grind
   ·have hk:x.key=y.key:=by
     grind[sK]
    have Y:∀z∈b,z.key≠x.key:=λz R e=>mL (O.1 z R) (by rw[e,hk]);have Z:∀z∈a,z.key≠y.key:=λz R e=>mL (J.1 z R) (by rw[e,hk]);rw[qI h1 S,kbF,m8 J.2 O.2]
    grind
termination_by a b=>a.length+b.length
def Ho {k}(O:srt a)(R:srt b)(h1:∀x∈a,kl k x.key=true)(J:∀x∈b,kl k x.key=true):∀x∈mg a b,kl k x.key=true:=λx hx=>by
 rcases (m8 O R x).1 hx with ⟨z,S,rfl,_⟩ | ⟨h,_⟩
 ·exact h1 z S
 ·exact J x h
theorem sU:∀{a b:List ChangeM},srt a->srt b->srt (mg a b)
 | [],b,_,S=>by rw[vV];exact S
 | x::a,[],R,_=>by
  rw[uo];unfold srt;rw[kc9];exact R
 | x::a,y::b,R,S=>by
  have O:=kcB.1 R;have J:=kcB.1 S;by_cases h1:kl x.key y.key=true
  ·rw[zo h1];refine kcB.2 ⟨Ho O.2 S O.1 λz V=>?_,sU O.2 S⟩;rcases kbn.1 V with rfl | V
   ·exact h1
   ·exact kD h1<|J.1 z V
  ·by_cases X:kl y.key x.key=true
   ·rw[zp h1 X];refine kcB.2 ⟨Ho R J.2 (λz V=>?_) J.1,sU R J.2⟩
    grind[kD]
   ·have hk:x.key=y.key:=by
     grind[sK]
    rw[qI h1 X];split
    ·exact sU O.2 J.2
    ·exact kcB.2 ⟨Ho O.2 J.2 (λz V=>by grind) J.1,sU O.2 J.2⟩
termination_by a b=>a.length+b.length
theorem NN {m}(hl:srt (x::l))(hm:srt (y::m))(h:∀c,c∈x::l ↔ c∈y::m):x=y:=by
 have J:=kcB.1 hl;have O:=kcB.1 hm
 grind[me]
theorem Dn:∀{l m:List ChangeM},srt l->srt m->(∀c,c∈l ↔ c∈m)->l=m
 | [],[],_,_,_=>rfl
 | [],y::m,_,_,h=>by have:=(h y).2 (by simp);cases this
 | x::l,[],_,_,h=>by have:=(h x).1 (by simp);cases this
 | x::l,y::m,hl,hm,h=>by
  obtain rfl:=NN hl hm h;have J:=kcB.1 hl;have O:=kcB.1 hm;rw[Dn J.2 O.2 λc=>?_]
  grind[yu]
theorem Rn (h:srt l)(hx:x∈l)(hy:y∈l)(e:x.key=y.key):x=y:=by
 induction l with
 | nil=>cases hx
 | cons z l R=>
  have O:=kcB.1 h;rcases kbn.1 hx with h1 | h1
  ·grind[mL]
  ·rcases kbn.1 hy with J | J
   ·grind[mL]
   ·exact R O.2 h1 J
theorem NO c:c∈NM a b ↔ (∃x∈a,c=ke x/\∀y∈b,y.key≠x.key)\/(c∈b/\c ∉ a):=by
 grind[NM,u1]
theorem La (J:srt a)(O:srt b):(NM a b).Pairwise λx y=>x.key≠y.key:=by
 unfold NM;rw[kcF];refine ⟨?_,(kdj _ O).imp λh=>mL h,λx hx y hy=>?_⟩
 ·rw[kc9];exact (kdj _ J).imp λh=>mL h
 ·obtain ⟨z,R,rfl⟩:=kbV.1 hx;rw[kcd] at R hy;intro e;have:u1 b z.key=true:=isS_iff.2 ⟨y,hy.1,e.symm⟩
  grind
theorem Hp (J:srt a)(O:srt b)(hp:l.Perm (NM a b))(hs:l.Pairwise λx y=>kl y.key x.key=false):l=mg a b:=by
 have hk:l.Pairwise λx y=>x.key≠y.key:=(hp.pairwise_iff (λh=>Ne.symm h)).2 (La J O);have hl:srt l:=(hs.and hk).imp fun {x y} h=>by
  grind[sK]
 grind[Dn,sU,NO,m8]
theorem NP (h:srt l)c:c∈l ↔ u1 l c.key=true/\l[lR l c.key]? =some c:=by
 constructor
 ·intro J;have h1:u1 l c.key=true:=isS_iff.2 ⟨c,J,rfl⟩;refine ⟨h1,?_⟩;rw[yw h] at h1;split at h1
  ·rename_i r hr;rw[hr,Rn h (kbe hr) J (by simpa using h1)]
  ·cases h1
 grind
open Go.Sl Go.Proofs Go.Sort Go.RowKit
instance instInhC:Inhabited ChangeM:=⟨⟨[],[],false⟩⟩
def SE (x y:ChangeM):Int:=Lib.compareBytes x.key y.key
theorem xK x y:ltOf SE x y=kl x.key y.key:=by
 grind[ltOf,SE,wB]
theorem Um:SWO (ltOf SE) where
 irrefl x:=by rw[xK,yu]
 trans x y z h1 h2:=by grind[xK,kD]
 ntrans x y z h1 h2:=by
  grind[xK,sK,kD]
def Ro x y bk:Calls Tryz.prog 235 #[.agg #[ay x.key,ay x.val,Bo x.gone], .agg #[ay y.key,ay y.val,Bo y.gone]] bk λe w'=>e= .returned (I (SE x y))/\∃q R,w'=grow (bk.drewN q) R:=by
 have J:=λO=>Tryz.strings_Compare ⟨⟨x.key⟩⟩ ⟨⟨y.key⟩⟩ O;change ∀O,Calls Tryz.prog 188 #[ay x.key,ay y.key] O (λe w'=>e= .returned (I (SE x y))/\w'=O) at J;generalize SE x y=r at J ⊢
 go_enter func235,ntmps235
 go_wp2_with (go_at_call 188;refine (J _).mono ?_;rintro e w' ⟨rfl,rfl⟩)
 go_ret
 exact ⟨rfl,0,_,by rw[alloc_eq_grow,alloc_eq_grow,grow_grow];rfl⟩
def NQ blk off size w:CmpLays Tryz.prog 235 #[] bg 3 SE blk off size w:=
 λ_ _ _ _ x y=>Ro x y _
def Un (l:List ChangeM):Prop:=l.Pairwise λa b=>kl b.key a.key=false
def Fu l s n cap(hn:n=l.length)(X:l.length<4611686018427387904)F:
  cqq 234 [sl s n cap, .func (.func 235) #[] #[]] (be 174 3 s cap (bI l)::F) (λv L'=>∃l',l'.Perm l/\Un l'/\v= .tuple #[]/\L'=be 174 3 s cap (bI l')::F):=λw0 w hS=>by
 subst hn;rcases dA hS with ⟨rfl,hr,rfl,S⟩ | ⟨b,cs,rfl,h1,h2,h3,h4,S⟩
 ·have hz:l=[]:=(by simpa [bI] using hr);subst hz;refine (AnyF.slices_SortFunc_none {Tryz.sortFn with} none 0 (.func (.func 235) #[] #[]) w).mono ?_;rintro e w' ⟨rfl,rfl⟩;exact ⟨_,hS,[], .refl _,List.Pairwise.nil,rfl,rfl⟩
 ·have Z:=S.at_;have hlen:l.length<=cap:=(by simpa [bI] using h2);have eg:∀args w,(callFunc 235 args).run Tryz.prog w= .ok (.enter 235 args) w:=call235;have hH:HoldsK bg 3 w b 0 l.toArray:=λj hj=>by
   have R:j<l.length*3:=(by simpa [size_flatK] using hj);have hrow:=h4 (j / 3) (bg l[j / 3]) (by rw[de (kbN (by omega))]) (j % 3);have V:∃v,(bg l[j / 3])[j % 3]? =some v/\(flatK bg 3 l.toArray)[j]! =v:=by
    refine ⟨_,kbN (by simp[bg];omega),?_⟩;rw[get_flatK _ _ _ _ (by simpa using R)];simp[show j / 3<l.length by omega,show j % 3<(bg l[j / 3]).length by simp[bg];omega]
   obtain ⟨v,hv,he⟩:=V;have hc:=hrow v hv;rw[show j / 3*3+j % 3=j by omega] at hc;have:=iu Z hc;refine ⟨?_,by simp[World.frozen?,Z]⟩;rw[he];simpa using this
  refine (AnyQ.slices_SortFunc Tryz.sortFn 3 XU Xw bg (λ_=>rfl) (λx v hv=>by simp only[bg,kbn,kcx,or_false] at hv;rcases hv with rfl | rfl | rfl <;> rfl) SE Um 235 #[] b 0 cap l.toArray w eg (NQ b 0 _ w) hH (kaC.1 Z).1 (by simpa using X)).mono ?_;rintro e w' ⟨rfl,J,m,os,hp,hso,rfl⟩;obtain ⟨hp1,_,hp3⟩:=hp;have hsz:J.size=l.length:=(by simpa using hp1);have Y:J.toList.Perm l:=by
   have e1:J.extract 0 l.toArray.size=J:=(by rw[<-hp1];simp);have e2:l.toArray.extract 0 l.toArray.size=l.toArray:=(by simp);rw[e1,e2] at hp3;simpa using hp3
  have O:Un J.toList:=by
   rw[Un,kaA];intro i j hi hj hij;have R:j<J.size:=(by simpa using hj);have hi':i<J.size:=(by simpa using hi);have:=hso i j (by omega) hij (by simpa [hsz] using R);rw[xK] at this;simpa [hi',R] using this
  have e1:sortWorldK bg 3 w b 0 m J os=grow {(Sort.ahead w m) with heap:=(Sort.ahead w m).heap.setIfInBounds b (.cells (putCells id 0 (flatK bg 3 J) cs) 174 (0,0))} os:=by
   unfold sortWorldK putRowK putRow mapBlock;congr 2;apply kbg;intro i;rw[kbY,kcT];have X:=(kaC.1 Z).1;show (if b=i then _ else _)=_;by_cases hk:b=i
   ·subst hk;have he:(Sort.ahead w m).heap[b]? =some (.cells cs 174 (0,0)):=Z;rw[kaT rfl,kaT rfl,he,kaT (by exact X)]
    rfl
   ·rw[kaU hk,kaU hk]
  rw[e1];have hS2:=(S.drew (w.drawn+m)).set (w':={(Sort.ahead w m) with heap:=(Sort.ahead w m).heap.setIfInBounds b (.cells (putCells id 0 (flatK bg 3 J) cs) 174 (0,0))}) rfl;have hS3:=rg os.toList hS2;refine ⟨_,fu (cap:=cap) (sz:=3) (rows:=bI J.toList) hS3 (by simp[putCells,h1]) (by simp[bI,hsz];exact hlen) (mu _) ?_,J.toList,Y,O,rfl,rfl⟩;intro j row hj f v hf;simp only[bI,kbL] at hj;obtain ⟨x,hx,rfl⟩:=kaE.1 hj;obtain ⟨hjl,hxe⟩:=kaz.1 hx;have hjd:j<J.size:=(by simpa using hjl);have hf3:f<3:=(by have:=(kaz.1 hf).1;simpa [bg] using this);simp only[bK,ka9];have hsz3:j*3+f<(flatK bg 3 J).size:=(by rw[size_flatK];omega);have hcs:j*3+f<cs.size:=(by rw[h1];omega);have e2:(putCells id 0 (flatK bg 3 J) cs)[j*3+f]? =some ((flatK bg 3 J)[j*3+f]!):=by
   have hnot:¬J.size*3<=j*3+f:=(by omega);simp[putCells,hcs,hsz3,hnot]
  rw[e2,get_flatK _ _ _ _ (by omega),show (j*3+f) / 3=j by omega,show (j*3+f) % 3=f by omega];have hxd:J[j]! =x:=(by simp at hxe;simp[hjd,hxe]);rw[hxd];have:=(kaz.1 hf);obtain ⟨hfl,hfe⟩:=this;simp[hfl,hfe]
end Go.Proofs.YthdjckbjjfiopabGreatDoor
namespace Go.Proofs.YthdjckbjjfiopabGreatDoor
open _root_.Go.Proofs.Tryz
open Go.Sl Go.Proofs
def Wd (k:Bytes)w:(Instr.build 174 #[(0,ay k),(2,Bo true)]).run Tryz.prog w= .ok (.agg (bg ⟨k,[],true⟩).toArray) w:=by
 simp[Instr.build,XH,ZR,XL,Xx,Instr.fill,bB,bg,show (ay k).cells=#[ay k] from rfl,show (Bo true).cells=#[Bo true] from rfl]
def LI (a b:List ChangeM):List ChangeM:=(a.filter λc=>!u1 b c.key).map ke
def NR (a b:List ChangeM):List ChangeM:=b.filter λc=>!decide (c∈a)
variable {b l:List ChangeM}{k:Nat}
theorem Fv {c}(h:l[k]? =some c):LI (l.take (k+1)) b=LI (l.take k) b++if u1 b c.key=true then [] else [ke c]:=by
 unfold LI;rw[<-fP h,kb9,kaM]
 grind
variable {a:List ChangeM}
theorem zq {c}(h:l[k]? =some c):NR a (l.take (k+1))=NR a (l.take k)++if c∈a then [] else [c]:=by
 unfold NR;rw[<-fP h,kb9]
 grind
theorem Do a b:(LI a b).length<=a.length:=by grind[LI]
theorem Jk a b:(NR a b).length<=b.length:=by grind[NR]
def nV x(k:Bytes)F:cqq 233 [.agg (bg x).toArray,ay k] (F) (R1 (I (Lib.compareBytes x.key k)) F):=by
 refine Ct.of func233 W 9 ntmps233 (by simp) λw0=>?_;refine A<|gI (dw (bg x).toArray) ?_;rintro _ _ ⟨J,rfl,rfl⟩;refine T<|A<|gF 0 XJ W Xx<|gL (ay x.key) XD<|C<|gR (vA call188 (mM x.key k))<|T ?_;refine am W W ?_;exact rfl
def l9 l s cap(k:Bytes)(hs:srt l)(hl:l.length<=1000000)F:cqq 186 [sl s l.length cap,ay k, .func (.func 233) #[] #[]] (roL 3 s (bI l)::F) (R1 (.tuple #[I (lR l k),Bo (u1 l k)]) (roL 3 s (bI l)::F)):=by
 refine Ct.of func186 W 49 ntmps186 (by simp) λw0=>?_;refine A<|gA<|T<|A<|C<|M (aP Xy)<|T<|A<|C<|gA<|T<|ac<|ak ?_;refine aL (α:=Nat×Nat) (λz=>z.1<=lR l k/\lR l k<=z.2/\z.2<=l.length) (λz=>U [(0,sl s l.length cap),(1,ay k),(2, .func (.func 233) #[] #[]),(8,I l.length),(9,I z.1),(10,I z.2)]) (λ_=>roL 3 s (bI l)::F) (λz=>z.2 - z.1) (0,l.length) ⟨by simp,Io _ _,kax _⟩ [0,1,2,8,9,10] rfl ?_;rintro ⟨i,j⟩ ⟨hi,hj,Y⟩;simp only[] at hi hj Y ⊢;refine ac<|A<|C<|C<|M aG<|ab<|ah ?_ ?_<;>intro X
 ·simp at X;refine ai<|ak<|ac ?_;have S:(i+j) / 2<l.length:=(by omega);obtain ⟨x,hx⟩:∃x,l[(i+j) / 2]? =some x:=⟨_,kbN S⟩;have V:(i+j) / 2<(bI l).length:=(by rw[aT];exact S);have Z:=MB hs k hx;refine al<|C<|C<|gP<|M (cG XA ZI (sE (by omega)))<|M (lX (r:=(((i+j) / 2:Nat):Int)) (by rw[show min ((1:Int).toNat) IntKind.u64.bits=1 by decide,kck _ (by decide)];omega))<|M (cG ZI XA (cK (by omega)))<|T<|A<|C<|C<|C<|M (av ((i+j) / 2) Xy Xw S V)<|M (bO (row:=bg x) XU Xw (de hx))<|C ?_;refine gI (gc (fi:=[]) (cap:=[]) (Pre:=[]) call233 W W (nV x k)) ?_;rintro _ _ ⟨rfl,rfl⟩;refine M aG<|ab<|ah ?_ ?_<;>intro O
  ·simp at O;refine al<|C<|gP<|T<|aE ?_;exact an ((i+j) / 2+1,j) ⟨by simp only[];have:=Z.1 ((wB _ _).1.1 O);omega,hj,Y⟩ (by simp only[];omega) [0,1,2,8,9,10] rfl
  ·simp at O;refine al<|C<|T<|aE ?_;exact an (i,(i+j) / 2) ⟨hi,by simp only[];rcases ka3 ((i+j) / 2) (lR l k) with h | h;have:=(wB _ _).1.2 (Z.2 h);omega;exact h,by simp only[];omega⟩ (by simp only[];omega) [0,1,2,8,9,10] rfl
 ·simp at X;obtain rfl:i=lR l k:=(by omega);refine aF ?_;refine A<|C<|C<|C<|M aG<|C ?_;by_cases R:lR l k<l.length
  ·obtain ⟨x,hx⟩:∃x,l[lR l k]? =some x:=⟨_,kbN R⟩;have V:lR l k<(bI l).length:=(by rw[aT];exact R);have J:decide ((lR l k:Int)<l.length)=true:=kci (by omega);refine bh (hw:=by exact J) ao<|bh (hw:=by exact J) ao<|bh (hw:=by exact J) ao<|bh (hw:=by exact J) (av (lR l k) Xy Xw R V)<|bh (hw:=by exact J) (bO (row:=bg x) XU Xw (de hx))<|bh (hw:=by exact J) ao ?_;refine wK (hw:=by exact J) (gc (fi:=[]) (cap:=[]) (Pre:=[]) call233 W W (nV x k)) ?_;rintro _ _ ⟨rfl,rfl⟩;refine bh (hw:=by exact J) bE<|M dc<|gA<|T ?_;exact am rfl rfl (by rw[yw hs,hx];show Value.tuple #[I (lR l k),Bo (decide ((lR l k:Int)<l.length) && decide (Lib.compareBytes x.key k=0))]=_;rw[J,kco,decide_eq_decide.2 (wB x.key k).2])
  ·have J:decide ((lR l k:Int)<l.length)=false:=kcj (by omega);refine bi (hw:=by rw[J];rfl)<|bi (hw:=by rw[J];rfl)<|bi (hw:=by rw[J];rfl)<|bi (hw:=by rw[J];rfl)<|bi (hw:=by rw[J];rfl)<|bi (hw:=by rw[J];rfl)<|bi (hw:=by rw[J];rfl)<|bi (hw:=by rw[J];rfl)<|M (fa (hq:=by exact J))<|gA<|T ?_;exact am rfl rfl (by rw[yw hs,kcL (by omega)];rfl)
def vW a b s s' cap O(ha:a.length<=1000000)(hb:b.length<=1000000)(V:srt a)(hsb:srt b)F:cqq 172 [sl s a.length cap,sl s' b.length O] (roL 3 s (bI a)::roL 3 s' (bI b)::F) (uX 174 3 (mg a b).length (bI (mg a b)) (roL 3 s (bI a)::roL 3 s' (bI b)::F)):=by
 refine Ct.of func172 W 70 ntmps172 (by simp) λw0=>?_;refine A<|T<|A<|T<|A<|T<|ac<|ac ?_;refine aY 174 3 (bI (LI (a.take 0) b)) ?_;refine al<|C<|M (aP Xy)<|C<|ab<|ak ?_;refine aL (α:=Nat×Option Addr×Nat) (λz=>z.1<=a.length) (λz=>U [(0,sl s a.length cap),(1,sl s' b.length O),(5,sl z.2.1 (LI (a.take z.1) b).length z.2.2),(6, .func (.func 233) #[] #[]),(15,sl s a.length cap),(16,I a.length),(17,I z.1)]) (λz=>be 174 3 z.2.1 z.2.2 (bI (LI (a.take z.1) b))::roL 3 s (bI a)::roL 3 s' (bI b)::F) (λz=>a.length - z.1) (0,none,0) (by simp) [0,1,5,6,15,16,17] rfl ?_;rintro ⟨k,s3,c3⟩ hk;simp only[] at hk ⊢;have hgl:=Do (a.take k) b;rw[kbq] at hgl;refine A<|M aG<|ab<|ac<|ah ?_ ?_<;>intro h18
 ·simp at h18;have R:k<a.length:=(by omega);obtain ⟨x,hx⟩:∃x,a[k]? =some x:=⟨_,kbN R⟩;refine ai<|ac<|ak<|A<|M (av k Xy Xw R (by rw[aT];exact R))<|M (bO (row:=bg x) XU Xw (de hx))<|gI (aO #[ay [],ay [],Bo false] XH) ?_;rintro _ _ ⟨b8,rfl,rfl⟩;refine gU (az (cs:=#[ay [],ay [],Bo false]) (vs:=bg x) (bg x).toArray Xw (by simp) (hcs:=by exact aH))<|ab<|A<|C<|gF 0 XJ W Xx<|gL (ay x.key) XD<|C<|gR (vB call186 (l9 b s' O x.key hsb (by omega)))<|C<|gX (I (lR b x.key))<|gX (Bo (u1 b x.key))<|gA<|T<|A<|C<|M cS<|ab<|ah ?_ ?_<;>intro h30
  ·have S:u1 b x.key=false:=(by simpa using h30);have J:=Fv (b:=b) hx;rw[S,kaU (by simp)] at J;refine al<|C<|gF 0 XJ rfl Xx<|gL (ay x.key) XD<|M (aS (Wd x.key))<|gI (ap [bg (ke x)] Xy Xw XH (by intro r hr;simp at hr;subst hr;rfl)) ?_;rintro _ _ ⟨b35,rfl,rfl⟩;refine gI (aR Xy Xw XH Tryz.typeInfo174 (hn:=by exact aT _) (by intro r hr;simp at hr;subst hr;rfl) (by intro r hr;simp at hr;subst hr;rfl) ⟨by omega,by decide,by decide⟩) ?_;rintro _ _ ⟨s36,c36,rfl,rfl⟩;rw[fj];refine T<|aE<|al<|gP<|C<|ab ?_;rw[<-J];exact an (k+1,s36,c36) (by simp only[];omega) (by simp only[];omega) [0,1,5,6,15,16,17] rfl (he:=by first | rfl | simp[U,J])
  ·have S:u1 b x.key=true:=(by simpa using h30);have J:=Fv (b:=b) hx;rw[S,kaT rfl,kcV] at J;refine ai<|aE<|al<|gP<|C<|ab ?_;rw[<-J];exact an (k+1,s3,c3) (by simp only[];omega) (by simp only[];omega) [0,1,5,6,15,16,17] rfl (he:=by first | rfl | simp[U,J])
 ·simp at h18;obtain rfl:k=a.length:=(by omega);rw[kbl];refine aF ?_;refine ac<|ac ?_;refine kw s3 (bI (LI a b++NR a (b.take 0))) (by simp[NR]) ?_;refine al<|C<|M (aP Xy)<|C<|ab<|ak ?_;refine aL (α:=Nat×Option Addr×Nat) (λz=>z.1<=b.length) (λz=>U [(0,sl s a.length cap),(1,sl s' b.length O),(5,sl z.2.1 ((LI a b).length+(NR a (b.take z.1)).length) z.2.2),(6, .func (.func 233) #[] #[]),(38,sl s' b.length O),(39,I b.length),(40,I z.1)]) (λz=>be 174 3 z.2.1 z.2.2 (bI (LI a b++NR a (b.take z.1)))::roL 3 s (bI a)::roL 3 s' (bI b)::F) (λz=>b.length - z.1) (0,s3,c3) (by simp) [0,1,5,6,38,39,40] rfl (he:=by simp[U,NR,sl]) ?_;rintro ⟨k,s3,c3⟩ hk;simp only[] at hk ⊢;have hgl:=Do a b;have hnl:=Jk a (b.take k);rw[kbq] at hnl;refine A<|M aG<|ab<|ac<|ah ?_ ?_<;>intro h41
  ·simp at h41;have R:k<b.length:=(by omega);obtain ⟨y,hy⟩:∃y,b[k]? =some y:=⟨_,kbN R⟩;refine ai<|ac<|ak<|A<|M (av k Xy Xw R (by rw[aT];exact R))<|M (bO (row:=bg y) XU Xw (de hy))<|gI (aO #[ay [],ay [],Bo false] XH) ?_;rintro _ _ ⟨b12,rfl,rfl⟩;refine gU (az (cs:=#[ay [],ay [],Bo false]) (vs:=bg y) (bg y).toArray Xw (by simp) (hcs:=by exact aH))<|ab<|A<|C<|gF 0 XJ W Xx<|gL (ay y.key) XD<|C<|gR (vB call186 (l9 a s cap y.key V (by omega)))<|C<|gX (I (lR a y.key))<|gX (Bo (u1 a y.key))<|gA<|T<|ac ?_;refine cn (Lf:=[roL 3 s (bI a),pcc b12 (bg y).toArray 174]) jF ?_;refine dM W<|dV W cS<|dM W ?_;by_cases Z:u1 a y.key=true
   ·obtain ⟨r0,hr0⟩:∃r0,a[lR a y.key]? =some r0:=by
     have X:=Z;rw[yw V] at X;split at X
     ·exact ⟨_,‹_›⟩
     ·cases X
    have hrl:=(kaz.1 hr0).1;rw[Z];refine aU W ao<|aU W ao<|aU W (av (lR a y.key) Xy Xw hrl (by rw[aT];exact hrl))<|aU W (bO (row:=bg r0) XU Xw (de hr0))<|aU W (bj (vs:=bg y) XU Xw bM)<|aU W (LX eqGuardType174 W W (AY r0 y))<|dV W fa ?_;refine aN<|ah ?_ ?_<;>intro Y
    ·have hne:¬y∈a:=λh=>(by have X:=((NP V y).1 h).2;rw[hr0] at X;injection X with X;subst X;simp at Y);have J:=zq (a:=a) hy;rw[kaU hne] at J;refine al<|C<|M (bj (vs:=bg y) XU Xw bM)<|gI (ap [bg (y)] Xy Xw XH (by intro r hr;simp at hr;subst hr;rfl)) ?_;rintro _ _ ⟨b64,rfl,rfl⟩;refine gI (aR Xy Xw XH Tryz.typeInfo174 (hn:=by rw[aT,kcp]) (by intro r hr;simp at hr;subst hr;rfl) (by intro r hr;simp at hr;subst hr;rfl) ⟨by omega,by decide,by decide⟩) ?_;rintro _ _ ⟨s65,c65,rfl,rfl⟩;rw[fj,kbx];refine T<|aE<|al<|gP<|C<|ab ?_;rw[<-J];exact an (k+1,s65,c65) (by simp only[];omega) (by simp only[];omega) [0,1,5,6,38,39,40] rfl (he:=by first | rfl | simp[U,J,kaW])
    ·have hmm:y∈a:=by
      have X:r0=y:=(by simpa using Y);rw[<-X];exact kbe hr0
     have J:=zq (a:=a) hy;rw[kaT hmm,kcV] at J;refine ai<|aE<|al<|gP<|C<|ab ?_;rw[<-J];exact an (k+1,s3,c3) (by simp only[];omega) (by simp only[];omega) [0,1,5,6,38,39,40] rfl (he:=by first | rfl | simp[U,J])
   ·have hin':u1 a y.key=false:=(by simpa using Z);rw[hin'];refine aM W<|aM W<|aM W<|aM W<|aM W<|aM W<|dV W eV ?_;refine aN<|ah ?_ ?_<;>intro Y
    ·have hne:¬y∈a:=λh=>Z ((NP V y).1 h).1;have J:=zq (a:=a) hy;rw[kaU hne] at J;refine al<|C<|M (bj (vs:=bg y) XU Xw bM)<|gI (ap [bg (y)] Xy Xw XH (by intro r hr;simp at hr;subst hr;rfl)) ?_;rintro _ _ ⟨b64,rfl,rfl⟩;refine gI (aR Xy Xw XH Tryz.typeInfo174 (hn:=by rw[aT,kcp]) (by intro r hr;simp at hr;subst hr;rfl) (by intro r hr;simp at hr;subst hr;rfl) ⟨by omega,by decide,by decide⟩) ?_;rintro _ _ ⟨s65,c65,rfl,rfl⟩;rw[fj,kbx];refine T<|aE<|al<|gP<|C<|ab ?_;rw[<-J];exact an (k+1,s65,c65) (by simp only[];omega) (by simp only[];omega) [0,1,5,6,38,39,40] rfl (he:=by first | rfl | simp[U,J,kaW])
    ·cases Y
  ·simp at h41;obtain rfl:k=b.length:=(by omega);rw[kbl];refine aF ?_;refine A<|C<|gI (uB call234 (Fu (LI a b++NR a b) s3 _ c3 (by rw[kcp]) (by have:=Do a b;have:=Jk a b;rw[kcp];omega))) ?_;rintro _ _ ⟨l',hp,hso,rfl,rfl⟩;have hmg:=Hp V hsb hp hso;subst hmg;refine ab<|A<|C<|T ?_;exact cU rfl rfl rfl (by rw[hp.length_eq,kcp])
set_option maxRecDepth 4000
variable {S:SI}{n:Int}
theorem We {L G}(h:Con S L n G):∀c∈bN S L n,c.key.length<=9223372036854775807/\c.val.length<=9223372036854775807:=λc J=>by
 have w:=h.wr;unfold bN at J;rcases kbF.1 J with J | J
 ·rcases kbF.1 J with J | J
  ·rcases kbF.1 J with J | J
   ·unfold dS at J;obtain ⟨q,hq,rfl⟩:=kbV.1 J;obtain ⟨V,O⟩:=mem_ids.1 hq;obtain ⟨x,hx⟩:=kcX.1 O;have R:=w.b q x hx
    grind[iZ,gB,K3]
   ·unfold ea at J;obtain ⟨q,hq,rfl⟩:=kbV.1 J;obtain ⟨V,O⟩:=mem_ids.1 hq;have R:=Jf h.sm q;have h1:=iZ (n:=q) (by omega);have X:=uj (n:=gN S.N q) (by omega) (λk hk=>by have:=R.2 k hk;omega) 4 (by omega)
    grind[Hm,K4]
  ·obtain ⟨p,hp,rfl⟩:=kbV.1 J;have R:=w.p p hp
   grind[iZ,nt]
 ·rw[kcv] at J;subst J;have h1:=ce (n:=n) (by have:=w.n1;omega)
  grind[vS]
theorem zt:∀(a b:List ChangeM),(mg a b).length<=a.length+b.length
 | [],b=>by rw[vV];simp
 | x::a,[]=>by rw[uo];simp
 | x::a,y::b=>by
  by_cases h1:kl x.key y.key=true
  ·rw[zo h1];have:=zt a (y::b);grind
  ·by_cases J:kl y.key x.key=true
   ·rw[zp h1 J];have:=zt (x::a) b;grind
   ·rw[qI h1 J];have:=zt a b
    grind
termination_by a b=>a.length+b.length
structure SeE where
 key:Int
 a:Nat
 so:Option Addr
 co:Nat
 base:Int
 disk:Int
 size:Int
 puts:List PutM
structure MoE where
 key:Int
 a:Nat
 r:Nat
 point:Int
 over:List (Int×Bytes)
def Au (l:List (Int×Bytes)):MM:=l.map λp=>(p.1,ay p.2)
def D8:List (Int×Bytes)->Int->Option Bytes
 | [],_=>none
 | p::l,q=>if p.1=q then some p.2 else D8 l q
def Hq (l:List (Int×Bytes))(q:Int)(d:Bytes):List (Int×Bytes):=if (D8 l q).isSome then l.map λp=>if p.1=q then (q,d) else p else l++ [(q,d)]
theorem Jl:∀(l:List (Int×Bytes)) (q:Int),lk (Au l) q=(D8 l q).map ay
 | [],q=>rfl
 | p::l,q=>by
  have J:=Jl l q
  grind[Au,lk,D8]
theorem Jm l q(d:Bytes):mD (Au l) q (ay d)=Au (Hq l q d):=by
 grind[mD,Hq,Jl,Au,List.map_congr_left]
def fm (l:List SeE):MM:=l.map λe=>(e.key,ptr e.a 0)
def fo (l:List MoE):MM:=l.map λe=>(e.key,ptr e.a 0)
def hJ (l:List SeE)(id:Int):Option SeE:=l.find? λe=>decide (e.key=id)
def mw (l:List MoE)(id:Int):Option MoE:=l.find? λe=>decide (e.key=id)
theorem oh:∀(l:List SeE) (q:Int),lk (fm l) q=(hJ l q).map λe=>ptr e.a 0
 | [],q=>rfl
 | e::l,q=>by
  have J:=oh l q
  grind[hJ,fm,lk]
theorem pM:∀(l:List MoE) (q:Int),lk (fo l) q=(mw l q).map λe=>ptr e.a 0
 | [],q=>rfl
 | e::l,q=>by
  have J:=pM l q
  grind[mw,fo,lk]
variable {l:List SeE}{e:SeE}
theorem Fw (h:∀x∈l,x.key≠e.key):mD (fm l) e.key (ptr e.a 0)=fm (l++ [e]):=by
 unfold mD;rw[lk_none.2 (λp hp=>by grind[fm]),kaU (by simp)];simp[fm]
variable {l:List MoE}{e:MoE}
theorem Fx (h:∀x∈l,x.key≠e.key):mD (fo l) e.key (ptr e.a 0)=fo (l++ [e]):=by
 unfold mD;rw[lk_none.2 (λp hp=>by grind[fo]),kaU (by simp)];simp[fo]
def nW (l:List SeE)(id:Int):List SeE:=l.filter λe=>!decide (e.key=id)
def Gr (l:List MoE)(id:Int):List MoE:=l.filter λe=>!decide (e.key=id)
def uq l id:p6 (fm l) id=fm (nW l id):=by
 unfold p6 fm nW;rw[kcr]
 rfl
def Fy l id:p6 (fo l) id=fo (Gr l id):=by
 unfold p6 fo Gr;rw[kcr]
 rfl
variable {l:List SeE}{i:Nat}{e:SeE}
theorem Fz {e'}(h:l[i]? =some e)(hk:e'.key=e.key)(J:e'.a=e.a):fm (l.set i e')=fm l:=by
 unfold fm;rw[kbj];refine kbW λj=>?_
 grind
variable {l:List MoE}
theorem FA {e e'}(h:l[i]? =some e)(hk:e'.key=e.key)(J:e'.a=e.a):fo (l.set i e')=fo l:=by
 unfold fo;rw[kbj];refine kbW λj=>?_
 grind
theorem eK {α:Type}{l:List α}{e}(h:l[i]? =some e):l.set i e=l:=by
 refine kbW λj=>?_
 grind
structure RpM where
 h:HdM
 used:Nat
 rows:List ChangeM
 S:SI
 L:List Pt
 n:Int
 ses:List SeE
 mou:List MoE
 next:Int
def BA (e:SeE):List ag:=[pcc e.a #[I e.base,I e.disk,I e.size,sl e.so e.puts.length e.co] 168,be 86 2 e.so e.co (dh e.puts)]
def D9 (e:MoE):List ag:=[pcc e.a #[I e.point, .map (some e.r)] 215,mp e.r (Au e.over)]
structure RpA where
 bs:Nat
 bl:Nat
 so:Option Addr
 co:Nat
 bv:Nat
 rs:Nat
 rm:Nat
def Xk (b bd:Nat)(z:RpM)(q:RpA):List ag:=
 [pcc b #[ptr q.bs 0,ptr q.bv 0, .map (some q.rs), .map (some q.rm),I z.next] 103,pcc q.bs (lL bd z.h q.bl q.so z.rows.length q.co) 198,pcc q.bl (gk bd 122 (260 - 122) z.h.first z.used) 273,roL 3 q.so (bI z.rows),iq q.bv z.S z.L z.n,mp q.rs (fm z.ses),big BA z.ses,mp q.rm (fo z.mou),big D9 z.mou]
def dD (b bd:Nat)(z:RpM):ag:=hx (Xk b bd z)
variable {c:Cx}{E:di}{F L:List ag}{K:List KI}
def fQ b J z[R:Rem L (dD b J z) F](k:∀bs bl so co bv rs rm,G c K E (pcc b #[ptr bs 0,ptr bv 0, .map (some rs), .map (some rm),I z.next] 103::pcc bs (lL J z.h bl so z.rows.length co) 198::pcc bl (gk J 122 (260 - 122) z.h.first z.used) 273::roL 3 so (bI z.rows)::iq bv z.S z.L z.n::mp rs (fm z.ses)::big BA z.ses::mp rm (fo z.mou)::big D9 z.mou::F)):G c K E L:=ji (dD b J z) rfl λq=>k q.bs q.bl q.so q.co q.bv q.rs q.rm
def NS l i(he:l[i]? =some e)[R:Rem L (big BA l) F](k:G c K E (pcc e.a #[I e.base,I e.disk,I e.size,sl e.so e.puts.length e.co] 168::be 86 2 e.so e.co (dh e.puts)::big BA (l.eraseIdx i)::F)):G c K E L:=qY (f:=BA) l i he _ rfl k
def NU l i{e}(he:l[i]? =some e)[R:Rem L (big D9 l) F](k:G c K E (pcc e.a #[I e.point, .map (some e.r)] 215::mp e.r (Au e.over)::big D9 (l.eraseIdx i)::F)):G c K E L:=qY (f:=D9) l i he _ rfl k
def cu b J z bs bl so co bv rs rm[O:Split L [pcc b #[ptr bs 0,ptr bv 0, .map (some rs), .map (some rm),I z.next] 103,pcc bs (lL J z.h bl so z.rows.length co) 198,pcc bl (gk J 122 (260 - 122) z.h.first z.used) 273,roL 3 so (bI z.rows),iq bv z.S z.L z.n,mp rs (fm z.ses),big BA z.ses,mp rm (fo z.mou),big D9 z.mou] F](k:G c K E (dD b J z::F)):G c K E L:=
 gW (cB:=Xk b J z) [pcc b #[ptr bs 0,ptr bv 0, .map (some rs), .map (some rm),I z.next] 103,pcc bs (lL J z.h bl so z.rows.length co) 198,pcc bl (gk J 122 (260 - 122) z.h.first z.used) 273,roL 3 so (bI z.rows),iq bv z.S z.L z.n,mp rs (fm z.ses),big BA z.ses,mp rm (fo z.mou),big D9 z.mou] (dD b J z) ⟨bs,bl,so,co,bv,rs,rm⟩ k
structure SOk (e:SeE):Prop where
 size:1<=e.size/\e.size<=16
 nodup:(e.puts.map (·.at_)).Nodup
 rng:∀p∈e.puts,(0<=p.at_/\p.at_<e.size)/\p.data.length<=6
structure Rok (z:RpM):Prop where
 con:∃G,Con z.S z.L z.n G
 next:1<=z.next/\z.next<=1000000
 keyS:∀e∈z.ses,1<=e.key/\e.key<z.next
 keyM:∀e∈z.mou,1<=e.key/\e.key<z.next
 sesS:∀e∈z.ses,SOk e
theorem SOk.len (h:SOk e):e.puts.length<=16:=by
 have h1:=tG h.nodup (m:=(List.range 16).map λk:Nat=>(k:Int)) λq hq=>by
  obtain ⟨p,hp,rfl⟩:=kbV.1 hq;have J:=(h.rng p hp).1;have O:=h.size;exact kbV.2 ⟨p.at_.toNat,by grind,by omega⟩
 simpa using h1
variable {z:RpM}
theorem Rok.putS (R:Rok z):∀e∈z.ses,e.puts.length<=16/\∀p∈e.puts,p.data.length<=6:=λe he=>⟨(R.sesS e he).len,λp hp=>((R.sesS e he).rng p hp).2⟩
set_option maxRecDepth 4000
structure Dk (i:Nat) (D:DiskM) (z:RpM):Prop where
 ok:oE 260 i D
 s80:tQ D
 hd:z.h.ep<=1000000/\z.h.side<=1/\1<=z.h.first/\z.h.first<=1000000000
 len:z.rows.length<=80
 okr:∀r∈z.rows,CJ r
 used:z.used<=260 - 122
 srt:srt z.rows
def RpM.kept (z:RpM)(e:Int)(h:HdM)(used:Nat)(rows:List ChangeM)(S:SI)(L:List Pt)(n:Int):RpM:=if e=0 then ⟨h,used,rows,S,L,n,z.ses,z.mou,z.next⟩ else ⟨h,used,rows,z.S,z.L,z.n,z.ses,z.mou,z.next⟩
def Uo (z:RpM)(S:SI)(L:List Pt)(n:Int):List ChangeM:=mg (bN z.S z.L z.n) (bN S L n)
def Dp:∀{l:List SeE},((fm l).map (·.1)).Nodup->∀{e e':SeE},e∈l->e'∈l->e.key=e'.key->e=e'
 | [],_,e,e',h,_,_=>by cases h
 | a::l,hn,e,e',h,O,hk=>by
  simp only[fm,kaO,kb3,kbV] at hn;rcases kbn.1 h with rfl | g
  ·rcases kbn.1 O with rfl | J
   ·rfl
   ·exact absurd ⟨_,⟨e',J,rfl⟩,hk.symm⟩ hn.1
  ·rcases kbn.1 O with rfl | J
   ·exact absurd ⟨_,⟨e,g,rfl⟩,hk⟩ hn.1
   ·exact Dp (by simpa [fm] using hn.2) g J hk
def Dq:∀{l:List MoE},((fo l).map (·.1)).Nodup->∀{e e':MoE},e∈l->e'∈l->e.key=e'.key->e=e'
 | [],_,e,e',h,_,_=>by cases h
 | a::l,hn,e,e',h,O,hk=>by
  simp only[fo,kaO,kb3,kbV] at hn;rcases kbn.1 h with rfl | g
  ·rcases kbn.1 O with rfl | J
   ·rfl
   ·exact absurd ⟨_,⟨e',J,rfl⟩,hk.symm⟩ hn.1
  ·rcases kbn.1 O with rfl | J
   ·exact absurd ⟨_,⟨e,g,rfl⟩,hk⟩ hn.1
   ·exact Dq (by simpa [fo] using hn.2) g J hk
variable {p:Int×Value}
theorem NV {l}(hn:((fm l).map (·.1)).Nodup){done rest J:MM}(hp:(done++rest).Perm (fm l))(hq:rest.Perm (p::J)):(∃i e,l[i]? =some e/\p=(e.key,ptr e.a 0)/\i<l.length)/\((done++ [p])++J).Perm (fm l):=by
 have h1:(done++p::J).Perm (fm l):=(hq.append_left done).symm.trans hp;refine ⟨?_,by simpa using h1⟩;have hm:p∈fm l:=h1.mem_iff.1 (by simp)
 grind[fm,List.getElem?_of_mem]
theorem NW (hn:((fo l).map (·.1)).Nodup){done rest J:MM}(hp:(done++rest).Perm (fo l))(hq:rest.Perm (p::J)):(∃i e,l[i]? =some e/\p=(e.key,ptr e.a 0)/\i<l.length)/\((done++ [p])++J).Perm (fo l):=by
 have h1:(done++p::J).Perm (fo l):=(hq.append_left done).symm.trans hp;refine ⟨?_,by simpa using h1⟩;have hm:p∈fo l:=h1.mem_iff.1 (by simp)
 grind[fo,List.getElem?_of_mem]
def fc (z:RpM)(id:Int):Bool:=z.ses.any (λe=>decide (e.base=id)) || z.mou.any λe=>decide (e.point=id)
def ma b v1 v2 v3 v4 nx(J:0<=nx/\nx<=1000000000)F:cqq 93 [ptr b 0] (pcc b #[v1,v2,v3,v4,I nx] 103::F) (R1 (I nx) (pcc b #[v1,v2,v3,v4,I (nx+1)] 103::F)):=by
 refine Ct.of func93 W 15 ntmps93 (by simp) λw0=>?_;refine A<|T<|A<|C<|M aa<|gF 4 Yc rfl Xu<|gL (I nx) Xv<|M (bx (r:=nx+1) (cK (by omega)))<|M aa<|gF 4 Yc rfl Xu<|gU (aJ #[v1,v2,v3,v4,I (nx+1)] Xu (by simp))<|ab<|A<|C<|M aa<|gF 4 Yc rfl Xu<|gL (I (nx+1)) Xv<|M (eG (r:=nx) (by rw[show nx+1 - 1=nx by omega];exact cK (by omega)))<|T ?_;refine am W W ?_;exact rfl
def g9 b J z(hl:z.L.length<=1000000)F:cqq 16 [ptr b 0] (dD b J z::F) (λv L'=>∃q,v=ptr q 0/\L'=iq q z.S z.L z.n::dD b J z::F):=by
 refine Ct.of func16 W 8 ntmps16 (by simp) λw0=>?_;refine fQ b J z ?_;intro bs bl so co bv rs rm;refine A<|T<|A<|C<|M aa<|gF 1 Yc W Za<|gL (ptr bv 0) Y6<|gI (uB call66 (gg bv z.S z.L z.n hl)) ?_;rintro _ _ ⟨q,rfl,rfl⟩;refine T ?_;refine cu b J (z) bs bl so co bv rs rm ?_;exact ar (iq q z.S z.L z.n::dD b J z::F) rfl ⟨q,rfl,rfl⟩
variable {ee:Bool}
def kK b R v i D z V L' X G G'(hC:Con z.S z.L z.n G)(hC':Con V L' X G')(hD:Dk i D z)(hi:i<=100000)F:cqq 97 [ptr b 0,ptr v 0] (bo ee::dD b R z::cj 179 319 R (D)::iq v V L' X::F) (λv0 L0=>∃e D2 Y O J,ET D z.h z.rows (260 - 122) z.used (Uo z V L' X) e D2 Y O J/\v0=bQ e/\L0=dD b R (z.kept e Y O J V L' X)::cj 179 319 R (D2)::bo ee::F):=by
 have hlen:=hC.v.len;have hrow:=oO (S:=z.S) (n:=z.n) hlen;have hlen':=hC'.v.len;have hrow':=oO (S:=V) (n:=X) hlen';have hml:=zt (bN z.S z.L z.n) (bN V L' X);refine Ct.of func97 W 26 ntmps97 (by simp) λw0=>?_;refine fQ b R z ?_;intro bs bl so co bv rs rm;refine A<|T<|ac ?_;refine cn (Lf:=[pcc b #[ptr bs 0,ptr bv 0, .map (some rs), .map (some rm),I (z.next)] 103]) jY ?_;refine dM W<|dV W aa<|dF W 0 Yc W sizeOf95<|dL W (ptr bs 0) Y5<|dM W<|dV W aa<|dF W 1 Yc W Za<|dL W (ptr bv 0) Y6<|dM W<|cQ W (uC (A0:=bo ee) call104 (og (ee:=ee) bv z.S z.L z.n hC.sm)) ?_;rintro _ _ ⟨s14,c14,rfl,rfl⟩;refine bz s14 ?_;refine cQ W (uC (A0:=bo ee) call104 (og (ee:=ee) v V L' X hC'.sm)) ?_;rintro _ _ ⟨s16,c16,rfl,rfl⟩;refine bz s16 ?_;refine cQ W (uC call172 (vW (bN z.S z.L z.n) (bN V L' X) s14 s16 c14 c16 (by omega) (by omega) (lI hC.wr) (lI hC'.wr))) ?_;rintro _ _ ⟨s17,c17,rfl,rfl⟩;refine bz s17 ?_;refine cQ W (uF call103 (pY bs R z.h bl so co z.rows 260 i z.used D hD.ok hi hD.s80 (by decide) hD.hd hD.len hD.okr hD.used hD.srt (mg (bN z.S z.L z.n) (bN V L' X)) s17 c17 (by omega))) ?_;rintro _ _ ⟨e,D2,Y,O,J,bl2,s2,Z,hcom,rfl,rfl⟩;refine dV W ax ?_;refine aN ?_;refine ac<|A<|C<|M (fX XF)<|ab<|ah ?_ ?_<;>intro h20
 ·have he0:e=0:=(by simpa using h20);refine al<|C<|C<|M aa<|gF 1 Yc W Za<|gU (aJ #[ptr bs 0,ptr v 0, .map (some rs), .map (some rm),I z.next] Za (by simp))<|ab<|A<|C<|T ?_;refine cu b R (⟨Y,O,J,V,L',X,z.ses,z.mou,z.next⟩) bs bl2 s2 Z v rs rm ?_;exact ar (dD b R ⟨Y,O,J,V,L',X,z.ses,z.mou,z.next⟩::cj 179 319 R (D2)::bo ee::F) rfl ⟨e,D2,Y,O,J,hcom,rfl,by unfold RpM.kept;rw[kaT he0]⟩
 ·have he0:¬e=0:=(by simpa using h20);refine ai<|A<|C<|T ?_;refine cu b R (⟨Y,O,J,z.S,z.L,z.n,z.ses,z.mou,z.next⟩) bs bl2 s2 Z bv rs rm ?_;exact ar (dD b R ⟨Y,O,J,z.S,z.L,z.n,z.ses,z.mou,z.next⟩::cj 179 319 R (D2)::bo ee::F) rfl ⟨e,D2,Y,O,J,hcom,rfl,by unfold RpM.kept;rw[kaU he0]⟩
def nX b R z id F:cqq 123 [ptr b 0,I id] (dD b R z::F) (R1 (Bo (fc z id)) (dD b R z::F)):=by
 refine Ct.of func123 W 39 ntmps123 (by simp) λw0=>?_;refine fQ b R z ?_;intro bs bl so co bv rs rm;refine gY rs<|λhnS=>?_;refine gY rm<|λhnM=>?_;refine A<|T<|ac<|ac ?_;refine ft rs ?_;intro es clk;refine al<|C<|M aa<|gF 2 Yc W Zv<|gL (.map (some rs)) Zz<|gI (iv ZA) ?_;rintro _ _ ⟨b13,rfl,rfl⟩;refine ab<|ak ?_;refine aL (α:=MM×MM×Option (Int×Value)) (λy=>(y.2.1++y.1).Perm (fm z.ses)/\∀e∈z.ses,(e.key,ptr e.a 0)∈y.2.1->e.base≠id) (λ_=>U [(0,ptr b 0),(1,I id),(13,ptr b13 0)]) (λy=>yc b13 rs es clk y.1 y.2.2::tj rs es clk (fm z.ses)::pcc b #[ptr bs 0,ptr bv 0, .map (some rs), .map (some rm),I (z.next)] 103::pcc bs (lL R (z.h) bl so (z.rows.length) co) 198::pcc bl (gk R 122 (260 - 122) (z.h.first) (z.used)) 273::roL 3 so (bI z.rows)::iq bv z.S z.L z.n::big BA z.ses::mp rm (fo z.mou)::big D9 z.mou::F) (λy=>y.1.length) (fm z.ses,[],none) ⟨.refl _,by simp⟩ [0,1,13] rfl ?_;rintro ⟨rest,done,cur⟩ ⟨hp,Z⟩;simp only[] at hp Z ⊢;refine A<|gI kz ?_;rintro _ _ (⟨hr,rfl,rfl⟩ | ⟨p,J,hq,rfl,rfl⟩)
 ·subst hr;have hS:∀e∈z.ses,e.base≠id:=λe he=>Z e he (by have:=hp.mem_iff (a:=(e.key,ptr e.a 0));rw[kcV] at this;exact this.2<|kbV.2 ⟨e,he,rfl⟩);refine M aB<|ab<|ac ?_;refine dY ?_;refine aF ?_;refine ac<|ac ?_;refine bT rs ?_;refine ft rm ?_;intro es2 V;refine al<|C<|M aa<|gF 3 Yc W ZB<|gL (.map (some rm)) ZL<|gI (iv ZM) ?_;rintro _ _ ⟨b28,rfl,rfl⟩;refine ab<|ak ?_;refine aL (α:=MM×MM×Option (Int×Value)) (λy=>(y.2.1++y.1).Perm (fo z.mou)/\∀e∈z.mou,(e.key,ptr e.a 0)∈y.2.1->e.point≠id) (λ_=>U [(0,ptr b 0),(1,I id),(28,ptr b28 0)]) (λy=>yc b28 rm es2 V y.1 y.2.2::tj rm es2 V (fo z.mou)::pcc b #[ptr bs 0,ptr bv 0, .map (some rs), .map (some rm),I (z.next)] 103::pcc bs (lL R (z.h) bl so (z.rows.length) co) 198::pcc bl (gk R 122 (260 - 122) (z.h.first) (z.used)) 273::roL 3 so (bI z.rows)::iq bv z.S z.L z.n::big BA z.ses::mp rs (fm z.ses)::big D9 z.mou::F) (λy=>y.1.length) (fo z.mou,[],none) ⟨.refl _,by simp⟩ [0,1,28] rfl ?_;rintro ⟨rest,done,cur⟩ ⟨hp,O⟩;simp only[] at hp O ⊢;refine A<|gI kz ?_;rintro _ _ (⟨hr,rfl,rfl⟩ | ⟨p,J,hq,rfl,rfl⟩)
  ·subst hr;have hM:∀e∈z.mou,e.point≠id:=λe he=>O e he (by have:=hp.mem_iff (a:=(e.key,ptr e.a 0));rw[kcV] at this;exact this.2<|kbV.2 ⟨e,he,rfl⟩);refine M aB<|ab<|ac ?_;refine dY ?_;refine aF ?_;refine A<|T ?_;refine bT rm ?_;refine cu b R (z) bs bl so co bv rs rm ?_;exact am rfl rfl (by show Bo false=_;congr 1;symm;unfold fc;rw[kdc,kcD,kcD];exact ⟨λe he=>by simpa using hS e he,λe he=>by simpa using hM e he⟩)
  ·obtain ⟨⟨i,e,he,rfl,hi⟩,hp2⟩:=NW hnM hp hq;refine M aB<|ab<|ac ?_;refine d6 ?_;refine ai<|ak<|A<|M iw<|gX (ptr e.a 0)<|T<|ac ?_;refine NU z.mou i he ?_;refine al<|C<|M aa<|gF 0 kad W Xu<|gL (I e.point) Xv<|C<|M bE<|ab ?_;refine da (f:=D9) z.mou i e [pcc e.a #[I e.point, .map (some e.r)] 215,mp e.r (Au e.over)] hi ?_;rw[eK he];apply ah<;>intro Y
   ·simp at Y;refine A<|T ?_;refine bT rm ?_;refine cu b R (z) bs bl so co bv rs rm ?_;exact am rfl rfl (by show Bo true=_;congr 1;symm;unfold fc;rw[kbA,kbm,kbm];exact .inr ⟨e,kbe he,by simpa using Y⟩)
   ·refine ai<|aE ?_;refine an (J,done++ [(e.key,ptr e.a 0)],some (e.key,ptr e.a 0)) ⟨hp2,λx hx hm=>?_⟩ (by have:=hq.length_eq;simp at this;simp;omega) [0,1,28] rfl;rcases kbF.1 hm with hm | hm
    ·exact O x hx hm
    ·have hk:x.key=e.key:=(by simp at hm;exact hm.1);rw[Dq hnM hx (kbe he) hk];simpa using Y
 ·obtain ⟨⟨i,e,he,rfl,hi⟩,hp2⟩:=NV hnS hp hq;refine M aB<|ab<|ac ?_;refine d6 ?_;refine ai<|ak<|A<|M iw<|gX (ptr e.a 0)<|T<|ac ?_;refine NS z.ses i he ?_;refine al<|C<|M aa<|gF 0 Zo W Xu<|gL (I e.base) Xv<|C<|M bE<|ab ?_;refine da (f:=BA) z.ses i e [pcc e.a #[I e.base,I e.disk,I e.size,sl e.so e.puts.length e.co] 168,be 86 2 e.so e.co (dh e.puts)] hi ?_;rw[eK he];apply ah<;>intro X
  ·simp at X;refine A<|T ?_;refine bT rs ?_;refine cu b R (z) bs bl so co bv rs rm ?_;exact am rfl rfl (by show Bo true=_;congr 1;symm;unfold fc;rw[kbA,kbm,kbm];exact .inl ⟨e,kbe he,by simpa using X⟩)
  ·refine ai<|aE ?_;refine an (J,done++ [(e.key,ptr e.a 0)],some (e.key,ptr e.a 0)) ⟨hp2,λx hx hm=>?_⟩ (by have:=hq.length_eq;simp at this;simp;omega) [0,1,13] rfl;rcases kbF.1 hm with hm | hm
   ·exact Z x hx hm
   ·have hk:x.key=e.key:=(by simp at hm;exact hm.1);rw[Dp hnS hx (kbe he) hk];simpa using X
set_option maxRecDepth 4000
def zu {α:Type}p:∀l:List α,l.find? p=l[l.findIdx p]?
 | []=>rfl
 | a::l=>by
  rw[List.find?_cons,kdl];cases h:p a with
  | true=>simp
  | false=>simpa using zu p l
def xM (l:List SeE)(id:Int):Nat:=l.findIdx λe=>decide (e.key=id)
def Ea (l:List MoE)(id:Int):Nat:=l.findIdx λe=>decide (e.key=id)
def pN {l id}(h:hJ l id=some e):l[xM l id]? =some e/\e.key=id/\xM l id<l.length:=by
 have h1:=h;unfold hJ at h1;rw[zu] at h1;have J:=List.find?_some h;exact ⟨h1,by simpa using J,(kaz.1 h1).1⟩
def pO {id e}(h:mw l id=some e):l[Ea l id]? =some e/\e.key=id/\Ea l id<l.length:=by
 have h1:=h;unfold mw at h1;rw[zu] at h1;have J:=List.find?_some h;exact ⟨h1,by simpa using J,(kaz.1 h1).1⟩
def BB (L:List Pt)(base disk:Int):Int:=if base=0 then 0 else match aX L base with
 | none=>5
 | some p=>if p.disk≠disk then 3 else 0
def cr (z:RpM)(base disk size:Int):Int:=if disk<1\/999<disk\/size<1\/16<size then 1 else if BB z.L base disk≠0 then BB z.L base disk else if z.ses.length=3 then 8 else 0
def RpM.sess (z:RpM)(l:List SeE):RpM:=⟨z.h,z.used,z.rows,z.S,z.L,z.n,l,z.mou,z.next⟩
def RpM.moun (z:RpM)(l:List MoE):RpM:=⟨z.h,z.used,z.rows,z.S,z.L,z.n,z.ses,l,z.next⟩
def RpM.begun (z:RpM)(a:Nat)(base disk size:Int):RpM:=⟨z.h,z.used,z.rows,z.S,z.L,z.n,z.ses++ [⟨z.next,a,none,0,base,disk,size,[]⟩],z.mou,z.next+1⟩
def RpM.mounted (z:RpM)(a r:Nat)(id:Int):RpM:=⟨z.h,z.used,z.rows,z.S,z.L,z.n,z.ses,z.mou++ [⟨z.next,a,r,id,[]⟩],z.next+1⟩
def eT (z:RpM)(id:Int):Int:=match aX z.L id with
 | none=>5
 | some _=>if z.mou.length=3 then 8 else 0
def cZ (z:RpM)(id at_:Int):Bytes×Int:=match mw z.mou id with
 | none=>([],5)
 | some m=>if (j5 z.S z.L m.point at_).2≠0 then ([],(j5 z.S z.L m.point at_).2) else match D8 m.over at_ with
  | some d=>(d,0)
  | none=>((j5 z.S z.L m.point at_).1,0)
def dE (z:RpM)(id at_:Int)(d:Bytes):Int:=if (cZ z id at_).2≠0 then (cZ z id at_).2 else if 6<d.length then 2 else 0
def RpM.written (z:RpM)(id at_:Int)(d:Bytes):RpM:=match mw z.mou id with
 | none=>z
 | some m=>z.moun (z.mou.set (Ea z.mou id) ⟨m.key,m.a,m.r,m.point,Hq m.over at_ d⟩)
def Wf x y k w:(Instr.build 168 #[(0,I x),(1,I y),(2,I k)]).run Tryz.prog w= .ok (.agg #[I x,I y,I k,sl none 0 0]) w:=by
 simp[Instr.build,zeroValue168,runUnderlying168,Xu,Instr.fill,bB,sl,show ∀k:Int,(I k).cells=#[I k] from λ_=>rfl]
def Wg x r w:(Instr.build 215 #[(0,I x),(1, .map (some r))]).run Tryz.prog w= .ok (.agg #[I x, .map (some r)]) w:=by
 simp[Instr.build,zeroValue215,runUnderlying215,Xu,ZV,Instr.fill,bB,show ∀k:Int,(I k).cells=#[I k] from λ_=>rfl,show (Value.map (some r)).cells=#[.map (some r)] from rfl]
def sV b R z base disk size(hR:Rok z)F:cqq 31 [ptr b 0,I base,I disk,I size] (dD b R z::F) (λv L'=>(cr z base disk size≠0/\v= .tuple #[I 0,bQ (cr z base disk size)]/\L'=dD b R z::F)\/(cr z base disk size=0/\∃a,v= .tuple #[I z.next,bQ 0]/\L'=dD b R (z.begun a base disk size)::F)):=by
 obtain ⟨G0,hC⟩:=hR.con;have hlen:=hC.v.len;have hnx:=hR.next;refine Ct.of func31 W 67 ntmps31 (by simp) λw0=>?_;refine fQ b R z ?_;intro bs bl so co bv rs rm;refine A<|gA<|T<|ac<|A<|C<|M aG<|C<|gK ao<|gK aQ<|M cv<|C<|gK ao<|gK aG<|M cv<|C<|gK ao<|gK aQ<|M cv<|ab<|ah ?_ ?_<;>intro Z
 ·have J:disk<1\/999<disk\/size<1\/16<size:=(by simp at Z;omega);refine A<|M (ba XG)<|gA<|T ?_;refine cu b R (z) bs bl so co bv rs rm ?_;exact ar (dD b R (z)::F) rfl<|.inl ⟨by unfold cr;rw[kaT J];decide,by unfold cr;rw[kaT J];rfl,rfl⟩
 ·have J:¬(disk<1\/999<disk\/size<1\/16<size):=(by simp at Z;omega);refine ai<|ac<|A<|C<|M iE<|ab ?_;refine lV (α:=Unit) (λ_=>BB z.L base disk=0) (λ_=>U [(0,ptr b 0),(1,I base),(2,I disk),(3,I size)]) (λ_=>pcc b #[ptr bs 0,ptr bv 0, .map (some rs), .map (some rm),I (z.next)] 103::pcc bs (lL R (z.h) bl so (z.rows.length) co) 198::pcc bl (gk R 122 (260 - 122) (z.h.first) (z.used)) 273::roL 3 so (bI z.rows)::iq bv z.S z.L z.n::mp rs (fm z.ses)::big BA z.ses::mp rm (fo z.mou)::big D9 z.mou::F) ?_ ?_
  ·apply ah<;>intro X
   ·simp at X;refine A<|C<|M aa<|gF 1 Yc W Za<|gL (ptr bv 0) Y6<|C<|gR (vB call92 (dp bv z.S z.L z.n base (by omega)))<|C<|gX (.agg (aW ((aX z.L base).getD iB)).toArray)<|gX (Bo (aX z.L base).isSome)<|gI (aO #[I 0,I 0,I 0,I 0] X4) ?_;rintro _ _ ⟨b10,rfl,rfl⟩;refine gU (az (cs:=#[I 0,I 0,I 0,I 0]) (vs:=aW (((aX z.L base).getD iB))) (aW (((aX z.L base).getD iB))).toArray XE (by simp) (hcs:=by exact aH))<|T<|ac<|A<|C<|M cS<|ab<|ah ?_ ?_<;>intro Y
    ·simp at Y;refine A<|M (ba XG)<|gA<|T ?_;refine cu b R (z) bs bl so co bv rs rm ?_;exact ar (dD b R (z)::F) rfl (have ho:BB z.L base disk=5:=by unfold BB;rw[kaU X,Y]
      .inl ⟨by unfold cr;rw[kaU J,kaT (by omega),ho];decide,by unfold cr;rw[kaU J,kaT (by omega),ho];rfl,rfl⟩)
    ·simp at Y;obtain ⟨p,hf⟩:=kcX.1 Y;rw[show (aX z.L base).getD iB=p by rw[hf];rfl];refine ai<|A<|gF 1 XQ W Xu<|gL (I p.disk) Xv<|C<|M iE<|ab<|ah ?_ ?_<;>intro h45
     ·simp at h45;refine A<|M (ba XG)<|gA<|T ?_;refine cu b R (z) bs bl so co bv rs rm ?_;exact ar (dD b R (z)::F) rfl (have ho:BB z.L base disk=3:=by unfold BB;rw[kaU X,hf];simp only;rw[kaT (by omega)]
       .inl ⟨by unfold cr;rw[kaU J,kaT (by omega),ho];decide,by unfold cr;rw[kaU J,kaT (by omega),ho];rfl,rfl⟩)
     ·simp at h45;refine ai ?_;exact cJ () (by unfold BB;rw[kaU X,hf];simp only;rw[iOm]) [0,1,2,3] rfl
   ·simp at X;refine ai ?_;exact cJ () (by unfold BB;rw[kaT X]) [0,1,2,3] rfl
  rintro _ hof;refine ac<|A<|C<|M aa<|gF 2 Yc W Zv<|gL (.map (some rs)) Zz<|M (ky ZA)<|M bE<|ab<|ah ?_ ?_<;>intro h52
  ·have O:z.ses.length=3:=(by simp[fm] at h52;omega);refine A<|M (ba XG)<|gA<|T ?_;refine cu b R (z) bs bl so co bv rs rm ?_;exact ar (dD b R (z)::F) rfl<|.inl ⟨by unfold cr;rw[kaU J,iOm,kaT O];decide,by unfold cr;rw[kaU J,iOm,kaT O];rfl,rfl⟩
  ·have O:¬z.ses.length=3:=(by simp[fm] at h52;omega);refine ai<|A<|C<|gR (vB call93 (ma b (ptr bs 0) (ptr bv 0) (.map (some rs)) (.map (some rm)) z.next (by omega)))<|T<|A<|C<|M aa<|gF 2 Yc W Zv<|gL (.map (some rs)) Zz<|C<|C<|C<|C<|M (aS (Wf base disk size))<|gI (dw #[I base,I disk,I size,sl none 0 0]) ?_;rintro _ _ ⟨V,rfl,rfl⟩;refine io (cq ZA XA) ?_;rintro _ _ rfl;rw[Fw (l:=z.ses) (e:=(⟨z.next,V,none,0,base,disk,size,[]⟩:SeE)) (λx hx=>by have:=hR.keyS x hx;show x.key≠z.next;omega)];refine aY 86 2 (dh []) ?_;refine tI (f:=BA) z.ses (⟨z.next,V,none,0,base,disk,size,[]⟩:SeE) [pcc V #[I base,I disk,I size,sl none 0 0] 168,be 86 2 none 0 (dh [])] rfl ?_;refine ab<|A<|C<|gA<|T ?_;refine cu b R (⟨z.h,z.used,z.rows,z.S,z.L,z.n,z.ses++ [⟨z.next,V,none,0,base,disk,size,[]⟩],z.mou,z.next+1⟩) bs bl so co bv rs rm ?_;exact ar (dD b R (⟨z.h,z.used,z.rows,z.S,z.L,z.n,z.ses++ [⟨z.next,V,none,0,base,disk,size,[]⟩],z.mou,z.next+1⟩)::F) rfl<|.inr ⟨by unfold cr;rw[kaU J,iOm,kaU O],V,rfl,rfl⟩
def m9 b J z id F:cqq 44 [ptr b 0,I id] (dD b J z::F) (λv L'=>(hJ z.ses id=none/\v=bQ 5/\L'=dD b J z::F)\/(∃e,hJ z.ses id=some e/\v=bQ 0/\L'=dD b J (z.sess (nW z.ses id))::F)):=by
 refine Ct.of func44 W 18 ntmps44 (by simp) λw0=>?_;refine fQ b J z ?_;intro bs bl so co bv rs rm;refine A<|T<|ac<|A<|C<|M aa<|gF 2 Yc rfl Zv<|gL (.map (some rs)) Zz<|C<|M (cW (v:= .pointer ((hJ z.ses id).map λe=>⟨e.a,0,none⟩)) ZA XA kam (by rw[oh];cases hJ z.ses id <;> rfl))<|M (vb kan)<|ab ?_;apply ah<;>intro O
 ·have V:hJ z.ses id=none:=(by simpa using O);refine A<|M (ba XG)<|T ?_;refine cu b J (z) bs bl so co bv rs rm ?_;exact ar (dD b J (z)::F) rfl<|.inl ⟨V,rfl,rfl⟩
 ·obtain ⟨e,R⟩:∃e,hJ z.ses id=some e:=kcX.1 (by cases hq:hJ z.ses id with
   | none=>rw[hq] at O;cases O
   | some _=>rfl)
  obtain ⟨he,X,hi⟩:=pN R;rw[R];refine ai<|A<|C<|M aa<|gF 2 Yc W Zv<|gL (.map (some rs)) Zz<|C<|io (iI ZA XA) ?_;rintro _ _ ⟨rfl,rfl⟩;rw[uq];refine oD (f:=BA) z.ses (nW z.ses id) kbU ?_;refine ab<|A<|T ?_;refine cu b J (⟨z.h,z.used,z.rows,z.S,z.L,z.n,nW z.ses id,z.mou,z.next⟩) bs bl so co bv rs rm ?_;exact ar (dD b J (⟨z.h,z.used,z.rows,z.S,z.L,z.n,nW z.ses id,z.mou,z.next⟩)::F) rfl<|.inr ⟨e,rfl,rfl,rfl⟩
def qJ b J z id F:cqq 49 [ptr b 0,I id] (dD b J z::F) (λv L'=>(mw z.mou id=none/\v=bQ 5/\L'=dD b J z::F)\/(∃e,mw z.mou id=some e/\v=bQ 0/\L'=dD b J (z.moun (Gr z.mou id))::F)):=by
 refine Ct.of func49 W 18 ntmps49 (by simp) λw0=>?_;refine fQ b J z ?_;intro bs bl so co bv rs rm;refine A<|T<|ac<|A<|C<|M aa<|gF 3 Yc rfl ZB<|gL (.map (some rm)) ZL<|C<|M (cW (v:= .pointer ((mw z.mou id).map λe=>⟨e.a,0,none⟩)) ZM XA kao (by rw[pM];cases mw z.mou id <;> rfl))<|M (vb underlying212)<|ab ?_;apply ah<;>intro O
 ·have V:mw z.mou id=none:=(by simpa using O);refine A<|M (ba XG)<|T ?_;refine cu b J (z) bs bl so co bv rs rm ?_;exact ar (dD b J (z)::F) rfl<|.inl ⟨V,rfl,rfl⟩
 ·obtain ⟨e,R⟩:∃e,mw z.mou id=some e:=kcX.1 (by cases hq:mw z.mou id with
   | none=>rw[hq] at O;cases O
   | some _=>rfl)
  obtain ⟨he,X,hi⟩:=pO R;rw[R];refine ai<|A<|C<|M aa<|gF 3 Yc W ZB<|gL (.map (some rm)) ZL<|C<|io (iI ZM XA) ?_;rintro _ _ ⟨rfl,rfl⟩;rw[Fy];refine oD (f:=D9) z.mou (Gr z.mou id) kbU ?_;refine ab<|A<|T ?_;refine cu b J (⟨z.h,z.used,z.rows,z.S,z.L,z.n,z.ses,Gr z.mou id,z.next⟩) bs bl so co bv rs rm ?_;exact ar (dD b J (⟨z.h,z.used,z.rows,z.S,z.L,z.n,z.ses,Gr z.mou id,z.next⟩)::F) rfl<|.inr ⟨e,rfl,rfl,rfl⟩
def sW b V z id(Z:Rok z)F:cqq 48 [ptr b 0,I id] (dD b V z::F) (λv L'=>(eT z id≠0/\v= .tuple #[I 0,bQ (eT z id)]/\L'=dD b V z::F)\/(eT z id=0/\∃a r,v= .tuple #[I z.next,bQ 0]/\L'=dD b V (z.mounted a r id)::F)):=by
 obtain ⟨G0,hC⟩:=Z.con;have hlen:=hC.v.len;have hnx:=Z.next;refine Ct.of func48 W 40 ntmps48 (by simp) λw0=>?_;refine fQ b V z ?_;intro bs bl so co bv rs rm;refine A<|gA<|T<|A<|C<|M aa<|gF 1 Yc W Za<|gL (ptr bv 0) Y6<|C<|gR (vB call92 (dp bv z.S z.L z.n id (by omega)))<|C<|gX (.agg (aW ((aX z.L id).getD iB)).toArray)<|gX (Bo (aX z.L id).isSome)<|gI (aO #[I 0,I 0,I 0,I 0] X4) ?_;rintro _ _ ⟨b6,rfl,rfl⟩;refine gU (az (cs:=#[I 0,I 0,I 0,I 0]) (vs:=aW (((aX z.L id).getD iB))) (aW (((aX z.L id).getD iB))).toArray XE (by simp) (hcs:=by exact aH))<|T<|ac<|A<|C<|M cS<|ab<|ah ?_ ?_<;>intro X
 ·simp at X;refine A<|M (ba XG)<|gA<|T ?_;refine cu b V (z) bs bl so co bv rs rm ?_;exact ar (dD b V (z)::F) rfl (have ho:eT z id=5:=by unfold eT;rw[X]
   .inl ⟨by rw[ho];decide,by rw[ho];rfl,rfl⟩)
 ·simp at X;obtain ⟨p,hf⟩:=kcX.1 X;rw[show (aX z.L id).getD iB=p by rw[hf];rfl];refine ai<|ac<|A<|C<|M aa<|gF 3 Yc W ZB<|gL (.map (some rm)) ZL<|M (ky ZM)<|M bE<|ab<|ah ?_ ?_<;>intro Y
  ·have O:z.mou.length=3:=(by simp[fo] at Y;omega);refine A<|M (ba XG)<|gA<|T ?_;refine cu b V (z) bs bl so co bv rs rm ?_;exact ar (dD b V (z)::F) rfl (have ho:eT z id=8:=by unfold eT;rw[hf];simp only;rw[kaT O]
    .inl ⟨by rw[ho];decide,by rw[ho];rfl,rfl⟩)
  ·have O:¬z.mou.length=3:=(by simp[fo] at Y;omega);refine ai<|A<|C<|gR (vB call93 (ma b (ptr bs 0) (ptr bv 0) (.map (some rs)) (.map (some rm)) z.next (by omega)))<|T<|A<|C<|M aa<|gF 3 Yc W ZB<|gL (.map (some rm)) ZL<|C<|C<|gI (fH) ?_;rintro _ _ ⟨J,rfl,rfl⟩;refine M (aS (Wg id J))<|gI (dw #[I id, .map (some J)]) ?_;rintro _ _ ⟨R,rfl,rfl⟩;refine io (cq ZM XA) ?_;rintro _ _ rfl;rw[Fx (l:=z.mou) (e:=(⟨z.next,R,J,id,[]⟩:MoE)) (λx hx=>by have:=Z.keyM x hx;show x.key≠z.next;omega)];refine tI (f:=D9) z.mou (⟨z.next,R,J,id,[]⟩:MoE) [pcc R #[I id, .map (some J)] 215,mp J []] rfl ?_;refine ab<|A<|C<|gA<|T ?_;refine cu b V (⟨z.h,z.used,z.rows,z.S,z.L,z.n,z.ses,z.mou++ [⟨z.next,R,J,id,[]⟩],z.next+1⟩) bs bl so co bv rs rm ?_;exact ar (dD b V (⟨z.h,z.used,z.rows,z.S,z.L,z.n,z.ses,z.mou++ [⟨z.next,R,J,id,[]⟩],z.next+1⟩)::F) rfl<|.inr ⟨by unfold eT;rw[hf];simp only;rw[kaU O],R,J,rfl,by unfold RpM.mounted;rfl⟩
set_option maxRecDepth 4000
def FB (D:DiskM)(z:RpM)(S':SI)(L':List Pt)(n':Int)(e:Int)(D2:DiskM)(z2:RpM):Prop:=∃h2 used2 rows2,ET D z.h z.rows (260 - 122) z.used (Uo z S' L' n') e D2 h2 used2 rows2/\z2=z.kept e h2 used2 rows2 S' L' n'
def Jn l q:(lk (Au l) q).getD (ay [])=ay ((D8 l q).getD []):=by simp_all[Jl]
def SF l q:(lk (Au l) q).isSome=(D8 l q).isSome:=by rw[Jl,kdm]
def pP (D:DiskM)(z:RpM)(id n e:Int)(D2:DiskM)(z2:RpM):Prop:=match lT z.S z.L z.n id with
 | .error f=>n=0/\e=f/\D2=D/\z2=z
 | .ok (S',L',n',r)=>FB D z S' L' n' e D2 z2/\n=if e=0 then r else 0
def fT (z:RpM)(id:Int):Int:=if (aX z.L id).isNone then 5 else if fc z id=true then 6 else 0
def oR (D:DiskM)(z:RpM)(id:Int)(e:Int)(D2:DiskM)(z2:RpM):Prop:=if fT z id≠0 then e=fT z id/\D2=D/\z2=z else ∃S' L',mY z.S z.L z.n id= .ok (S',L',z.n,0)/\FB D z S' L' z.n e D2 z2
def Hr {id}(h:fT z id=0):∃p J L',aX z.L id=some p/\fc z id=false/\mY z.S z.L z.n id= .ok (J,L',z.n,0):=by
 unfold fT at h;cases O:aX z.L id with
 | none=>rw[O] at h;simp at h
 | some p=>
  simp_all[mY]
def nY b O z id at_(Z:Rok z)F:cqq 50 [ptr b 0,I id,I at_] (dD b O z::F) (R1 (.tuple #[ay (cZ z id at_).1,bQ (cZ z id at_).2]) (dD b O z::F)):=by
 obtain ⟨G0,hC⟩:=Z.con;have hlen:=hC.v.len;have hnx:=Z.next;refine Ct.of func50 W 50 ntmps50 (by simp) λw0=>?_;refine fQ b O z ?_;intro bs bl so co bv rs rm;refine A<|gA<|T<|A<|C<|M aa<|gF 3 Yc rfl ZB<|gL (.map (some rm)) ZL<|C<|M (cW (v:= .pointer ((mw z.mou id).map λe=>⟨e.a,0,none⟩)) ZM XA kao (by rw[pM];cases mw z.mou id <;> rfl))<|T<|ac<|A<|C<|M (vb underlying212)<|ab ?_;apply ah<;>intro R
 ·have Y:mw z.mou id=none:=(by simpa using R);refine A<|M (ba XG)<|gA<|T ?_;refine cu b O (z) bs bl so co bv rs rm ?_;rw[show cZ z id at_=([],5) by unfold cZ;rw[Y]];exact am rfl rfl rfl
 ·obtain ⟨e,J⟩:∃e,mw z.mou id=some e:=kcX.1 (by cases hq:mw z.mou id with
   | none=>rw[hq] at R;cases R
   | some _=>rfl)
  obtain ⟨he,hek,hi⟩:=pO J;rw[J];refine ai<|ac ?_;refine NU z.mou _ he ?_;refine cn (Lf:=[pcc b #[ptr bs 0,ptr bv 0, .map (some rs), .map (some rm),I (z.next)] 103,pcc e.a #[I e.point, .map (some e.r)] 215]) jN ?_;refine dM W<|dV W aa<|dF W 1 Yc W Za<|dL W (ptr bv 0) Y6<|dM W<|dV W aa<|dF W 0 kad W Xu<|dL W (I e.point) Xv<|dM W<|cQ W (uB call34 (l8 bv z.S z.L z.n e.point at_ G0 hC.v)) ?_;rintro _ _ ⟨rfl,rfl⟩;refine dM W<|dV W (aB (v:=ay (j5 z.S z.L e.point at_).1))<|dV W (aB (v:=bQ (j5 z.S z.L e.point at_).2))<|dV W ax<|dV W ax ?_;refine aN ?_;refine ac<|A<|C<|M (bX XF)<|ab<|ah ?_ ?_<;>intro V
  ·have hrd:(j5 z.S z.L e.point at_).2≠0:=(by simpa using V);refine A<|C<|gA<|T ?_;refine da (f:=D9) z.mou (Ea z.mou id) e [pcc e.a #[I e.point, .map (some e.r)] 215,mp e.r (Au e.over)] hi ?_;rw[eK he];refine cu b O (z) bs bl so co bv rs rm ?_;rw[show cZ z id at_=([],(j5 z.S z.L e.point at_).2) by unfold cZ;rw[J];simp only;rw[kaT hrd]];exact am rfl rfl rfl
  ·have hrd:¬(j5 z.S z.L e.point at_).2≠0:=(by simpa using V);refine ai<|A<|C<|M aa<|gF 1 kad W ZV<|gL (.map (some e.r)) kae<|C<|M (ed (v:=ay ((D8 e.over at_).getD [])) (bb:=(D8 e.over at_).isSome) kaf XA X9 (Jn _ _) (SF _ _))<|C<|gX (ay ((D8 e.over at_).getD []))<|gX (Bo (D8 e.over at_).isSome)<|gA<|T<|ac<|A<|C<|ab<|ah ?_ ?_<;>intro X
   ·obtain ⟨t,ht⟩:=kcX.1 X;rw[ht];refine A<|C<|gA<|T ?_;refine da (f:=D9) z.mou (Ea z.mou id) e [pcc e.a #[I e.point, .map (some e.r)] 215,mp e.r (Au e.over)] hi ?_;rw[eK he];refine cu b O (z) bs bl so co bv rs rm ?_;rw[show cZ z id at_=(t,0) by unfold cZ;rw[J];simp only;rw[kaU hrd,ht]];exact am rfl rfl rfl
   ·have ht:D8 e.over at_=none:=(by simpa using X);refine ai<|A<|C<|gA<|T ?_;refine da (f:=D9) z.mou (Ea z.mou id) e [pcc e.a #[I e.point, .map (some e.r)] 215,mp e.r (Au e.over)] hi ?_;rw[eK he];refine cu b O (z) bs bl so co bv rs rm ?_;rw[show cZ z id at_=((j5 z.S z.L e.point at_).1,0) by unfold cZ;rw[J];simp only;rw[kaU hrd,ht]];exact am rfl rfl rfl
def sX b J z id at_(d:Bytes)(Y:Rok z)(Z:d.length<=9223372036854775807)F:cqq 51 [ptr b 0,I id,I at_,ay d] (dD b J z::F) (λv L'=>(dE z id at_ d≠0/\v=bQ (dE z id at_ d)/\L'=dD b J z::F)\/(dE z id at_ d=0/\v=bQ 0/\L'=dD b J (z.written id at_ d)::F)):=by
 refine Ct.of func51 W 36 ntmps51 (by simp) λw0=>?_;refine A<|T<|A<|C<|C<|C<|gR (vB call50 (nY b J z id at_ Y))<|C<|gX (ay (cZ z id at_).1)<|gX (bQ (cZ z id at_).2)<|gA<|T<|ac<|A<|C<|M (bX XF)<|ab<|ah ?_ ?_<;>intro R
 ·have hrd:(cZ z id at_).2≠0:=(by simpa using R);refine A<|C<|T ?_;exact ar (dD b J z::F) rfl<|.inl ⟨by unfold dE;rw[kaT hrd];exact hrd,by unfold dE;rw[kaT hrd];rfl,rfl⟩
 ·have hrd:(cZ z id at_).2=0:=(by simpa using R);refine ai<|ac<|A<|C<|M (cD Xz)<|M aQ<|ab<|ah ?_ ?_<;>intro V
  ·have X:6<d.length:=(by simp at V;omega);refine A<|M (ba XG)<|T ?_;exact ar (dD b J z::F) rfl<|.inl ⟨by unfold dE;rw[iOm,kaT X];decide,by unfold dE;rw[iOm,kaT X];rfl,rfl⟩
  ·have X:¬6<d.length:=(by simp at V;omega);refine ai<|ac ?_;refine fQ b J z ?_;intro bs bl so co bv rs rm;obtain ⟨e,O⟩:∃e,mw z.mou id=some e:=by
    cases hq:mw z.mou id with
    | none=>exact absurd (show (cZ z id at_).2=5 by unfold cZ;rw[hq]) (by omega)
    | some e=>exact ⟨e,rfl⟩
   obtain ⟨he,hek,hi⟩:=pO O;refine NU z.mou _ he ?_;refine al<|C<|M aa<|gF 3 Yc W ZB<|gL (.map (some rm)) ZL<|C<|M (cW (v:=ptr e.a 0) ZM XA kao (by rw[pM,O];rfl))<|M aa<|gF 1 kad W ZV<|gL (.map (some e.r)) kae<|C<|C<|io (cq kaf XA) ?_;rintro _ _ rfl;rw[Jm];refine ab<|A<|T ?_;refine da (f:=D9) z.mou (Ea z.mou id) ⟨e.key,e.a,e.r,e.point,Hq e.over at_ d⟩ [pcc e.a #[I e.point, .map (some e.r)] 215,mp e.r (Au (Hq e.over at_ d))] hi ?_;rw[<-FA (e':=⟨e.key,e.a,e.r,e.point,Hq e.over at_ d⟩) he rfl rfl];refine cu b J (⟨z.h,z.used,z.rows,z.S,z.L,z.n,z.ses,z.mou.set (Ea z.mou id) ⟨e.key,e.a,e.r,e.point,Hq e.over at_ d⟩,z.next⟩) bs bl so co bv rs rm ?_;exact ar (dD b J ⟨z.h,z.used,z.rows,z.S,z.L,z.n,z.ses,z.mou.set (Ea z.mou id) ⟨e.key,e.a,e.r,e.point,Hq e.over at_ d⟩,z.next⟩::F) rfl<|.inr ⟨by unfold dE;rw[iOm,kaU X],rfl,by unfold RpM.written RpM.moun;rw[O]⟩
def sY b R i z id(hR:Rok z)D(hD:Dk i D z)(hi:i<=100000)F:cqq 45 [ptr b 0,I id] (bo ee::dD b R z::cj 179 319 R (D)::F) (λv L'=>∃n e Y z2,pP D z id n e Y z2/\v= .tuple #[I n,bQ e]/\L'=dD b R z2::cj 179 319 R (Y)::bo ee::F):=by
 obtain ⟨G0,hC⟩:=hR.con;have hlen:=hC.v.len;have hnx:=hR.next;refine Ct.of func45 W 29 ntmps45 (by simp) λw0=>?_;refine A<|gA<|T<|ac ?_;refine fQ b R z ?_;intro bs bl so co bv rs rm;refine al<|C<|M aa<|gF 1 Yc W Za<|gL (ptr bv 0) Y6<|gI (uB call66 (gg bv z.S z.L z.n (by omega))) ?_;rintro _ _ ⟨q,rfl,rfl⟩;refine T ?_;refine cu b R (z) bs bl so co bv rs rm ?_;refine A<|C<|C<|gI (uB call122 (qD q z.S z.L z.n id G0 hC.v)) ?_;rintro v L' hv;unfold vR at hv;rcases hr:lT z.S z.L z.n id with e0 | ⟨S1,L1,n1,r1⟩ <;> rw[hr] at hv <;> obtain ⟨rfl,rfl⟩:=hv
 ·have he0:=Fp hr;refine C<|gX (I 0)<|gX (bQ e0)<|gA<|T<|ac<|A<|C<|M (fX (ec:=117) (f:=e0) XF)<|ab<|ah ?_ ?_<;>intro Z
  ·simp at Z;omega
  ·refine ai<|ac<|A<|C<|M (bX XF)<|ab<|ah ?_ ?_<;>intro V
   ·refine A<|C<|gA<|T ?_;exact ar (dD b R z::cj 179 319 R (D)::bo ee::F) rfl ⟨0,e0,D,z,by unfold pP;rw[hr];exact ⟨rfl,rfl,rfl,rfl⟩,rfl,rfl⟩
   ·simp at V;omega
 ·obtain ⟨G1,hC1⟩:=qF hC hr;refine C<|gX (I r1)<|gX (bQ 0)<|gA<|T<|ac<|A<|C<|M (fX (ec:=117) (f:=0) XF)<|ab<|ah ?_ ?_<;>intro Z
  ·refine al<|C<|C<|gI (uE (A0:=bo ee) call97 (kK b R q i D z (S1) (L1) (n1) G0 G1 hC hC1 hD hi)) ?_;rintro _ _ ⟨e,Y,h2,O,J,X,rfl,rfl⟩;refine T<|ac<|A<|C<|M (bX XF)<|ab<|ah ?_ ?_<;>intro V
   ·have he:¬e=0:=(by simpa using V);refine A<|C<|gA<|T ?_;exact ar (dD b R (z.kept e h2 O J S1 L1 n1)::cj 179 319 R (Y)::bo ee::F) rfl ⟨0,e,Y,_,by unfold pP;rw[hr];exact ⟨⟨h2,O,J,X,rfl⟩,by rw[kaU he]⟩,rfl,rfl⟩
   ·have he:e=0:=(by simpa using V);refine ai<|A<|C<|gA<|T ?_;exact ar (dD b R (z.kept e h2 O J S1 L1 n1)::cj 179 319 R (Y)::bo ee::F) rfl ⟨r1,e,Y,_,by unfold pP;rw[hr];exact ⟨⟨h2,O,J,X,rfl⟩,by rw[kaT he]⟩,by rw[he];rfl,rfl⟩
  ·simp at Z
def nZ b J i z id(hR:Rok z)D(hD:Dk i D z)(hi:i<=100000)F:cqq 46 [ptr b 0,I id] (bo ee::dD b J z::cj 179 319 J (D)::F) (λv L'=>∃e D2 z2,oR D z id e D2 z2/\v=bQ e/\L'=dD b J z2::cj 179 319 J (D2)::bo ee::F):=by
 obtain ⟨G0,hC⟩:=hR.con;have hlen:=hC.v.len;have hnx:=hR.next;refine Ct.of func46 W 39 ntmps46 (by simp) λw0=>?_;refine A<|T<|ac ?_;refine fQ b J z ?_;intro bs bl so co bv rs rm;refine al<|C<|M aa<|gF 1 Yc W Za<|gL (ptr bv 0) Y6<|C<|gR (vB call92 (dp bv z.S z.L z.n id (by omega)))<|C<|gX (.agg (aW ((aX z.L id).getD iB)).toArray)<|gX (Bo (aX z.L id).isSome)<|gI (aO #[I 0,I 0,I 0,I 0] X4) ?_;rintro _ _ ⟨b5,rfl,rfl⟩;refine gU (az (cs:=#[I 0,I 0,I 0,I 0]) (vs:=aW (((aX z.L id).getD iB))) (aW (((aX z.L id).getD iB))).toArray XE (by simp) (hcs:=by exact aH))<|T<|ac<|A<|C<|M cS<|ab<|ah ?_ ?_<;>intro X
 ·simp at X;refine A<|M (ba XG)<|T ?_;refine cu b J (z) bs bl so co bv rs rm ?_;have O:fT z id=5:=(by unfold fT;rw[X];rfl);exact ar (dD b J z::cj 179 319 J (D)::bo ee::F) rfl ⟨5,D,z,by unfold oR;rw[kaT (by omega),O];exact ⟨rfl,rfl,rfl⟩,rfl,rfl⟩
 ·simp at X;obtain ⟨p,hf⟩:=kcX.1 X;rw[show (aX z.L id).getD iB=p by rw[hf];rfl];refine ai<|ac<|ac ?_;refine cu b J (z) bs bl so co bv rs rm ?_;refine al<|C<|C<|gR (vB call123 (nX b J z id))<|ab<|ah ?_ ?_<;>intro h23
  ·have Z:fc z id=true:=h23;refine A<|M (ba XG)<|T ?_;have O:fT z id=6:=(by unfold fT;rw[hf,Z];rfl);exact ar (dD b J z::cj 179 319 J (D)::bo ee::F) rfl ⟨6,D,z,by unfold oR;rw[kaT (by omega),O];exact ⟨rfl,rfl,rfl⟩,rfl,rfl⟩
  ·have Z:fc z id=false:=(by simpa using h23);have O:fT z id=0:=(by unfold fT;rw[hf,Z];rfl);refine ai<|ac ?_;refine fQ b J z ?_;intro bs bl so co bv rs rm;refine al<|C<|M aa<|gF 1 Yc W Za<|gL (ptr bv 0) Y6<|gI (uB call66 (gg bv z.S z.L z.n (by omega))) ?_;rintro _ _ ⟨q,rfl,rfl⟩;refine T ?_;refine cu b J (z) bs bl so co bv rs rm ?_;refine A<|C<|C<|gI (uB call124 (rN q z.S z.L z.n id G0 hC.v)) ?_;obtain ⟨p1,S1,L1,hf1,hus1,Y⟩:=Hr (z:=z) (id:=id) O;obtain ⟨G1,hC1⟩:=zi hC Y;rintro v L' hv;unfold Vi at hv;rw[Y] at hv;obtain ⟨rfl,rfl⟩:=hv;refine T<|ac<|A<|C<|M (fX (ec:=117) (f:=0) XF)<|ab<|ah ?_ ?_<;>intro h34
   ·refine al<|C<|C<|gI (uE (A0:=bo ee) call97 (kK b J q i D z (S1) (L1) (z.n) G0 G1 hC hC1 hD hi)) ?_;rintro _ _ ⟨e,D2,h2,V,R,hcom,rfl,rfl⟩;refine T<|A<|C<|T ?_;exact ar (dD b J (z.kept e h2 V R S1 L1 z.n)::cj 179 319 J (D2)::bo ee::F) rfl ⟨e,D2,_,by unfold oR;rw[iOm];exact ⟨S1,L1,Y,h2,V,R,hcom,rfl⟩,rfl,rfl⟩
   ·simp at h34
set_option maxRecDepth 4000
def SG (l:List PutM)(id:Int):Option PutM:=l.find? λp=>decide (p.at_=id)
def Hs (l:List PutM)(id:Int):Nat:=l.findIdx λp=>decide (p.at_=id)
def LJ (l:List PutM)(id:Int):Int:=if Hs l id<l.length then (Hs l id:Int) else -1
variable {l:List PutM}{s:PutM}
theorem Rp {id}(J:∀j,j<k->∀t,l[j]? =some t->t.at_≠id)(hs:l[k]? =some s)(he:s.at_=id):LJ l id=k:=by
 grind[Hs,List.findIdx_eq,LJ]
def FC {id}(J:∀j,j<l.length->∀t,l[j]? =some t->t.at_≠id):LJ l id= -1:=by
 unfold LJ;rw[kaU];intro h;have:=kc0 (w:=h);simp at this;exact J _ h _ (kbN h) this
theorem Rq {id}(h:¬LJ l id<0):∃i s,LJ l id=((i:Nat):Int)/\l[i]? =some s/\s.at_=id/\i<l.length/\SG l id=some s/\∀j,j<i->∀t,l[j]? =some t->t.at_≠id:=by
 unfold LJ at h ⊢;split at h
 ·rename_i hl;have J:l[Hs l id].at_=id:=kd0 (kc0 (p:=λp:PutM=>decide (p.at_=id)) (w:=hl));have O:∀j,j<Hs l id->∀t,l[j]? =some t->t.at_≠id:=λj hj t ht=>by
   have h1:=kc1 hj
   grind
  refine ⟨Hs l id,l[Hs l id],by rw[kaT hl],kbN hl,J,hl,?_,O⟩
  grind[SG,List.find?_eq_some_iff_getElem]
 ·omega
structure DlU (l R:List PutM) (id:Int) (w j:Nat):Prop where
 len:R.length=l.length
 lj:j<=l.length
 lw:w<=j
 pre:R.take w=(l.take j).filter λx=>!decide (x.at_=id)
 suf:R.drop j=l.drop j
variable {R:List PutM}{w:Nat}{x:PutM}
def NX {id j}(h:DlU l R id w j)(hx:R[j]? =some x):l[j]? =some x:=by
 have h1:(R.drop j)[0]? =some x:=(by simpa using hx);rw[h.suf] at h1;simpa using h1
def NY {id j}(h:DlU l R id w j)(hx:R[j]? =some x)(J:x.at_=id):DlU l R id w (j+1):=by
 have hl:=NX h hx;have hj:=(kaz.1 hl).1;refine ⟨h.len,hj,by have:=h.lw;omega,?_,?_⟩
 ·rw[kdb,hl,kb9,h.pre];simp[J]
 ·rw[<-kc7,<-kc7,h.suf]
def N0 {id j}(h:DlU l R id w j)(S:w<j)(hx:R[j]? =some x)(O:x.at_≠id):DlU l (R.set w x) id (w+1) (j+1):=by
 have hl:=NX h hx;have hj:=(kaz.1 hl).1;have J:=h.len;refine ⟨by simp[J],hj,by omega,?_,?_⟩
 ·rw[kdb (l:=l),hl,kb9,<-h.pre,kdb,kde (kax _),kaK (by omega)];simp[O]
 ·rw[kdf (by omega),<-kc7,<-kc7,h.suf]
def Jo {id}(h:DlU l R id w l.length):R.take w=l.filter λx=>!decide (x.at_=id):=by rw[h.pre,kbl]
def Dr {id}(O:∀j,j<l.length->∀t,l[j]? =some t->t.at_≠id):l.filter (λx=>!decide (x.at_=id))=l:=kb4.2 λa J=>by
 obtain ⟨j,hj,rfl⟩:=kdd.1 J
 simp_all
def Jp {id}(h:LJ l id<0):∀j,j<l.length->∀t,l[j]? =some t->t.at_≠id:=λj hj t ht he=>by
 unfold LJ at h;split at h
 ·omega
 ·rename_i hl;exact hl<|kc3 ⟨t,kbe ht,by simpa using he⟩
def N1 {id}(h:LJ l id<0):LJ l id= -1:=FC (Jp h)
theorem Rr (l:List PutM)id(O:∀j,j<i->∀t,l[j]? =some t->t.at_≠id)(hs:l[i]? =some s)(he:s.at_=id):(l.take (i+1)).filter (λx=>!decide (x.at_=id))=l.take i:=by
 have hi:=(kaz.1 hs).1;rw[kdb,hs,kb9];have h1:(l.take i).filter (λx=>!decide (x.at_=id))=l.take i:=kb4.2 λa J=>by
  obtain ⟨j,hj,rfl⟩:=kdd.1 J
  grind
 rw[h1];simp[he]
def Lb {id}(J:∀j,j<i->∀t,l[j]? =some t->t.at_≠id)(hs:l[i]? =some s)(he:s.at_=id):DlU l l id i (i+1):=
 ⟨rfl,(kaz.1 hs).1,by omega,(Rr l id J hs he).symm,rfl⟩
def N2 l w x:(dh l).set w (j2 x)=dh (l.set w x):=by simp[dh,kbj]
def Lc l w:(dh l).take w=dh (l.take w):=by simp[dh,kdg]
def Jq n(s:Bytes)w:(Instr.build 86 #[(0,I n),(1,ay s)]).run Tryz.prog w= .ok (.agg (j2 ⟨n,s⟩).toArray) w:=by
 simp[Instr.build,Zp,runUnderlying86,Xu,Xx,Instr.fill,bB,j2,show ∀k:Int,(I k).cells=#[I k] from λ_=>rfl,show (ay s).cells=#[ay s] from rfl]
def ez (z:RpM)(id at_:Int)(d:Bytes):Int:=match hJ z.ses id with
 | none=>5
 | some e=>if at_<0\/e.size<=at_ then 1 else if 6<d.length then 2 else 0
def j7 (l:List PutM)(at_:Int)(d:Bytes):List PutM:=l.filter (λx=>!decide (x.at_=at_))++ [⟨at_,d⟩]
def RpM.putted (z:RpM)(id at_:Int)(d:Bytes)(so:Option Addr)(co:Nat):RpM:=match hJ z.ses id with
 | none=>z
 | some e=>z.sess (z.ses.set (xM z.ses id) ⟨e.key,e.a,so,co,e.base,e.disk,e.size,j7 e.puts at_ d⟩)
def zw (D:DiskM)(z:RpM)(id n e:Int)(D2:DiskM)(z2:RpM):Prop:=match hJ z.ses id with
 | none=>n=0/\e=5/\D2=D/\z2=z
 | some s=>match gw z.S z.L z.n s.base s.disk s.size s.puts with
  | .error f=>n=0/\e=f/\D2=D/\z2=z
  | .ok (S',L',n',r)=>∃y,FB D z S' L' n' e D2 y/\n=(if e=0 then r else 0)/\z2=if e=0 then y.sess (nW y.ses id) else y
def ur x q id F:cqq 95 [.agg (j2 x).toArray,ptr q 0] (pcc q #[I id] 3::F) (R1 (Bo (decide (x.at_=id))) (pcc q #[I id] 3::F)):=by
 refine Ct.of func95 W 8 ntmps95 (by simp) λw0=>?_;refine A<|gI (dw (j2 x).toArray) ?_;rintro _ _ ⟨J,rfl,rfl⟩;refine T<|A<|gF 0 Y7 W Xu<|gL (I x.at_) Xv<|gL (I id) Xv<|M bE<|T ?_;refine am W W ?_;exact rfl
def vX l s c q id(hl:l.length<=1000000)F:cqq 167 [sl s l.length c, .func (.func 95) #[] #[ptr q 0]] (be 86 2 s c (dh (l))::pcc q #[I id] 3::F) (R1 (I (LJ l id)) (be 86 2 s c (dh (l))::pcc q #[I id] 3::F)):=by
 refine Ct.of func167 W 19 ntmps167 (by simp) λw0=>?_;refine A<|T<|ac<|A<|C<|M (aP Yq)<|C<|ab<|ak ?_;refine aL (α:=Nat) (λk=>k<=l.length/\∀j,j<k->∀t,l[j]? =some t->t.at_≠id) (λk=>U [(0,sl s l.length c),(1, .func (.func 95) #[] #[ptr q 0]),(7,I l.length),(8,I k)]) (λ_=>be 86 2 s c (dh (l))::pcc q #[I id] 3::F) (λk=>l.length - k) 0 ⟨by simp,λj hj=>absurd hj (by omega)⟩ [0,1,7,8] rfl ?_;rintro k ⟨hk,R⟩;refine A<|M aG<|ab<|ac<|ah ?_ ?_<;>intro S
 ·simp at S;have O:k<l.length:=(by omega);obtain ⟨x,hx⟩:∃x,l[k]? =some x:=⟨_,kbN O⟩;refine ai<|ac<|ak<|A<|C<|T<|A<|C<|C<|C<|M (av (k) Yq Yg O (by rw[df];exact O))<|M (bO (row:=j2 x) ZW Yg (kx hx)) ?_;refine gI (gc (fi:=[]) (cap:=[ptr q 0]) (Pre:=[pcc q #[I id] 3]) call95 W W (ur x q id)) ?_;rintro _ _ ⟨rfl,rfl⟩;refine ab<|ah ?_ ?_<;>intro J
  ·simp at J;refine A<|C<|T ?_;refine am W W ?_;show I _=I _;rw[Rp R hx J]
  ·simp at J;refine ai<|aE<|al<|gP<|C<|ab ?_;exact an (k+1) ⟨by omega,λj hj t ht=>by
    rcases ka3 j k with h | h
    ·exact R j h t ht
    ·obtain rfl:j=k:=(by omega);rw[hx] at ht;injection ht with ht;rw[<-ht];exact J⟩ (by omega) [0,1,7,8] rfl
 ·simp at S;obtain rfl:k=l.length:=(by omega);refine aF ?_;refine A<|T ?_;refine am W W ?_;show I _=I _;rw[FC R]
def uu L s c q id(hl:L.length<=1000000)F:cqq 94 [sl s L.length c, .func (.func 95) #[] #[ptr q 0]] (be 86 2 s c (dh (L))::pcc q #[I id] 3::F) (R1 (sl s (L.filter λx=>!decide (x.at_=id)).length c) (be 86 2 s c (dh ((L.filter λx=>!decide (x.at_=id))))::pcc q #[I id] 3::F)):=by
 refine Ct.of func94 W 42 ntmps94 (by simp) λw0=>?_;refine mC s<|λY=>?_;rw[df] at Y;refine A<|T<|A<|C<|C<|gR (vC call167 (vX L s c q id hl))<|T<|ac<|A<|C<|M bE<|ab<|ah ?_ ?_<;>intro S
 ·simp at S;rw[show (L.filter λx=>!decide (x.at_=id))=L from Dr (Jp (by omega))];refine A<|C<|T ?_;exact am rfl rfl rfl
 ·simp at S;obtain ⟨i,p,hi,hp,hid,hil,hf,hno⟩:=Rq (l:=L) (id:=id) (λh=>S (N1 h));rw[hi];refine ai<|ac<|A<|C<|gP<|T ?_;rw[show ((i:Nat):Int)+1=((i+1:Nat):Int) by omega];refine ak ?_;refine aL (α:=Nat×Nat×List PutM) (λz=>DlU L z.2.2 id z.2.1 z.1/\z.2.1<z.1) (λz=>U [(0,sl s L.length c),(1, .func (.func 95) #[] #[ptr q 0]),(5,I z.2.1),(6,I z.1)]) (λz=>be 86 2 s c (dh z.2.2)::pcc q #[I id] 3::F) (λz=>L.length - z.1) (i+1,i,L) ⟨Lb hno hp hid,by simp only[];omega⟩ [0,1,5,6] rfl ?_;rintro ⟨j,w,R⟩ ⟨J,Z⟩;simp only[] at J Z ⊢;have hjl0:=J.lj;refine ac<|A<|C<|C<|M (aP Yq)<|M aG<|ab<|ah ?_ ?_<;>intro X
  ·simp at X;have V:j<L.length:=(by omega);have hwl:w<L.length:=(by omega);obtain ⟨x,hx⟩:∃x,R[j]? =some x:=⟨_,kbN (by rw[J.len];exact V)⟩;refine ai<|ac<|ak<|A<|C<|C<|M (av (j) Yq Yg V (by rw[df,J.len];exact V))<|M (bO (row:=j2 x) ZW Yg (kx hx))<|gI (aO #[I 0,ay []] Zp) ?_;rintro _ _ ⟨b7,rfl,rfl⟩;refine gU (az (cs:=#[I 0,ay []]) (vs:=j2 (x)) (j2 (x)).toArray Yg (by simp[j2]) (hcs:=by exact aH))<|ab<|A<|C<|M (bj (vs:=j2 x) ZW Yg bM) ?_;refine gI (gc (fi:=[]) (cap:=[ptr q 0]) (Pre:=[pcc q #[I id] 3]) call95 W W (ur x q id)) ?_;rintro _ _ ⟨rfl,rfl⟩;refine M cS<|ab<|ah ?_ ?_<;>intro O
   ·simp at O;refine A<|C<|C<|M (bj (vs:=j2 x) ZW Yg bM)<|M (av (w) Yq Yg hwl (by rw[df,J.len];exact hwl))<|io (ve (j:=w) (vs:=j2 x) Yg W W W W (by rw[df,J.len];omega) (by decide)) ?_;rintro _ _ rfl;rw[N2];refine ab<|al<|C<|gP<|T<|aE<|al<|C<|gP<|T ?_;exact an (j+1,w+1,R.set w x) ⟨N0 J Z hx O,by simp only[];omega⟩ (by simp only[];omega) [0,1,5,6] rfl
   ·simp at O;refine ai<|aE<|al<|C<|gP<|T ?_;exact an (j+1,w,R) ⟨NY J hx O,by simp only[];omega⟩ (by simp only[];omega) [0,1,5,6] rfl
  ·simp at X;obtain rfl:j=L.length:=(by omega);refine aF ?_;refine ac ?_;refine oN s w ?_;rw[Lc,Jo J];have hfl:(L.filter λx=>!decide (x.at_=id)).length=w:=(by rw[<-Jo J,kbq];have:=J.len;omega);refine al<|C<|C<|M (iG (l:=w) Yq Yg W W W (by omega))<|io (nD (sz:=2) (l:=w) s Yq Zp W W (by unfold At;split;exact .inr (.inr (by omega));exact .inr (.inl W)) (by rw[df];omega) (by omega)) ?_;rintro _ _ ⟨rfl,rfl⟩;refine ab<|A<|C<|C<|M (lO (h:=w) Yq Yg W W W (by omega))<|T ?_;exact am rfl rfl (by rw[hfl];rfl)
def pQ b S L n base disk size puts sp cp G0(hV:Vok S L n G0)(hpl:puts.length<=1000000)(hpd:∀p∈puts,p.data.length<=9223372036854775807)F:cqq 96 [ptr b 0,I base,I disk,I size,sl sp puts.length cp] (iq b S L n::be 86 2 sp cp (dh puts)::F) (vR iq (fA 117) b (be 86 2 sp cp (dh puts)::F) (gw S L n base disk size puts)):=by
 have hok:=lh hV;have hll:=hV.len;have hn1:=hV.n1;have hrl:(L.map (·.root)).length<=8:=(by simp;omega);refine Ct.of func96 W 102 ntmps96 (by simp) λw0=>?_;refine A<|gA<|T<|ac<|A<|C<|M aG<|C<|gK ao<|gK aQ<|M cv<|C<|gK ao<|gK aG<|M cv<|C<|gK ao<|gK aQ<|M cv<|ab<|ah ?_ ?_<;>intro h31
 ·simp at h31;have O:disk<1\/999<disk\/size<1\/16<size:=(by omega);refine A<|M (ba XG)<|gA<|T ?_;exact eF rfl (by unfold gw;rw[kaT O]) rfl rfl
 ·simp at h31;have O:¬(disk<1\/999<disk\/size<1\/16<size):=(by omega);refine ai<|A<|C<|C<|C<|C<|gI (uB call168 (rL b S L n base disk size G0 hV (by omega))) ?_;rintro v L' hv;unfold vR y5 at hv;rcases hb:gH S L base disk size with e0 | ⟨z1,z2⟩ <;> rw[hb] at hv <;> obtain ⟨rfl,rfl⟩:=hv
  ·have he0:=Bs hb;refine C<|gX (I 0)<|gX (fA 117 e0)<|gA<|T<|ac<|A<|C<|M (bX XF)<|ab<|ah ?_ ?_<;>intro Z
   ·refine A<|C<|gA<|T ?_;exact eF rfl (by unfold gw;rw[kaU O,hb]) rfl rfl
   ·simp at Z;omega
  ·obtain ⟨G2,hz,hR2,_,_⟩:=y0 hV (by omega) hb;simp only at hz hR2;subst hz;refine ge b (bH G2) L n ?_;intro x s c;refine C<|gX (I z2)<|gX (fA 117 0)<|gA<|T<|ac<|A<|C<|M (bX XF)<|ab<|ah ?_ ?_<;>intro Z
   ·simp at Z
   ·refine ai<|ac<|A<|C<|M (aP Yq)<|C<|ab<|ak ?_;refine aL (α:=Nat×Gh×Int) (λz=>z.1<=puts.length/\Rt z.2.1 (z.2.2::L.map (·.root))/\ey size (bH z.2.1,z.2.2) (puts.drop z.1)=ey size (bH G2,z2) puts) (λz=>U [(0,ptr b 0),(2,I disk),(3,I size),(12,I z.2.2),(44,sl sp puts.length cp),(45,I puts.length),(46,I z.1)]) (λz=>pcc b #[ptr x 0,sl s (L).length c,I (n)] 123::lM x (bH z.2.1)::be 162 4 s c (gb (L))::be 86 2 sp cp (dh puts)::F) (λz=>puts.length - z.1) (0,G2,z2) ⟨by simp,hR2,by simp⟩ [0,2,3,12,44,45,46] rfl ?_;rintro ⟨k,G,root⟩ ⟨hk,hR,J⟩;simp only[] at hk hR J ⊢;have Y:=KU hR (m:=200) (by simp;omega);refine A<|M aG<|ab<|ac<|ah ?_ ?_<;>intro h47
    ·simp at h47;have hkn:k<puts.length:=(by omega);obtain ⟨p,hp⟩:∃p,puts[k]? =some p:=⟨_,kbN hkn⟩;have hpd1:=hpd p (kbe hp);refine ai<|ac<|ak<|A<|M (av k Yq Yg hkn (by rw[df];exact hkn))<|M (bO (row:=j2 p) ZW Yg (kx hp))<|gI (aO #[I 0,ay []] Zp) ?_;rintro _ _ ⟨b15,rfl,rfl⟩;refine gU (az (cs:=#[I 0,ay []]) (vs:=j2 p) (j2 p).toArray Yg (by simp[j2]) (hcs:=by exact aH))<|ab<|ac<|A<|gF 0 Y7 W Xu<|gL (I p.at_) Xv<|M aG<|C<|gK (aw 0 Y7 W Xu)<|gK (aA (v:=I p.at_) Xv)<|gK ao<|gK kp<|M cv<|ab<|ah ?_ ?_<;>intro h58
     ·simp at h58;refine A<|M (ba XG)<|gA<|T ?_;exact eF rfl (by
       unfold gw;rw[kaU O,hb];simp only;rw[<-J,i6 hp];simp only[ey];rw[kaT (by omega)]) rfl rfl
     ·simp at h58;have han:(p.at_.toNat:Int)=p.at_:=(by omega);refine ai<|ac<|ac<|gD (Lf:=[pcc b #[ptr x 0,sl s (L).length c,I (n)] 123,pcc b15 (j2 p).toArray 86]) (plN [0,2,4,6,8,10,12,16,18,15,20])<|dM W<|dV W aa<|dF W 0 XK W X7<|dL W (ptr x 0) Yb<|dM W<|dF W 0 Y7 W Xu<|dV W (aA (v:=I (p.at_.toNat:Int)) Xv (hv:=⟨by rw[han];rfl⟩))<|dF W 1 Y7 W Xx<|dL W (ay p.data) XD<|cQ W (uB call98 (j4 x (bH G) root p.at_.toNat 200 Y (by decide) (by omega))) ?_;rintro _ _ ⟨rfl,rfl⟩;refine dV W bV ?_;refine aN<|ah ?_ ?_<;>intro R
      ·simp at R;refine aF ?_;refine al<|gP<|C<|ab ?_;exact an (k+1,G,root) ⟨by simp only[];omega,hR,by
        rw[<-J,i6 hp];simp only[ey];rw[iOm,kaT R]⟩ (by simp only[];omega) [0,2,3,12,44,45,46] rfl
      ·simp at R;refine ai<|ac ?_;refine cn (Lf:=[pcc b #[ptr x 0,sl s (L).length c,I (n)] 123,pcc b15 (j2 p).toArray 86]) jN ?_;refine dM W<|dV W aa<|dF W 0 XK W X7<|dL W (ptr x 0) Yb<|dM W<|dF W 0 Y7 W Xu<|dV W (aA (v:=I (p.at_.toNat:Int)) Xv (hv:=⟨by rw[han];rfl⟩))<|dF W 1 Y7 W Xx<|dL W (ay p.data) XD<|cQ W (uB call169 (mR x (bH G) root p.at_.toNat p.data 200 Y (by decide) (by omega) hpd1 (xE hR.V (nq hR (by simp))))) ?_;rintro _ _ ⟨rfl,rfl⟩;refine dM W<|dV W (aB (v:=I (dH (bH G) root p.at_.toNat p.data).1))<|dV W (aB (v:=fA 117 (dH (bH G) root p.at_.toNat p.data).2))<|dV W ax<|dV W ax ?_;refine aN ?_;refine ac<|A<|C<|M (bX XF)<|ab<|ah ?_ ?_<;>intro X
       ·simp at X;refine A<|C<|gA<|T ?_;exact eF rfl (by
         unfold gw;rw[kaU O,hb];simp only;rw[<-J,i6 hp];simp only[ey,put1];rw[iOm,kaU R,kaU X]) rfl rfl
       ·simp at X;obtain ⟨G1,G3,hu1,o1,r1,v1,hu2,hR3,_,_⟩:=nT hR hrl (by omega) X;rw[hu1];refine ai<|A<|C<|M aa<|gF 0 XK W X7<|gL (ptr x 0) Yb<|C<|gR (vB call170 (jn x (bH G1) root 200 o1 (by decide))) ?_;rw[hu2];refine ab<|al<|C<|T<|aE<|al<|gP<|C<|ab ?_;exact an (k+1,G3,(dH (bH G) root p.at_.toNat p.data).1) ⟨by simp only[];omega,hR3,by
         rw[<-J,i6 hp];simp only[ey,put1];rw[iOm,kaU R,kaT X,hu1,hu2]⟩ (by simp only[];omega) [0,2,3,12,44,45,46] rfl
    ·simp at h47;obtain rfl:k=puts.length:=(by omega);rw[kcz] at J;refine aF ?_;refine ac ?_;refine cF b x s c (bH G) (L) (n) ?_;refine al<|C<|C<|C<|C<|gR (vB call171 (mZ b (bH G) L n disk size root (by omega) (by omega)))<|gX (I (j6 L n))<|gX (fA 117 (fb L n))<|gA<|T ?_;by_cases ha:fb L n=0
     ·rw[show j6 L n=n by unfold j6;rw[kaT ha],show kc L n disk size root=L++ [⟨n,disk,size,root⟩] by unfold kc;rw[kaT ha],show oM L n=n+1 by unfold oM;rw[kaT ha],ha];exact nU (S:=bH G) (P:=L++ [⟨n,disk,size,root⟩]) (n:=n+1) rfl (by
       unfold gw;rw[kaU O,hb];simp only;rw[<-J];simp only[ey];rw[iOm]) rfl rfl
     ·rw[show j6 L n=0 by unfold j6;rw[kaU ha]];exact eF rfl (by
       unfold gw;rw[kaU O,hb];simp only;rw[<-J];simp only[ey];rw[kaT ha]) rfl rfl
def vY b V z id at_(d:Bytes)(hR:Rok z)(hdl:d.length<=9223372036854775807)F:cqq 32 [ptr b 0,I id,I at_,ay d] (dD b V z::F) (λv L'=>(ez z id at_ d≠0/\v=bQ (ez z id at_ d)/\L'=dD b V z::F)\/(ez z id at_ d=0/\∃so co,v=bQ 0/\L'=dD b V (z.putted id at_ d so co)::F)):=by
 refine Ct.of func32 W 58 ntmps32 (by simp) λw0=>?_;refine fQ b V z ?_;intro bs bl so co bv rs rm;refine A<|gI (dw #[I at_]) ?_;rintro _ _ ⟨b6,rfl,rfl⟩;refine T<|A<|C<|M aa<|gF 2 Yc rfl Zv<|gL (.map (some rs)) Zz<|C<|M (cW (v:= .pointer ((hJ z.ses id).map λe=>⟨e.a,0,none⟩)) ZA XA kam (by rw[oh];cases hJ z.ses id <;> rfl))<|T<|ac<|ak<|A<|C<|M (vb kan)<|T ?_;apply ah<;>intro Y
 ·have hno:hJ z.ses id=none:=(by simpa using Y);refine A<|M (ba XG)<|T ?_;refine cu b V (z) bs bl so co bv rs rm ?_;exact ar (dD b V (z)::F) rfl (have ho:ez z id at_ d=5:=by unfold ez;rw[hno]
   .inl ⟨by rw[ho];decide,by rw[ho];rfl,rfl⟩)
 ·obtain ⟨e,R⟩:∃e,hJ z.ses id=some e:=kcX.1 (by cases hq:hJ z.ses id with
   | none=>rw[hq] at Y;cases Y
   | some _=>rfl)
  obtain ⟨he,hek,hi⟩:=pN R;rw[R];refine ac ?_;refine NS z.ses _ he ?_;refine cn (Lf:=[pcc e.a #[I e.base,I e.disk,I e.size,sl e.so (e.puts.length) e.co] 168,pcc b6 #[I at_] 3]) jG ?_;refine dL W (I at_) Xv<|dV W aG<|dM W<|dJ W (aA (v:=I at_) Xv)<|dJ W ao<|dJ W aa<|dJ W (aw 2 Zo W Xu)<|dJ W (aA (v:=I e.size) Xv)<|dJ W kp<|dV W cv<|dV W ax ?_;refine aN<|ah ?_ ?_<;>intro Z
  ·have X:at_<0\/e.size<=at_:=(by simp at Z;omega);refine A<|M (ba XG)<|T ?_;refine da (f:=BA) z.ses (xM z.ses id) e [pcc e.a #[I e.base,I e.disk,I e.size,sl e.so e.puts.length e.co] 168,be 86 2 e.so e.co (dh e.puts)] hi ?_;rw[eK he];refine cu b V (z) bs bl so co bv rs rm ?_;have ho:ez z id at_ d=1:=(by unfold ez;rw[R];simp only;rw[kaT X]);exact ar (dD b V z::F) rfl<|.inl ⟨by rw[ho];decide,by rw[ho];rfl,rfl⟩
  ·have X:¬(at_<0\/e.size<=at_):=(by simp at Z;omega);refine A<|C<|M (cD Xz)<|M aQ<|T<|ah ?_ ?_<;>intro h32
   ·have h6:6<d.length:=(by simp at h32;omega);refine A<|M (ba XG)<|T ?_;refine da (f:=BA) z.ses (xM z.ses id) e [pcc e.a #[I e.base,I e.disk,I e.size,sl e.so e.puts.length e.co] 168,be 86 2 e.so e.co (dh e.puts)] hi ?_;rw[eK he];refine cu b V (z) bs bl so co bv rs rm ?_;have ho:ez z id at_ d=2:=(by unfold ez;rw[R];simp only;rw[kaU X,kaT h6]);exact ar (dD b V z::F) rfl<|.inl ⟨by rw[ho];decide,by rw[ho];rfl,rfl⟩
   ·have h6:¬6<d.length:=(by simp at h32;omega);have hps:=(hR.putS e (kbe he)).1;have hfl:=kcE (λx:PutM=>!decide (x.at_=at_)) e.puts;refine ai<|aE<|A<|C<|C<|M aa<|gF 3 Zo W Zb<|gL (sl e.so e.puts.length e.co) ZN<|M fV<|gR (vC call94 (uu e.puts e.so e.co b6 at_ (by omega)))<|M aa<|gF 3 Zo W Zb<|gU (aJ #[I e.base,I e.disk,I e.size,sl e.so (e.puts.filter λx=>!decide (x.at_=at_)).length e.co] Zb (by simp))<|ab<|ac ?_;refine eE (Lf:=[pcc e.a #[I e.base,I e.disk,I e.size,sl e.so ((e.puts.filter λx=>!decide (x.at_=at_)).length) e.co] 168,pcc b6 #[I at_] 3]) jZ 12 ?_;refine dM W<|dM W<|dV W aa<|dF W 3 Zo W Zb<|dL W (sl e.so (e.puts.filter λx=>!decide (x.at_=at_)).length e.co) ZN<|dL W (I at_) Xv<|dM W<|dV W (aS (Jq at_ d))<|cQ W (ap (dh [⟨at_,d⟩]) Yq Yg Zp (by simp[dh,j2])) ?_;rintro _ _ ⟨b54,rfl,rfl⟩;refine cQ W (aR Yq Yg Zp Tryz.typeInfo86 (hn:=by exact df _) (by simp[dh,j2]) (by simp[dh,j2,Go.Sl.ones,Go.Sl.one]) ⟨by omega,by decide,by decide⟩) ?_;rintro _ _ ⟨O,J,rfl,rfl⟩;refine dV W aa<|dF W 3 Zo W Zb ?_;refine aN ?_;refine gU (aJ #[I e.base,I e.disk,I e.size,sl O ((e.puts.filter λx=>!decide (x.at_=at_)).length+1) J] Zb (by simp))<|ab<|A<|T ?_;rw[show dh (e.puts.filter λx=>!decide (x.at_=at_))++dh [⟨at_,d⟩]=dh (j7 e.puts at_ d) by simp[dh,j7],show (e.puts.filter λx=>!decide (x.at_=at_)).length+1=(j7 e.puts at_ d).length by simp[j7]];refine da (f:=BA) z.ses (xM z.ses id) (⟨e.key,e.a,O,J,e.base,e.disk,e.size,j7 e.puts at_ d⟩:SeE) [pcc e.a #[I e.base,I e.disk,I e.size,sl O (j7 e.puts at_ d).length J] 168,be 86 2 O J (dh (j7 e.puts at_ d))] hi ?_;rw[<-Fz (e':=(⟨e.key,e.a,O,J,e.base,e.disk,e.size,j7 e.puts at_ d⟩:SeE)) he rfl rfl];refine cu b V (⟨z.h,z.used,z.rows,z.S,z.L,z.n,z.ses.set (xM z.ses id) ⟨e.key,e.a,O,J,e.base,e.disk,e.size,j7 e.puts at_ d⟩,z.mou,z.next⟩) bs bl so co bv rs rm ?_;exact ar (dD b V ⟨z.h,z.used,z.rows,z.S,z.L,z.n,z.ses.set (xM z.ses id) ⟨e.key,e.a,O,J,e.base,e.disk,e.size,j7 e.puts at_ d⟩,z.mou,z.next⟩::F) rfl<|.inr ⟨by unfold ez;rw[R];simp only;rw[kaU X,kaU h6],O,J,rfl,by unfold RpM.putted RpM.sess;rw[R]⟩
set_option maxRecDepth 4000
variable {L:List Pt}
theorem Ht {G}(h:Con S L n G):∀c∈bN S L n,c.key≠ []/\c.key.length<=8/\c.val.length<=48/\c.gone=false:=λc J=>by
 have w:=h.wr;unfold bN at J;rcases kbF.1 J with J | J
 ·rcases kbF.1 J with J | J
  ·rcases kbF.1 J with J | J
   ·unfold dS at J;obtain ⟨q,hq,rfl⟩:=kbV.1 J;obtain ⟨V,O⟩:=mem_ids.1 hq;obtain ⟨x,hx⟩:=kcX.1 O;have R:=w.b q x hx
    grind[iZ,gB,K3]
   ·unfold ea at J;obtain ⟨q,hq,rfl⟩:=kbV.1 J;obtain ⟨V,O⟩:=mem_ids.1 hq;have R:=Jf h.sm q;have h1:=iZ (n:=q) (by omega);have X:=uj (n:=gN S.N q) (by omega) (λk hk=>by have:=R.2 k hk;omega) 4 (by omega)
    grind[Hm,K4]
  ·obtain ⟨p,hp,rfl⟩:=kbV.1 J;have R:=w.p p hp
   grind[iZ,nt]
 ·rw[kcv] at J;subst J;have h1:=ce (n:=n) (by have:=w.n1;omega)
  grind[vS]
theorem Rs {l c x}:x∈Gp l c ↔ (x=c/\c.gone=false)\/(x∈l/\x.key≠c.key):=by
 grind[Gp,mL,sK]
theorem FD:∀{c l:List ChangeM} {x:ChangeM},srt c->(x∈cX l c ↔ (x∈c/\x.gone=false)\/(x∈l/\∀y∈c,y.key≠x.key))
 | [],l,x,_=>by simp[cX]
 | d::c,l,x,h=>by
  have J:=kcB.1 h;show x∈cX (Gp l d) c ↔ _;rw[FD J.2,Rs]
  grind[mL]
theorem Ds:∀{l:List ChangeM},srt l->∀{x y:ChangeM},x∈l->y∈l->x.key=y.key->x=y
 | a::l,h,x,y,hx,hy,e=>by
  have O:=kcB.1 h;rcases kbn.1 hx with rfl | J
  ·grind[mL]
  ·rcases kbn.1 hy with rfl | R
   ·exact absurd e.symm<|mL<|O.1 x J
   ·exact Ds O.2 J R e
theorem Uq (J:srt a)(O:srt b)(V:∀x∈b,x.gone=false):cX a (mg a b)=b:=by
 refine Dn (rc J _).1 O λx=>?_;rw[FD (sU J O),m8 J O];constructor
 ·rintro (⟨h1,R⟩ | ⟨h1,R⟩)
  ·rcases h1 with ⟨y,hy,rfl,_⟩ | ⟨h1,_⟩
   ·cases R
   ·exact h1
  ·refine Decidable.byContradiction λhx=>?_;by_cases hk:∃y∈b,y.key=x.key
   ·grind[Ds,m8]
   ·exact R (ke x) ((m8 J O _).2 (.inl ⟨x,h1,rfl,λy hy e=>hk ⟨y,hy,e⟩⟩)) rfl
 ·intro hx;by_cases S:x∈a
  ·refine .inr ⟨S,λy hy e=>?_⟩;rcases (m8 J O y).1 hy with ⟨z,X,rfl,hn⟩ | ⟨h1,R⟩
   ·exact hn x hx e.symm
   grind[Ds]
  grind
def FE:∀{c:List ChangeM},(∀x∈c,d7 x=0)->lb c=0
 | [],_=>rfl
 | x::c,h=>by
  unfold lb;rw[kaT (h x (by simp))];exact FE λy hy=>h y (kcn _ hy)
theorem Ur (J:srt a)(O:srt b)(R:∀c∈a,c.key≠ []/\c.key.length<=8/\c.val.length<=48/\c.gone=false)(S:∀c∈b,c.key≠ []/\c.key.length<=8/\c.val.length<=48/\c.gone=false):∀x∈mg a b,d7 x=0:=λx hx=>by
 grind[d7,m8,ke]
theorem FF:∀{l m:List Bytes},l.Nodup->(∀q∈l,q∈m)->l.length<=m.length
 | [],_,_,_=>by simp
 | a::l,m,hl,h=>by
  rw[kb3] at hl;have h1:=FF (l:=l) (m:=m.erase a) hl.2 λq hq=>by
   grind
  grind
def Jr (P:List Pt):List Bytes:=((List.range 40).map λk=>98::jt ((k+1:Nat):Int))++((List.range 24).map λk=>110::jt ((k+1:Nat):Int))++P.map (λp=>112::jt p.id)++ [[120]]
variable {P:List Pt}
theorem N3 (R:∀p∈L,p∈P):∀c∈bN S L n,c.key∈Jr P:=λc J=>by
 unfold bN at J;unfold Jr;simp only[kbF] at J ⊢;rcases J with ((J | J) | J) | J
 ·unfold dS at J;obtain ⟨q,hq,rfl⟩:=kbV.1 J;obtain ⟨O,_⟩:=mem_ids.1 hq;exact .inl<|.inl<|.inl<|kbV.2 ⟨q.toNat - 1,by grind,by rw[show ((q.toNat - 1+1:Nat):Int)=q by omega];rfl⟩
 ·unfold ea at J;obtain ⟨q,hq,rfl⟩:=kbV.1 J;obtain ⟨O,_⟩:=mem_ids.1 hq;exact .inl<|.inl<|.inr<|kbV.2 ⟨q.toNat - 1,by grind,by rw[show ((q.toNat - 1+1:Nat):Int)=q by omega];rfl⟩
 ·obtain ⟨p,hp,rfl⟩:=kbV.1 J;exact .inl<|.inr<|kbV.2 ⟨p,R p hp,rfl⟩
 grind[vS]
variable {L':List Pt}
theorem Js {J R G Y}(hC:Con S L n G)(O:Con J L' R Y)(hP:P.length<=7)(h1:∀p∈L,p∈P)(Z:∀p∈L',p∈P):(mg (bN S L n) (bN J L' R)).length<=72:=by
 have V:=lI hC.wr;have X:=lI O.wr;have hs:=sU V X;have hn:((mg (bN S L n) (bN J L' R)).map (·.key)).Nodup:=by
  rw[List.Nodup,kc9];exact hs.imp λh=>mL h
 have hm:=FF hn (m:=Jr P) λq hq=>by
  obtain ⟨x,hx,rfl⟩:=kbV.1 hq;rcases (m8 V X x).1 hx with ⟨y,hy,rfl,_⟩ | ⟨hy,_⟩
  ·exact N3 h1 y hy
  ·exact N3 Z x hy
 grind[Jr]
def Jt {O R G Y}(hC:Con S L n G)(J:Con O L' R Y)(hP:P.length<=7)(h1:∀p∈L,p∈P)(Z:∀p∈L',p∈P):xw (260 - 122) (bN S L n) (mg (bN S L n) (bN O L' R))=0/\cX (bN S L n) (mg (bN S L n) (bN O L' R))=bN O L' R:=by
 have V:=lI hC.wr;have X:=lI J.wr;have hl:=Js hC J hP h1 Z;have e:=Uq V X λx hx=>(Ht J x hx).2.2.2;have hr:=oO (S:=O) (n:=R) J.v.len;refine ⟨?_,e⟩;unfold xw;rw[iOm,kaU (by rw[FE (Ur V X (Ht hC) (Ht J))];simp),e,iOm]
variable {N:Nat}{D:DiskM}{e:Int}{J:List ChangeM}
theorem Ju {h V ds used c D2 h2 S}(bn:PW N D h V ds used)(hep:h.ep<=900000)(hf:h.first<=800000000)(h0':xw (N - 122) (cur V ds) c=0)(hc:ET D h (cur V ds) (N - 122) used c e D2 h2 S J):
  (e=0/\h2.ep<=h.ep+1/\h2.first<=h.first+N/\∃r2 d2,PW N D2 h2 r2 d2 S/\cur r2 d2=J/\J=cX (cur V ds) c)\/
  (e=9/\Fell N D2 (h.ep+1) (h.first+N) (λx=>x=cur V ds\/x=cX (cur V ds) c)):=by
 obtain ⟨hq,I,hs⟩:=bn;have hb:=I.big;rcases hc with ⟨hne,rfl,rfl,rfl,rfl,rfl⟩ | ⟨h0,e1,D1,h1,O,hmid,R⟩
 ·exact absurd h0' hne
 ·obtain ⟨c1,c2,c3,c4⟩:=Xe h0;have hm:(e1=0/\h1.ep<=h.ep+1/\h1.first<=h.first+N/\c.length+1<=N - 122 - O/\∃r1 d1,PW N D1 h1 r1 d1 O/\cur r1 d1=cur V ds)\/(e1=9/\Fell N D1 (h.ep+1) (h.first+N) (λx=>x=cur V ds)):=by
   rcases hmid with ⟨X,hrun,hck⟩ | ⟨X,rfl,rfl,rfl,rfl⟩
   ·rcases E2 hq I hs (by omega) (by omega) hrun with ⟨rfl,Y⟩ | ⟨h9,F⟩
    ·rcases hck with ⟨hx,_⟩ | ⟨_,rfl,_,d',hsc⟩
     ·exact absurd rfl hx
     ·have hlg:=Y.2.1.good.log;rw[Y.2.1.len] at hlg;have hu:=(vv hsc hlg).2;subst hu;exact .inl ⟨rfl,by simp only[eO];omega,by simp only[eO];omega,by omega,_,_,Y,rfl⟩
    ·exact .inr ⟨h9,F⟩
   ·exact .inl ⟨rfl,by omega,by omega,by omega,V,ds,⟨hq,I,hs⟩,rfl⟩
  rcases hm with ⟨rfl,m1,m2,m3,r1,d1,Y,Z⟩ | ⟨h9,F⟩
  ·rcases R with ⟨hx,_⟩ | ⟨_,rfl,rfl,rfl,rfl,rfl⟩
   ·exact absurd rfl hx
   ·have hv:nk (N - 122) O c=0:=(by grind[CE]);rcases TR Y (by omega) hv (by rw[Z];exact c3) with ⟨a1,a2⟩ | ⟨a1,a2⟩
    ·grind[yH]
    ·refine .inr<|⟨a1,λkeep=>?_⟩;obtain ⟨h',r',d',u',i',p',e',f',s'⟩:=a2 keep
     grind
  ·rcases R with ⟨_,rfl,rfl,rfl,rfl,rfl⟩ | ⟨hx,_⟩
   ·refine .inr<|⟨h9,λkeep=>?_⟩;obtain ⟨h',r',d',u',i',p',e',f'⟩:=F keep
    grind
   grind
structure Rep (t:Nat) (D:DiskM) (z:RpM):Prop where
 ok:oE 260 1000 D
 s80:tQ D
 cal:∃r0 ds,PW 260 D z.h r0 ds z.used/\cur r0 ds=z.rows
 ep:z.h.ep<=1+2*t
 first:z.h.first<=1+500*t
 rows:z.rows=bN z.S z.L z.n
 rok:Rok z
def FG (h:oE N i D)(c:calm D):oE N 1000 D:=⟨h.1,h.2.1,h.2.2.1,h.2.2.2.1,by rw[c.2.1];simp⟩
theorem Rep.dk {t}(R:Rep t D z)(ht:t<=100000):Dk 1000 D z:=by
 obtain ⟨O,ds,bn,J⟩:=R.cal;have:=R.ep;have:=R.first;exact ⟨R.ok,R.s80,⟨by omega,bn.2.1.good.side,bn.2.1.good.first.1,by omega⟩,by rw[<-J];exact bn.2.1.good.lenC,by rw[<-J];exact bn.2.1.good.okC,bn.2.1.used_le,by rw[<-J];exact bn.2.1.good.srtC⟩
def N4 (t:Nat)(D:DiskM)(φ:List ChangeM->Prop):Prop:=oE 260 2000 D/\tQ D/\Fell 260 D (1+2*t) (1+500*t) φ
theorem BC {t D2 z2 Z n' G'}(R:Rep t D z)(ht:t<=100000)(hC':Con Z L' n' G')(hP:P.length<=7)(h1:∀p∈z.L,p∈P)(h2:∀p∈L',p∈P)(k:FB D z Z L' n' e D2 z2):
  (e=0/\Rep (t+1) D2 z2/\(wu D->wu D2)/\z2.S=Z/\z2.L=L'/\z2.n=n'/\z2.ses=z.ses/\z2.mou=z.mou/\z2.next=z.next)\/(e=9/\¬wu D/\N4 (t+1) D2 λx=>x=bN z.S z.L z.n\/x=bN Z L' n'):=by
 obtain ⟨Y,O,J,hc,rfl⟩:=k;obtain ⟨r0,ds,bn,V⟩:=R.cal;obtain ⟨G,hC⟩:=R.rok.con;obtain ⟨hcm,hap⟩:=Jt hC hC' hP h1 h2;have hep:=R.ep;have hfi:=R.first;unfold Uo at hc;rw[<-V] at hc;have hcr:cur r0 ds=bN z.S z.L z.n:=V.trans R.rows;have X:=MS R.ok R.s80 bn.2.1 hc;have hs2:=QG R.ok R.s80 bn.2.1 hc;have hup:wu D->e=0/\wu D2:=λhu=>by
  obtain ⟨c1,c2,_⟩:=MQ hu R.s80 bn.2.1 (by omega) (by omega) hc
  grind
 rcases Ju bn (by omega) (by omega) (by rw[hcr];exact hcm) hc with ⟨rfl,b1,b2,r2,d2,C2,e2,e3⟩ | ⟨h9,hF⟩
 ·refine .inl ⟨rfl,?_,λhu=>(hup hu).2,?_⟩
  ·have hkz:z.kept 0 Y O J Z L' n'=⟨Y,O,J,Z,L',n',z.ses,z.mou,z.next⟩:=(by grind[RpM.kept]);rw[hkz];exact ⟨FG X C2.1,hs2,⟨r2,d2,C2,e2⟩,by show Y.ep<=_;omega,by grind,by grind,⟨⟨G',hC'⟩,R.rok.next,R.rok.keyS,R.rok.keyM,R.rok.sesS⟩⟩
  grind[RpM.kept]
 ·subst h9;refine .inr ⟨rfl,λhu=>by have:=(hup hu).1;omega,j3 X (by omega),hs2,?_⟩;rw[hcr,hap] at hF;exact hF.mono (by omega) (by omega) λx hx=>hx
set_option maxRecDepth 4000
def jg:List Int->DiskM->RpM->List Int->Int->DiskM->RpM->Prop
 | [],D,z,gone,e,D2,z2=>gone=[]/\e=0/\D2=D/\z2=z
 | id::l,D,z,gone,e,D2,z2=>if fc z id=true then jg l D z gone e D2 z2 else ∃e1 D1 z1,oR D z id e1 D1 z1/\((e1≠0/\gone=[]/\e=e1/\D2=D1/\z2=z1)\/(e1=0/\∃g',jg l D1 z1 g' e D2 z2/\gone=if e=0 then id::g' else []))
def rO b R i z id(hR:Rok z)D(hD:Dk i D z)(hib:i<=100000)F:cqq 33 [ptr b 0,I id] (bo ee::dD b R z::cj 179 319 R (D)::F) (λv L'=>∃n f D2 z2,zw D z id n f D2 z2/\v= .tuple #[I n,bQ f]/\L'=dD b R z2::cj 179 319 R (D2)::bo ee::F):=by
 obtain ⟨G0,hC⟩:=hR.con;have hlen:=hC.v.len;have hnx:=hR.next;refine Ct.of func33 W 59 ntmps33 (by simp) λw0=>?_;refine fQ b R z ?_;intro bs bl so co bv rs rm;refine A<|gA<|T<|A<|C<|M aa<|gF 2 Yc rfl Zv<|gL (.map (some rs)) Zz<|C<|M (cW (v:= .pointer ((hJ z.ses id).map λe=>⟨e.a,0,none⟩)) ZA XA kam (by rw[oh];cases hJ z.ses id <;> rfl))<|T<|ac<|A<|C<|M (vb kan)<|ab ?_;apply ah<;>intro h17
 ·have hno:hJ z.ses id=none:=(by simpa using h17);refine A<|M (ba XG)<|gA<|T ?_;refine cu b R (z) bs bl so co bv rs rm ?_;exact ar (dD b R z::cj 179 319 R (D)::bo ee::F) rfl ⟨0,5,D,z,by unfold zw;rw[hno];exact ⟨rfl,rfl,rfl,rfl⟩,rfl,rfl⟩
 ·obtain ⟨e,V⟩:∃e,hJ z.ses id=some e:=kcX.1 (by cases hq:hJ z.ses id with
   | none=>rw[hq] at h17;cases h17
   | some _=>rfl)
  obtain ⟨he,hek,hi⟩:=pN V;rw[V];refine ai<|ac ?_;have hps:=hR.putS e (kbe he);refine al<|C<|M aa<|gF 1 Yc W Za<|gL (ptr bv 0) Y6<|gI (uB call66 (gg bv z.S z.L z.n (by omega))) ?_;rintro _ _ ⟨q,rfl,rfl⟩;refine T<|ac ?_;refine NS z.ses _ he ?_;refine cn (Lf:=[pcc e.a #[I e.base,I e.disk,I e.size,sl e.so e.puts.length e.co] 168]) ja ?_;refine dM W<|dM W<|dV W aa<|dF W 0 Zo W Xu<|dL W (I e.base) Xv<|dM W<|dV W aa<|dF W 1 Zo W Xu<|dL W (I e.disk) Xv<|dM W<|dV W aa<|dF W 2 Zo W Xu<|dL W (I e.size) Xv<|dM W<|dV W aa<|dF W 3 Zo W Zb<|dL W (sl e.so e.puts.length e.co) ZN<|cQ W (uC call96 (pQ q z.S z.L z.n e.base e.disk e.size e.puts e.so e.co G0 hC.v (by omega) (λp hp=>by have:=hps.2 p hp;omega))) ?_;rintro v L' hv;unfold vR at hv;rcases hr:gw z.S z.L z.n e.base e.disk e.size e.puts with e0 | ⟨S1,L1,n1,r1⟩ <;> rw[hr] at hv <;> obtain ⟨rfl,rfl⟩:=hv
  ·have he0:=ud hr;refine dM W<|dV W (aB (v:=I 0))<|dV W (aB (v:=bQ e0))<|dV W ax<|dV W ax ?_;refine aN ?_;refine ac<|A<|C<|M (fX (ec:=117) (f:=e0) XF)<|ab<|ah ?_ ?_<;>intro h46
   ·simp at h46;omega
   ·refine ai<|ac<|A<|C<|M (bX XF)<|ab<|ah ?_ ?_<;>intro X
    ·refine A<|C<|gA<|T ?_;refine da (f:=BA) z.ses (xM z.ses id) e [pcc e.a #[I e.base,I e.disk,I e.size,sl e.so e.puts.length e.co] 168,be 86 2 e.so e.co (dh e.puts)] hi ?_;rw[eK he];refine cu b R (z) bs bl so co bv rs rm ?_;exact ar (dD b R z::cj 179 319 R (D)::bo ee::F) rfl ⟨0,e0,D,z,by unfold zw;rw[V];simp only;rw[hr];simp,rfl,rfl⟩
    ·simp at X;omega
  ·obtain ⟨G1,hC1⟩:=qE hC hr;refine dM W<|dV W (aB (v:=I r1))<|dV W (aB (v:=bQ 0))<|dV W ax<|dV W ax ?_;refine aN ?_;refine ac<|A<|C<|M (fX (ec:=117) (f:=0) XF)<|ab<|ah ?_ ?_<;>intro h46
   ·refine da (f:=BA) z.ses (xM z.ses id) e [pcc e.a #[I e.base,I e.disk,I e.size,sl e.so e.puts.length e.co] 168,be 86 2 e.so e.co (dh e.puts)] hi ?_;rw[eK he];refine cu b R (z) bs bl so co bv rs rm ?_;refine al<|C<|C<|gI (uE (A0:=bo ee) call97 (kK b R q i D z S1 L1 n1 G0 G1 hC hC1 hD hib)) ?_;rintro _ _ ⟨f,D2,Y,O,J,Z,rfl,rfl⟩;refine T<|ac<|A<|C<|M (bX XF)<|ab<|ah ?_ ?_<;>intro X
    ·have he:¬f=0:=(by simpa using X);refine A<|C<|gA<|T ?_;exact ar (dD b R (z.kept f Y O J S1 L1 n1)::cj 179 319 R (D2)::bo ee::F) rfl ⟨0,f,D2,_,by unfold zw;rw[V];simp only;rw[hr];exact ⟨_,⟨Y,O,J,Z,rfl⟩,by rw[kaU he],by rw[kaU he]⟩,rfl,rfl⟩
    ·have he:f=0:=(by simpa using X);rw[show z.kept f Y O J S1 L1 n1=⟨Y,O,J,S1,L1,n1,z.ses,z.mou,z.next⟩ by unfold RpM.kept;rw[kaT he]];refine ai<|ac ?_;refine fQ b R ⟨Y,O,J,S1,L1,n1,z.ses,z.mou,z.next⟩ ?_;intro bs bl so co bv rs rm;dsimp only;refine al<|C<|M aa<|gF 2 Yc W Zv<|gL (.map (some rs)) Zz<|C<|io (iI ZA XA) ?_;rintro _ _ ⟨rfl,rfl⟩;rw[uq];refine oD (f:=BA) z.ses (nW z.ses id) kbU ?_;refine ab<|A<|C<|gA<|T ?_;refine cu b R (⟨Y,O,J,S1,L1,n1,nW z.ses id,z.mou,z.next⟩) bs bl so co bv rs rm ?_;exact ar (dD b R ⟨Y,O,J,S1,L1,n1,nW z.ses id,z.mou,z.next⟩::cj 179 319 R (D2)::bo ee::F) rfl ⟨r1,f,D2,_,by unfold zw;rw[V];simp only;rw[hr];exact ⟨_,⟨Y,O,J,Z,rfl⟩,by rw[kaT he],by rw[kaT he];unfold RpM.kept RpM.sess;rw[kaT he]⟩,by rw[he];rfl,rfl⟩
   ·simp at h46
def uv b R i z D(Y:Dk i D z)(hib:i<=100000)F:cqq 52 [ptr b 0] (dD b R z::cj 179 319 R (D)::F) (λv L'=>∃e D1,ct D (wC (eO z.h z.rows (260 - 122)) (bP z.rows))=(e,D1)/\v=bQ e/\((e≠0/\L'=dD b R z::cj 179 319 R (D1)::F)\/(e=0/\∃ds J,J<=260 - 122/\dg (z.h.first+(260 - 122)) (px D1 122) (260 - 122) 0 [] [] 0=(ds,J)/\L'=dD b R ⟨eO z.h z.rows (260 - 122),J,z.rows,z.S,z.L,z.n,z.ses,z.mou,z.next⟩::cj 179 319 R (D1)::F))):=by
 refine Ct.of func52 W 8 ntmps52 (by simp) λw0=>?_;refine fQ b R z ?_;intro bs bl so co bv rs rm;refine A<|T<|A<|C<|M aa<|gF 0 Yc W sizeOf95<|gL (ptr bs 0) Y5<|gI (uE call126 (l6 bs R z.h bl so co z.rows 260 i z.used D Y.ok hib Y.s80 (by decide) Y.hd Y.len Y.okr)) ?_;rintro _ _ ⟨e,D1,V,X⟩;rcases X with ⟨hne,rfl,rfl⟩ | ⟨Z,bl2,ds,O,hu2,hsc,rfl,rfl⟩
 ·refine T ?_;refine cu b R (z) bs bl so co bv rs rm ?_;exact ar (dD b R z::cj 179 319 R (D1)::F) rfl ⟨e,D1,V,rfl, .inl ⟨hne,rfl⟩⟩
 ·rw[show z.h.first+(260 - 122)=(eO z.h z.rows (260 - 122)).first from rfl];refine T ?_;refine cu b R (⟨eO z.h z.rows (260 - 122),O,z.rows,z.S,z.L,z.n,z.ses,z.mou,z.next⟩) bs bl2 so co bv rs rm ?_;exact ar (dD b R ⟨eO z.h z.rows (260 - 122),O,z.rows,z.S,z.L,z.n,z.ses,z.mou,z.next⟩::cj 179 319 R (D1)::F) rfl ⟨e,D1,V,by rw[Z];rfl, .inr ⟨Z,ds,O,hu2,hsc,rfl⟩⟩
set_option maxRecDepth 4000
variable {J:DiskM}
theorem oS {t z2 id}(R:Rep t D z)(ht:t<=100000)(k:oR D z id e J z2):
  (e=0/\Rep (t+1) J z2/\(wu D->wu J)/\fT z id=0/\mY z.S z.L z.n id= .ok (z2.S,z2.L,z2.n,0)/\z2.ses=z.ses/\z2.mou=z.mou/\z2.next=z.next)\/(e≠0/\e≠9/\e=fT z id/\J=D/\z2=z)\/
  (e=9/\¬wu D/\fT z id=0/\∃V L',mY z.S z.L z.n id= .ok (V,L',z.n,0)/\N4 (t+1) J λx=>x=bN z.S z.L z.n\/x=bN V L' z.n):=by
 unfold oR at k;by_cases hd:fT z id=0
 ·rw[iOm] at k;obtain ⟨V,L',Y,k⟩:=k;obtain ⟨G,hC⟩:=R.rok.con;obtain ⟨G',X⟩:=zi hC Y;have O:∀p∈L',p∈z.L:=by
   grind[mY]
  rcases BC R ht X (P:=z.L) (by have:=hC.v.len;omega) (λp hp=>hp) O k with ⟨Z,a2,a3,a4,a5,a6,a7,a8,a9⟩ | ⟨Z,a2,a3⟩
  ·grind
  grind
 grind[fT]
theorem hG {α:Type}{l:List α}{x}(h:l[k]? =some x):l.drop k=x::l.drop (k+1):=by
 grind[List.drop_eq_getElem_cons]
theorem FH:∀{l:List Int} {D J:DiskM} {z z2:RpM} {gone:List Int} {e:Int},jg l D z gone e J z2->e≠0->gone=[]
 | [],_,_,_,_,_,_,h,he=>h.1
 | id::l,D,J,z,z2,gone,e,h,he=>by
  unfold jg at h;split at h
  ·exact FH h he
  grind
def KInv (l:List Int)(D0:DiskM)(z0:RpM)(k:Nat)(D:DiskM)(z:RpM)(gone:List Int):Prop:=∀g' e D2 z2,jg (l.drop k) D z g' e D2 z2->jg l D0 z0 (if e=0 then gone++g' else []) e D2 z2
variable {l:List Int}{z0:RpM}
theorem KInv.start:KInv l J z0 0 J z0 []:=λR e O z2 h=>by
 grind[FH]
variable {gone:List Int}
theorem KInv.skip {id}(h:KInv l J z0 k D z gone)(hk:l[k]? =some id)(S:fc z id=true):KInv l J z0 (k+1) D z gone:=λR e O z2 hr=>h R e O z2 (by simp_all[hG,jg])
theorem KInv.went {D1 O id}(h:KInv l J z0 k D z gone)(hk:l[k]? =some id)(V:fc z id=false)(hd:oR D z id 0 D1 O):KInv l J z0 (k+1) D1 O (gone++ [id]):=λS e R z2 hr=>by
 have:=h (if e=0 then id::S else []) e R z2 (by rw[hG hk];grind[jg])
 grind
theorem KInv.err {O D1 J id}(h:KInv l O z0 k D z gone)(hk:l[k]? =some id)(R:fc z id=false)(hd:oR D z id e D1 J)(he:e≠0):jg l O z0 [] e D1 J:=by
 have:=h [] e D1 J (by rw[hG hk];grind[jg])
 grind
theorem KInv.done (h:KInv l J z0 l.length D z gone):jg l J z0 gone 0 D z:=by
 have:=h [] 0 D z (by rw[kcz];exact ⟨rfl,rfl,rfl,rfl⟩);simpa using this
theorem ru L disk keep(h:L.length<=6):(eQ L disk keep).length<=6:=by
 grind[eQ]
def uw b J t z0 X disk many(R0:Rep t X z0)(ht:t<=90000)(hm:many<=9223372036854775807)F:cqq 47 [ptr b 0,I disk,I many] (bo ee::dD b J z0::cj 179 319 J (X)::F) (λv L'=>(many<0/\v= .tuple #[sl none 0 0,bQ 1]/\L'=dD b J z0::cj 179 319 J (X)::bo ee::F)\/(0<=many/\∃gone e Y z2 s c,jg (eQ z0.L disk many) X z0 gone e Y z2/\v= .tuple #[sl s gone.length c,bQ e]/\L'=be 3 1 s c (bc gone)::dD b J z2::cj 179 319 J (Y)::bo ee::F)):=by
 obtain ⟨G0,hC⟩:=R0.rok.con;have hlen:=hC.v.len;have hel:=ru z0.L disk many hlen;refine Ct.of func47 W 42 ntmps47 (by simp) λw0=>?_;refine A<|gA<|T<|ac<|A<|C<|M aG<|ab<|ah ?_ ?_<;>intro h13
 ·have hmn:many<0:=(by simpa using h13);refine A<|M (ba XG)<|gA<|T ?_;exact ar (dD b J z0::cj 179 319 J (X)::bo ee::F) rfl<|.inl ⟨hmn,rfl,rfl⟩
 ·have hmn:¬many<0:=(by simpa using h13);refine ai<|A<|T<|ac<|ac ?_;refine fQ b J z0 ?_;intro bs bl so co bv rs rm;refine al<|C<|M aa<|gF 1 Yc W Za<|gL (ptr bv 0) Y6<|C<|C<|gI (uB call125 (p9 bv z0.S z0.L z0.n disk many (by omega) hm)) ?_;rintro _ _ ⟨s21,c21,rfl,rfl⟩;refine bz s21 ?_;refine M (aP XB)<|C<|ab ?_;refine cu b J z0 bs bl so co bv rs rm ?_;refine aY 3 1 (bc []) ?_;refine ak ?_;refine aL (α:=Nat×DiskM×RpM×List Int×Option Addr×Nat) (λy=>y.1<=(eQ z0.L disk many).length/\y.2.2.2.1.length<=y.1/\Rep (t+y.1) y.2.1 y.2.2.1/\KInv (eQ z0.L disk many) X z0 y.1 y.2.1 y.2.2.1 y.2.2.2.1) (λy=>U [(0,ptr b 0),(8,sl y.2.2.2.2.1 y.2.2.2.1.length y.2.2.2.2.2),(21,sl s21 (eQ z0.L disk many).length c21),(22,I (eQ z0.L disk many).length),(23,I y.1)]) (λy=>be 3 1 y.2.2.2.2.1 y.2.2.2.2.2 (bc y.2.2.2.1)::dD b J y.2.2.1::cj 179 319 J y.2.1::bo ee::roL 1 s21 (bc (eQ z0.L disk many))::F) (λy=>(eQ z0.L disk many).length - y.1) (0,X,z0,[],none,0) ⟨by simp,by simp,by simpa using R0,KInv.start⟩ [0,8,21,22,23] rfl ?_;rintro ⟨k,D,z,gone,s8,c8⟩ ⟨hk,hgl,R,hI⟩;simp only[] at hk hgl R hI ⊢;refine A<|M aG<|ab<|ac<|ah ?_ ?_<;>intro h24
  ·simp at h24;have hkn:k<(eQ z0.L disk many).length:=(by omega);obtain ⟨id,O⟩:∃id,(eQ z0.L disk many)[k]? =some id:=⟨_,kbN hkn⟩;refine ai<|ac<|ak<|A<|M (av k XB Xu hkn (by rw[cw];exact hkn))<|M (aI (v:=I id) Xv (by exact fO O) W)<|T<|ac<|A<|C<|C<|gR (vB call123 (nX b J z id))<|ab ?_;apply ah<;>intro h29
   ·have V:fc z id=true:=h29;refine aF ?_;refine al<|gP<|C<|ab ?_;exact an (k+1,D,z,gone,s8,c8) ⟨by simp only[];omega,by simp only[];omega,⟨R.ok,R.s80,R.cal,by have:=R.ep;simp only[];omega,by have:=R.first;simp only[];omega,R.rows,R.rok⟩,hI.skip O V⟩ (by simp only[];omega) [0,8,21,22,23] rfl
   ·have V:fc z id=false:=(by simpa using h29);refine ai<|A<|C<|C<|gI (uD (A0:=bo ee) call46 (nZ b J 1000 z id R.rok D (R.dk (by omega)) (by omega))) ?_;rintro _ _ ⟨e,Y,z2,Z,rfl,rfl⟩;refine T<|ac<|A<|C<|M (bX XF)<|ab<|ah ?_ ?_<;>intro h34
    ·have he:¬e=0:=(by simpa using h34);refine A<|C<|gA<|T ?_;refine aY 3 1 (bc []) ?_;exact ar (be 3 1 none 0 (bc [])::dD b J z2::cj 179 319 J (Y)::bo ee::F) rfl<|.inr ⟨by omega,[],e,Y,z2,none,0,hI.err O V Z he,rfl,rfl⟩
    ·have he:e=0:=(by simpa using h34);subst he;have R2:Rep (t+k+1) Y z2:=by
      rcases oS R (by omega) Z with ⟨_,h,_⟩ | ⟨h,_⟩ | ⟨h,_⟩
      ·exact h
      ·exact absurd rfl h
      ·cases h
     refine ai<|al<|C<|C<|gI (ap [[I id]] XB Xu X5 (by simp)) ?_;rintro _ _ ⟨b38,rfl,rfl⟩;refine gI (aR XB Xu X5 Tryz.typeInfo3 (hn:=by exact cw _) (by simp) (by intro r hr;simp at hr;subst hr;rfl) ⟨by omega,by decide,by decide⟩) ?_;rintro _ _ ⟨s39,c39,rfl,rfl⟩;rw[show bc gone++ [[I id]]=bc (gone++ [id]) by simp[bc],show gone.length+1=(gone++ [id]).length by simp];refine T<|aE<|al<|gP<|C<|ab ?_;exact an (k+1,Y,z2,gone++ [id],s39,c39) ⟨by simp only[];omega,by simp only[kcp,kaX,kcO];omega,by rw[<-kaW];exact R2,hI.went O V Z⟩ (by simp only[];omega) [0,8,21,22,23] rfl
  ·simp at h24;obtain rfl:k=(eQ z0.L disk many).length:=(by omega);refine aF ?_;refine A<|C<|gA<|T ?_;exact ar (be 3 1 s8 c8 (bc gone)::dD b J z::cj 179 319 J (D)::bo ee::F) rfl<|.inr ⟨by omega,gone,0,D,z,s8,c8,hI.done,rfl,rfl⟩
open Go Go.Sl Go.Proofs
def fD (N:Nat):DiskM:=(ct (mG N) (Bj N)).2
theorem ux N:(mG N).now.length=N:=by simp[mG]
theorem Ru N:tQ (mG N):=⟨λx hx=>by grind[mG,jq],λx hx=>by grind[mG,jq],λt ht=>by simp[mG] at ht⟩
def Hu N:wu (mG N):=⟨rfl,rfl⟩
theorem N5 (J:196<=N):ct (mG N) (Bj N)=(0,fD N):=Prod.ext (pu _ _ (Hu N) (by grind[ux,yK])).1 rfl
theorem SH (J:196<=N):wu (fD N):=(pu _ _ (Hu N) (by grind[ux,yK])).2.1
theorem Us (J:196<=N/\N<=260):Inv N (fD N) hd1 [] [] 0:=ID J (ux N) (pu _ _ (Hu N) (by grind[ux,yK])).2.2
def Dt (J:196<=N):tQ (fD N):=pB _ _ (Ru N) (yK J)
theorem SJ (J:196<=N/\N<=260):oE N 300 (fD N):=j3 (iX (Bj N) 0 (mG N) (Ik N)) (by grind[Bj,WJ,tT,List.length_nil])
def N6 {h J ds used}(I:Inv N D h J ds used):(oG D.now).ep≠0:=by
 rw[I.good.best];have:=I.good.ep;omega
end Go.Proofs.YthdjckbjjfiopabGreatDoor
namespace Go.Proofs.YthdjckbjjfiopabGreatDoor
open _root_.Go.Proofs.Tryz
open Go.Sl Go.Proofs
set_option maxRecDepth 4000
def N7 (D:DiskM)(h:HdM)(used:Nat):Prop:=oE 260 1000 D/\tQ D/\wu D/\(∃r0 ds,PW 260 D h r0 ds used/\cur r0 ds=bN (bH gZ) [] 1)/\h.ep<=3/\h.first<=501
def BD:bN (bH gZ) [] 1=[⟨[120],[48,48,49],false⟩]:=by
 have h1:ck 40 (bH gZ).B=[]:=Sz λq hq=>(by have:=(mem_ids.1 hq).2;cases this);have J:ck 24 (bH gZ).N=[]:=Sz λq hq=>(by have:=(mem_ids.1 hq).2;cases this);have O:jt 1=[48,48,49]:=y6 (u:=1) (by decide)
 grind[bN,dS,ea,vS]
variable {e:Int}{J:Nat}
theorem N8 {V X O}(R:ET (fD 260) hd1 (cur [] []) (260 - 122) 0 (bN (bH gZ) [] 1) e V X J O):e=0/\N7 V X J:=by
 have bn:PW 260 (fD 260) hd1 [] [] 0:=QH (by decide) (ux 260) (N5 (by decide));have S:xw (260 - 122) (cur [] []) (bN (bH gZ) [] 1)=0:=(by rw[BD];decide);have Y:=MQ (SH (by decide)) (Dt (by decide)) bn.2.1 (by decide) (by decide) R;have hk:=MS (SJ (by decide)) (Dt (by decide)) bn.2.1 R;rcases Ju bn (by decide) (by decide) S R with ⟨rfl,b1,b2,r2,d2,Z,e2,e3⟩ | ⟨h9,_⟩
 ·refine ⟨rfl,j3 hk (by omega),Y.2.2.1,Y.2.1,⟨r2,d2,Z,?_⟩,?_,?_⟩
  ·rw[e2,e3,BD];decide
  ·have:hd1.ep<=2:=(by decide);omega
  ·have:hd1.first<=201:=(by decide);omega
 grind
def Wh bs bv rs rm w:(Instr.build 103 #[(0,ptr bs 0),(1,ptr bv 0),(2, .map (some rs)),(3, .map (some rm)),(4,I 1)]).run Tryz.prog w= .ok (.agg #[ptr bs 0,ptr bv 0, .map (some rs), .map (some rm),I 1]) w:=by
 simp[Instr.build,zeroValue103,runUnderlying103,Xu,sizeOf95,Za,Zv,ZB,Instr.fill,bB,show ∀k:Int,(I k).cells=#[I k] from λ_=>rfl,show ∀k:Nat,(ptr k 0).cells=#[ptr k 0] from λ_=>rfl,show ∀r:Nat,(Value.map (some r)).cells=#[.map (some r)] from λ_=>rfl]
def zx {ee}R F:cqq 37 [ptr R 0] (bo ee::cj 179 319 R (mG 260)::F) (λv L'=>∃S h2 O,N7 S h2 O/\v=bQ 0/\L'=cj 179 319 R (S)::bo ee::F):=by
 have J:=Us (N:=260) (by decide);refine Ct.of func37 W 22 ntmps37 (by simp) λw0=>?_;refine A<|T<|A<|C<|gI (uB call102 (wP R 260 0 (mG 260) (Ik 260) (by decide) (by decide))) ?_;rintro _ _ (⟨h1,_,_⟩ | ⟨_,e,D1,hr,rfl,rfl⟩)
 ·exact absurd h1 (by decide)
 rw[N5 (by decide)] at hr;injection hr with q1 q2;subst q1 q2;refine T<|ac<|A<|C<|M (bX XF)<|ab<|ah ?_ ?_<;>intro h8
 ·simp at h8
 ·refine ai<|A<|C<|gI (uB call41 (rY R 260 (fD 260) (J.len) (by omega) ((Dt (by decide)).2.1) (hd1) ([]) ([]) (0) (λ_ _ _=>J.good))) ?_;rintro _ _ (⟨Y,_,_⟩ | ⟨_,V,_,_⟩ | ⟨_,_,he0,_,_⟩ | ⟨_,_,_,bs,bl,so,co,rfl,rfl⟩)
  ·rw[(SH (by decide)).1] at Y;cases Y
  ·exact absurd V (by decide)
  ·exact absurd he0<|N6 J
  refine C<|gX (ptr bs 0)<|gX (bQ 0)<|gA<|T<|ac<|A<|C<|M (bX (ec:=117) (f:=0) XF)<|ab<|ah ?_ ?_<;>intro h16
  ·simp at h16
  ·refine ai<|A<|C<|gI (uA call105 (Dg)) ?_;rintro _ _ ⟨p0,rfl,rfl⟩;refine gI (uC (A0:=bo ee) call104 (og (ee:=ee) p0 (bH gZ) [] 1 Con_z.sm)) ?_;rintro _ _ ⟨Z,c20,rfl,rfl⟩;refine bz Z ?_;refine gI (uF call103 (pY bs R hd1 bl so co (cur [] []) 260 300 0 (fD 260) (SJ (by decide)) (by decide) (Dt (by decide)) (by decide) (by decide) (by decide) (J.good.okC) (by decide) (J.good.srtC) (bN (bH gZ) [] 1) Z c20 (by rw[BD];decide))) ?_;rintro _ _ ⟨e,S,h2,O,rows2,bl2,s2,cap2,X,rfl,rfl⟩;obtain ⟨rfl,hok⟩:=N8 X;refine T ?_;exact ar (cj 179 319 R (S)::bo ee::F) rfl ⟨S,h2,O,hok,rfl,rfl⟩
def Du R D hx r0 ds used S L n G(hdn:D.down=false)(hI:Inv 260 D hx r0 ds used)(hS:tQ D)(Z:cur r0 ds=bN S L n)(hC:Con S L n G)F:cqq 10 [ptr R 0] (tabs::cj 179 319 R (D)::F) (λv L'=>∃b,v= .tuple #[ptr b 0,bQ 0]/\L'=dD b R ⟨hx,used,bN S L n,S,L,n,[],[],1⟩::cj 179 319 R (D)::tabs::F):=by
 have hlen:=hC.v.len;have hrow:=oO (S:=S) (n:=n) hlen;refine Ct.of func10 W 30 ntmps10 (by simp) λw0=>?_;refine A<|gA<|T<|A<|C<|gI (uB call41 (rY R 260 (D) (hI.len) (by omega) (hS.2.1) (hx) (r0) (ds) (used) (λ_ _ _=>hI.good))) ?_;rintro _ _ (⟨hd2,_,_⟩ | ⟨_,Y,_,_⟩ | ⟨_,_,he0,_,_⟩ | ⟨_,_,_,bs,bl,so,co,rfl,rfl⟩)
 ·rw[hdn] at hd2;cases hd2
 ·exact absurd Y (by decide)
 ·exact absurd he0<|N6 hI
 rw[Z];refine C<|gX (ptr bs 0)<|gX (bQ 0)<|gA<|T<|ac<|A<|C<|M (bX (ec:=117) (f:=0) XF)<|ab<|ah ?_ ?_<;>intro h13
 ·simp at h13
 ·refine ai<|A<|C<|gI (uC call43 (Aq bs R hx bl so co (bN S L n) (by omega))) ?_;rintro _ _ ⟨s17,c17,rfl,rfl⟩;refine bz s17 ?_;refine gI (uC (A0:=tabs) call42 (zn (bN S L n) s17 c17 (by omega) (We hC))) ?_;rintro _ _ (⟨st,q3,V,hw,rfl,rfl⟩ | ⟨hno,rfl,rfl⟩);rotate_left
  ·exact absurd (zk hC).2<|hno _ (zk hC).1
  rw[(zk hC).1] at V;injection V with V;subst V;change Go.Sl.G _ _ _ (iq q3 S L n::_);refine C<|gX (ptr q3 0)<|gX (bQ 0)<|gA<|T<|ac<|A<|C<|M (bX (ec:=117) (f:=0) XF)<|ab<|ah ?_ ?_<;>intro h22
  ·simp at h22
  ·refine ai<|A<|C<|C<|gI (fH) ?_;rintro _ _ ⟨J,rfl,rfl⟩;refine gI (fH) ?_;rintro _ _ ⟨O,rfl,rfl⟩;refine M (aS (Wh bs q3 J O))<|gI (dw #[ptr bs 0,ptr q3 0, .map (some J), .map (some O),I 1]) ?_;rintro _ _ ⟨X,rfl,rfl⟩;refine gA<|T ?_;refine nG J (fm []) (.refl _) ?_;refine nG O (fo []) (.refl _) ?_;refine tH BA ?_;refine tH D9 ?_;refine cu X R ⟨hx,used,bN S L n,S,L,n,[],[],1⟩ bs bl so co q3 J O ?_;exact ar (dD X R ⟨hx,used,bN S L n,S,L,n,[],[],1⟩::cj 179 319 R (D)::tabs::F) rfl ⟨X,rfl,rfl⟩
set_option maxRecDepth 4000
def Jv:Bytes:=[98,101,103,105,110]
def Jw:Bytes:=[112,117,116]
def Jx:Bytes:=[102,105,110,105,115,104]
def Jy:Bytes:=[97,98,111,114,116]
def se:Bytes:=[97,103,97,105,110]
def sf:Bytes:=[100,114,111,112]
def kL:Bytes:=[107,101,101,112]
def na:Bytes:=[109,111,117,110,116]
def nb:Bytes:=[117,110,109,111,117,110,116]
def Jz:Bytes:=[114,101,97,100]
def nc:Bytes:=[119,114,105,116,101]
def zy:Bytes:=[115,97,118,101]
def Ut (l:List Int):Int:=l.foldl (λn i=>1000*n+i) 0
def JA (D:DiskM)(z:RpM)(e:Int)(D2:DiskM)(z2:RpM):Prop:=ct D (wC (eO z.h z.rows (260 - 122)) (bP z.rows))=(e,D2)/\((e≠0/\z2=z)\/(e=0/\∃ds used',used'<=260 - 122/\dg (z.h.first+(260 - 122)) (px D2 122) (260 - 122) 0 [] [] 0=(ds,used')/\z2=⟨eO z.h z.rows (260 - 122),used',z.rows,z.S,z.L,z.n,z.ses,z.mou,z.next⟩))
def e7 (D:DiskM)(z:RpM)(x:ActM)(n:Int)(s:Bytes)(e:Int)(D2:DiskM)(z2:RpM):Prop:=
 if x.kind=Jv then s=[]/\D2=D/\((cr z x.a x.b x.c≠0/\n=0/\e=cr z x.a x.b x.c/\z2=z)\/(cr z x.a x.b x.c=0/\n=z.next/\e=0/\∃a,z2=z.begun a x.a x.b x.c))
 else if x.kind=Jw then n=0/\s=[]/\D2=D/\((ez z x.a x.b x.s≠0/\e=ez z x.a x.b x.s/\z2=z)\/(ez z x.a x.b x.s=0/\e=0/\∃so co,z2=z.putted x.a x.b x.s so co))
 else if x.kind=Jx then s=[]/\zw D z x.a n e D2 z2
 else if x.kind=Jy then n=0/\s=[]/\D2=D/\((hJ z.ses x.a=none/\e=5/\z2=z)\/(∃y,hJ z.ses x.a=some y/\e=0/\z2=z.sess (nW z.ses x.a)))
 else if x.kind=se then s=[]/\pP D z x.a n e D2 z2
 else if x.kind=sf then n=0/\s=[]/\oR D z x.a e D2 z2
 else if x.kind=kL then s=[]/\((x.b<0/\n=0/\e=1/\D2=D/\z2=z)\/(0<=x.b/\∃gone,jg (eQ z.L x.a x.b) D z gone e D2 z2/\n=Ut gone))
 else if x.kind=na then s=[]/\D2=D/\((eT z x.a≠0/\n=0/\e=eT z x.a/\z2=z)\/(eT z x.a=0/\n=z.next/\e=0/\∃a r,z2=z.mounted a r x.a))
 else if x.kind=nb then n=0/\s=[]/\D2=D/\((mw z.mou x.a=none/\e=5/\z2=z)\/(∃y,mw z.mou x.a=some y/\e=0/\z2=z.moun (Gr z.mou x.a)))
 else if x.kind=Jz then n=0/\s=(cZ z x.a x.b).1/\e=(cZ z x.a x.b).2/\D2=D/\z2=z
 else if x.kind=nc then n=0/\s=[]/\D2=D/\((dE z x.a x.b x.s≠0/\e=dE z x.a x.b x.s/\z2=z)\/(dE z x.a x.b x.s=0/\e=0/\z2=z.written x.a x.b x.s))
 else if x.kind=zy then n=0/\s=[]/\JA D z e D2 z2
 else n=0/\s=[]/\e=0/\D2=D/\z2=z
theorem zz:∀{l:List Int} {D J:DiskM} {z z2:RpM} {gone:List Int} {e:Int},jg l D z gone e J z2->gone.length<=l.length/\∀g∈gone,g∈l
 | [],_,_,_,_,_,_,h=>by rw[h.1];simp
 | id::l,D,J,z,z2,gone,e,h=>by
  unfold jg at h;split at h
  ·have:=zz h
   grind
  ·obtain ⟨R,D1,V,_,h⟩:=h;rcases h with ⟨_,O,_⟩ | ⟨_,S,hk,O⟩
   ·rw[O];simp
   ·have:=zz hk
    grind
variable {S:SI}{L:List Pt}{disk n:Int}
def N9 {G}(hC:Con S L n G){many}:∀g∈eQ L disk many,1<=g/\g<=999:=λg J=>by
 unfold eQ at J;have h1:=kbu J;obtain ⟨p,hp,rfl⟩:=kbV.1 h1;have:=hC.v.pts p (kcd.1 hp).1;have:=hC.v.n1;omega
set_option maxRecDepth 4000
variable {t:Nat}{D:DiskM}{z:RpM}
theorem Rep.le (R:Rep t D z)(h:t<=J):Rep J D z:=⟨R.ok,R.s80,R.cal,by have:=R.ep;omega,by have:=R.first;omega,R.rows,R.rok⟩
variable {d:Bytes}{so:Option Addr}{co:Nat}
theorem Oa {e at_}(h:SOk e)(J:¬(at_<0\/e.size<=at_))(hd:¬6<d.length):SOk ⟨e.key,e.a,so,co,e.base,e.disk,e.size,j7 e.puts at_ d⟩:=by
 refine ⟨h.size,?_,λp hp=>?_⟩
 ·show ((j7 e.puts at_ d).map (·.at_)).Nodup;unfold j7;rw[kaM,kb2];refine ⟨kbS (kbT _ kbU) h.nodup,by simp,λa J b O=>?_⟩
  grind
 ·have hp:p∈j7 e.puts at_ d:=hp;unfold j7 at hp;rcases kbF.1 hp with hp | hp
  ·exact h.rng p (kcd.1 hp).1
  grind
theorem Rep.turn (R:Rep t D z)(h:t<=J)ses mou next(hn:1<=next/\next<=1000000)(hs:∀e∈ses,(1<=e.key/\e.key<next)/\SOk e)(hm:∀e∈mou,1<=e.key/\e.key<next):Rep J D ⟨z.h,z.used,z.rows,z.S,z.L,z.n,ses,mou,next⟩:=
 ⟨R.ok,R.s80,R.cal,by have:=R.ep;show z.h.ep<=_;omega,by have:=R.first;grind,R.rows,⟨R.rok.con,hn,λe he=>(hs e he).1,hm,λe he=>(hs e he).2⟩⟩
variable {α:Type}
def rv {l:List α}{i a x}(h:x∈l.set i a):x∈l\/x=a:=kbi h
variable {base size:Int}{L':List Pt}
theorem Dv {puts G J O r}(h:Vok S L n G)(e:gw S L n base disk size puts= .ok (J,L',O,r)):∀p∈L,p∈L':=λp hp=>by
 grind[C6]
theorem Dw {id G J O r}(h:Vok S L n G)(e:lT S L n id= .ok (J,L',O,r)):∀p∈L,p∈L':=λp hp=>by
 grind[C7]
structure Up (t:Nat) (D:DiskM) (z:RpM):Prop where
 rep:Rep t D z
 up:wu D
 next:z.next<=1+t
theorem Up.le (R:Up t D z)(h:t<=J):Up J D z:=⟨R.rep.le h,R.up,by have:=R.next;omega⟩
variable {J:DiskM}{z2:RpM}
theorem Up.drop {id}(R:Up t D z)(ht:t<=90000)(k:oR D z id e J z2):Up (t+1) J z2:=by
 rcases oS R.rep (by omega) k with ⟨_,h1,O,_,_,_,_,S⟩ | ⟨_,_,_,rfl,rfl⟩ | ⟨_,h,_⟩
 ·exact ⟨h1,O R.up,by rw[S];have:=R.next;omega⟩
 ·exact R.le (by omega)
 ·exact absurd R.up h
theorem Up.keep:∀{l:List Int} {t:Nat} {D J:DiskM} {z z2:RpM} {gone:List Int} {e:Int},Up t D z->t+l.length<=90000->jg l D z gone e J z2->Up (t+l.length) J z2
 | [],t,_,_,_,_,_,_,R,_,h=>by obtain ⟨_,_,rfl,rfl⟩:=h;exact R
 | id::l,t,D,J,z,z2,gone,e,R,ht,h=>by
  simp only[kaX] at ht ⊢;unfold jg at h;split at h
  ·exact (Up.keep R (by omega) h).le (by omega)
  ·obtain ⟨O,D1,V,hd,h⟩:=h;have R1:=R.drop (by omega) hd;rcases h with ⟨_,_,_,rfl,rfl⟩ | ⟨_,S,hk,_⟩
   ·exact R1.le (by omega)
   ·exact (Up.keep R1 (by omega) hk).le (by omega)
theorem Up.kept {X O V Y}(R:Up t D z)(ht:t<=90000)(J:Con O L' V Y)(h1:∀p∈z.L,p∈L')(k:FB D z O L' V e X z2):e=0/\Up (t+1) X z2/\z2.S=O/\z2.L=L'/\z2.n=V/\z2.ses=z.ses/\z2.mou=z.mou/\z2.next=z.next:=by
 rcases BC R.rep (by omega) J (P:=L') (by have:=J.v.len;omega) h1 (λp hp=>hp) k with ⟨Z,a2,a3,a4,a5,a6,a7,a8,a9⟩ | ⟨_,h,_⟩
 ·exact ⟨Z,⟨a2,a3 R.up,by rw[a9];have:=R.next;omega⟩,a4,a5,a6,a7,a8,a9⟩
 ·exact absurd R.up h
theorem Up.save {X}(R:Up t D z)(ht:t<=90000)(k:JA D z e X z2):Up (t+1) X z2:=by
 obtain ⟨hr,k⟩:=k;obtain ⟨r0,ds,bn,J⟩:=R.rep.cal;have hep:=R.rep.ep;have hfi:=R.rep.first;rw[<-J] at hr;have hs:=TS R.rep.ok R.rep.s80 bn.2.1 hr;obtain ⟨D1,Y,q2,q3⟩:=MP R.up bn.2.1 (by omega) (by omega);rw[Y] at hr;injection hr with h1 Z;subst h1 Z;rcases E2 bn.1 bn.2.1 bn.2.2 (by omega) (by omega) Y with ⟨_,O⟩ | ⟨h9,_⟩
 ·rcases k with ⟨hx,_⟩ | ⟨_,d',u',_,V,rfl⟩
  ·exact absurd rfl hx
  ·have S:=O.2.1.good.log;rw[O.2.1.len] at S;have hu:=(vv V S).2;subst hu;rw[J] at O;exact ⟨⟨FG hs.1 O.1,hs.2,⟨z.rows,[],O,rfl⟩,by show z.h.ep+1<=_;omega,by show z.h.first+(260 - 122)<=_;omega,R.rep.rows,⟨R.rep.rok.con,R.rep.rok.next,R.rep.rok.keyS,R.rep.rok.keyM,R.rep.rok.sesS⟩⟩,q2,by have:=R.next;show z.next<=_;omega⟩
 ·cases h9
def Dx (R:Up t D z)l(h:∀e∈l,e∈z.ses):Up t D (z.sess l):=
 ⟨R.rep.turn (kax _) l z.mou z.next R.rep.rok.next (λe he=>⟨R.rep.rok.keyS e (h e he),R.rep.rok.sesS e (h e he)⟩) R.rep.rok.keyM,R.up,R.next⟩
def Dy (R:Up t D z)l(h:∀e∈l,1<=e.key/\e.key<z.next):Up t D (z.moun l):=
 ⟨R.rep.turn (kax _) z.ses l z.next R.rep.rok.next (λe he=>⟨R.rep.rok.keyS e he,R.rep.rok.sesS e he⟩) h,R.up,R.next⟩
theorem Ld {D2 x s}(R:Up t D z)(ht:t<=80000)(k:e7 D z x n s e D2 z2):Up (t+7) D2 z2:=by
 have hnx:=R.next;have hn1:=R.rep.rok.next;obtain ⟨G,hC⟩:=R.rep.rok.con;have hlen:=hC.v.len;unfold e7 at k;by_cases S:x.kind=Jv
 ·rw[kaT S] at k;obtain ⟨_,rfl,⟨_,_,_,rfl⟩ | ⟨hb,_,_,a,rfl⟩⟩:=k
  ·exact R.le (by omega)
  ·have hsz:¬(x.b<1\/999<x.b\/x.c<1\/16<x.c):=λh=>(by grind[cr]);refine ⟨R.rep.turn (by omega) _ _ _ (by omega) (λe he=>?_) (λe he=>by have:=R.rep.rok.keyM e he;omega),R.up,by show z.next+1<=_;omega⟩;rcases kbF.1 he with he | he
   ·have:=R.rep.rok.keyS e he;exact ⟨by omega,R.rep.rok.sesS e he⟩
   ·rw[kcv] at he;subst he;exact ⟨by grind,⟨by grind,by simp,λp hp=>by cases hp⟩⟩
 rw[kaU S] at k;by_cases hkPut:x.kind=Jw
 ·rw[kaT hkPut] at k;obtain ⟨_,_,rfl,⟨_,_,rfl⟩ | ⟨hp,_,so,co,rfl⟩⟩:=k
  ·exact R.le (by omega)
  ·unfold RpM.putted;unfold ez at hp;cases hf:hJ z.ses x.a with
   | none=>exact R.le (by omega)
   | some y=>
    rw[hf] at hp;simp only at hp ⊢;obtain ⟨hy,_,_⟩:=pN hf;have hym:=kbe hy;have h1:¬(x.b<0\/y.size<=x.b):=λh=>(by grind);rw[kaU h1] at hp;have h2:¬6<x.s.length:=λh=>(by grind);refine ⟨R.rep.turn (by omega) _ _ _ hn1 (λe he=>?_) R.rep.rok.keyM,R.up,by show z.next<=_;omega⟩;rcases rv he with he | rfl
    ·exact ⟨R.rep.rok.keyS e he,R.rep.rok.sesS e he⟩
    ·exact ⟨R.rep.rok.keyS y hym,Oa (R.rep.rok.sesS y hym) h1 h2⟩
 rw[kaU hkPut] at k;by_cases X:x.kind=Jx
 ·rw[kaT X] at k;obtain ⟨_,k⟩:=k;unfold zw at k;split at k
  ·obtain ⟨_,_,rfl,rfl⟩:=k;exact R.le (by omega)
  ·split at k
   ·obtain ⟨_,_,rfl,rfl⟩:=k;exact R.le (by omega)
   ·rename_i hr;obtain ⟨y,hk,_,rfl⟩:=k;obtain ⟨G',hC'⟩:=qE hC hr;obtain ⟨rfl,R1,_,_,_,e4,_⟩:=R.kept (by omega) hC' (Dv hC.v hr) hk;rw[kaT rfl];exact (Dx R1 (nW y.ses x.a) λe he=>(kcd.1 he).1).le (by omega)
 rw[kaU X] at k;by_cases J:x.kind=Jy
 ·rw[kaT J] at k;obtain ⟨_,_,rfl,⟨_,_,rfl⟩ | ⟨y,_,_,rfl⟩⟩:=k
  ·exact R.le (by omega)
  ·exact (Dx R (nW z.ses x.a) λe he=>(kcd.1 he).1).le (by omega)
 rw[kaU J] at k;by_cases O:x.kind=se
 ·rw[kaT O] at k;obtain ⟨_,k⟩:=k;unfold pP at k;split at k
  ·obtain ⟨_,_,rfl,rfl⟩:=k;exact R.le (by omega)
  ·rename_i hr;obtain ⟨hk,_⟩:=k;obtain ⟨G',hC'⟩:=qF hC hr;exact (R.kept (by omega) hC' (Dw hC.v hr) hk).2.1.le (by omega)
 rw[kaU O] at k;by_cases V:x.kind=sf
 ·rw[kaT V] at k;exact (R.drop (by omega) k.2.2).le (by omega)
 rw[kaU V] at k;by_cases Y:x.kind=kL
 ·rw[kaT Y] at k;obtain ⟨_,⟨_,_,_,rfl,rfl⟩ | ⟨_,gone,hk,_⟩⟩:=k
  ·exact R.le (by omega)
  ·have hel:=ru z.L x.a x.b hlen;exact (Up.keep R (by omega) hk).le (by omega)
 rw[kaU Y] at k;by_cases Z:x.kind=na
 ·rw[kaT Z] at k;obtain ⟨_,rfl,⟨_,_,_,rfl⟩ | ⟨hb,_,_,a,r,rfl⟩⟩:=k
  ·exact R.le (by omega)
  ·refine ⟨R.rep.turn (by omega) _ _ _ (by omega) (λe he=>⟨by have:=R.rep.rok.keyS e he;omega,R.rep.rok.sesS e he⟩) (λe he=>?_),R.up,by show z.next+1<=_;omega⟩;rcases kbF.1 he with he | he
   ·have:=R.rep.rok.keyM e he;omega
   grind
 rw[kaU Z] at k;by_cases hkUnm:x.kind=nb
 ·rw[kaT hkUnm] at k;obtain ⟨_,_,rfl,⟨_,_,rfl⟩ | ⟨y,_,_,rfl⟩⟩:=k
  ·exact R.le (by omega)
  ·exact (Dy R (Gr z.mou x.a) λe he=>R.rep.rok.keyM e (kcd.1 he).1).le (by omega)
 rw[kaU hkUnm] at k;by_cases hkRea:x.kind=Jz
 ·rw[kaT hkRea] at k;obtain ⟨_,_,_,rfl,rfl⟩:=k;exact R.le (by omega)
 rw[kaU hkRea] at k;by_cases hkWri:x.kind=nc
 ·rw[kaT hkWri] at k;obtain ⟨_,_,rfl,⟨_,_,rfl⟩ | ⟨_,_,rfl⟩⟩:=k
  ·exact R.le (by omega)
  ·unfold RpM.written;split
   ·exact R.le (by omega)
   ·rename_i m hf;obtain ⟨hy,_,_⟩:=pO hf;refine (Dy R _ λe he=>?_).le (by omega);rcases rv he with he | rfl
    ·exact R.rep.rok.keyM e he
    ·exact R.rep.rok.keyM m<|kbe hy
 rw[kaU hkWri] at k;by_cases hkSav:x.kind=zy
 ·rw[kaT hkSav] at k;exact (R.save (by omega) k.2.2).le (by omega)
 rw[kaU hkSav] at k;obtain ⟨_,_,_,rfl,rfl⟩:=k;exact R.le (by omega)
set_option maxRecDepth 4000
theorem Rok.put {id at_}(R:Rok z)(hp:ez z id at_ d=0):Rok (z.putted id at_ d so co):=by
 unfold RpM.putted;unfold ez at hp;cases O:hJ z.ses id with
 | none=>exact R
 | some y=>
  rw[O] at hp;simp only at hp ⊢;obtain ⟨hy,_,_⟩:=pN O;have J:=kbe hy;have h1:¬(at_<0\/y.size<=at_):=λh=>(by grind);rw[kaU h1] at hp;have S:¬6<d.length:=λh=>(by grind);refine ⟨R.con,R.next,λe he=>?_,R.keyM,λe he=>?_⟩
  ·rcases rv he with he | rfl
   ·exact R.keyS e he
   ·exact R.keyS y J
  ·rcases rv he with he | rfl
   ·exact R.sesS e he
   ·exact Oa (R.sesS y J) h1 S
def SameS (z z2:RpM):Prop:=z2.h=z.h/\z2.used=z.used/\z2.rows=z.rows/\z2.S=z.S/\z2.L=z.L/\z2.n=z.n/\z2.mou=z.mou/\z2.next=z.next
theorem SameS.refl z:SameS z z:=⟨rfl,rfl,rfl,rfl,rfl,rfl,rfl,rfl⟩
theorem SameS.trans {a b c}(h:SameS a b)(k:SameS b c):SameS a c:=⟨k.1.trans h.1,k.2.1.trans h.2.1,k.2.2.1.trans h.2.2.1,k.2.2.2.1.trans h.2.2.2.1,k.2.2.2.2.1.trans h.2.2.2.2.1,k.2.2.2.2.2.1.trans h.2.2.2.2.2.1,k.2.2.2.2.2.2.1.trans h.2.2.2.2.2.2.1,k.2.2.2.2.2.2.2.trans h.2.2.2.2.2.2.2⟩
def n4 z id at_ d so co:SameS z (z.putted id at_ d so co):=by
 unfold RpM.putted;cases hJ z.ses id with
 | none=>exact SameS.refl z
 | some e=>exact ⟨rfl,rfl,rfl,rfl,rfl,rfl,rfl,rfl⟩
theorem Rok.begin {a}(R:Rok z)(hn:z.next<=999999)(S:cr z base disk size=0):Rok (z.begun a base disk size):=by
 have J:=R.next;have O:¬(disk<1\/999<disk\/size<1\/16<size):=λh=>(by grind[cr]);refine ⟨R.con,by show 1<=z.next+1/\z.next+1<=1000000;omega,λe he=>?_,λe he=>by have:=R.keyM e he;show 1<=e.key/\e.key<z.next+1;omega,λe he=>?_⟩
 ·rcases kbF.1 he with he | he
  ·have:=R.keyS e he;show 1<=e.key/\e.key<z.next+1;omega
  ·rw[kcv] at he;subst he;show 1<=z.next/\z.next<z.next+1;omega
 ·rcases kbF.1 he with he | he
  ·exact R.sesS e he
  ·rw[kcv] at he;subst he;exact ⟨by grind,by simp,λp hp=>by cases hp⟩
theorem Up.begun {a}(R:Up t D z)(ht:t<=90000)(V:cr z base disk size=0):Up (t+1) D (z.begun a base disk size):=by
 have J:=R.rep.rok.next;have O:=R.next;have S:¬(disk<1\/999<disk\/size<1\/16<size):=λh=>(by grind[cr]);refine ⟨R.rep.turn (by omega) _ _ _ (by omega) (λe he=>?_) (λe he=>by have:=R.rep.rok.keyM e he;omega),R.up,by show z.next+1<=_;omega⟩;rcases kbF.1 he with he | he
 ·have:=R.rep.rok.keyS e he;exact ⟨by omega,R.rep.rok.sesS e he⟩
 ·rw[kcv] at he;subst he;exact ⟨by grind,⟨by grind,by simp,λp hp=>by cases hp⟩⟩
theorem SameS.eq {J}(h:SameS z J):J=z.sess J.ses:=by
 obtain ⟨h1,O,R,S,V,X,Y,Z⟩:=h;cases J;cases z;simp only at h1 O R S V X Y Z;subst h1 O R S V X Y Z
 rfl
theorem Up.same {J}(R:Up t D z)(h:SameS z J)(K:Rok J):Up t D J:=by
 have e:=h.eq;have hk:=K.keyS;have hs:=K.sesS;have hn:=R.rep.rok.next;rw[e];refine ⟨R.rep.turn (kax _) J.ses z.mou z.next hn (λy hy=>⟨?_,hs y hy⟩) R.rep.rok.keyM,R.up,R.next⟩;have:=hk y hy;rw[h.2.2.2.2.2.2.2] at this;exact this
theorem Up.abort (R:Up t D z)id:Up t D (z.sess (nW z.ses id)):=Dx R (nW z.ses id) λe he=>(kcd.1 he).1
theorem Dz {id}(R:Up t D z)(ht:t<=90000)(k:zw D z id n e J z2):
  (n=0/\e≠0/\J=D/\z2=z/\(hJ z.ses id=none/\e=5\/∃s,hJ z.ses id=some s/\gw z.S z.L z.n s.base s.disk s.size s.puts= .error e))\/
  (e=0/\Up (t+1) J z2/\(∃s,hJ z.ses id=some s/\gw z.S z.L z.n s.base s.disk s.size s.puts= .ok (z2.S,z2.L,z2.n,n))/\z2.ses=nW z.ses id/\z2.mou=z.mou/\z2.next=z.next):=by
 unfold zw at k;obtain ⟨G,hC⟩:=R.rep.rok.con;cases Z:hJ z.ses id with
 | none=>
  grind
 | some s=>
  rw[Z] at k;simp only at k;split at k
  ·rename_i hr;obtain ⟨rfl,rfl,rfl,rfl⟩:=k;exact .inl ⟨rfl,by have:=ud hr;omega,rfl,rfl, .inr ⟨s,rfl,hr⟩⟩
  ·rename_i S' L' n' r hr;obtain ⟨y,hk,hn,rfl⟩:=k;obtain ⟨G',O⟩:=qE hC hr;obtain ⟨rfl,R1,e1,e2,e3,V,X,Y⟩:=R.kept (by omega) O (Dv hC.v hr) hk;rw[kaT rfl] at hn ⊢;subst hn;refine .inr ⟨rfl,R1.abort id,⟨s,rfl,?_⟩,?_,X,Y⟩
   ·show _=Except.ok (y.S,y.L,y.n,n)
    grind
   ·show nW y.ses id=_;rw[V]
theorem JB {id O J r}(h:mY S L n id= .ok (O,L',J,r)):L'=L.filter (λx=>!decide (x.id=id))/\J=n:=by
 grind[mY]
theorem find_is {id}:(aX L id).isSome=true ↔ ∃p∈L,p.id=id:=by
 grind[aX]
theorem Le (h1:z2.ses=z.ses)(J:z2.mou=z.mou)q:fc z2 q=fc z q:=by unfold fc;rw[h1,J]
theorem qK:∀{l:List Int} {t:Nat} {D S:DiskM} {z z2:RpM} {gone:List Int} {e:Int},Up t D z->t+l.length<=90000->l.Nodup->(∀q∈l,(aX z.L q).isSome=true)->jg l D z gone e S z2->
  e=0/\gone.Sublist l/\z2.L=z.L.filter (λp=>!decide (p.id∈gone))/\z2.ses=z.ses/\z2.mou=z.mou/\z2.next=z.next/\z2.n=z.n/\∀q∈gone,fc z q=false
 | [],t,D,S,z,z2,gone,e,R,ht,J,O,h=>by
  obtain ⟨rfl,rfl,rfl,rfl⟩:=h;refine ⟨rfl,List.Sublist.refl _,?_,rfl,rfl,rfl,rfl,λq hq=>by cases hq⟩
  symm
  simp_all
 | id::l,t,D,S,z,z2,gone,e,R,ht,J,O,h=>by
  simp only[kaX] at ht;rw[kb3] at J;unfold jg at h;by_cases Z:fc z id=true
  ·rw[kaT Z] at h;obtain ⟨a1,a2,a3⟩:=qK R (by omega) J.2 (λq hq=>O q (kcn _ hq)) h;exact ⟨a1,a2.cons _,a3⟩
  ·rw[kaU Z] at h;have hu0:fc z id=false:=(by simpa using Z);have V:fT z id=0:=by
    grind[fT,Option.isNone_iff_eq_none]
   obtain ⟨e1,D1,z1,hd,h⟩:=h;rcases oS R.rep (by omega) hd with ⟨rfl,_,_,_,X,hs,hm,hx⟩ | ⟨hne,_,he,_⟩ | ⟨_,hn,_⟩
   ·rcases h with ⟨hc,_⟩ | ⟨_,g',hk,hg⟩
    ·exact absurd rfl hc
    obtain ⟨hL,hn⟩:=JB X;obtain ⟨rfl,a2,a3,a4,a5,a6,a7,a8⟩:=qK (R.drop (by omega) hd) (by omega) J.2 (λq hq=>by
     obtain ⟨p,hp,Y⟩:=find_is.1 (O q (kcn _ hq));exact find_is.2 ⟨p,by grind,Y⟩) hk
    rw[kaT rfl] at hg;subst hg;refine ⟨rfl,a2.cons_cons _,?_,a4.trans hs,a5.trans hm,a6.trans hx,a7.trans hn,λq hq=>?_⟩
    ·rw[a3,hL,kb6]
     grind
    grind[Le]
   ·exact absurd (he.trans V) hne
   ·exact absurd R.up hn
def JC L disk many:(eQ L disk many).Sublist (L.map (·.id)):=by
 unfold eQ;exact (kcN _ _).trans<|kbT _ kbU
theorem ids_nodup {G}(h:Vok S L n G):(L.map (·.id)).Nodup:=by
 rw[List.Nodup,kc9];exact h.srt.imp λh=>by omega
def Hv {G}(h:Vok S L n G)disk many:(eQ L disk many).Nodup/\∀q∈eQ L disk many,(aX L q).isSome=true:=by
 refine ⟨(ids_nodup h).sublist (JC L disk many),λq hq=>?_⟩;obtain ⟨p,hp,e⟩:=kbV.1 ((JC L disk many).subset hq);exact find_is.2 ⟨p,hp,e⟩
theorem Up.mounted {a r id}(R:Up t D z)(ht:t<=90000):Up (t+1) D (z.mounted a r id):=by
 have J:=R.rep.rok.next;have O:=R.next;refine ⟨R.rep.turn (by omega) _ _ _ (by omega) (λe he=>⟨by have:=R.rep.rok.keyS e he;omega,R.rep.rok.sesS e he⟩) (λe he=>?_),R.up,by show z.next+1<=_;omega⟩;rcases kbF.1 he with he | he
 ·have:=R.rep.rok.keyM e he;omega
 grind
theorem Rv {l}{m:SeE}(h:∀e∈l,e.key<m.key):hJ (l++ [m]) m.key=some m:=by
 grind[hJ]
variable {k:Int}
theorem Hw {at_ m}(h:mw z.mou k=some m):z.written k at_ d=z.moun (z.mou.set (Ea z.mou k) ⟨m.key,m.a,m.r,m.point,Hq m.over at_ d⟩):=by
 grind[RpM.written]
theorem Up.written (R:Up t D z)k at_ d:Up t D (z.written k at_ d):=by
 unfold RpM.written;split
 ·exact R
 ·rename_i m J;obtain ⟨hy,_,_⟩:=pO J;refine Dy R _ λe he=>?_;rcases rv he with he | rfl
  ·exact R.rep.rok.keyM e he
  ·exact R.rep.rok.keyM m<|kbe hy
theorem BE {at_}{i:Nat}(h:at_≠(i:Int)):∀(l:List PutM) (d:Bytes),l7 (l.filter λx=>!decide (x.at_=at_)) i d=l7 l i d
 | [],d=>rfl
 | p::l,d=>by
  have J:=BE h l;unfold l7 at J ⊢
  grind
theorem Hx l at_ x d i:l7 (j7 l at_ x) i d=if at_=(i:Int) then x else l7 l i d:=by
 unfold j7;by_cases h:at_=(i:Int)
 ·grind[l7]
 ·rw[kaU h,<-BE h l d]
  grind[l7]
theorem JD:∀{l:List SeE} {k:Int} {m m':SeE},hJ l k=some m->m'.key=k->hJ (l.set (xM l k) m') k=some m'
 | [],k,m,m',h,hk=>by cases h
 | a::l,k,m,m',h,hk=>by
  unfold hJ at h ⊢;unfold xM;by_cases J:a.key=k
  ·grind
  ·rw[kdl,kcj J];rw[List.find?_cons_of_neg (by simpa using J)] at h;have O:=JD (l:=l) (m':=m') h hk
   grind[hJ,xM]
theorem BF {at_ e}(h:hJ z.ses k=some e):z.putted k at_ d so co=z.sess (z.ses.set (xM z.ses k) ⟨e.key,e.a,so,co,e.base,e.disk,e.size,j7 e.puts at_ d⟩):=by
 grind[RpM.putted]
def wF {at_ e}(h:hJ z.ses k=some e):hJ (z.putted k at_ d so co).ses k=some ⟨e.key,e.a,so,co,e.base,e.disk,e.size,j7 e.puts at_ d⟩:=by
 rw[BF h];exact JD h (pN h).2.1
theorem Up.put (R:Up t D z){at_}(h:ez z k at_ d=0)so co:Up t D (z.putted k at_ d so co):=R.same (n4 z k at_ d so co) (R.rep.rok.put h)
structure SeS where
 key:Int
 base:Int
 disk:Int
 size:Int
 puts:List PutM
structure MoS where
 key:Int
 point:Int
 over:List (Int×Bytes)
structure LR where
 S:SI
 L:List Pt
 n:Int
 ses:List SeS
 mou:List MoS
 next:Int
def sS (e:SeE):SeS:=⟨e.key,e.base,e.disk,e.size,e.puts⟩
def mS (m:MoE):MoS:=⟨m.key,m.point,m.over⟩
def RpM.lr (z:RpM):LR:=⟨z.S,z.L,z.n,z.ses.map sS,z.mou.map mS,z.next⟩
def fS (l:List SeS)(id:Int):Option SeS:=l.find? λe=>decide (e.key=id)
def fM (l:List MoS)(id:Int):Option MoS:=l.find? λe=>decide (e.key=id)
def iS (l:List SeS)(id:Int):Nat:=l.findIdx λe=>decide (e.key=id)
def iM (l:List MoS)(id:Int):Nat:=l.findIdx λe=>decide (e.key=id)
def rS (l:List SeS)(id:Int):List SeS:=l.filter λe=>!decide (e.key=id)
def rM (l:List MoS)(id:Int):List MoS:=l.filter λe=>!decide (e.key=id)
theorem sg l id:fS (l.map sS) id=(hJ l id).map sS:=by
 unfold fS hJ;rw[List.find?_map]
 rfl
theorem FI l id:fM (l.map mS) id=(mw l id).map mS:=by
 unfold fM mw;rw[List.find?_map]
 rfl
theorem Wi l id:iS (l.map sS) id=xM l id:=by
 unfold iS xM;rw[List.findIdx_map]
 rfl
theorem Wj l id:iM (l.map mS) id=Ea l id:=by
 unfold iM Ea;rw[List.findIdx_map]
 rfl
theorem FJ l id:rS (l.map sS) id=(nW l id).map sS:=by
 unfold rS nW;rw[kcr]
 rfl
theorem SK l id:rM (l.map mS) id=(Gr l id).map mS:=by
 unfold rM Gr;rw[kcr]
 rfl
def JE (σ:LR)(id:Int):Bool:=σ.ses.any (λe=>decide (e.base=id)) || σ.mou.any λe=>decide (e.point=id)
def xN z id:JE z.lr id=fc z id:=by
 unfold JE fc RpM.lr;simp only[List.any_map]
 rfl
def LR.vau (σ:LR)(S:SI)(L:List Pt)(n:Int):LR:=⟨S,L,n,σ.ses,σ.mou,σ.next⟩
def LR.sesn (σ:LR)(l:List SeS):LR:=⟨σ.S,σ.L,σ.n,l,σ.mou,σ.next⟩
def LR.moun (σ:LR)(l:List MoS):LR:=⟨σ.S,σ.L,σ.n,σ.ses,l,σ.next⟩
def pS (σ:LR)(base disk size:Int):Int:=if disk<1\/999<disk\/size<1\/16<size then 1 else if BB σ.L base disk≠0 then BB σ.L base disk else if σ.ses.length=3 then 8 else 0
def LR.begun (σ:LR)(base disk size:Int):LR:=⟨σ.S,σ.L,σ.n,σ.ses++ [⟨σ.next,base,disk,size,[]⟩],σ.mou,σ.next+1⟩
def ol (σ:LR)(id:Int):Int:=match aX σ.L id with
 | none=>5
 | some _=>if σ.mou.length=3 then 8 else 0
def LR.mounted (σ:LR)(id:Int):LR:=⟨σ.S,σ.L,σ.n,σ.ses,σ.mou++ [⟨σ.next,id,[]⟩],σ.next+1⟩
def uy (σ:LR)(id at_:Int):Bytes×Int:=match fM σ.mou id with
 | none=>([],5)
 | some m=>if (j5 σ.S σ.L m.point at_).2≠0 then ([],(j5 σ.S σ.L m.point at_).2) else match D8 m.over at_ with
  | some d=>(d,0)
  | none=>((j5 σ.S σ.L m.point at_).1,0)
def om (σ:LR)(id at_:Int)(d:Bytes):Int:=if (uy σ id at_).2≠0 then (uy σ id at_).2 else if 6<d.length then 2 else 0
def LR.written (σ:LR)(id at_:Int)(d:Bytes):LR:=match fM σ.mou id with
 | none=>σ
 | some m=>σ.moun (σ.mou.set (iM σ.mou id) ⟨m.key,m.point,Hq m.over at_ d⟩)
def FK (σ:LR)(id at_:Int)(d:Bytes):Int:=match fS σ.ses id with
 | none=>5
 | some e=>if at_<0\/e.size<=at_ then 1 else if 6<d.length then 2 else 0
def LR.putted (σ:LR)(id at_:Int)(d:Bytes):LR:=match fS σ.ses id with
 | none=>σ
 | some e=>σ.sesn (σ.ses.set (iS σ.ses id) ⟨e.key,e.base,e.disk,e.size,j7 e.puts at_ d⟩)
def nv (σ:LR)(id:Int):LR×Int×Int:=match fS σ.ses id with
 | none=>(σ,0,5)
 | some s=>match gw σ.S σ.L σ.n s.base s.disk s.size s.puts with
  | .error f=>(σ,0,f)
  | .ok r=>(⟨r.1,r.2.1,r.2.2.1,rS σ.ses id,σ.mou,σ.next⟩,r.2.2.2,0)
def zA (σ:LR)(id:Int):LR×Int:=match fS σ.ses id with
 | none=>(σ,5)
 | some _=>(σ.sesn (rS σ.ses id),0)
def zB (σ:LR)(id:Int):LR×Int:=match fM σ.mou id with
 | none=>(σ,5)
 | some _=>(σ.moun (rM σ.mou id),0)
def sZ (σ:LR)(id:Int):LR×Int×Int:=match lT σ.S σ.L σ.n id with
 | .error f=>(σ,0,f)
 | .ok r=>(σ.vau r.1 r.2.1 r.2.2.1,r.2.2.2,0)
def zC (σ:LR)(id:Int):Int:=if (aX σ.L id).isNone then 5 else if JE σ id=true then 6 else 0
def kX (σ:LR)(id:Int):LR×Int:=if zC σ id≠0 then (σ,zC σ id) else match mY σ.S σ.L σ.n id with
 | .error f=>(σ,f)
 | .ok r=>(σ.vau r.1 r.2.1 r.2.2.1,0)
def keepL:List Int->LR->LR×List Int
 | [],σ=>(σ,[])
 | id::l,σ=>if JE σ id=true then keepL l σ else ((keepL l (kX σ id).1).1,id::(keepL l (kX σ id).1).2)
def iO (σ:LR)(x:ActM):LR×Int×Bytes×Int:=
 if x.kind=Jv then (if pS σ x.a x.b x.c≠0 then (σ,0,[],pS σ x.a x.b x.c) else (σ.begun x.a x.b x.c,σ.next,[],0))
 else if x.kind=Jw then (if FK σ x.a x.b x.s≠0 then (σ,0,[],FK σ x.a x.b x.s) else (σ.putted x.a x.b x.s,0,[],0))
 else if x.kind=Jx then ((nv σ x.a).1,(nv σ x.a).2.1,[],(nv σ x.a).2.2)
 else if x.kind=Jy then ((zA σ x.a).1,0,[],(zA σ x.a).2)
 else if x.kind=se then ((sZ σ x.a).1,(sZ σ x.a).2.1,[],(sZ σ x.a).2.2)
 else if x.kind=sf then ((kX σ x.a).1,0,[],(kX σ x.a).2)
 else if x.kind=kL then (if x.b<0 then (σ,0,[],1) else ((keepL (eQ σ.L x.a x.b) σ).1,Ut (keepL (eQ σ.L x.a x.b) σ).2,[],0))
 else if x.kind=na then (if ol σ x.a≠0 then (σ,0,[],ol σ x.a) else (σ.mounted x.a,σ.next,[],0))
 else if x.kind=nb then ((zB σ x.a).1,0,[],(zB σ x.a).2)
 else if x.kind=Jz then (σ,0,(uy σ x.a x.b).1,(uy σ x.a x.b).2)
 else if x.kind=nc then (if om σ x.a x.b x.s≠0 then (σ,0,[],om σ x.a x.b x.s) else (σ.written x.a x.b x.s,0,[],0))
 else (σ,0,[],0)
theorem oT z base disk size:pS z.lr base disk size=cr z base disk size:=by
 grind[pS,cr,RpM.lr]
theorem zD (z:RpM)a base disk size:(z.begun a base disk size).lr=z.lr.begun base disk size:=by
 grind[RpM.begun,LR.begun,RpM.lr,sS]
theorem zE z id:ol z.lr id=eT z id:=by
 grind[ol,eT,RpM.lr]
theorem zF (z:RpM)a r id:(z.mounted a r id).lr=z.lr.mounted id:=by
 grind[RpM.mounted,LR.mounted,RpM.lr,mS]
theorem n5 z id at_:uy z.lr id at_=cZ z id at_:=by
 unfold uy cZ;rw[show z.lr.mou=z.mou.map mS from rfl,FI];cases mw z.mou id <;> rfl
theorem zG z id at_ d:om z.lr id at_ d=dE z id at_ d:=by
 unfold om dE;rw[n5]
theorem zH (z:RpM)id at_ d:(z.written id at_ d).lr=z.lr.written id at_ d:=by
 unfold RpM.written LR.written
 grind[mS,FI,Wj,RpM.lr,LR.moun,RpM.moun,List.map_set]
theorem Rw z id at_ d:FK z.lr id at_ d=ez z id at_ d:=by
 unfold FK ez;rw[show z.lr.ses=z.ses.map sS from rfl,sg];cases hJ z.ses id <;> rfl
theorem vZ (z:RpM)id at_ d so co:(z.putted id at_ d so co).lr=z.lr.putted id at_ d:=by
 unfold RpM.putted LR.putted
 grind[sS,sg,Wi,RpM.lr,LR.sesn,RpM.sess,List.map_set]
theorem DA (z:RpM)l:(z.sess l).lr=z.lr.sesn (l.map sS):=rfl
theorem JF (z:RpM)l:(z.moun l).lr=z.lr.moun (l.map mS):=rfl
def qL z id:zC z.lr id=fT z id:=by
 unfold zC fT;rw[xN]
 rfl
def SM {σ}(h1:z.S=σ.S)(J:z.L=σ.L)(O:z.n=σ.n)(R:z.ses.map sS=σ.ses)(V:z.mou.map mS=σ.mou)(X:z.next=σ.next):z.lr=σ:=by
 simp_all[RpM.lr]
theorem Ob {id}(R:Up t D z)(ht:t<=90000)(k:zw D z id n e J z2):nv z.lr id=(z2.lr,n,e):=by
 unfold nv;rw[show z.lr.ses=z.ses.map sS from rfl,sg];rcases Dz R ht k with ⟨rfl,_,rfl,rfl,⟨h1,rfl⟩ | ⟨s,h1,O⟩⟩ | ⟨rfl,_,⟨s,h1,O⟩,S,V,X⟩
 ·rw[h1];rfl
 ·grind[sS,RpM.lr]
 grind[sS,RpM.lr,FJ]
theorem JG {O id}(R:Up t D z)(ht:t<=90000)(k:oR D z id e O z2):kX z.lr id=(z2.lr,e):=by
 unfold kX;rw[qL];rcases oS R.rep (by omega) k with ⟨rfl,_,_,h1,J,V,X,Y⟩ | ⟨h1,_,J,rfl,rfl⟩ | ⟨_,h,_⟩
 ·rw[iOm];show (match mY z.S z.L z.n id with | .error f=>_ | .ok r=>_)=_;rw[J];refine Prod.ext ?_ rfl
  symm
  refine SM W W W ?_ ?_ Y
  ·show _=z.ses.map sS;rw[V]
  ·show _=z.mou.map mS;rw[X]
 ·grind
 ·exact absurd R.up h
def Uu {O id}(R:Up t D z)(ht:t<=90000)(k:pP D z id n e O z2):sZ z.lr id=(z2.lr,n,e)/\Up (t+1) O z2:=by
 obtain ⟨G,hC⟩:=R.rep.rok.con;unfold pP at k;unfold sZ;show (match lT z.S z.L z.n id with | .error f=>_ | .ok r=>_)=_/\_;cases hr:lT z.S z.L z.n id with
 | error f=>
  rw[hr] at k;obtain ⟨rfl,rfl,rfl,rfl⟩:=k;exact ⟨rfl,R.le (by omega)⟩
 | ok r=>
  obtain ⟨S',L',n',r⟩:=r;rw[hr] at k;simp only at k ⊢;obtain ⟨hk,hn⟩:=k;obtain ⟨G',J⟩:=qF hC hr;obtain ⟨rfl,U,V,X,Y,Z,e5,e6⟩:=R.kept (by omega) J (Dw hC.v hr) hk;rw[kaT rfl] at hn;subst hn;refine ⟨Prod.ext ?_ rfl,U⟩
  symm
  refine SM V X Y ?_ ?_ e6
  ·show _=z.ses.map sS;rw[Z]
  ·show _=z.mou.map mS;rw[e5]
theorem xO:∀{l:List Int} {t:Nat} {D V:DiskM} {z z2:RpM} {gone:List Int} {e:Int},Up t D z->t+l.length<=90000->l.Nodup->(∀q∈l,(aX z.L q).isSome=true)->jg l D z gone e V z2->keepL l z.lr=(z2.lr,gone)
 | [],t,D,V,z,z2,gone,e,R,ht,J,S,h=>by
  obtain ⟨rfl,rfl,rfl,rfl⟩:=h
  rfl
 | id::l,t,D,V,z,z2,gone,e,R,ht,J,S,h=>by
  simp only[kaX] at ht;rw[kb3] at J;unfold jg at h;unfold keepL;rw[xN];by_cases hu:fc z id=true
  ·rw[kaT hu] at h ⊢;exact xO R (by omega) J.2 (λq hq=>S q (kcn _ hq)) h
  ·rw[kaU hu] at h ⊢;have hu0:fc z id=false:=(by simpa using hu);have X:fT z id=0:=by
    grind[fT,Option.isNone_iff_eq_none]
   obtain ⟨e1,D1,z1,hd,h⟩:=h;have Y:=JG R (by omega) hd;rw[Y];rcases oS R.rep (by omega) hd with ⟨rfl,_,_,_,Z,hs,hm,hx⟩ | ⟨hne,_,he,_⟩ | ⟨_,hn,_⟩
   ·rcases h with ⟨hc,_⟩ | ⟨_,g',hk,hg⟩
    ·exact absurd rfl hc
    obtain ⟨hL,hn⟩:=JB Z;have O:∀q∈l,(aX z1.L q).isSome=true:=λq hq=>by
     obtain ⟨p,hp,hpq⟩:=find_is.1 (S q (kcn _ hq));exact find_is.2 ⟨p,by grind,hpq⟩
    have U1:=R.drop (by omega) hd;obtain ⟨rfl,_⟩:=qK U1 (by omega) J.2 O hk;rw[kaT rfl] at hg;subst hg;have ih:=xO U1 (by omega) J.2 O hk;rw[ih]
   ·exact absurd (he.trans X) hne
   ·exact absurd R.up hn
theorem JH {V x s}(R:Up t D z)(ht:t<=80000)(k:e7 D z x n s e V z2):iO z.lr x=(z2.lr,n,s,e):=by
 unfold e7 at k;unfold iO;by_cases h:x.kind=Jv
 ·rw[kaT h] at k ⊢;rw[oT];obtain ⟨rfl,rfl,⟨h1,rfl,rfl,rfl⟩ | ⟨h1,rfl,rfl,a,rfl⟩⟩:=k
  ·rw[kaT h1]
  ·rw[iOm,zD];rfl
 rw[kaU h] at k ⊢;by_cases h:x.kind=Jw
 ·grind[Rw,vZ]
 rw[kaU h] at k ⊢;by_cases h:x.kind=Jx
 ·rw[kaT h] at k ⊢;obtain ⟨rfl,k⟩:=k;rw[Ob R (by omega) k]
 rw[kaU h] at k ⊢;by_cases h:x.kind=Jy
 ·rw[kaT h] at k ⊢;unfold zA;rw[show z.lr.ses=z.ses.map sS from rfl,sg]
  grind[DA,FJ]
 rw[kaU h] at k ⊢;by_cases h:x.kind=se
 ·rw[kaT h] at k ⊢;obtain ⟨rfl,k⟩:=k;rw[(Uu R (by omega) k).1]
 rw[kaU h] at k ⊢;by_cases h:x.kind=sf
 ·rw[kaT h] at k ⊢;obtain ⟨rfl,rfl,k⟩:=k;rw[JG R (by omega) k]
 rw[kaU h] at k ⊢;by_cases h:x.kind=kL
 ·rw[kaT h] at k ⊢;obtain ⟨rfl,⟨h1,rfl,rfl,rfl,rfl⟩ | ⟨h1,gone,hk,rfl⟩⟩:=k
  ·rw[kaT h1]
  ·rw[iOm];obtain ⟨G,hC⟩:=R.rep.rok.con;have X:=ru z.L x.a x.b hC.v.len;obtain ⟨O,S⟩:=Hv hC.v x.a x.b;obtain ⟨rfl,_⟩:=qK R (by omega) O S hk;show ((keepL (eQ z.L x.a x.b) z.lr).1,Ut (keepL (eQ z.L x.a x.b) z.lr).2,_,_)=_;rw[xO R (by omega) O S hk]
 rw[kaU h] at k ⊢;by_cases h:x.kind=na
 ·rw[kaT h] at k ⊢;rw[zE];obtain ⟨rfl,rfl,⟨h1,rfl,rfl,rfl⟩ | ⟨h1,rfl,rfl,a,r,rfl⟩⟩:=k
  ·rw[kaT h1]
  ·rw[iOm,zF];rfl
 rw[kaU h] at k ⊢;by_cases h:x.kind=nb
 ·rw[kaT h] at k ⊢;unfold zB;rw[show z.lr.mou=z.mou.map mS from rfl,FI]
  grind[JF,SK]
 rw[kaU h] at k ⊢;by_cases h:x.kind=Jz
 ·grind[n5]
 rw[kaU h] at k ⊢;by_cases h:x.kind=nc
 ·grind[zG,zH]
 rw[kaU h] at k ⊢;by_cases h:x.kind=zy
 ·rw[kaT h] at k;obtain ⟨rfl,rfl,hr,k⟩:=k;obtain ⟨r0,ds,bn,J⟩:=R.rep.cal;have Y:=R.rep.ep;have Z:=R.rep.first;obtain ⟨D1,q1,q2,q3⟩:=MP R.up bn.2.1 (by omega) (by omega);rw[<-J,q1] at hr;injection hr with h1 O;rcases k with ⟨hx,_⟩ | ⟨rfl,d',u',_,hsc,rfl⟩
  ·exact absurd h1.symm hx
  ·rfl
 grind
def Xl:LR:=⟨bH gZ,[],1,[],[],1⟩
structure XM where
 B:Nat->Bk
 N:Nat->Nd
def gn (f:Nat->α)(k:Nat)(x:α):Nat->α:=λi=>if i=k then x else f i
abbrev Rx (x:Bk):List Value:=[ay x.1,I x.2]
def Lg (n:Nat)(f:Nat->List Value):List Value:=((List.range n).map f).flatten
def xL (X:XM):List Value:=Lg 41 (λk=>Rx (X.B k))++Lg 25 (λk=>kV (X.N k))
def xC (X:XM):Array Value:=(xL X).toArray
variable {f:Nat->List Value}
theorem xP {n sz}(h:∀k,(f k).length=sz):(Lg n f).length=n*sz:=by
 unfold Lg;rw[dT (sz:=sz) _ (by grind)];simp
variable {j k:Nat}
theorem Hy {n sz}(h:∀k,(f k).length=sz)(hk:k<n)(hj:j<sz):(Lg n f)[k*sz+j]? =(f k)[j]? :=by
 unfold Lg;rw[k8 (sz:=sz) (by omega) _ (by grind)]
 grind[Nat.mul_comm,Nat.mul_add_div,Nat.div_eq_of_lt,Nat.mul_add_mod,Nat.mod_eq_of_lt]
variable {v:Value}
theorem JI {n sz}(h:∀k,(f k).length=sz)(hk:k<n)(hj:j<sz):(Lg n f).set (k*sz+j) v=Lg n (gn f k ((f k).set j v)):=by
 have J:∀i,(gn f k ((f k).set j v) i).length=sz:=λi=>(by grind[gn]);have hl:(Lg n f).length=n*sz:=xP h;have O:=xP (n:=n) J;apply kbW;intro t;by_cases ht:t<n*sz
 ·have h0:0<sz:=(by omega);have e:t=t / sz*sz+t % sz:=by grind[Nat.div_add_mod]
  grind[Nat.div_lt_of_lt_mul,Nat.mod_lt,Hy,gn]
 grind
def qM (X:XM):(Lg 41 (λk=>Rx (X.B k))).length=82:=xP (sz:=2) λ_=>rfl
def Oc (X:XM):(Lg 25 (λk=>kV (X.N k))).length=125:=xP (sz:=5) λ_=>rfl
def i7 X:(xC X).size=207:=by simp[xC,xL,qM,Oc]
variable {X:XM}{o:Nat}
def Wk (hk:k<41)(hj:j<2)(ho:o=k*2+j)(hv:(Rx (X.B k))[j]? =some v):(xL X)[o]? =some v:=by
 subst ho;unfold xL;rw[kaQ (by rw[qM];omega),Hy (sz:=2) (λ_=>rfl) hk hj,hv]
theorem W5 (hk:k<25)(hj:j<5)(ho:o=82+(k*5+j))(hv:(kV (X.N k))[j]? =some v):(xL X)[o]? =some v:=by
 subst ho;unfold xL;rw[ka1 (by rw[qM];omega),qM,kdo,Hy (sz:=5) (λ_=>rfl) hk hj,hv]
variable {ec:TypeId}{f:Nat×Nat}
def JJ (hk:k<41)(ho:o=k*2):bK (.cells (xC X) ec f) o=some (ay (X.B k).1):=by
 show (xC X)[o]? =_;simp only[xC,kaV];exact Wk (j:=0) hk (by omega) (by omega) rfl
def pT (ho:o=k*2+1)(hk:k<41:=by omega):bK (.cells (xC X) ec f) o=some (I (X.B k).2):=by
 show (xC X)[o]? =_;simp only[xC,kaV];exact Wk (j:=1) hk (by omega) (by omega) rfl
theorem si (ho:o=82+(k*5+j))(hv:(kV (X.N k))[j]? =some v)(hk:k<25:=by omega)(hj:j<5:=by omega):bK (.cells (xC X) ec f) o=some v:=by
 show (xC X)[o]? =_
 grind[xC,W5]
variable {l:List Value}
theorem Uv {B y}(h:l=Rx y):(gn (λi=>Rx (B i)) k l)=λi=>Rx (gn B k y i):=funext λi=>by
 grind[gn]
def xQ y(hk:k<41)(hj:j<2)(ho:o=k*2+j)(hv:(Rx (X.B k)).set j v=Rx y):(xC X).setIfInBounds o v=xC ⟨gn X.B k y,X.N⟩:=by
 subst ho;unfold xC xL;rw[kdp,List.set_append_left _ _ (by rw[qM];omega),JI (sz:=2) (λ_=>rfl) hk hj,Uv hv]
theorem Ux {N y}(h:l=kV y):(gn (λi=>kV (N i)) k l)=λi=>kV (gn N k y i):=funext λi=>by
 grind[gn]
def mo y(hk:k<25)(hj:j<5)(ho:o=82+(k*5+j))(hv:(kV (X.N k)).set j v=kV y):(xC X).setIfInBounds o v=xC ⟨X.B,gn X.N k y⟩:=by
 subst ho;unfold xC xL;rw[kdp,List.set_append_right _ _ (by rw[qM];omega),qM,kdo,JI (sz:=5) (λ_=>rfl) hk hj,Ux hv]
theorem v6 f k(x y:α):gn (gn f k x) k y=gn f k y:=funext λi=>by grind[gn]
def mx f k(x:α):gn f k x k=x:=by simp[gn]
def JK y(hk:k<41)(ho:o=k*2):cV (xC X) o [ay y.1,I y.2]=xC ⟨gn X.B k y,X.N⟩:=by
 simp only[cV];rw[xQ (j:=0) (y.1,(X.B k).2) hk (by omega) (by omega) rfl,xQ (j:=1) y hk (by omega) (by omega) (by simp[mx,Rx])];simp only[v6]
def DB y(hk:k<25)(ho:o=82+k*5):cV (xC X) o (kV y)=xC ⟨X.B,gn X.N k y⟩:=by
 simp only[cV,kV];rw[mo (j:=0) ⟨y.k0,(X.N k).k1,(X.N k).k2,(X.N k).k3,(X.N k).refs⟩ hk (by omega) (by omega) rfl,
  mo (j:=1) ⟨y.k0,y.k1,(X.N k).k2,(X.N k).k3,(X.N k).refs⟩ hk (by omega) (by omega) (by simp[mx,kV]),
  mo (j:=2) ⟨y.k0,y.k1,y.k2,(X.N k).k3,(X.N k).refs⟩ hk (by omega) (by omega) (by simp[mx,kV]),
  mo (j:=3) ⟨y.k0,y.k1,y.k2,y.k3,(X.N k).refs⟩ hk (by omega) (by omega) (by simp[mx,kV]),
  mo (j:=4) y hk (by omega) (by omega) (by simp[mx,kV])]
 simp only[v6]
abbrev kY (b:Nat)(X:XM):ag:=pcc b (xC X) 190
def xZ:XM:=⟨λ_=>([],0),λ_=>⟨0,0,0,0,0⟩⟩
def bt (X:XM):qc:=λq=>if (1<=q/\q<=40)/\(X.B q.toNat).2≠0 then some (X.B q.toNat) else none
variable {q:Int}
theorem xR (h:(1<=q/\q<=40)/\(X.B q.toNat).2≠0):bt X q=some (X.B q.toNat):=kaT h
def uz (h:¬((1<=q/\q<=40)/\(X.B q.toNat).2≠0)):bt X q=none:=kaU h
def DC (X:XM)(d:Bytes):XM:=if 6<d.length\/d=[] then X else match ef 40 (bt X) with | none=>X | some k=>⟨gn X.B k (d,1),X.N⟩
def zI (X:XM)(q n:Int):XM:=if (1<=q/\q<=40)/\(X.B q.toNat).2≠0 then ⟨gn X.B q.toNat (if (X.B q.toNat).2+n=0 then ([],0) else ((X.B q.toNat).1,(X.B q.toNat).2+n)),X.N⟩ else X
variable {ρ:Type}
def DD (k:Nat)(B:Int->Option ρ):List Int:=((List.range' 1 k).filter λk:Nat=>(B (k:Int)).isSome).map λk:Nat=>(k:Int)
def FL k(B:Int->Option ρ):(DD k B).length<=k:=eM k B
theorem FM {m}{B:Int->Option ρ}(h:k=m+1)(hk:(B (k:Int)).isSome=true):DD m B++ [(k:Int)]=DD (m+1) B:=by
 grind[DD,List.range'_concat]
theorem BG {m}{B:Int->Option ρ}(h:k=m+1)(hk:B (k:Int)=none):DD m B=DD (m+1) B:=by
 grind[DD,List.range'_concat]
def Av b X(d:Bytes)(hd:d.length<=9223372036854775807)F:cqq 274 [ptr b 0,ay d] (kY b X::F) (R1 (.tuple #[I (kH (bt X) d).1,I (kH (bt X) d).2]) (kY b (DC X d)::F)):=by
 refine Ct.of func274 W 34 ntmps274 (by simp) λw0=>?_;refine A<|gA<|T<|ac<|A<|C<|M bV<|C<|gK ao<|gK (cD Xz)<|gK aQ<|M cv<|ab<|ah ?_ ?_<;>intro O
 ·simp at O;have J:6<d.length\/d=[]:=O.symm.imp (λh=>by omega) id;refine A<|gA<|T ?_;have S:kH (bt X) d=(0,3):=(by unfold kH;rw[kaT J]);have V:DC X d=X:=(by unfold DC;rw[kaT J]);rw[S,V];exact am rfl rfl rfl
 ·simp at O;have J:¬(6<d.length\/d=[]):=λh=>h.elim (λh=>by omega) O.1;refine ai<|ac<|A<|T<|ak ?_;refine aL (α:=Nat) (λk=>(1<=k/\k<=41)/\∀j:Nat,1<=j->j<k->(bt X j).isSome=true) (λk=>U [(0,ptr b 0),(1,ay d),(6,I k)]) (λ_=>kY b X::F) (λk=>41 - k) 1 ⟨by omega,λj h1 Z=>absurd Z (by omega)⟩ [0,1,6] rfl ?_;intro k h0;refine ac<|A<|C<|M qe<|ab<|ah ?_ ?_<;>intro Y
  ·simp at Y;refine ai<|ac<|ak<|A<|C<|C<|M aa<|gF 0 X8 W Zc<|M (bp k Zd Yn (by omega))<|gF 1 YF W Xu<|M (aA (v:=I (X.B k).2) Xv (hv:=⟨pT (by omega)⟩))<|M bE<|ab<|ah ?_ ?_<;>intro R
   ·simp at R;have hm:ef 40 (bt X)=some k:=Ic (by omega) (uz (by simp[R])) h0.2;refine A<|C<|C<|C<|M (aS (sy _ W _ W))<|M aa<|gF 0 X8 W Zc<|M (bp k Zd Yn (by omega))<|gU (az (vs:=[ay d,I 1]) (xC ⟨gn X.B k (d,1),X.N⟩) Yn (by rw[i7];omega) (hcs:=by exact JK (d,1) (by omega) (by omega)))<|ab<|A<|C<|gA<|T ?_;have S:kH (bt X) d=((k:Int),0):=(by unfold kH;rw[kaU J,hm]);have V:DC X d=⟨gn X.B k (d,1),X.N⟩:=(by unfold DC;rw[kaU J,hm]);rw[S,V];exact am rfl rfl rfl
   ·simp at R;refine ai<|aE<|al<|C<|gP<|T ?_;refine an (k+1) ⟨by omega,λj h1 Z=>?_⟩ (by omega) [0,1,6] rfl;rcases ka3 j k with h3 | h3
    ·exact h0.2 j h1 h3
    ·obtain rfl:j=k:=(by omega);rw[xR (by refine ⟨by omega,?_⟩;simpa using R)]
     rfl
  ·simp at Y;refine aF ?_;refine A<|gA<|T ?_;have hm:ef 40 (bt X)=none:=by
    cases h:ef 40 (bt X) with
    | none=>rfl
    | some m=>
     have h1:=iV h;have Z:=h0.2 m (by omega) (by omega);rw[h1.2.1] at Z;cases Z
   have S:kH (bt X) d=(0,8):=(by unfold kH;rw[kaU J,hm]);have V:DC X d=X:=(by unfold DC;rw[kaU J,hm]);rw[S,V];exact am rfl rfl rfl
def sj b X id n(hw:∀x,bt X id=some x-> -9223372036854775808<=x.2+n/\x.2+n<=9223372036854775807)F:cqq 276 [ptr b 0,I id,I n] (kY b X::F) (R1 (I (rG (bt X) id)) (kY b (zI X id n)::F)):=by
 refine Ct.of func276 W 52 ntmps276 (by simp) λw0=>?_;refine A<|T<|ac<|A<|C<|M aG<|C<|gK ao<|gK aQ<|M cv<|C ?_;by_cases R:1<=id/\id<=40
 ·have J:(decide (id<1) || decide (id > 40))=false:=(by simp;omega);refine bh (hw:=by exact J) ao<|bh (hw:=by exact J) ao<|bh (hw:=by exact J) aa<|bh (hw:=by exact J) (aw 0 X8 W Zc)<|bh (hw:=by exact J) (bp (id.toNat) Zd Yn (hj:=by omega) (by omega))<|bh (hw:=by exact J) (aw 1 YF W Xu)<|bh (hw:=by exact J) (aA (v:=I (X.B id.toNat).2) Xv (hv:=⟨pT (by omega)⟩))<|bh (hw:=by exact J) bE<|M cv<|ab<|ah ?_ ?_<;>intro O
  ·simp[J] at O;have hn:bt X id=none:=uz (λh=>h.2 O);refine A<|T ?_;have V:rG (bt X) id=5:=(by unfold rG;rw[hn];rfl);have Y:zI X id n=X:=(by unfold zI;rw[kaU (λh=>h.2 O)]);rw[V,Y];exact am rfl rfl rfl
  ·simp[J] at O;have hn:bt X id=some (X.B id.toNat):=xR ⟨R,O⟩;refine ai<|ac ?_;refine eE (Lf:=[kY b X]) jL 15 ?_;refine dM W<|dM W<|dM W<|dM W<|dV W aa<|dF W 0 X8 W Zc<|dV W (bp (id.toNat) Zd Yn (hj:=by omega) (by omega))<|dF W 1 YF W Xu<|dV W (aA (v:=I (X.B id.toNat).2) Xv (hv:=⟨pT (by omega)⟩))<|dM W<|dV W (bx (cK (hw _ hn)))<|dV W aa<|dF W 0 X8 W Zc<|dV W (bp (id.toNat) Zd Yn (hj:=by omega) (by omega))<|dF W 1 YF W Xu ?_;refine aN ?_;refine gU (aJ (xC (⟨gn X.B id.toNat ((X.B id.toNat).1,(X.B id.toNat).2+n),X.N⟩:XM)) Xu (by rw[i7];omega) (hcs:=by exact xQ (j:=1) ((X.B id.toNat).1,(X.B id.toNat).2+n) (by omega) (by omega) (by omega) W))<|ab<|ac<|A<|C<|C<|M aa<|gF 0 X8 W Zc<|M (bp (id.toNat) Zd Yn (hj:=by omega) (by omega))<|gF 1 YF W Xu<|M (aA (v:=I ((X.B id.toNat).2+n)) Xv (hv:=⟨by have:=pT (X:=(⟨gn X.B id.toNat ((X.B id.toNat).1,(X.B id.toNat).2+n),X.N⟩:XM)) (k:=id.toNat) (ec:=190) (f:=(0,0)) (o:=0+0+id.toNat*2+1) (by omega);simpa [mx] using this⟩))<|M bE<|ab ?_;apply ah<;>intro S
   ·simp at S;refine al<|C<|C<|M (aS (Qx))<|M aa<|gF 0 X8 W Zc<|M (bp (id.toNat) Zd Yn (hj:=by omega) (by omega))<|gU (az (vs:=[ay [],I 0]) (xC ⟨gn X.B id.toNat ([],0),X.N⟩) Yn (by rw[i7];omega) (hcs:=by exact (JK (k:=id.toNat) ([],0) (by omega) (by omega)).trans (by simp only[v6])))<|ab<|A<|T ?_;have V:rG (bt X) id=0:=(by unfold rG;rw[hn];rfl);have Y:zI X id n=⟨gn X.B id.toNat ([],0),X.N⟩:=(by unfold zI;rw[kaT ⟨R,O⟩,kaT S]);rw[V,Y];exact am rfl rfl rfl
   ·simp at S;refine ai<|A<|T ?_;have V:rG (bt X) id=0:=(by unfold rG;rw[hn];rfl);have Y:zI X id n=(⟨gn X.B id.toNat ((X.B id.toNat).1,(X.B id.toNat).2+n),X.N⟩:XM):=(by unfold zI;rw[kaT ⟨R,O⟩,kaU S]);rw[V,Y];exact am rfl rfl rfl
 ·have J:(decide (id<1) || decide (id > 40))=true:=(by simp;omega);refine bi (hw:=by rw[J];rfl)<|bi (hw:=by rw[J];rfl)<|bi (hw:=by rw[J];rfl)<|bi (hw:=by rw[J];rfl)<|bi (hw:=by rw[J];rfl)<|bi (hw:=by rw[J];rfl)<|bi (hw:=by rw[J];rfl)<|bi (hw:=by rw[J];rfl)<|M (eV (hq:=by exact J))<|ab ?_;refine d6 ?_;refine A<|T ?_;have hn:bt X id=none:=uz (λh=>R h.1);have V:rG (bt X) id=5:=(by unfold rG;rw[hn];rfl);have Y:zI X id n=X:=(by unfold zI;rw[kaU (λh=>R h.1)]);rw[V,Y];exact am rfl rfl rfl
def wG b X(hx:∀k,k<=40->0<=(X.B k).2)F:cqq 108 [ptr b 0] (kY b X::F) (uX 3 1 (ck 40 (bt X)).length (bc (ck 40 (bt X))) (kY b X::F)):=by
 refine Ct.of func108 W 22 ntmps108 (by simp) λw0=>?_;refine aY 3 1 (bc []) ?_;refine A<|T<|A<|T<|ac<|A<|T<|ak ?_;refine aL (α:=Nat×List Int×Option Addr×Nat) (λz=>(1<=z.1/\z.1<=41)/\z.2.1=DD (z.1 - 1) (bt X)) (λz=>U [(0,ptr b 0),(3,sl z.2.2.1 z.2.1.length z.2.2.2),(4,I z.1)]) (λz=>be 3 1 z.2.2.1 z.2.2.2 (bc z.2.1)::kY b X::F) (λz=>41 - z.1) (1,[],none,0) ⟨by omega,rfl⟩ [0,3,4] rfl ?_;rintro ⟨k,J,s,c⟩ ⟨hk,R⟩;simp only[] at hk R ⊢;have Z:J.length<=40:=(by have:=FL (k - 1) (bt X);rw[R];omega);refine ac<|A<|C<|M qe<|ab<|ah ?_ ?_<;>intro V
 ·simp at V;refine ai<|ac<|ak<|A<|C<|C<|M aa<|gF 0 X8 W Zc<|M (bp (k) Zd Yn (hj:=by omega) (by omega))<|gF 1 YF W Xu<|M (aA (v:=I (X.B k).2) Xv (hv:=⟨pT (by omega)⟩))<|M aQ<|ab<|ah ?_ ?_<;>intro O
  ·simp at O;refine al<|C<|C<|gI (ap [[I k]] XB Xu X5 (by simp)) ?_;rintro _ _ ⟨Y,rfl,rfl⟩;refine gI (aR XB Xu X5 Tryz.typeInfo3 (hn:=by exact cw _) (by simp) (by intro r hr;simp at hr;subst hr;rfl) ⟨by omega,by decide,by decide⟩) ?_;rintro _ _ ⟨S,c20,rfl,rfl⟩;refine T<|aE<|al<|C<|gP<|T ?_;rw[show bc J++ [[I k]]=bc (J++ [(k:Int)]) by simp[bc]];refine an (k+1,J++ [(k:Int)],S,c20) ⟨by simp only[];omega,?_⟩ (by simp only[];omega) [0,3,4] rfl (he:=by simp[U]);simp only[];rw[R,show k+1 - 1=(k - 1)+1 by omega,FM (k:=k) (m:=k - 1) (by omega) (by rw[xR ⟨by omega,by simp;omega⟩];rfl)]
  ·simp at O;refine ai<|aE<|al<|C<|gP<|T ?_;refine an (k+1,J,s,c) ⟨by simp only[];omega,?_⟩ (by simp only[];omega) [0,3,4] rfl;simp only[];rw[R,show k+1 - 1=(k - 1)+1 by omega,BG (k:=k) (m:=k - 1) (by omega) (uz (λh=>by have:=hx k (by omega);have:=h.2;simp at this;omega))]
 ·simp at V;obtain rfl:k=41:=(by omega);refine aF ?_;refine A<|C<|T ?_;obtain rfl:J=ck 40 (bt X):=R;exact cU rfl rfl rfl rfl
def xS (S:SI):XM:=⟨λk=>(S.B (k:Int)).getD ([],0),λk=>gN S.N (k:Int)⟩
theorem W6 S k:(xS S).N k=gN S.N k:=rfl
theorem uI (N:fZ)q p x:gN (aD N q x) p=if p=q then x.getD yN else gN N p:=by
 grind[gN,aD]
def Od {Y}(h1:X.B=Y.B)(J:X.N=Y.N):X=Y:=by cases X;cases Y;simp_all
theorem JL S k{y x}(h:x.getD yN=y):(⟨(xS S).B,gn (xS S).N k y⟩:XM)=xS ⟨S.B,aD S.N (k:Int) x⟩:=by
 refine Od W<|funext λi=>?_
 grind[gn,xS,uI]
theorem DE S k{y x}(h:x.getD ([],0)=y):(⟨gn (xS S).B k y,(xS S).N⟩:XM)=xS ⟨aD S.B (k:Int) x,S.N⟩:=by
 refine Od (funext λi=>?_) rfl
 grind[gn,xS,aD]
variable {m:Int}
theorem FN (h:ii m S):bt (xS S)=S.B:=funext λq=>by
 cases e:S.B q with
 | none=>
  refine uz λhq=>hq.2 ?_;show ((S.B (q.toNat:Int)).getD ([],0)).2=0
  grind
 | some x=>
  have h1:=h.1 q x e;have J:=h.2.1 q x e;have O:(xS S).B q.toNat=x:=by
   show (S.B (q.toNat:Int)).getD ([],0)=x
   grind
  grind[xR]
def Uy (h:ii m S)d:DC (xS S) d=xS ⟨mj S.B d,S.N⟩:=by
 unfold DC mj;rw[FN h];split
 ·rfl
 ·cases J:ef 40 S.B with
  | none=>rfl
  | some k=>exact DE S k rfl
theorem Oe (h:ii m S)q n:zI (xS S) q n=xS ⟨fB S.B q n,S.N⟩:=by
 unfold zI fB;cases e:S.B q with
 | none=>
  rw[kaU];intro hq;refine hq.2 ?_;show ((S.B (q.toNat:Int)).getD ([],0)).2=0
  grind
 | some x=>
  have h1:=h.1 q x e;have J:=h.2.1 q x e
  grind[xS,DE]
def Wl (h:ii m S)(hm:m<=1000000)q n(hn:n=1\/n= -1):∀x,bt (xS S) q=some x-> -9223372036854775808<=x.2+n/\x.2+n<=9223372036854775807:=λx hx=>by
 rw[FN h] at hx;have:=h.2.1 q x hx;omega
def Wm (h:ii m S)k:0<=((xS S).B k).2:=by
 show 0<=((S.B (k:Int)).getD ([],0)).2;cases e:S.B (k:Int) with
 | none=>simp
 | some x=>have:=h.2.1 k x e;simp;omega
variable {k:Int}
theorem Wn {x}(hk:0<=k)(h:S.B k=some x):(xS S).B k.toNat=x:=by
 show (S.B (k.toNat:Int)).getD ([],0)=x
 grind
theorem Ry {x}(hk:0<=k)(h:S.B k=some x)(hx:0<x.2):(⟨gn (xS S).B k.toNat (((xS S).B k.toNat).1,((xS S).B k.toNat).2+1),(xS S).N⟩:XM)=xS ⟨fB S.B k 1,S.N⟩:=by
 grind[DE,fB,Wn]
theorem lJ (hk:0<=k):(xS S).N k.toNat=gN S.N k:=by grind[W6]
theorem DF (hk:0<=k){y x}(h:x.getD yN=y):(⟨(xS S).B,gn (xS S).N k.toNat y⟩:XM)=xS ⟨S.B,aD S.N k x⟩:=by
 grind[JL]
def uJ (hk:0<=k)y:(⟨(xS S).B,gn (xS S).N k.toNat y⟩:XM)=xS ⟨S.B,aD S.N k (some y)⟩:=DF hk rfl
theorem Lh {leaf}(hp:∀q x,S.B q=some x->0<x.2)(h:∃x,S.B q=some x):∃x,(db leaf S k).B q=some x:=by
 unfold db;split
 ·exact h
 ·split
  ·obtain ⟨x,hx⟩:=h;show ∃y,fB S.B k 1 q=some y;unfold fB;cases e:S.B k with
   | none=>exact ⟨x,hx⟩
   | some y=>
    grind[aD]
  ·exact h
def BH {m S}(h:ii m S)(h0:0<=m){leaf n}(hk:leaf=false->∀i,i<4->0<=bZ n i/\bZ n i<=24){q}(hq:∃x,S.B q=some x):∀i:Nat,i<=4->∃x,(part (db leaf) S n i).B q=some x
 | 0,_=>hq
 | i+1,hi=>by
  rw[jl _ _ _ i (by omega)];exact Lh (λp x e=>((oI h h0 hk i (by omega)).2.1 p x e).1)<|BH h h0 hk hq i (by omega)
def Lj (S:SI)(q:Int):Prop:=(0<=q/\q<=24)/\∀i,i<4->(0<=bZ (gN S.N q) i/\bZ (gN S.N q) i<=24)/\∀j,j<4->bZ (gN S.N (bZ (gN S.N q) i)) j=0\/∃x,S.B (bZ (gN S.N (bZ (gN S.N q) i)) j)=some x
def Of (h:ii m S)(hq:Lj S q){i}(hi:i<4)(hj:j<4):0<=bZ (gN S.N (bZ (gN S.N q) i)) j/\bZ (gN S.N (bZ (gN S.N q) i)) j<=40:=by
 rcases (hq.2 i hi).2 j hj with h0 | ⟨x,hx⟩
 ·omega
 ·have:=h.1 _ x hx;omega
theorem uK {k n}(hk:k<25)(ho:o=82+k*5)(hn:ga (X.N k)=ga n):∀j v,(ga n)[j]? =some v->bK (.cells (xC X) ec f) (o+j)=some v:=λj v h=>by
 have hj:j<4:=(by grind);refine si (j:=j) (hk:=hk) (by omega) ?_
 grind
def v7 b S n lf m(hok:ii m S)(hm:1<=m/\m<=900000)(hk:∀i,i<4->0<=bZ n i)(hkt:lf=true->∀i,i<4->bZ n i=0\/∃x,S.B (bZ n i)=some x)(hkf:lf=false->∀i,i<4->bZ n i<=24)F:cqq 275 [ptr b 0, .agg (ga n).toArray,Bo lf] (kY b (xS S)::F) (R1 (.tuple #[I (br S n).1,I (br S n).2]) (kY b (xS (bu lf S n))::F)):=by
 refine Ct.of func275 W 91 ntmps275 (by simp) λw0=>?_;refine A<|gI (dw (ga n).toArray) ?_;rintro _ _ ⟨Z,rfl,rfl⟩;refine gA<|T<|ac<|A<|M (bp (0) X6 Xu (by decide))<|gL (I n.k0) Xv<|M bE<|C<|gK (bp (1) X6 Xu (by decide))<|gK (aA (v:=I n.k1) Xv)<|gK bE<|M dc<|C<|gK (bp (2) X6 Xu (by decide))<|gK (aA (v:=I n.k2) Xv)<|gK bE<|M dc<|C<|gK (bp (3) X6 Xu (by decide))<|gK (aA (v:=I n.k3) Xv)<|gK bE<|M dc<|ab<|ah ?_ ?_<;>intro h27
 ·have R:fk n:=(by simpa [fk,and_assoc] using h27);refine A<|gA<|T ?_;rw[show br S n=(0,0) by unfold br;rw[kaT R],show bu lf S n=S by unfold bu;rw[kaT R]];exact am rfl rfl rfl
 ·have R:¬fk n:=λh=>(by obtain ⟨e0,e1,e2,e3⟩:=h;simp[e0,e1,e2,e3] at h27);refine ai<|ac<|A<|T<|ak ?_;refine aL (α:=Nat) (λk=>(1<=k/\k<=25)/\∀j:Nat,1<=j->j<k->(S.N j).isSome=true) (λk=>U [(0,ptr b 0),(2,Bo lf),(4,ptr Z 0),(8,I k)]) (λ_=>pcc Z (ga n).toArray 185::kY b (xS S)::F) (λk=>25 - k) 1 ⟨by omega,λj h1 h2=>absurd h2 (by omega)⟩ [0,2,4,8] rfl ?_;intro k h0;refine ac<|A<|C<|M qe<|ab<|ah ?_ ?_<;>intro h29
  ·simp at h29;refine ai<|ac<|ak<|ac<|A<|C<|C<|M aa<|gF 82 X8 W YA<|M (bp (k) YB X0 (by omega))<|gF 4 XV W Xu<|M (aA (v:=I (gN S.N k).refs) Xv (hv:=⟨si (j:=4) (by omega) W⟩))<|M aQ<|ab<|ah ?_ ?_<;>intro O
   ·simp at O;refine aF ?_;refine al<|C<|gP<|T ?_;refine an (k+1) ⟨by omega,λj h1 h2=>?_⟩ (by omega) [0,2,4,8] rfl;rcases ka3 j k with h3 | h3
    ·exact h0.2 j h1 h3
    ·obtain rfl:j=k:=(by omega);cases e:S.N (j:Int) with
     | none=>unfold gN at O;rw[e] at O;simp[yN] at O
     | some _=>rfl
   ·simp at O;have hnk:S.N k=none:=by
     cases e:S.N (k:Int) with
     | none=>rfl
     | some x=>have:=hok.2.2.2 k x e;unfold gN at O;rw[e] at O;simp at O;omega
    have X:ef 24 S.N=some k:=Ic (by omega) hnk h0.2;refine ai<|ac ?_;refine eE (Lf:=[kY b (xS S),pcc Z (ga n).toArray 185]) jM 7 ?_;refine dM W<|dM W<|dV W (bj (vs:=ga n) Yu XR bM)<|dV W (aS (IG n))<|dV W aa<|dF W 82 X8 W YA<|dV W (bp (k) YB X0 (by omega)) ?_;refine aN ?_;refine gU (az (vs:=kV (rf n 1)) (xC (xS ⟨S.B,aD S.N k (some (rf n 1))⟩)) X0 (by rw[i7];simp;omega) (hcs:=by exact (DB (k:=k) (rf n 1) (by omega) (by omega)).trans (kay xC (JL S k W))))<|ab ?_;show G _ _ _ (pcc Z (ga n).toArray 185::kY b (xS (part (db lf) ⟨S.B,aD S.N k (some (rf n 1))⟩ n 0))::F);refine ac<|A<|T<|ak ?_;refine aL (α:=Nat) (λi=>i<=4) (λi=>U [(0,ptr b 0),(2,Bo lf),(4,ptr Z 0),(8,I k),(9,I i)]) (λi=>pcc Z (ga n).toArray 185::kY b (xS (part (db lf) ⟨S.B,aD S.N k (some (rf n 1))⟩ n i))::F) (λi=>4 - i) 0 (by omega) [0,2,4,8,9] rfl ?_;intro i hi;refine ac<|A<|C<|M aG<|ab<|ah ?_ ?_<;>intro h48
    ·simp at h48;have J:i<4:=(by omega);have hpi:=oI (tY (k:=k) hok hm.1 (by omega) n) (by omega) (λh i hi=>⟨hk i hi,hkf h i hi⟩) i hi;refine ai<|ac<|ak<|A<|C<|M (bp (i) X6 Xu J)<|M (aA (v:=I (bZ (n) (i))) Xv (hv:=⟨by simpa [bK] using g7 (n) (i) J⟩))<|M aQ<|C<|gK ao<|M dc<|ab<|ah ?_ ?_<;>intro V
     ·simp at V;obtain ⟨y,hy⟩:∃x,(part (db lf) ⟨S.B,aD S.N k (some (rf n 1))⟩ n i).B (bZ n i)=some x:=BH (S:=⟨S.B,aD S.N k (some (rf n 1))⟩) (tY (k:=k) hok hm.1 (by omega) n) (by omega) (λh i hi=>⟨hk i hi,hkf h i hi⟩) ((hkt V.2 i J).resolve_left (by omega)) i hi;have hyr:=hpi.1 _ y hy;have hyp:=hpi.2.1 _ y hy;have hkn:0<=bZ n i/\True:=⟨by omega,trivial⟩;have hxB:(xS (part (db lf) ⟨S.B,aD S.N k (some (rf n 1))⟩ n i)).B (bZ n i).toNat=y:=Wn (by omega) hy;refine eE (Lf:=[kY b (xS (part (db lf) ⟨S.B,aD S.N k (some (rf n 1))⟩ n i)),pcc Z (ga n).toArray 185]) jH 14 ?_;refine dM W<|dM W<|dV W (bp (i) X6 Xu J)<|dV W (aA (v:=I (bZ (n) (i))) Xv (hv:=⟨by simpa [bK] using g7 (n) (i) J⟩))<|dV W aa<|dF W 0 X8 W Zc<|dV W (bp ((bZ n i).toNat) Zd Yn (hj:=by omega) (by omega))<|dF W 1 YF W Xu<|dV W (aA (v:=I ((xS (part (db lf) ⟨S.B,aD S.N k (some (rf n 1))⟩ n i)).B (bZ n i).toNat).2) Xv (hv:=⟨pT (by omega)⟩))<|dV W (bx (cK (by rw[hxB];omega)))<|dV W aa<|dF W 0 X8 W Zc<|dV W (bp ((bZ n i).toNat) Zd Yn (hj:=by omega) (by omega))<|dF W 1 YF W Xu ?_;refine aN ?_;refine gU (aJ (xC ⟨gn (xS (part (db lf) ⟨S.B,aD S.N k (some (rf n 1))⟩ n i)).B (bZ n i).toNat (((xS (part (db lf) ⟨S.B,aD S.N k (some (rf n 1))⟩ n i)).B (bZ n i).toNat).1,((xS (part (db lf) ⟨S.B,aD S.N k (some (rf n 1))⟩ n i)).B (bZ n i).toNat).2+1),(xS (part (db lf) ⟨S.B,aD S.N k (some (rf n 1))⟩ n i)).N⟩) Xu (by rw[i7];omega) (hcs:=by exact xQ (j:=1) (((xS (part (db lf) ⟨S.B,aD S.N k (some (rf n 1))⟩ n i)).B (bZ n i).toNat).1,((xS (part (db lf) ⟨S.B,aD S.N k (some (rf n 1))⟩ n i)).B (bZ n i).toNat).2+1) (by omega) (by omega) (by omega) W))<|ab<|aE<|al<|C<|gP<|T ?_;rw[Ry hkn.1 hy hyp.1,show (⟨fB (part (db lf) ⟨S.B,aD S.N k (some (rf n 1))⟩ n i).B (bZ n i) 1,(part (db lf) ⟨S.B,aD S.N k (some (rf n 1))⟩ n i).N⟩:SI)=part (db lf) ⟨S.B,aD S.N k (some (rf n 1))⟩ n (i+1) by rw[jl _ _ _ i J];unfold db;rw[iOm,kaT V.2]];exact an (i+1) (by omega) (by omega) [0,2,4,8,9] rfl
     ·simp at V;refine A<|C<|M (bp (i) X6 Xu J)<|M (aA (v:=I (bZ (n) (i))) Xv (hv:=⟨by simpa [bK] using g7 (n) (i) J⟩))<|M aQ<|ab<|ah ?_ ?_<;>intro Y
      ·simp at Y;have hkr:=hkf (V Y) i J;refine eE (Lf:=[kY b (xS (part (db lf) ⟨S.B,aD S.N k (some (rf n 1))⟩ n i)),pcc Z (ga n).toArray 185]) jH 14 ?_;refine dM W<|dM W<|dV W (bp (i) X6 Xu J)<|dV W (aA (v:=I (bZ (n) (i))) Xv (hv:=⟨by simpa [bK] using g7 (n) (i) J⟩))<|dV W aa<|dF W 82 X8 W YA<|dV W (bp ((bZ n i).toNat) YB X0 (hj:=by omega) (by omega))<|dF W 4 XV W Xu<|dV W (aA (v:=I ((xS (part (db lf) ⟨S.B,aD S.N k (some (rf n 1))⟩ n i)).N (bZ n i).toNat).refs) Xv (hv:=⟨si (j:=4) (by omega) W⟩))<|dV W (bx (cK (by rw[lJ (by omega)];have:=nQ hpi (by omega) (bZ n i);omega)))<|dV W aa<|dF W 82 X8 W YA<|dV W (bp ((bZ n i).toNat) YB X0 (hj:=by omega) (by omega))<|dF W 4 XV W Xu ?_;refine aN ?_;refine gU (aJ (xC ⟨(xS (part (db lf) ⟨S.B,aD S.N k (some (rf n 1))⟩ n i)).B,gn (xS (part (db lf) ⟨S.B,aD S.N k (some (rf n 1))⟩ n i)).N (bZ n i).toNat (rf ((xS (part (db lf) ⟨S.B,aD S.N k (some (rf n 1))⟩ n i)).N (bZ n i).toNat) (((xS (part (db lf) ⟨S.B,aD S.N k (some (rf n 1))⟩ n i)).N (bZ n i).toNat).refs+1))⟩) Xu (by rw[i7];omega) (hcs:=by exact mo (j:=4) (rf ((xS (part (db lf) ⟨S.B,aD S.N k (some (rf n 1))⟩ n i)).N (bZ n i).toNat) (((xS (part (db lf) ⟨S.B,aD S.N k (some (rf n 1))⟩ n i)).N (bZ n i).toNat).refs+1)) (by omega) (by omega) (by omega) W))<|ab<|aE<|al<|C<|gP<|T ?_;rw[lJ (by omega),uJ (by omega) (rf (gN (part (db lf) ⟨S.B,aD S.N k (some (rf n 1))⟩ n i).N (bZ n i)) ((gN (part (db lf) ⟨S.B,aD S.N k (some (rf n 1))⟩ n i).N (bZ n i)).refs+1)),show (⟨(part (db lf) ⟨S.B,aD S.N k (some (rf n 1))⟩ n i).B,aD (part (db lf) ⟨S.B,aD S.N k (some (rf n 1))⟩ n i).N (bZ n i) (some (rf (gN (part (db lf) ⟨S.B,aD S.N k (some (rf n 1))⟩ n i).N (bZ n i)) ((gN (part (db lf) ⟨S.B,aD S.N k (some (rf n 1))⟩ n i).N (bZ n i)).refs+1)))⟩:SI)=part (db lf) ⟨S.B,aD S.N k (some (rf n 1))⟩ n (i+1) by rw[jl _ _ _ i J];unfold db;rw[iOm,kaU (by simpa using V Y)];rfl];exact an (i+1) (by omega) (by omega) [0,2,4,8,9] rfl
      ·simp at Y;refine ai<|aE<|al<|C<|gP<|T ?_;rw[show part (db lf) ⟨S.B,aD S.N k (some (rf n 1))⟩ n i=part (db lf) ⟨S.B,aD S.N k (some (rf n 1))⟩ n (i+1) by rw[jl _ _ _ i J];unfold db;rw[kaT (by have:=hk i J;omega)]];exact an (i+1) (by omega) (by omega) [0,2,4,8,9] rfl
    ·simp at h48;obtain rfl:i=4:=(by omega);refine aF ?_;refine A<|C<|gA<|T ?_;rw[show br S n=((k:Int),0) by unfold br;rw[kaU R,X],show bu lf S n=part (db lf) ⟨S.B,aD S.N k (some (rf n 1))⟩ n 4 by unfold bu;rw[kaU R,X];rfl];exact am rfl rfl rfl
  ·simp at h29;obtain rfl:k=25:=(by omega);have X:ef 24 S.N=none:=by
    cases h:ef 24 S.N with
    | none=>rfl
    | some j=>
     have h1:=iV h;have h2:=h0.2 j (by omega) (by omega);rw[h1.2.1] at h2;cases h2
   refine aF ?_;refine A<|gA<|T ?_;rw[show br S n=(0,8) by unfold br;rw[kaU R,X],show bu lf S n=S by unfold bu;rw[kaU R,X]];exact am rfl rfl rfl
def qN b S q m(hok:ii m S)(hm:0<=m/\m<=1000000)(hq:0<=q/\q<=24)F:cqq 254 [ptr b 0,I q,Bo true] (kY b (xS S)::F) (R1 (.tuple #[]) (kY b (xS (lE S q))::F)):=by
 refine Ct.of func254 W 62 ntmps254 (by simp) λw0=>?_;refine ac<|A<|C<|M bE<|ab<|ah ?_ ?_<;>intro Y
 ·simp at Y;rw[show xS S=xS (lE S q) by unfold lE vI;rw[kaT Y]];exact am rfl rfl rfl
 ·simp at Y;refine ai<|ac ?_;refine eE (Lf:=[kY b (xS S)]) jI 12 ?_;refine dM W<|dM W<|dV W aa<|dF W 82 X8 W YA<|dV W (bp (q.toNat) YB X0 (hj:=by omega) (by omega))<|dF W 4 XV W Xu<|dV W (aA (v:=I ((xS S).N q.toNat).refs) Xv (hv:=⟨si (j:=4) (by omega) W⟩))<|dV W (eG (cK (by rw[lJ hq.1];have:=nQ hok hm.1 q;omega)))<|dV W aa<|dF W 82 X8 W YA<|dV W (bp (q.toNat) YB X0 (hj:=by omega) (by omega))<|dF W 4 XV W Xu ?_;refine aN ?_;refine gU (aJ (xC ⟨(xS S).B,gn (xS S).N q.toNat (rf ((xS S).N q.toNat) (((xS S).N q.toNat).refs - 1))⟩) Xu (by rw[i7];omega) (hcs:=by exact mo (j:=4) (rf ((xS S).N q.toNat) (((xS S).N q.toNat).refs - 1)) (by omega) (by omega) (by omega) W))<|ab ?_;rw[lJ hq.1,uJ hq.1 (rf (gN S.N q) ((gN S.N q).refs - 1))];refine ac<|A<|C<|C<|M aa<|gF 82 X8 W YA<|M (bp (q.toNat) YB X0 (hj:=by omega) (by omega))<|gF 4 XV W Xu<|M (aA (v:=I ((gN S.N q).refs - 1)) Xv (hv:=⟨si (X:=xS ⟨S.B,aD S.N q (some (rf (gN S.N q) ((gN S.N q).refs - 1)))⟩) (j:=4) (k:=q.toNat) (by omega) (by rw[lJ hq.1];simp[uI,rf])⟩))<|M aQ<|ab ?_;apply ah<;>intro R
  ·simp at R;rw[show (⟨S.B,aD S.N q (some (rf (gN S.N q) ((gN S.N q).refs - 1)))⟩:SI)=lE S q by unfold lE vI;rw[kaU Y,kaT (by omega)]];exact am rfl rfl rfl
  ·simp at R;refine ai<|A<|C<|C<|M aa<|gF 82 X8 W YA<|M (bp (q.toNat) YB X0 (hj:=by omega) (by omega))<|gF 0 XV W XR<|M (bj (vs:=ga (gN S.N q)) Yu XR (uK (X:=xS ⟨S.B,aD S.N q (some (rf (gN S.N q) ((gN S.N q).refs - 1)))⟩) (k:=q.toNat) (by omega) (by omega) (by rw[lJ hq.1];simp[uI,rf])))<|gI (aO #[I 0,I 0,I 0,I 0] ZK) ?_;rintro _ _ ⟨b6,rfl,rfl⟩;refine gU (az (cs:=#[I 0,I 0,I 0,I 0]) (vs:=ga (gN S.N q)) (ga (gN S.N q)).toArray XR (by simp) (hcs:=by exact aH))<|ab<|A<|C<|C<|M (aS (Iq))<|M aa<|gF 82 X8 W YA<|M (bp (q.toNat) YB X0 (hj:=by omega) (by omega))<|gU (az (vs:=kV yN) (xC (xS (⟨S.B,aD S.N q none⟩:SI))) X0 (by rw[i7];simp;omega) (hcs:=by exact (DB (X:=xS ⟨S.B,aD S.N q (some (rf (gN S.N q) ((gN S.N q).refs - 1)))⟩) (k:=q.toNat) yN (by omega) (by omega)).trans (kay xC ((DF (S:=⟨S.B,aD S.N q (some (rf (gN S.N q) ((gN S.N q).refs - 1)))⟩) (x:=none) hq.1 W).trans (by rw[vw])))))<|ab ?_;show G _ _ _ (pcc b6 (ga (gN S.N q)).toArray 185::kY b (xS (part eZ (⟨S.B,aD S.N q none⟩:SI) (gN S.N q) 0))::F);refine A<|T<|ak ?_;refine aL (α:=Nat) (λi=>i<=4) (λi=>U [(0,ptr b 0),(2,Bo true),(6,ptr b6 0),(7,I i)]) (λi=>pcc b6 (ga (gN S.N q)).toArray 185::kY b (xS (part eZ (⟨S.B,aD S.N q none⟩:SI) (gN S.N q) i))::F) (λi=>4 - i) 0 (by omega) [0,2,6,7] rfl ?_;intro i hi;have Z:=xA (f:=eZ) (λS k h=>vJ h k) (lF hok (q:=q) (x:=none) (λe=>by cases e) (λn e=>by cases e)) (gN S.N q) i;refine ac<|A<|C<|M aG<|ab<|ah ?_ ?_<;>intro V
   ·simp at V;have J:i<4:=(by omega);refine ai<|ac<|ak<|ac<|A<|C<|M (bp (i) X6 Xu J)<|M (aA (v:=I (bZ (gN S.N q) (i))) Xv (hv:=⟨by simpa [bK] using g7 (gN S.N q) (i) J⟩))<|M bE<|ab<|ah ?_ ?_<;>intro O
    ·simp at O;refine aF ?_;refine al<|C<|gP<|T ?_;rw[show part eZ (⟨S.B,aD S.N q none⟩:SI) (gN S.N q) i=part eZ (⟨S.B,aD S.N q none⟩:SI) (gN S.N q) (i+1) by rw[jl _ _ _ i J];unfold eZ;rw[kaT O]];exact an (i+1) (by omega) (by omega) [0,2,6,7] rfl
    ·simp at O;refine ai<|A<|C<|ab<|ah ?_ ?_<;>intro h51
     ·refine al<|C<|C<|M (bp (i) X6 Xu J)<|M (aA (v:=I (bZ (gN S.N q) (i))) Xv (hv:=⟨by simpa [bK] using g7 (gN S.N q) (i) J⟩))<|gR (vB call276 (sj b (xS (part eZ (⟨S.B,aD S.N q none⟩:SI) (gN S.N q) i)) (bZ (gN S.N q) i) (-1) (Wl Z hm.2 _ _ (.inr W))))<|ab<|aE<|al<|C<|gP<|T ?_;rw[Oe Z,show (⟨fB (part eZ (⟨S.B,aD S.N q none⟩:SI) (gN S.N q) i).B (bZ (gN S.N q) i) (-1),(part eZ (⟨S.B,aD S.N q none⟩:SI) (gN S.N q) i).N⟩:SI)=part eZ (⟨S.B,aD S.N q none⟩:SI) (gN S.N q) (i+1) by rw[jl _ _ _ i J];unfold eZ;rw[kaU O]];exact an (i+1) (by omega) (by omega) [0,2,6,7] rfl
     ·simp at h51
   ·simp at V;obtain rfl:i=4:=(by omega);refine aF ?_;rw[show part eZ (⟨S.B,aD S.N q none⟩:SI) (gN S.N q) 4=lE S q by unfold lE vI;rw[kaU Y,iOm];rfl];exact gh rfl rfl rfl
def FO b S q m(hok:ii m S)(hm:0<=m/\m<=1000000)(hq:0<=q/\q<=24)(hk:∀i,i<4->0<=bZ (gN S.N q) i/\bZ (gN S.N q) i<=24)F:cqq 254 [ptr b 0,I q,Bo false] (kY b (xS S)::F) (R1 (.tuple #[]) (kY b (xS (rH S q))::F)):=by
 refine Ct.of func254 W 62 ntmps254 (by simp) λw0=>?_;refine ac<|A<|C<|M bE<|ab<|ah ?_ ?_<;>intro Y
 ·simp at Y;rw[show xS S=xS (rH S q) by unfold rH vI;rw[kaT Y]];exact am rfl rfl rfl
 ·simp at Y;refine ai<|ac ?_;refine eE (Lf:=[kY b (xS S)]) jI 12 ?_;refine dM W<|dM W<|dV W aa<|dF W 82 X8 W YA<|dV W (bp (q.toNat) YB X0 (hj:=by omega) (by omega))<|dF W 4 XV W Xu<|dV W (aA (v:=I ((xS S).N q.toNat).refs) Xv (hv:=⟨si (j:=4) (by omega) W⟩))<|dV W (eG (cK (by rw[lJ hq.1];have:=nQ hok hm.1 q;omega)))<|dV W aa<|dF W 82 X8 W YA<|dV W (bp (q.toNat) YB X0 (hj:=by omega) (by omega))<|dF W 4 XV W Xu ?_;refine aN ?_;refine gU (aJ (xC ⟨(xS S).B,gn (xS S).N q.toNat (rf ((xS S).N q.toNat) (((xS S).N q.toNat).refs - 1))⟩) Xu (by rw[i7];omega) (hcs:=by exact mo (j:=4) (rf ((xS S).N q.toNat) (((xS S).N q.toNat).refs - 1)) (by omega) (by omega) (by omega) W))<|ab ?_;rw[lJ hq.1,uJ hq.1 (rf (gN S.N q) ((gN S.N q).refs - 1))];refine ac<|A<|C<|C<|M aa<|gF 82 X8 W YA<|M (bp (q.toNat) YB X0 (hj:=by omega) (by omega))<|gF 4 XV W Xu<|M (aA (v:=I ((gN S.N q).refs - 1)) Xv (hv:=⟨si (X:=xS ⟨S.B,aD S.N q (some (rf (gN S.N q) ((gN S.N q).refs - 1)))⟩) (j:=4) (k:=q.toNat) (by omega) (by rw[lJ hq.1];simp[uI,rf])⟩))<|M aQ<|ab ?_;apply ah<;>intro R
  ·simp at R;rw[show (⟨S.B,aD S.N q (some (rf (gN S.N q) ((gN S.N q).refs - 1)))⟩:SI)=rH S q by unfold rH vI;rw[kaU Y,kaT (by omega)]];exact am rfl rfl rfl
  ·simp at R;refine ai<|A<|C<|C<|M aa<|gF 82 X8 W YA<|M (bp (q.toNat) YB X0 (hj:=by omega) (by omega))<|gF 0 XV W XR<|M (bj (vs:=ga (gN S.N q)) Yu XR (uK (X:=xS ⟨S.B,aD S.N q (some (rf (gN S.N q) ((gN S.N q).refs - 1)))⟩) (k:=q.toNat) (by omega) (by omega) (by rw[lJ hq.1];simp[uI,rf])))<|gI (aO #[I 0,I 0,I 0,I 0] ZK) ?_;rintro _ _ ⟨Z,rfl,rfl⟩;refine gU (az (cs:=#[I 0,I 0,I 0,I 0]) (vs:=ga (gN S.N q)) (ga (gN S.N q)).toArray XR (by simp) (hcs:=by exact aH))<|ab<|A<|C<|C<|M (aS (Iq))<|M aa<|gF 82 X8 W YA<|M (bp (q.toNat) YB X0 (hj:=by omega) (by omega))<|gU (az (vs:=kV yN) (xC (xS (⟨S.B,aD S.N q none⟩:SI))) X0 (by rw[i7];simp;omega) (hcs:=by exact (DB (X:=xS ⟨S.B,aD S.N q (some (rf (gN S.N q) ((gN S.N q).refs - 1)))⟩) (k:=q.toNat) yN (by omega) (by omega)).trans (kay xC ((DF (S:=⟨S.B,aD S.N q (some (rf (gN S.N q) ((gN S.N q).refs - 1)))⟩) (x:=none) hq.1 W).trans (by rw[vw])))))<|ab ?_;show G _ _ _ (pcc Z (ga (gN S.N q)).toArray 185::kY b (xS (part lE (⟨S.B,aD S.N q none⟩:SI) (gN S.N q) 0))::F);refine A<|T<|ak ?_;refine aL (α:=Nat) (λi=>i<=4) (λi=>U [(0,ptr b 0),(2,Bo false),(6,ptr Z 0),(7,I i)]) (λi=>pcc Z (ga (gN S.N q)).toArray 185::kY b (xS (part lE (⟨S.B,aD S.N q none⟩:SI) (gN S.N q) i))::F) (λi=>4 - i) 0 (by omega) [0,2,6,7] rfl ?_;intro i hi;have hpi:=xA (f:=lE) (λS k h=>IE h k) (lF hok (q:=q) (x:=none) (λe=>by cases e) (λn e=>by cases e)) (gN S.N q) i;refine ac<|A<|C<|M aG<|ab<|ah ?_ ?_<;>intro V
   ·simp at V;have J:i<4:=(by omega);refine ai<|ac<|ak<|ac<|A<|C<|M (bp (i) X6 Xu J)<|M (aA (v:=I (bZ (gN S.N q) (i))) Xv (hv:=⟨by simpa [bK] using g7 (gN S.N q) (i) J⟩))<|M bE<|ab<|ah ?_ ?_<;>intro O
    ·simp at O;refine aF ?_;refine al<|C<|gP<|T ?_;rw[show part lE (⟨S.B,aD S.N q none⟩:SI) (gN S.N q) i=part lE (⟨S.B,aD S.N q none⟩:SI) (gN S.N q) (i+1) by rw[jl _ _ _ i J];unfold lE vI;rw[kaT O]];exact an (i+1) (by omega) (by omega) [0,2,6,7] rfl
    ·simp at O;refine ai<|A<|C<|ab<|ah ?_ ?_<;>intro h51
     ·simp at h51
     ·refine al<|C<|C<|M (bp (i) X6 Xu J)<|M (aA (v:=I (bZ (gN S.N q) (i))) Xv (hv:=⟨by simpa [bK] using g7 (gN S.N q) (i) J⟩))<|gR (vB call254 (qN b (part lE (⟨S.B,aD S.N q none⟩:SI) (gN S.N q) i) (bZ (gN S.N q) i) m hpi hm (hk i J)))<|ab<|aE<|al<|C<|gP<|T ?_;rw[show lE (part lE (⟨S.B,aD S.N q none⟩:SI) (gN S.N q) i) (bZ (gN S.N q) i)=part lE (⟨S.B,aD S.N q none⟩:SI) (gN S.N q) (i+1) from (jl _ _ _ i J).symm];exact an (i+1) (by omega) (by omega) [0,2,6,7] rfl
   ·simp at V;obtain rfl:i=4:=(by omega);refine aF ?_;rw[show part lE (⟨S.B,aD S.N q none⟩:SI) (gN S.N q) 4=rH S q by unfold rH vI;rw[kaU Y,iOm];rfl];exact gh rfl rfl rfl
end Go.Proofs.YthdjckbjjfiopabGreatDoor