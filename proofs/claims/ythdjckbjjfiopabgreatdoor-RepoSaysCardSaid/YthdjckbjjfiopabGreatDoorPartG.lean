/- Several texts in one: walks and rules used by them. No condition. -/
import Derived.Test.YthdjckbjjfiopabGreatDoorPartF
import Derived.Test.YthdjckbjjfiopabGreatDoorPartC
import Derived.Test.YthdjckbjjfiopabGreatDoorPartE
import Derived.Shelf.SlSortCmp.NoneTotal
import Derived.Test.YthdjckbjjfiopabGreatDoorPartB
import Derived.Test.YthdjckbjjfiopabGreatDoorPartD
set_option linter.unusedSimpArgs false
set_option linter.unusedVariables false
set_option linter.defProp false
set_option maxHeartbeats 800000
namespace Go.Proofs.YthdjckbjjfiopabGreatDoor
open _root_.Go.Proofs.Tryz
open Go.Sl Go.Proofs
def zB {N:aB}(h:bh 24 N)(q:Int):(lk (tb we 24 N) q).isSome=(N q).isSome:=by
 rw[vh we h];cases N q <;> rfl
def ML {N:aB}{F:IM}{o:Bool}{id kind:Int}(h:dH N F o id kind=true):o=true:=by
 unfold dH at h;split at h
 ·exact h
 ·rw[Ru] at h;exact h.1
def MN {Q:IM}{l:List Int}(h:cm Q (cA l))(k:Int):cm (gi Q k (cA l k+1)) (cA (l++ [k])):=by
 rw[show cA (l++ [k])=del (cA l) k 1 from funext λq=>L3 l k q];exact zf h k
def pT {Q:IM}{c:Int->Int}(h:cm Q c)(q:Int):(lk (mi Q) q).getD (I 0)=I (c q):=by rw[od,h.1]
def zC {N:aB}(h:bh 24 N){q:Int}{m:Nd}(D:N q=some m):q∈(tb we 24 N).map (·.1):=by
 rw[kL];exact mem_ids.2 ⟨h q m D,by rw[D];rfl⟩
def MO {B:bV}(h:bh 40 B){q:Int}{x:Bk}(hx:B q=some x):q∈(tb am 40 B).map (·.1):=by
 rw[kL];exact mem_ids.2 ⟨h q x hx,by rw[hx];rfl⟩
def uf {rest D:MM}{k:Int}{v:Value}(h:rest.Perm ((k,v)::D)){q:Int}(J:q∈rest.map (·.1)):q=k\/q∈D.map (·.1):=by
 have:=(h.map (·.1)).mem_iff.1 J;simpa using this
def pU {rest D M:MM}{p:Int×Value}(h:rest.Perm (p::D))(O:∀p∈rest,p∈M):∀p∈D,p∈M:=λq J=>O q (h.mem_iff.2 (Th _ J))
def ug {rest D M:MM}{p:Int×Value}(h:rest.Perm (p::D))(J:∀p∈rest,p∈M):p∈M:=J p (h.mem_iff.2 (by simp))
def pV {rest D:MM}{p:Int×Value}(h:rest.Perm (p::D)):D.length<rest.length:=by have:=h.length_eq;simp at this;omega
def pW (m:Nd):∀i,i<4->(kd m)[i]? =some (ak m i)
 | 0,_=>rfl
 | 1,_=>rfl
 | 2,_=>rfl
 | 3,_=>rfl
 | i+4,h=>absurd h (by omega)
def E5 (b x p r J R O rm:Nat)(es:Array MapEntry)(clk:Nat)(S:SI)(L:List Pt)(n:Int)(s:Option Addr)(c:Nat)(Q:IM)(o:Bool)(id kind:Int)(V:bh 24 S.N)(F:List aa):Ct Tryz.prog 248 [I id,I kind,ptr J 0,ptr R 0,ptr O 0] (pt J (.cells #[ptr b 0] 53 (0,0))::pt R (.cells #[Bo (o)] 4 (0,0))::pt O (.cells #[.map (some rm)] 286 (0,0))::mp rm (mi Q)::pt b (.cells #[ptr x 0,sl s (L).length c,I (n)] 123 (0,0))::pt x (.cells #[ptr p 0, .map (some r)] 231 (0,0))::cz r es clk (tb we 24 S.N)::F) (R1 (.tuple #[]) (pt J (.cells #[ptr b 0] 53 (0,0))::pt R (.cells #[Bo (dH S.N Q o id kind)] 4 (0,0))::pt O (.cells #[.map (some rm)] 286 (0,0))::mp rm (mi (eZ Q id kind))::pt b (.cells #[ptr x 0,sl s (L).length c,I (n)] 123 (0,0))::pt x (.cells #[ptr p 0, .map (some r)] 231 (0,0))::cz r es clk (tb we 24 S.N)::F)):=by
 refine Ct.of func248 rR 43 ntmps248 (by simp) λw0=>?_;refine qb (gS (gM rR (gV (yD rR rR) (qc ?_))));refine qd rfl ?_ ?_ <;> intro h
 ·simp at h;rw[show dH S.N Q o id kind=o by unfold dH;rw[RI h],show eZ Q id kind=Q by unfold eZ;rw[RI h]];exact ql rfl rfl rfl
 ·simp at h;refine qf (gS (gL (ptr b 0) PX rR (gV (qa rR) (gF 0 OV rR Pd rR (gL (ptr x 0) Pg rR (gV (qa rR) (gF 1 O5 rR Pn rR (gL (.map (some r)) Pr rR (gM rR (gV (ws (v:=we (gN S.N id)) (bb:=(S.N id).isSome) Ps OL Py rR rR (iK V id) (zB V id)) (gM rR (gX (we (gN S.N id)) rR (gX (Bo (S.N id).isSome) rR (gI (qA #[I 0,I 0,I 0,I 0,I 0] Py) ?_))))))))))))));rintro _ _ ⟨X,rfl,rfl⟩;refine gU (qp (cs:=#[I 0,I 0,I 0,I 0,I 0]) (vs:=aV (gN S.N id)) (aV (gN S.N id)).toArray O7 rR rR rR rR (by simp) (qs rR)) (gQ rR (gS (gL (Bo o) PO rR (gM rR (gK rR rR (qn rR) (gV (bT rR rR) (gM rR ?_)))))));rcases hb1:(o && (S.N id).isSome) with _ | _
  ·refine yL rR rR rR rR (yL rR rR rR rR (yL rR rR rR rR (yL rR rR rR rR (yL rR rR rR rR (yL rR rR rR rR (yL rR rR rR rR (yL rR rR rR rR (yL rR rR rR rR (yL rR rR rR rR (yL rR rR rR rR (gV (bZ rR rR rR) (gU (qG #[Bo false] Pv rR rR rR (by simp) rR) (qc (qo (gL (.map (some rm)) Qk rR (gM rR (gM rR (cl (yk PK OL rR rR rR) ?_))))))))))))))))));rintro _ _ rfl;rw[lB];refine qc ?_;rw[show dH S.N Q o id kind=false by unfold dH;rw[RJ h,<-U8,hb1];rfl,show eZ Q id kind=gi Q id kind by unfold eZ;rw[RJ h]];exact fk rfl rfl rfl
  ·refine yc rR rR rR (qu (v:= .map (some rm)) Qk rR rR) rR (yc rR rR rR (qn rR) rR (yc rR rR rR (yE (v:=I ((li Q id).getD 0)) PK OL Pe rR rR (od Q id 0)) rR (yc rR rR rR (yD rR rR) rR (yc rR rR rR (qn rR) rR ?_))));by_cases D:(li Q id).getD 0=0
   ·refine yL rR rR (by rw[S8 D];rfl) rR (yL rR rR (by rw[S8 D];rfl) rR (yL rR rR (by rw[S8 D];rfl) rR (yL rR rR (by rw[S8 D];rfl) rR (yL rR rR (by rw[S8 D];rfl) rR (yc rR rR rR (cw rR (S8 D) rR) rR (gV (cw rR rR rR) (gU (qG #[Bo true] Pv rR rR rR (by simp) rR) (qc (qo (gL (.map (some rm)) Qk rR (gM rR (gM rR (cl (yk PK OL rR rR rR) ?_)))))))))))));rintro _ _ rfl;rw[lB];refine qc ?_;rw[show dH S.N Q o id kind=true by unfold dH;rw[RJ h,<-U8,hb1,S8 D];rfl,show eZ Q id kind=gi Q id kind by unfold eZ;rw[RJ h]];exact fk rfl rfl rfl
   ·refine yc rR rR (S5 D) (qu (v:= .map (some rm)) Qk rR rR) rR (yc rR rR (S5 D) (qn rR) rR (yc rR rR (S5 D) (yE (v:=I ((li Q id).getD 0)) PK OL Pe rR rR (od Q id 0)) rR (yc rR rR (S5 D) (qn rR) rR (yc rR rR (S5 D) (yD rR rR) rR (yc rR rR rR (bZ rR (S5 D) rR) rR (gV (cw rR rR rR) (gU (qG #[Bo (decide ((li Q id).getD 0=kind))] Pv rR rR rR (by simp) rR) (qc (qo (gL (.map (some rm)) Qk rR (gM rR (gM rR (cl (yk PK OL rR rR rR) ?_)))))))))))));rintro _ _ rfl;rw[lB];refine qc ?_;rw[show dH S.N Q o id kind=decide ((li Q id).getD 0=kind) by unfold dH;rw[RJ h,<-U8,hb1,S5 D];simp,show eZ Q id kind=gi Q id kind by unfold eZ;rw[RJ h]];exact fk rfl rfl rfl
def E6 (b:Nat)(S:SI)(L:List Pt)(n:Int)(hl:L.length<=6)(hs:bh 24 S.N)(F:List aa):Ct Tryz.prog 193 [ptr b 0] (aI b S L n::F) (λv L'=>∃rm Q o,v= .tuple #[.map (some rm),Bo o]/\L'=mp rm (mi Q)::aI b S L n::F/\(o=true ↔ KindsP S.N L)/\(o=true->∀q,(li Q q).getD 0=1 ↔ bk L q)):=by
 refine Ct.of func193 rR 70 ntmps193 (by simp) λw0=>?_;refine f9 b S L n ?_;intro x s c;refine eK x S ?_;intro p r;refine wY r ?_;intro es clk;refine gS (gI (wR #[ptr b 0] rfl rR) ?_);rintro _ _ ⟨b1,rfl,rfl⟩;refine gA rR (gQ rR (gS (gI (gW) ?_)));rintro _ _ ⟨D,rfl,rfl⟩;refine gI (nG (.map none) zeroValue286 rR) ?_;rintro _ _ ⟨O,rfl,rfl⟩;refine gU (qG #[.map (some D)] sizeOf286 rR rR rR (by simp) rR) (qc (gS (gI (nG (Bo false) zeroValue4 rR) ?_)));rintro _ _ ⟨R,rfl,rfl⟩;refine gU (qG #[Bo true] Pv rR rR rR (by simp) rR) (qc (gS (gV (ju rR rR) (gQ rR ?_))));refine gY D (mi []) (.refl _) ?_;refine qb (gS (gL (ptr b 0) PX rR (gV (qa rR) (gF 1 OV rR O2 rR (gL (sl s (L).length c) Pf rR (gV (qY OZ rR) (gM rR (qc (qg ?_)))))))));refine qC (α:=Nat×Bool×IM) (λz=>z.1<=L.length/\K1 S.N (L.take z.1) z.2.1 z.2.2) (λz=>U [(1,ptr b1 0),(4,ptr O 0),(5,ptr R 0),(6, .func (.func 248) #[] #[ptr b1 0,ptr R 0,ptr O 0]),(18,sl s L.length c),(19,I L.length),(20,I z.1)]) (λz=>pt b1 (.cells #[ptr b 0] 53 (0,0))::pt R (.cells #[Bo (z.2.1)] 4 (0,0))::pt O (.cells #[.map (some D)] 286 (0,0))::mp D (mi z.2.2)::pt b (.cells #[ptr x 0,sl s (L).length c,I (n)] 123 (0,0))::pt x (.cells #[ptr p 0, .map (some r)] 231 (0,0))::cz r es clk (tb we 24 S.N)::bi p S.B::ai 162 4 s c (az (L))::F) (λz=>L.length - z.1) (0,true,[]) ⟨by simp,by simpa using LN S.N⟩ [1,4,5,6,18,19,20] rfl rR ?_;rintro ⟨j,o,Q⟩ ⟨hj,Z⟩;simp only[] at hj Z ⊢;refine gS (gV (qH rR rR) (qc (qb ?_)));refine qd rfl ?_ ?_ <;> intro h21
 ·simp at h21;have hjn:j<L.length:=(by omega);obtain ⟨p0,hp⟩:∃p0,L[j]? =some p0:=⟨_,S6 hjn⟩;refine qf (qb (qg (gS (gV (qv (j) OZ OP rR rR rR hjn (by rw[yI];exact hjn)) (gV (qZ (row:=qL p0) PH OP rR (eO hp) rR) (gI (qA #[I 0,I 0,I 0,I 0] Pc) ?_))))));rintro _ _ ⟨b8,rfl,rfl⟩;refine gU (qp (cs:=#[I 0,I 0,I 0,I 0]) (vs:=qL (p0)) (qL (p0)).toArray OP rR rR rR rR (by simp) (qs rR)) (qc (qo (gM rR (gF 3 O6 rR OH rR (gL (I p0.root) OI rR (gI (fC (fi:=[]) (cap:=[ptr b1 0,ptr R 0,ptr O 0]) (Pre:=[pt b1 (.cells #[ptr b 0] 53 (0,0)),pt R (.cells #[Bo (o)] 4 (0,0)),pt O (.cells #[.map (some D)] 286 (0,0)),mp D (mi Q),pt b (.cells #[ptr x 0,sl s (L).length c,I (n)] 123 (0,0)),pt x (.cells #[ptr p 0, .map (some r)] 231 (0,0)),cz r es clk (tb we 24 S.N)]) call248 rR rR (E5 b x p r b1 R O D es clk S L n s c Q o (p0.root) 1 hs)) ?_))))));rintro _ _ ⟨rfl,rfl⟩;refine qc (qD (qo (gP rR rR (by omega) (gM rR (qc ?_)))));exact qk (j+1,dH S.N Q o p0.root 1,eZ Q p0.root 1) ⟨by simp only[];omega,by simp only[];rw[<-e9 hp];exact LO Z p0⟩ (by simp only[];omega) [1,4,5,6,18,19,20] rfl rfl
 ·simp at h21;obtain rfl:j=L.length:=(by omega);rw[S7] at Z;refine qw rR ?_;refine qb (gS (gL (ptr b 0) PX rR (gV (qa rR) (gF 0 OV rR Pd rR (gL (ptr x 0) Pg rR (gV (qa rR) (gF 1 O5 rR Pn rR (gL (.map (some r)) Pr rR (gI (fV Ps rR) ?_)))))))));rintro _ _ ⟨b36,rfl,rfl⟩;refine qc (qg ?_);refine qC (α:=MM×List Int×Option (Int×Value)×Bool×IM) (λz=>K2 S.N L z.2.1 [] z.2.2.2.1 z.2.2.2.2/\(∀q m,S.N q=some m->q∈z.2.1\/q∈z.1.map (·.1))/\∀p∈z.1,p∈tb we 24 S.N) (λz=>U [(1,ptr b1 0),(4,ptr O 0),(5,ptr R 0),(6, .func (.func 248) #[] #[ptr b1 0,ptr R 0,ptr O 0]),(36,ptr b36 0)]) (λz=>dx b36 r es clk z.1 z.2.2.1::pt b1 (.cells #[ptr b 0] 53 (0,0))::pt R (.cells #[Bo (z.2.2.2.1)] 4 (0,0))::pt O (.cells #[.map (some D)] 286 (0,0))::mp D (mi z.2.2.2.2)::pt b (.cells #[ptr x 0,sl s (L).length c,I (n)] 123 (0,0))::pt x (.cells #[ptr p 0, .map (some r)] 231 (0,0))::cz r es clk (tb we 24 S.N)::bi p S.B::ai 162 4 s c (az (L))::F) (λz=>z.1.length) (tb we 24 S.N,[],none,o,Q) ⟨LP Z,λq m h=> .inr (zC hs h),λ_ h=>h⟩ [1,4,5,6,36] rfl rR ?_;rintro ⟨rest,done,cur,o,Q⟩ ⟨Z,X,V⟩;simp only[] at Z X V ⊢;refine gS (gI (fW rR) ?_);rintro _ _ (⟨hr,rfl,rfl⟩ | ⟨⟨k,v⟩,J,hq,rfl,rfl⟩)
  ·subst hr;refine gV (qr rR rR) (qc (qb ?_));refine wo rR ?_;refine qw rR ?_;refine qb ?_;refine yO (Lf:=[pt b1 (.cells #[ptr b 0] 53 (0,0)),pt R (.cells #[Bo (o)] 4 (0,0)),pt O (.cells #[.map (some D)] 286 (0,0)),mp D (mi Q),pt b (.cells #[ptr x 0,sl s (L).length c,I (n)] 123 (0,0)),pt x (.cells #[ptr p 0, .map (some r)] 231 (0,0)),cz r es clk (tb we 24 S.N)]) jF (by kernel_rfl) (by kernel_rfl) rR (by kernel_rfl) ?_;refine dL rR (.map (some D)) Qk rR (dL rR (Bo o) PO rR (dM rR rR rR (dJ rR rR rR (qu (v:= .map (some D)) Qk rR rR) (dJ rR rR rR (gO PK rR) (dJ rR rR rR (qu (v:=ptr b 0) PX rR rR) (dJ rR rR rR (qa rR) (dJ rR rR rR (qm 0 OV rR rR Pd (by decide) rR) (dJ rR rR rR (qu (v:=ptr x 0) Pg rR rR) (dJ rR rR rR (qa rR) (dJ rR rR rR (qm 1 O5 rR rR Pn (by decide) rR) (dJ rR rR rR (qu (v:= .map (some r)) Pr rR rR) (dJ rR rR rR (gO Ps rR) (dJ rR rR rR (yD rR rR) (dV rR (bT rR rR) (dV rR (qt rR) (dV rR (qt rR) ?_))))))))))))))));refine qI ?_;refine jZ D λhnd=>?_;rw[oe] at hnd;have hend:=LY Z (λq hq=>by obtain ⟨m,hm⟩:=UG.1 hq;exact (X q m hm).resolve_right (by simp)) hs hnd;refine qT r ?_;refine yw p r x S (.refl _) ?_;refine yA b x s c (S) (L) (n) ?_;refine dK (L2:=mp D (mi Q)::aI b S L n::F) ?_;exact λa w hE hS=>wp_ret (yu (qB (vs:=[.map (some D),Bo (o && decide (((mi Q).length:Int)=((tb we 24 S.N).length:Int)))]) rfl hE hS ⟨D,Q,_,rfl,rfl,by rw[eC,show (mi Q).length=Q.length by simp[mi]];exact hend.1,λho=>hend.2 (by rw[Ru] at ho;exact ho.1)⟩))
  ·obtain ⟨m,hm,hv,hk⟩:=mE (ug hq V);simp only at hv hk hm;subst hv;have Y:∀q m,S.N q=some m->q∈k::done\/q∈J.map (·.1):=λq m h=>by
    rcases X q m h with h1 | h1
    ·exact .inl (Th _ h1)
    ·rcases uf hq h1 with h2 | h2
     ·exact .inl (by rw[h2];simp)
     ·exact .inr h2
   refine gV (qr rR rR) (qc (qb ?_));refine wZ rR ?_;refine qf (qg (gS (gV (fX rR) (gX (I k) rR (gX (we m) rR (gI (qA #[I 0,I 0,I 0,I 0,I 0] Py) ?_))))));rintro _ _ ⟨b10,rfl,rfl⟩;refine gA rR (gU (qp (cs:=#[I 0,I 0,I 0,I 0,I 0]) (vs:=aV m) (aV m).toArray O7 rR rR rR rR (by simp) (qs rR)) (qc (qb (gS (gL (.map (some D)) Qk rR (gM rR (gV (yE (v:=I ((li Q k).getD 0)) PK OL Pe rR rR (od Q k 0)) (gV (da rR rR) (qc ?_)))))))));refine qd rfl ?_ ?_ <;> intro h45
   ·simp at h45;refine qw rR ?_;exact qk (J,k::done,some (k,we m),o,Q) ⟨LS Z h45,Y,pU hq V⟩ (pV hq) [1,4,5,6,36] rfl rfl
   ·simp at h45;refine qf (gS (gF 0 O3 rR O0 rR (gV (qJ (vs:=aA m) Pw O0 rR rR mX) (gM rR (qc (qg ?_))))));refine qC (α:=Nat×Bool×IM) (λz=>z.1<=4/\K2 S.N L done ((kd m).take z.1) z.2.1 z.2.2/\(z.2.1=true->bk L k)) (λz=>U [(1,ptr b1 0),(4,ptr O 0),(5,ptr R 0),(6, .func (.func 248) #[] #[ptr b1 0,ptr R 0,ptr O 0]),(36,ptr b36 0),(47, .agg (aA m).toArray),(48,I z.1)]) (λz=>dx b36 r es clk J (some (k,we m))::pt b1 (.cells #[ptr b 0] 53 (0,0))::pt R (.cells #[Bo (z.2.1)] 4 (0,0))::pt O (.cells #[.map (some D)] 286 (0,0))::mp D (mi z.2.2)::pt b (.cells #[ptr x 0,sl s (L).length c,I (n)] 123 (0,0))::pt x (.cells #[ptr p 0, .map (some r)] 231 (0,0))::cz r es clk (tb we 24 S.N)::bi p S.B::ai 162 4 s c (az (L))::F) (λz=>4 - z.1) (0,o,Q) ⟨by simp,Z,λho=>LU (by rw[<-ho];exact Z) h45⟩ [1,4,5,6,36,47,48] rfl rR ?_;rintro ⟨i,o,Q⟩ ⟨hi,hK2,hro⟩;simp only[] at hi hK2 hro ⊢;refine gS (gV (qH rR rR) (qc (qb ?_)));refine qd rfl ?_ ?_ <;> intro h49
    ·simp at h49;have hi4:i<4:=(by omega);refine qf (qb (qg (gS (gV (kE (v:=I (ak m i)) i Pa OH OI rR rR rR hi4 (by simpa using eM m i hi4)) (gQ rR (qo (gM rR (gM rR (gI (fC (fi:=[]) (cap:=[ptr b1 0,ptr R 0,ptr O 0]) (Pre:=[pt b1 (.cells #[ptr b 0] 53 (0,0)),pt R (.cells #[Bo (o)] 4 (0,0)),pt O (.cells #[.map (some D)] 286 (0,0)),mp D (mi Q),pt b (.cells #[ptr x 0,sl s (L).length c,I (n)] 123 (0,0)),pt x (.cells #[ptr p 0, .map (some r)] 231 (0,0)),cz r es clk (tb we 24 S.N)]) call248 rR rR (E5 b x p r b1 R O D es clk S L n s c Q o (ak m i) 2 hs)) ?_)))))))));rintro _ _ ⟨rfl,rfl⟩;refine qc (qD (qo (gP rR rR (by omega) (gM rR (qc ?_)))));exact qk (i+1,dH S.N Q o (ak m i) 2,eZ Q (ak m i) 2) ⟨by simp only[];omega,by simp only[];rw[<-e9 (pW m i hi4)];exact LV hK2 hro hm (pn hi4),λh=>hro (ML h)⟩ (by simp only[];omega) [1,4,5,6,36,47,48] rfl rfl
    ·simp at h49;obtain rfl:i=4:=(by omega);refine qw rR ?_;refine qD ?_;exact qk (J,k::done,some (k,we m),o,Q) ⟨LW hK2 hro hm,Y,pU hq V⟩ (pV hq) [1,4,5,6,36] rfl rfl
def E7 (b:Nat)(S:SI)(L:List Pt)(n:Int)(rk:Nat)(Kd:IM)(hl:L.length<=6)(hs:bh 24 S.N)(hB:bh 40 S.B)(hpos:∀q x,S.B q=some x->0<x.2)(hK:∀q,(li Kd q).getD 0=1 ↔ bk L q)(F:List aa):Ct Tryz.prog 194 [ptr b 0, .map (some rk)] (mp rk (mi Kd)::aI b S L n::F) (λv L'=>∃o,v=Bo o/\L'=aI b S L n::F/\(o=true ↔ CountP S.B S.N L)):=by
  refine Ct.of func194 rR 126 ntmps194 (by simp) λw0=>?_;refine f9 b S L n ?_;intro x s c;refine eK x S ?_;intro p r;refine wY r ?_;intro es clk;refine gS (gQ rR (gS (gI (gW) ?_)));rintro _ _ ⟨b17,rfl,rfl⟩;refine gI (gW) ?_;rintro _ _ ⟨O,rfl,rfl⟩;refine gA rR (gQ rR ?_);refine gY b17 (mi []) (.refl _) ?_;refine gY O (mi []) (.refl _) ?_;refine qb (gS (gM rR (gV (qa rR) (gF 1 OV rR O2 rR (gL (sl s (L).length c) Pf rR (gV (qY OZ rR) (gM rR (qc (qg ?_)))))))));refine qC (α:=Nat×IM) (λz=>z.1<=L.length/\cm z.2 (cA ((L.take z.1).map (·.root)))) (λz=>U [(0,ptr b 0),(1, .map (some rk)),(5, .map (some b17)),(6, .map (some O)),(22,sl s L.length c),(23,I L.length),(24,I z.1)]) (λz=>mp b17 (mi z.2)::mp O (mi [])::mp rk (mi Kd)::pt b (.cells #[ptr x 0,sl s (L).length c,I (n)] 123 (0,0))::pt x (.cells #[ptr p 0, .map (some r)] 231 (0,0))::cz r es clk (tb we 24 S.N)::bi p S.B::ai 162 4 s c (az (L))::F) (λz=>L.length - z.1) (0,[]) ⟨by simp,EA⟩ [0,1,5,6,22,23,24] rfl rR ?_;rintro ⟨j,Q⟩ ⟨hj,hQ⟩;simp only[] at hj hQ ⊢;refine gS (gV (qH rR rR) (qc (qb ?_)));refine qd rfl ?_ ?_ <;> intro h25
  · simp at h25;have hjn:j<L.length:=(by omega);obtain ⟨p0,hp⟩:∃p0,L[j]? =some p0:=⟨_,S6 hjn⟩;refine qf (qb (qg (gS (gV (qv (j) OZ OP rR rR rR hjn (by rw[yI];exact hjn)) (gV (qZ (row:=qL p0) PH OP rR (eO hp) rR) (gI (qA #[I 0,I 0,I 0,I 0] Pc) ?_))))));rintro _ _ ⟨b8,rfl,rfl⟩;refine gU (qp (cs:=#[I 0,I 0,I 0,I 0]) (vs:=qL (p0)) (qL (p0)).toArray OP rR rR rR rR (by simp) (qs rR)) (qc (qo (gM rR (gF 3 O6 rR OH rR (gL (I p0.root) OI rR (gV (yE (v:=I (cA ((L.take j).map (·.root)) p0.root)) PK OL Pe rR rR (pT hQ _)) (gV (yr rR rR (ao (by have:=EC ((L.take j).map (·.root)) p0.root;have h9:=ED ((L.take j).map (·.root)) p0.root;rw[TD,Sv] at h9;omega))) (cl (yk PK OL rR rR rR) ?_))))))));rintro _ _ rfl;rw[lB];refine qc (qD (qo (gP rR rR (by omega) (gM rR (qc ?_)))));exact qk (j+1,gi Q p0.root (cA ((L.take j).map (·.root)) p0.root+1)) ⟨by simp only[];omega,by simp only[];rw[<-e9 hp,RA];exact MN hQ p0.root⟩ (by simp only[];omega) [0,1,5,6,22,23,24] rfl rfl
  · simp at h25;obtain rfl:j=L.length:=(by omega);rw[S7] at hQ;refine qw rR ?_;refine qb (gS (gM rR (gV (qa rR) (gF 0 OV rR Pd rR (gL (ptr x 0) Pg rR (gV (qa rR) (gF 1 O5 rR Pn rR (gL (.map (some r)) Pr rR (gI (fV Ps rR) ?_)))))))));rintro _ _ ⟨b41,rfl,rfl⟩;refine qc (qg ?_);refine qC (α:=MM×Option (Int×Value)×IM×IM×(Int->Int)×(Int->Int)) (λz=>Cnt S.N L z.1 z.2.2.2.2.1 z.2.2.2.2.2/\cm z.2.2.1 z.2.2.2.2.1/\cm z.2.2.2.1 z.2.2.2.2.2/\(∀q m,S.N q=some m->q∈z.1.map (·.1)\/¬dc m)/\∀p∈z.1,p∈tb we 24 S.N) (λz=>U [(0,ptr b 0),(1, .map (some rk)),(5, .map (some b17)),(6, .map (some O)),(41,ptr b41 0)]) (λz=>dx b41 r es clk z.1 z.2.1::mp b17 (mi z.2.2.1)::mp O (mi z.2.2.2.1)::mp rk (mi Kd)::pt b (.cells #[ptr x 0,sl s (L).length c,I (n)] 123 (0,0))::pt x (.cells #[ptr p 0, .map (some r)] 231 (0,0))::cz r es clk (tb we 24 S.N)::bi p S.B::ai 162 4 s c (az (L))::F) (λz=>z.1.length) (tb we 24 S.N,none,Q,[],cA (L.map (·.root)),λ_=>0) ⟨L6,hQ,EA,λq m h=> .inl (zC hs h),λ_ h=>h⟩ [0,1,5,6,41] rfl rR ?_;rintro ⟨rest,cur,Q1,Q2,c1,c2⟩ ⟨Z,hQ1,hQ2,hnz,J⟩;simp only[] at Z hQ1 hQ2 hnz J ⊢;refine gS (gI (fW rR) ?_);rintro _ _ (⟨hr,rfl,rfl⟩ | ⟨⟨k,v⟩,X,hq,rfl,rfl⟩)
    · subst hr;have hnz':∀q m,S.N q=some m->¬dc m:=λq m h=>(hnz q m h).resolve_left (by simp);refine gV (qr rR rR) (qc (qb ?_));refine wo rR ?_;refine qw rR ?_;refine gS (gM rR (cl (iz PK OL rR rR) ?_));rintro _ _ ⟨rfl,rfl⟩;rw[vp];refine qc (gS (gM rR (cl (iz PK OL rR rR) ?_)));rintro _ _ ⟨rfl,rfl⟩;rw[vp];refine qc ?_;have hE1:=EB hQ1;have hE2:=EB hQ2;obtain ⟨D1,eD1⟩:∃D:Int->Int,D=λq=>if q=0 then 0 else c1 q:=⟨_,rfl⟩
      obtain ⟨D2,eD2⟩:∃D:Int->Int,D=λq=>if q=0 then 0 else c2 q:=⟨_,rfl⟩
      have hD1:cm (dy Q1 0) D1:=(by rw[eD1];exact hE1);have hD2:cm (dy Q2 0) D2:=(by rw[eD2];exact hE2);refine qb (gS (gM rR (gV (qa rR) (gF 0 OV rR Pd rR (gL (ptr x 0) Pg rR (gV (qa rR) (gF 1 O5 rR Pn rR (gL (.map (some r)) Pr rR (gI (fV Ps rR) ?_)))))))));rintro _ _ ⟨b78,rfl,rfl⟩;refine qc (qg ?_);refine qC (α:=MM×Option (Int×Value)) (λz=>(∀q m,S.N q=some m->q∈z.1.map (·.1)\/D1 q=m.refs)/\∀p∈z.1,p∈tb we 24 S.N) (λz=>U [(0,ptr b 0),(5, .map (some b17)),(6, .map (some O)),(78,ptr b78 0)]) (λz=>dx b78 r es clk z.1 z.2::mp b17 (mi (dy Q1 0))::mp O (mi (dy Q2 0))::mp rk (mi Kd)::pt b (.cells #[ptr x 0,sl s (L).length c,I (n)] 123 (0,0))::pt x (.cells #[ptr p 0, .map (some r)] 231 (0,0))::cz r es clk (tb we 24 S.N)::bi p S.B::ai 162 4 s c (az (L))::F) (λz=>z.1.length) (tb we 24 S.N,none) ⟨λq m h=> .inl (zC hs h),λ_ h=>h⟩ [0,5,6,78] rfl rR ?_;rintro ⟨rest,cur⟩ ⟨hnn,J⟩;simp only[] at hnn J ⊢;refine gS (gI (fW rR) ?_);rintro _ _ (⟨hr,rfl,rfl⟩ | ⟨⟨k,v⟩,X,hq,rfl,rfl⟩)
      · subst hr;have hnn':∀q m,S.N q=some m->D1 q=m.refs:=λq m h=>(hnn q m h).resolve_left (by simp);refine gV (qr rR rR) (qc (qb ?_));refine wo rR ?_;refine qw rR ?_;refine qb (qb ?_);refine iJ p S.B ?_;intro r2;refine wY r2 ?_;intro es2 clk2;refine qo (gM rR (gV (qa rR) (gF 0 OV rR Pd rR (gL (ptr x 0) Pg rR (gV (qa rR) (gF 0 O5 rR PM rR (gL (ptr p 0) PQ rR (gV (qa rR) (gF 0 PI rR PG rR (gL (.map (some r2)) PJ rR (gI (fV PB rR) ?_)))))))))));rintro _ _ ⟨b100,rfl,rfl⟩;refine qc (qg ?_);refine qC (α:=MM×Option (Int×Value)) (λz=>(∀q y,S.B q=some y->q∈z.1.map (·.1)\/D2 q=y.2)/\∀p∈z.1,p∈tb am 40 S.B) (λz=>U [(0,ptr b 0),(6, .map (some O)),(100,ptr b100 0)]) (λz=>dx b100 r2 es2 clk2 z.1 z.2::mp b17 (mi (dy Q1 0))::mp O (mi (dy Q2 0))::mp rk (mi Kd)::pt b (.cells #[ptr x 0,sl s (L).length c,I (n)] 123 (0,0))::pt x (.cells #[ptr p 0, .map (some r)] 231 (0,0))::cz r es clk (tb we 24 S.N)::pt p (.cells #[.map (some r2)] 234 (0,0))::cz r2 es2 clk2 (tb am 40 S.B)::ai 162 4 s c (az (L))::F) (λz=>z.1.length) (tb am 40 S.B,none) ⟨λq m h=> .inl (MO hB h),λ_ h=>h⟩ [0,6,100] rfl rR ?_;rintro ⟨rest,cur⟩ ⟨hbb,J⟩;simp only[] at hbb J ⊢;refine gS (gI (fW rR) ?_);rintro _ _ (⟨hr,rfl,rfl⟩ | ⟨⟨k,v⟩,X,hq,rfl,rfl⟩)
        · subst hr;have hbb':∀q y,S.B q=some y->D2 q=y.2:=λq y h=>(hbb q y h).resolve_left (by simp);refine gV (qr rR rR) (qc (qb ?_));refine wo rR ?_;refine qw rR ?_;refine qb ?_;refine yO (Lf:=[mp O (mi (dy Q2 0)),pt b (.cells #[ptr x 0,sl s (L).length c,I (n)] 123 (0,0)),pt x (.cells #[ptr p 0, .map (some r)] 231 (0,0)),pt p (.cells #[.map (some r2)] 234 (0,0)),cz r2 es2 clk2 (tb am 40 S.B)]) jJ (by kernel_rfl) (by kernel_rfl) rR (by kernel_rfl) ?_;refine dM rR rR rR (dV rR (gO PK rR) (dM rR rR rR (dV rR (qa rR) (dF rR 0 OV rR Pd rR (dL rR (ptr x 0) Pg rR (dV rR (qa rR) (dF rR 0 O5 rR PM rR (dL rR (ptr p 0) PQ rR (dV rR (qa rR) (dF rR 0 PI rR PG rR (dL rR (.map (some r2)) PJ rR (dV rR (gO PB rR) (dV rR (yD rR rR) (dV rR (qt rR) ?_))))))))))))));refine qI ?_
          first
          | (refine qT r ?_
             refine yw p r x S (.refl _) ?_;refine yA b x s c (S) (L) (n) ?_;refine dK (L2:=aI b S L n::F) ?_;exact λa w R V=>wp_ret (yu (qB (vs:=[Bo false]) rfl R V ⟨false,rfl,rfl,(λh=>by cases h),λh=>absurd h (λhc=>hc.nz k m hm hno)⟩)))
          | (subst eD1
             refine qT r ?_;refine yw p r x S (.refl _) ?_;refine yA b x s c (S) (L) (n) ?_;refine dK (L2:=aI b S L n::F) ?_;exact λa w R V=>wp_ret (yu (qB (vs:=[Bo false]) rfl R V ⟨false,rfl,rfl,(λh=>by cases h),λh=>absurd h (tU Z hs hm h89)⟩)))
          | (subst eD2
             refine qT r2 ?_;refine ww r2 p S.B (.refl _) ?_;refine qT r ?_;refine yw p r x S (.refl _) ?_;refine yA b x s c (S) (L) (n) ?_;refine dK (L2:=aI b S L n::F) ?_;exact λa w R V=>wp_ret (yu (qB (vs:=[Bo false]) rfl R V ⟨false,rfl,rfl,(λh=>by cases h),λh=>absurd h (tV Z hB hy Y)⟩)))
          | (refine jZ O λhnd=>?_
             rw[oe] at hnd;subst eD1 eD2;have hend:=tT Z hnz' hnn' hbb' hB hs hpos hD2 hnd;refine qT r2 ?_;refine ww r2 p S.B (.refl _) ?_;refine qT r ?_;refine yw p r x S (.refl _) ?_;refine yA b x s c (S) (L) (n) ?_;refine dK (L2:=aI b S L n::F) ?_;exact λa w R V=>wp_ret (yu (qB (vs:=[Bo (decide (((mi (dy Q2 0)).length:Int)=((tb am 40 S.B).length:Int)))]) rfl R V ⟨_,rfl,rfl,by rw[eC,show (mi (dy Q2 0)).length=(dy Q2 0).length by simp[mi]];exact hend⟩)))
        · obtain ⟨y,hy,hv,hk⟩:=mE (ug hq J);simp only at hv hk hy;subst hv;refine gV (qr rR rR) (qc (qb ?_));refine wZ rR ?_;refine qf (qg (gS (gV (fX rR) (gX (I k) rR (gX (am y) rR (gI (qA #[ac [],I 0] PE) ?_))))));rintro _ _ ⟨b16,rfl,rfl⟩;refine gA rR (gU (qp (cs:=#[ac [],I 0]) (vs:=[ac y.1,I y.2]) #[ac y.1,I y.2] Po rR rR rR rR (by simp) (qs rR)) (qc (gS (gM rR (gM rR (gV (yE (v:=I (D2 k)) PK OL Pe rR rR (pT hD2 _)) (gF 1 PC rR OH rR (gL (I y.2) OI rR (gV (da rR rR) (qc ?_))))))))));refine qd rfl ?_ ?_ <;> intro Y
          · have Y:D2 k≠y.2:=(by simpa using Y);refine gS (gQ rR ?_)
            first
            | (refine qT r ?_
               refine yw p r x S (.refl _) ?_;refine yA b x s c (S) (L) (n) ?_;refine dK (L2:=aI b S L n::F) ?_;exact λa w R V=>wp_ret (yu (qB (vs:=[Bo false]) rfl R V ⟨false,rfl,rfl,(λh=>by cases h),λh=>absurd h (λhc=>hc.nz k m hm hno)⟩)))
            | (subst eD1
               refine qT r ?_;refine yw p r x S (.refl _) ?_;refine yA b x s c (S) (L) (n) ?_;refine dK (L2:=aI b S L n::F) ?_;exact λa w R V=>wp_ret (yu (qB (vs:=[Bo false]) rfl R V ⟨false,rfl,rfl,(λh=>by cases h),λh=>absurd h (tU Z hs hm h89)⟩)))
            | (subst eD2
               refine qT r2 ?_;refine ww r2 p S.B (.refl _) ?_;refine qT r ?_;refine yw p r x S (.refl _) ?_;refine yA b x s c (S) (L) (n) ?_;refine dK (L2:=aI b S L n::F) ?_;exact λa w R V=>wp_ret (yu (qB (vs:=[Bo false]) rfl R V ⟨false,rfl,rfl,(λh=>by cases h),λh=>absurd h (tV Z hB hy Y)⟩)))
            | (refine jZ O λhnd=>?_
               rw[oe] at hnd;subst eD1 eD2;have hend:=tT Z hnz' hnn' hbb' hB hs hpos hD2 hnd;refine qT r2 ?_;refine ww r2 p S.B (.refl _) ?_;refine qT r ?_;refine yw p r x S (.refl _) ?_;refine yA b x s c (S) (L) (n) ?_;refine dK (L2:=aI b S L n::F) ?_;exact λa w R V=>wp_ret (yu (qB (vs:=[Bo (decide (((mi (dy Q2 0)).length:Int)=((tb am 40 S.B).length:Int)))]) rfl R V ⟨_,rfl,rfl,by rw[eC,show (mi (dy Q2 0)).length=(dy Q2 0).length by simp[mi]];exact hend⟩)))
          · have Y:D2 k=y.2:=(by simpa using Y);refine qf (qD ?_);exact qk (X,some (k,am y)) ⟨(λq m' h=>by
              rcases hbb q m' h with h1 | h1
              · rcases uf hq h1 with rfl | h2
                · rw[hy] at h;injection h with h;subst h;exact .inr Y
                · exact .inl h2
              · exact .inr h1),pU hq J⟩ (pV hq) [0,6,100] rfl rfl
      · obtain ⟨m,hm,hv,hk⟩:=mE (ug hq J);simp only at hv hk hm;subst hv;refine gV (qr rR rR) (qc (qb ?_));refine wZ rR ?_;refine qf (qg (gS (gV (fX rR) (gX (I k) rR (gX (we m) rR (gI (qA #[I 0,I 0,I 0,I 0,I 0] Py) ?_))))));rintro _ _ ⟨b14,rfl,rfl⟩;refine gA rR (gU (qp (cs:=#[I 0,I 0,I 0,I 0,I 0]) (vs:=aV m) (aV m).toArray O7 rR rR rR rR (by simp) (qs rR)) (qc (gS (gM rR (gM rR (gV (yE (v:=I (D1 k)) PK OL Pe rR rR (pT hD1 _)) (gF 4 O3 rR OH rR (gL (I m.refs) OI rR (gV (da rR rR) (qc ?_))))))))));refine qd rfl ?_ ?_ <;> intro h89
        · have h89:D1 k≠m.refs:=(by simpa using h89);refine gS (gQ rR ?_)
          first
          | (refine qT r ?_
             refine yw p r x S (.refl _) ?_;refine yA b x s c (S) (L) (n) ?_;refine dK (L2:=aI b S L n::F) ?_;exact λa w R V=>wp_ret (yu (qB (vs:=[Bo false]) rfl R V ⟨false,rfl,rfl,(λh=>by cases h),λh=>absurd h (λhc=>hc.nz k m hm hno)⟩)))
          | (subst eD1
             refine qT r ?_;refine yw p r x S (.refl _) ?_;refine yA b x s c (S) (L) (n) ?_;refine dK (L2:=aI b S L n::F) ?_;exact λa w R V=>wp_ret (yu (qB (vs:=[Bo false]) rfl R V ⟨false,rfl,rfl,(λh=>by cases h),λh=>absurd h (tU Z hs hm h89)⟩)))
          | (subst eD2
             refine qT r2 ?_;refine ww r2 p S.B (.refl _) ?_;refine qT r ?_;refine yw p r x S (.refl _) ?_;refine yA b x s c (S) (L) (n) ?_;refine dK (L2:=aI b S L n::F) ?_;exact λa w R V=>wp_ret (yu (qB (vs:=[Bo false]) rfl R V ⟨false,rfl,rfl,(λh=>by cases h),λh=>absurd h (tV Z hB hy Y)⟩)))
          | (refine jZ O λhnd=>?_
             rw[oe] at hnd;subst eD1 eD2;have hend:=tT Z hnz' hnn' hbb' hB hs hpos hD2 hnd;refine qT r2 ?_;refine ww r2 p S.B (.refl _) ?_;refine qT r ?_;refine yw p r x S (.refl _) ?_;refine yA b x s c (S) (L) (n) ?_;refine dK (L2:=aI b S L n::F) ?_;exact λa w R V=>wp_ret (yu (qB (vs:=[Bo (decide (((mi (dy Q2 0)).length:Int)=((tb am 40 S.B).length:Int)))]) rfl R V ⟨_,rfl,rfl,by rw[eC,show (mi (dy Q2 0)).length=(dy Q2 0).length by simp[mi]];exact hend⟩)))
        · have h89:D1 k=m.refs:=(by simpa using h89);refine qf (qD ?_);exact qk (X,some (k,we m)) ⟨(λq m' h=>by
            rcases hnn q m' h with h1 | h1
            · rcases uf hq h1 with rfl | h2
              · rw[hm] at h;injection h with h;subst h;exact .inr h89
              · exact .inl h2
            · exact .inr h1),pU hq J⟩ (pV hq) [0,5,6,78] rfl rfl
    · obtain ⟨m,hm,hv,hk⟩:=mE (ug hq J);simp only at hv hk hm;subst hv;refine gV (qr rR rR) (qc (qb ?_));refine wZ rR ?_;refine qf (qg (gS (gV (fX rR) (gX (I k) rR (gX (we m) rR (gI (qA #[I 0,I 0,I 0,I 0,I 0] Py) ?_))))));rintro _ _ ⟨b10,rfl,rfl⟩;refine gA rR (gU (qp (cs:=#[I 0,I 0,I 0,I 0,I 0]) (vs:=aV m) (aV m).toArray O7 rR rR rR rR (by simp) (qs rR)) (qc (qb (gS (gF 0 O3 rR O0 rR (gV (qJ (vs:=aA m) Pw O0 rR rR mX) (gM rR (qc (qg ?_)))))))));refine qC (α:=Nat×IM×IM×(Int->Int)×(Int->Int)) (λz=>z.1<=4/\Cni S.N L X k m z.1 z.2.2.2.1 z.2.2.2.2/\cm z.2.1 z.2.2.2.1/\cm z.2.2.1 z.2.2.2.2) (λz=>U [(0,ptr b 0),(1, .map (some rk)),(5, .map (some b17)),(6, .map (some O)),(41,ptr b41 0),(9,I k),(10,ptr b10 0),(48, .agg (aA m).toArray),(49,I z.1)]) (λz=>dx b41 r es clk X (some (k,we m))::pt b10 (.cells (aV m).toArray 187 (0,0))::mp b17 (mi z.2.1)::mp O (mi z.2.2.1)::mp rk (mi Kd)::pt b (.cells #[ptr x 0,sl s (L).length c,I (n)] 123 (0,0))::pt x (.cells #[ptr p 0, .map (some r)] 231 (0,0))::cz r es clk (tb we 24 S.N)::bi p S.B::ai 162 4 s c (az (L))::F) (λz=>4 - z.1) (0,Q1,Q2,c1,c2) ⟨by simp,L7 Z hq hm,hQ1,hQ2⟩ [0,1,5,6,41,9,10,48,49] rfl rR ?_;rintro ⟨i,Q1,Q2,c1,c2⟩ ⟨hi,hC,hQ1,hQ2⟩;simp only[] at hi hC hQ1 hQ2 ⊢;refine gS (gV (qH rR rR) (qc (qb ?_)));refine qd rfl ?_ ?_ <;> intro h50
      · simp at h50;have hi4:i<4:=(by omega);refine qf (qb (qg (gS (gV (kE (v:=I (ak m i)) i Pa OH OI rR rR rR hi4 (by simpa using eM m i hi4)) (gQ rR (gS (gM rR (gM rR (gV (yE (v:=I ((li Kd k).getD 0)) PK OL Pe rR rR (od Kd k 0)) (gV (yD rR rR) (qc ?_)))))))))));refine qd rfl ?_ ?_ <;> intro h55
        · have h55:(li Kd k).getD 0=1:=(by simpa using h55);refine qo (gM rR (gM rR (gV (yE (v:=I (c1 (ak m i))) PK OL Pe rR rR (pT hQ1 _)) (gV (yr rR rR (ao (by have:=hQ1.2.2 (ak m i);have:=(EE hC hl (ak m i)).1;omega))) (cl (yk PK OL rR rR rR) ?_)))));rintro _ _ rfl;rw[lB];refine qc (qD (qo (gP rR rR (by omega) (gM rR (qc ?_)))));exact qk (i+1,gi Q1 (ak m i) (c1 (ak m i)+1),Q2,del c1 (ak m i) 1,c2) ⟨by simp only[];omega,pI hC hi4 ((hK k).1 h55),zf hQ1 _,hQ2⟩ (by simp only[];omega) [0,1,5,6,41,9,10,48,49] rfl rfl
        · have h55:¬(li Kd k).getD 0=1:=(by simpa using h55);refine qo (gM rR (gM rR (gV (yE (v:=I (c2 (ak m i))) PK OL Pe rR rR (pT hQ2 _)) (gV (yr rR rR (ao (by have:=hQ2.2.2 (ak m i);have:=(EE hC hl (ak m i)).2;omega))) (cl (yk PK OL rR rR rR) ?_)))));rintro _ _ rfl;rw[lB];refine qc (qD (qo (gP rR rR (by omega) (gM rR (qc ?_)))));exact qk (i+1,Q1,gi Q2 (ak m i) (c2 (ak m i)+1),c1,del c2 (ak m i) 1) ⟨by simp only[];omega,pJ hC hi4 (λh=>h55 ((hK k).2 h)),hQ1,zf hQ2 _⟩ (by simp only[];omega) [0,1,5,6,41,9,10,48,49] rfl rfl
      · simp at h50;obtain rfl:i=4:=(by omega);refine qw rR ?_;refine gS (gF 0 O3 rR O0 rR (gV (qJ (vs:=aA m) Pw O0 rR rR mX) (gV (qF rR Dx) (gV (Ba eqGuardType185 rR rR (Dw m dC)) (qc ?_)))));refine qd rfl ?_ ?_ <;> intro h68
        · have hno:dc m:=of_decide_eq_true h68;refine gS (gQ rR ?_)
          first
          | (refine qT r ?_
             refine yw p r x S (.refl _) ?_;refine yA b x s c (S) (L) (n) ?_;refine dK (L2:=aI b S L n::F) ?_;exact λa w R V=>wp_ret (yu (qB (vs:=[Bo false]) rfl R V ⟨false,rfl,rfl,(λh=>by cases h),λh=>absurd h (λhc=>hc.nz k m hm hno)⟩)))
          | (subst eD1
             refine qT r ?_;refine yw p r x S (.refl _) ?_;refine yA b x s c (S) (L) (n) ?_;refine dK (L2:=aI b S L n::F) ?_;exact λa w R V=>wp_ret (yu (qB (vs:=[Bo false]) rfl R V ⟨false,rfl,rfl,(λh=>by cases h),λh=>absurd h (tU Z hs hm h89)⟩)))
          | (subst eD2
             refine qT r2 ?_;refine ww r2 p S.B (.refl _) ?_;refine qT r ?_;refine yw p r x S (.refl _) ?_;refine yA b x s c (S) (L) (n) ?_;refine dK (L2:=aI b S L n::F) ?_;exact λa w R V=>wp_ret (yu (qB (vs:=[Bo false]) rfl R V ⟨false,rfl,rfl,(λh=>by cases h),λh=>absurd h (tV Z hB hy Y)⟩)))
          | (refine jZ O λhnd=>?_
             rw[oe] at hnd;subst eD1 eD2;have hend:=tT Z hnz' hnn' hbb' hB hs hpos hD2 hnd;refine qT r2 ?_;refine ww r2 p S.B (.refl _) ?_;refine qT r ?_;refine yw p r x S (.refl _) ?_;refine yA b x s c (S) (L) (n) ?_;refine dK (L2:=aI b S L n::F) ?_;exact λa w R V=>wp_ret (yu (qB (vs:=[Bo (decide (((mi (dy Q2 0)).length:Int)=((tb am 40 S.B).length:Int)))]) rfl R V ⟨_,rfl,rfl,by rw[eC,show (mi (dy Q2 0)).length=(dy Q2 0).length by simp[mi]];exact hend⟩)))
        · have h68:¬dc m:=of_decide_eq_false h68;refine qf (qD ?_);exact qk (X,some (k,we m),Q1,Q2,c1,c2) ⟨L8 hC,hQ1,hQ2,(λq m' h=>by
            rcases hnz q m' h with h1 | h1
            · rcases uf hq h1 with rfl | h2
              · rw[hm] at h;injection h with h;subst h;exact .inr h68
              · exact .inl h2
            · exact .inr h1),pU hq J⟩ (pV hq) [0,1,5,6,41] rfl rfl
def uh {ρ:Type}{m n:Nat}{B:Int->Option ρ}(h:bh n B)(hm:m<=n)(ha:∀q∈aj n B,q<=m):bh m B:=λq x e=>by
 have h1:=h q x e;have h2:=ha q (mem_ids.2 ⟨h1,by rw[e];rfl⟩);omega
def MP {S:SI}{L:List Pt}{p:Pt}(h:fy S L)(O:∀i:Nat,p.size<=(i:Int)->i<16->ct S p.root i=[]):fy S (L++ [p]):=λx hx i D J=>by
 rcases Sc.1 hx with hx | hx
 ·exact h x hx i D J
 ·rw[Ub] at hx;subst hx;exact O i D J
def MQ (S:SI):fy S []:=λp hp=>by cases hp
def zD (b:Nat)(st:PS)(F:List aa):Value->List aa->Prop:=λv L'=>(v=Bo true/\WholeP st/\L'=aI b ⟨st.B,st.N⟩ st.L st.n::F)\/(v=Bo false/\¬WholeP st/\L'=F)
section
variable {c:Cx}{E:ap}{L:List aa}{K:List KI}
def df {F:List aa}{b:Nat}{st:PS}{vs:List Value}(D:c.R=zD b st F)(O:¬WholeP st)(V:du E c.fn.results.toList=some vs)(X:cG vs=Bo false)[S:Sub L F](hds:c.n.ds=[]:=by rfl):G c (.code .ret::K) E L:=
 λa w h J=>wp_ret (yu (qB (hds:=hds) V h (S.sat J) (by rw[D];exact .inr ⟨X,O,rfl⟩)))
def E8 {F:List aa}{b:Nat}{st:PS}{vs:List Value}(D:c.R=zD b st F)(O:WholeP st)(V:du E c.fn.results.toList=some vs)(X:cG vs=Bo true)[S:Sub L (aI b ⟨st.B,st.N⟩ st.L st.n::F)](hds:c.n.ds=[]:=by rfl):G c (.code .ret::K) E L:=
 λa w h J=>wp_ret (yu (qB (hds:=hds) V h (S.sat J) (by rw[D];exact .inl ⟨X,O,rfl⟩)))
end
def E9 {st:PS}(h:Pok st)(J:bh 24 st.N)(D:bh 40 st.B):aH 999 ⟨st.B,st.N⟩:=⟨D,λq x e=>(h.b q x e).1,J,λq m e=>(h.n q m e).1⟩
def zE (l:List ChangeM)(T:TypeId)(F:List aa):Value->List aa->Prop:=λv L'=>(∃st q,cX none ps0 l=some st/\WholeP st/\v= .tuple #[ptr q 0,bg T 0]/\L'=aI q ⟨st.B,st.N⟩ st.L st.n::F)\/((∀st,cX none ps0 l=some st->¬WholeP st)/\v= .tuple #[.pointer none,bg T 4]/\L'=F)
section
variable {c:Cx}{E:ap}{L:List aa}{K:List KI}
def zF {F:List aa}{l:List ChangeM}{T:TypeId}{vs:List Value}(D:c.R=zE l T F)(O:∀st,cX none ps0 l=some st->¬WholeP st)(V:du E c.fn.results.toList=some vs)(X:cG vs= .tuple #[.pointer none,bg T 4])[S:Sub L F](hds:c.n.ds=[]:=by rfl):G c (.code .ret::K) E L:=
 λa w h J=>wp_ret (yu (qB (hds:=hds) V h (S.sat J) (by rw[D];exact .inr ⟨O,X,rfl⟩)))
def MR {F:List aa}{l:List ChangeM}{T:TypeId}{st:PS}{q:Nat}{vs:List Value}(D:c.R=zE l T F)(O:cX none ps0 l=some st)(Y:WholeP st)(V:du E c.fn.results.toList=some vs)(X:cG vs= .tuple #[ptr q 0,bg T 0])[S:Sub L (aI q ⟨st.B,st.N⟩ st.L st.n::F)](hds:c.n.ds=[]:=by rfl):G c (.code .ret::K) E L:=
 λa w h J=>wp_ret (yu (qB (hds:=hds) V h (S.sat J) (by rw[D];exact .inl ⟨st,q,O,Y,X,rfl⟩)))
end
def zG:∀(l1:List ChangeM) {l2:List ChangeM} {J:Option ab} {st D:PS},cX J st l1=some D->cX J st (l1++l2)=cX (match l1.getLast? with | none=>J | some c=>some c.key) D l2
 | [],l2,J,st,D,h=>by simp only[cX] at h;injection h with h;subst h;rfl
 | c::l1,l2,J,st,D,h=>by
  simp only[cX,SM] at h ⊢;split at h
  ·cases h
  ·rename_i O;rw[RJ O];split at h
   ·cases h
   ·rename_i S V;rw[zG l1 h];congr 1;cases l1 with
    | nil=>rfl
    | cons d l1=>rw[List.getLast?_cons_cons];cases R:(d::l1).getLast? with
     | none=>simp at R
     | some e=>rfl
def km (l:List ChangeM)(i:Nat):Option ab:=match (l.take i).getLast? with | none=>none | some c=>some c.key
def MS {l:List ChangeM}{i:Nat}{st D:PS}{c:ChangeM}(h:cX none ps0 (l.take i)=some st)(O:l[i]? =some c)(J:¬(ki (km l i) c=true\/c.gone=true))(R:cq st c=some D):cX none ps0 (l.take (i+1))=some D:=by
 rw[<-e9 O,zG _ h];show cX (km l i) st [c]=_;simp only[cX];rw[RJ J,R]
def Fa {l:List ChangeM}{i:Nat}{st:PS}{c:ChangeM}(h:cX none ps0 (l.take i)=some st)(J:l[i]? =some c)(D:(ki (km l i) c=true\/c.gone=true)\/cq st c=none):cX none ps0 l=none:=by
 have e:l=l.take i++c::l.drop (i+1):=by
  obtain ⟨O,e⟩:=Re.1 J;rw[<-e,<-Uc O,UT]
 rw[e,zG _ h];show cX (km l i) st (c::l.drop (i+1))=none;simp only[cX];rcases D with D | D
 ·rw[RI D]
 ·rw[D];split <;> rfl
def pX (l:List ChangeM):km l 0=none:=by simp[km]
def pY {l:List ChangeM}{i:Nat}{c:ChangeM}(h:l[i]? =some c):km l (i+1)=some c.key:=by
 unfold km;rw[<-e9 h,List.getLast?_append];simp
def MT {st J:PS}{c:ChangeM}(h:cq st c=some J):J.L.length<=st.L.length+1:=by
 by_cases O:c.key=[120]
 ·unfold cq at h;rw[RI O] at h;unfold xF at h;split at h
  ·injection h with h;subst h;simp
  ·split at h
   ·split at h
    ·injection h with h;subst h;simp
    ·cases h
   ·cases h
 ·obtain ⟨id,y,_,_,_,D⟩:=LJ O h;unfold ie at D;split at D
  ·unfold bF at D;split at D
   ·split at D
    ·injection D with D;subst D;simp
    ·cases D
   ·cases D
  ·split at D
   ·unfold nF at D;split at D
    ·split at D
     ·injection D with D;subst D;simp
     ·cases D
    ·cases D
   ·split at D
    ·unfold pF at D;split at D
     ·split at D
      ·injection D with D;subst D;simp
      ·cases D
     ·cases D
    ·cases D
def Fb (b p r:Nat)(N:aB)(m:Nat)(hm:(aj m N).length<=1000)(F:List aa):Ct Tryz.prog 138 [ptr b 0] (pt b (.cells #[ptr p 0, .map (some r)] 231 (0,0))::mp r (tb we m N)::F) (dU 3 1 (aj m N).length (yC (aj m N)) (pt b (.cells #[ptr p 0, .map (some r)] 231 (0,0))::mp r (tb we m N)::F)):=by
 refine Ct.of func138 rR 21 ntmps138 (by simp) λw0=>?_;refine wY r ?_;intro es clk;refine yi 3 1 (yC []) rR ?_;refine gS (gQ rR (gS (gQ rR (qb (gS (gM rR (gV (qa rR) (gF 1 O5 rR Pn rR (gL (.map (some r)) Pr rR (gI (fV Ps rR) ?_))))))))));rintro _ _ ⟨Y,rfl,rfl⟩;refine qc (qg ?_);refine qC (α:=MM×List Int×Option (Int×Value)×Option Addr×Nat) (λz=>(z.2.1++z.1.map (·.1)).Perm (aj m N)) (λz=>U [(0,ptr b 0),(9,ptr Y 0),(3,sl z.2.2.2.1 z.2.1.length z.2.2.2.2)]) (λz=>dx Y r es clk z.1 z.2.2.1::cz r es clk (tb we m N)::pt b (.cells #[ptr p 0, .map (some r)] 231 (0,0))::ai 3 1 z.2.2.2.1 z.2.2.2.2 (yC z.2.1)::F) (λz=>z.1.length) (tb we m N,[],none,none,0) (by rw[SK,kL]) [0,9,3] rfl rR ?_;rintro ⟨rest,D,cur,s,c⟩ J;simp only[] at J ⊢;have hzl:D.length<=1000:=(by have S:=J.length_eq;simp at S;omega);refine gS (gI (fW rR) ?_);rintro _ _ (⟨O,rfl,rfl⟩ | ⟨⟨k,v⟩,h,Z,rfl,rfl⟩)
 ·subst O;simp only[RC,T6] at J;refine gV (qr rR rR) (qc (qb ?_));refine wo rR ?_;refine qw rR ?_;refine gS (gM rR (gR (vB call208 rR (tl D s D.length c rR (by omega))) ?_));rw[sj J];refine qc (gS (gM rR (gQ rR ?_)));refine qT r ?_;exact wk rfl rfl rfl (by rw[J.length_eq])
 ·have V:(D++k::h.map (·.1)).Perm (aj m N):=by
   have S:=((Z.map (·.1)).append_left D).symm.trans J;simpa using S
  refine gV (qr rR rR) (qc (qb ?_));refine wZ rR ?_;refine qf (qg (gS (gV (fX rR) (gX (I k) rR (gQ rR (qo (gM rR (gM rR (gI (qj [[I k]] OO OH Pe rR rR rR (by simp) (by decide) (by decide)) ?_)))))))));rintro _ _ ⟨b16,rfl,rfl⟩;refine gI (qN OO OH Pe rfl Tryz.typeInfo3 (by decide) rfl rfl (yh _) rfl (by simp) (by intro r O;simp at O;subst O;rfl) ⟨by omega,by decide,by decide⟩) ?_;rintro _ _ ⟨X,R,rfl,rfl⟩;refine gQ rR (qD ?_);rw[show yC D++ [[I k]]=yC (D++ [k]) by simp[yC]];refine qk (h,D++ [k],some (k,v),X,R) (by simpa using V) (by have:=Z.length_eq;simp at this;simp;omega) [0,9,3] rfl (by simp[U])
def Fc (b r:Nat)(B:bV)(m:Nat)(hm:(aj m B).length<=1000)(F:List aa):Ct Tryz.prog 137 [ptr b 0] (pt b (.cells #[.map (some r)] 234 (0,0))::mp r (tb am m B)::F) (dU 3 1 (aj m B).length (yC (aj m B)) (pt b (.cells #[.map (some r)] 234 (0,0))::mp r (tb am m B)::F)):=by
 refine Ct.of func137 rR 21 ntmps137 (by simp) λw0=>?_;refine wY r ?_;intro es clk;refine yi 3 1 (yC []) rR ?_;refine gS (gQ rR (gS (gQ rR (qb (gS (gM rR (gV (qa rR) (gF 0 PI rR PG rR (gL (.map (some r)) PJ rR (gI (fV PB rR) ?_))))))))));rintro _ _ ⟨Y,rfl,rfl⟩;refine qc (qg ?_);refine qC (α:=MM×List Int×Option (Int×Value)×Option Addr×Nat) (λz=>(z.2.1++z.1.map (·.1)).Perm (aj m B)) (λz=>U [(0,ptr b 0),(9,ptr Y 0),(3,sl z.2.2.2.1 z.2.1.length z.2.2.2.2)]) (λz=>dx Y r es clk z.1 z.2.2.1::cz r es clk (tb am m B)::pt b (.cells #[.map (some r)] 234 (0,0))::ai 3 1 z.2.2.2.1 z.2.2.2.2 (yC z.2.1)::F) (λz=>z.1.length) (tb am m B,[],none,none,0) (by rw[SK,kL]) [0,9,3] rfl rR ?_;rintro ⟨rest,D,cur,s,c⟩ J;simp only[] at J ⊢;have hzl:D.length<=1000:=(by have S:=J.length_eq;simp at S;omega);refine gS (gI (fW rR) ?_);rintro _ _ (⟨O,rfl,rfl⟩ | ⟨⟨k,v⟩,h,Z,rfl,rfl⟩)
 ·subst O;simp only[RC,T6] at J;refine gV (qr rR rR) (qc (qb ?_));refine wo rR ?_;refine qw rR ?_;refine gS (gM rR (gR (vB call208 rR (tl D s D.length c rR (by omega))) ?_));rw[sj J];refine qc (gS (gM rR (gQ rR ?_)));refine qT r ?_;exact wk rfl rfl rfl (by rw[J.length_eq])
 ·have V:(D++k::h.map (·.1)).Perm (aj m B):=by
   have S:=((Z.map (·.1)).append_left D).symm.trans J;simpa using S
  refine gV (qr rR rR) (qc (qb ?_));refine wZ rR ?_;refine qf (qg (gS (gV (fX rR) (gX (I k) rR (gQ rR (qo (gM rR (gM rR (gI (qj [[I k]] OO OH Pe rR rR rR (by simp) (by decide) (by decide)) ?_)))))))));rintro _ _ ⟨b16,rfl,rfl⟩;refine gI (qN OO OH Pe rfl Tryz.typeInfo3 (by decide) rfl rfl (yh _) rfl (by simp) (by intro r O;simp at O;subst O;rfl) ⟨by omega,by decide,by decide⟩) ?_;rintro _ _ ⟨X,R,rfl,rfl⟩;refine gQ rR (qD ?_);rw[show yC D++ [[I k]]=yC (D++ [k]) by simp[yC]];refine qk (h,D++ [k],some (k,v),X,R) (by simpa using V) (by have:=Z.length_eq;simp at this;simp;omega) [0,9,3] rfl (by simp[U])
def Fe (b:Nat)(S:SI)(L:List Pt)(n:Int)(hl:L.length<=1000000)(hok:aH 999 S)(hp16:∀p∈L,0<p.size/\p.size<=16)(F:List aa):Ct Tryz.prog 195 [ptr b 0] (aI b S L n::F) (λv L'=>∃o,v=Bo o/\L'=aI b S L n::F/\(o=true ↔ fy S L)):=by
  refine Ct.of func195 rR 31 ntmps195 (by simp) λw0=>?_;refine f9 b S L n ?_;intro x s c;refine gS (gQ rR (qb (gS (gM rR (gV (qa rR) (gF 1 OV rR O2 rR (gL (sl s (L).length c) Pf rR (gV (qY OZ rR) (gM rR (qc (qg ?_)))))))))));refine qC (α:=Nat) (λj=>j<=L.length/\fy S (L.take j)) (λj=>U [(0,ptr b 0),(9,sl s L.length c),(10,I L.length),(11,I j)]) (λj=>pt b (.cells #[ptr x 0,sl s (L).length c,I (n)] 123 (0,0))::aX x S::ai 162 4 s c (az (L))::F) (λj=>L.length - j) 0 ⟨by simp,by simpa using MQ S⟩ [0,9,10,11] rfl rR ?_;rintro j ⟨hj,hT⟩;refine gS (gV (qH rR rR) (qc (qb ?_)));refine qd rfl ?_ ?_ <;> intro Z
  · simp at Z;have Y:j<L.length:=(by omega);obtain ⟨D,hp⟩:∃D,L[j]? =some D:=⟨_,S6 Y⟩;have hp0:=hp16 D (R5 hp);refine qf (qb (qg (gS (gV (qv (j) OZ OP rR rR rR Y (by rw[yI];exact Y)) (gV (qZ (row:=qL D) PH OP rR (eO hp) rR) (gI (qA #[I 0,I 0,I 0,I 0] Pc) ?_))))));rintro _ _ ⟨b4,rfl,rfl⟩;refine gU (qp (cs:=#[I 0,I 0,I 0,I 0]) (vs:=qL (D)) (qL (D)).toArray OP rR rR rR rR (by simp) (qs rR)) (qc (gS (gF 2 O6 rR OH rR (gL (I D.size) OI rR (gQ rR ?_)))));obtain ⟨sz,hsz⟩:∃k:Nat,D.size=k:=⟨D.size.toNat,by omega⟩;refine qg ?_;refine qC (α:=Nat) (λa=>a<=16/\sz<=a/\∀i,sz<=i->i<a->ct S D.root i=[]) (λa=>U [(0,ptr b 0),(9,sl s L.length c),(10,I L.length),(11,I j),(4,ptr b4 0),(5,I a)]) (λa=>pt b (.cells #[ptr x 0,sl s (L).length c,I (n)] 123 (0,0))::aX x S::ai 162 4 s c (az (L))::pt b4 (.cells (qL D).toArray 162 (0,0))::F) (λa=>16 - a) sz ⟨by omega,by omega,λi h1 h2=>absurd h1 (by omega)⟩ [0,9,10,11,4,5] rfl (by simp[U,hsz]) ?_;rintro a ⟨ha,hsa,R⟩;refine qb (gS (gM rR (gV (qH rR rR) (qc ?_))));refine qd rfl ?_ ?_ <;> intro h18
    · simp at h18;have O:a<16:=(by omega);refine qf (qb (qg (qb (gD (Lf:=[pt b (.cells #[ptr x 0,sl s (L).length c,I (n)] 123 (0,0)),pt b4 (.cells (qL D).toArray 162 (0,0))]) [(0,false),(1,false),(2,false),(3,false),(4,false),(5,false),(6,false),(7,true),(8,false)] (dM rR rR rR (dV rR (qa rR) (dF rR 0 OV rR Pd rR (dL rR (ptr x 0) Pg rR (dF rR 3 O6 rR OH rR (dL rR (I D.root) OI rR (dM rR rR rR (av rR (uB call98 rR (xw x S D.root a 999 hok (by decide) (by omega))) rR ?_))))))))))));rintro _ _ ⟨rfl,rfl⟩;refine dV rR (iu rR rR) ?_;refine qI ?_;refine qd rfl ?_ ?_ <;> intro J
      · simp at J;refine gS (gQ rR ?_)
        first
        | (refine yA b x s c (S) (L) (n) ?_
           exact λa w V X=>wp_ret (yu (qB (vs:=[Bo true]) rfl V ((inferInstance:Sub _ (aI b S L n::F)).sat X) ⟨true,rfl,rfl,λ_=>hT,λ_=>rfl⟩)))
        | (refine yA b x s c (S) (L) (n) ?_
           exact λa' w V X=>wp_ret (yu (qB (vs:=[Bo false]) rfl V ((inferInstance:Sub _ (aI b S L n::F)).sat X) ⟨false,rfl,rfl,(λh=>by cases h),λh=>absurd (h D (R5 hp) a (by omega) O) J⟩)))
      · simp at J;refine qf (qD (qo (gM rR (gP rR rR (by omega) (gQ rR ?_)))));exact qk (a+1) ⟨by omega,by omega,λi h1 h2=>by
          rcases Rq i a with h | h
          · exact R i h1 h
          · obtain rfl:i=a:=(by omega);exact J⟩ (by omega) [0,9,10,11,4,5] rfl rfl
    · simp at h18;obtain rfl:a=16:=(by omega);refine qw rR ?_;refine qD (qo (gP rR rR (by omega) (gM rR (qc ?_))));exact qk (j+1) ⟨by omega,by rw[<-e9 hp];exact MP hT λi h1 h2=>R i (by omega) h2⟩ (by omega) [0,9,10,11] rfl rfl
  · simp at Z;obtain rfl:j=L.length:=(by omega);rw[S7] at hT;refine qw rR ?_;refine gS (gQ rR ?_)
    first
    | (refine yA b x s c (S) (L) (n) ?_
       exact λa w V X=>wp_ret (yu (qB (vs:=[Bo true]) rfl V ((inferInstance:Sub _ (aI b S L n::F)).sat X) ⟨true,rfl,rfl,λ_=>hT,λ_=>rfl⟩)))
    | (refine yA b x s c (S) (L) (n) ?_
       exact λa' w V X=>wp_ret (yu (qB (vs:=[Bo false]) rfl V ((inferInstance:Sub _ (aI b S L n::F)).sat X) ⟨false,rfl,rfl,(λh=>by cases h),λh=>absurd (h D (R5 hp) a (by omega) O) J⟩)))
def MU (b:Nat)(st:PS)(hP:Pok st)(hl:st.L.length<=1000000)(F:List aa):Ct Tryz.prog 120 [ptr b 0] (iU b st::F) (zD b st F):=by
 refine Ct.of func120 rR 119 ntmps120 (by simp) λw0=>?_;refine ma b st ?_;intro x p r r2 s cc;refine gS (gQ rR (qb (qb (gG [(0,false),(1,false),(2,false),(3,false),(4,false),(5,false),(6,false),(7,false),(8,false),(9,false),(10,false),(11,false),(12,false),(13,false),(14,false),(15,false),(16,false),(17,false),(18,false),(19,false),(20,false),(21,false),(22,false),(23,false),(24,false),(25,false),(26,false),(27,false),(28,false),(29,false),(30,false),(31,false),(32,false),(33,false),(34,false),(35,false),(36,false),(37,false),(38,false),(39,false),(40,false),(41,false),(42,false),(43,false),(44,false),(45,false),(46,false),(47,false),(48,false),(49,false),(50,false),(51,false),(52,false),(53,false),(54,false),(55,false),(56,false),(57,false),(58,false),(59,false),(60,false),(61,false),(62,false),(63,false),(64,false),(65,false)] (dM rR rR rR (dV rR (qa rR) (dF rR 1 OV rR O2 rR (dL rR (sl s st.L.length cc) Pf rR (dV rR (qY OZ rR) (dV rR (qX rR rR) (dM rR rR rR ?_)))))))))));by_cases g1:(6:Int)<(st.L.length:Int)
 ·refine qO rR rR rR (by rw[S8 g1];rfl) rR (qO rR rR rR (by rw[S8 g1];rfl) rR (qO rR rR rR (by rw[S8 g1];rfl) rR (qO rR rR rR (by rw[S8 g1];rfl) rR (qO rR rR rR (by rw[S8 g1];rfl) rR (qO rR rR rR (by rw[S8 g1];rfl) rR (qO rR rR rR (by rw[S8 g1];rfl) rR (qO rR rR rR (by rw[S8 g1];rfl) rR (qO rR rR rR (by rw[S8 g1];rfl) rR (dV rR (cw rR (S8 g1) rR) (dM rR rR rR (qO rR rR rR rR rR (qO rR rR rR rR rR (qO rR rR rR rR rR (qO rR rR rR rR rR (qO rR rR rR rR rR (qO rR rR rR rR rR (qO rR rR rR rR rR (qO rR rR rR rR rR (qO rR rR rR rR rR (qO rR rR rR rR rR (qO rR rR rR rR rR (qO rR rR rR rR rR (dV rR (cw rR rR rR) (dM rR rR rR (qO rR rR rR rR rR (qO rR rR rR rR rR (qO rR rR rR rR rR (qO rR rR rR rR rR (qO rR rR rR rR rR (dV rR (cw rR rR rR) (dM rR rR rR (qO rR rR rR rR rR (qO rR rR rR rR rR (qO rR rR rR rR rR (qO rR rR rR rR rR (qO rR rR rR rR rR (qO rR rR rR rR rR (qO rR rR rR rR rR (qO rR rR rR rR rR ?_)))))))))))))))))))))))))))))))))))))));refine qO rR rR rR rR rR (qO rR rR rR rR rR (qO rR rR rR rR rR (qO rR rR rR rR rR (qO rR rR rR rR rR (qO rR rR rR rR rR (qO rR rR rR rR rR (qO rR rR rR rR rR (qO rR rR rR rR rR (qO rR rR rR rR rR (qO rR rR rR rR rR (qO rR rR rR rR rR (qO rR rR rR rR rR (qO rR rR rR rR rR (qO rR rR rR rR rR (qO rR rR rR rR rR (qO rR rR rR rR rR (qO rR rR rR rR rR (dV rR (cw rR rR rR) ?_))))))))))))))))));refine qI ?_;refine qd rfl ?_ ?_ <;> intro X
  ·refine gS (gQ rR ?_);exact df rfl (λD=>by have:=D.len;omega) rfl rfl
  ·cases X
 ·refine qz rR rR rR (S5 g1) (qn rR) rR (qz rR rR rR (S5 g1) (qa rR) rR (qz rR rR rR (S5 g1) (qm 0 OV rR rR Pd (by decide) rR) rR (qz rR rR rR (S5 g1) (qu (v:=ptr x 0) Pg rR rR) rR (qz rR rR rR (S5 g1) (qa rR) rR (qz rR rR rR (S5 g1) (qm 1 O5 rR rR Pn (by decide) rR) rR (qz rR rR rR (S5 g1) (qu (v:= .map (some r)) Pr rR rR) rR (qz rR rR rR (S5 g1) (gO Ps rR) rR (qz rR rR rR (S5 g1) (qX rR rR) rR (dV rR (bZ rR (S5 g1) rR) (dM rR rR rR ?_))))))))));by_cases R:(24:Int)<(((tb we 999 st.N).length):Int)
  ·refine qO rR rR rR (by rw[S8 R];rfl) rR (qO rR rR rR (by rw[S8 R];rfl) rR (qO rR rR rR (by rw[S8 R];rfl) rR (qO rR rR rR (by rw[S8 R];rfl) rR (qO rR rR rR (by rw[S8 R];rfl) rR (qO rR rR rR (by rw[S8 R];rfl) rR (qO rR rR rR (by rw[S8 R];rfl) rR (qO rR rR rR (by rw[S8 R];rfl) rR (qO rR rR rR (by rw[S8 R];rfl) rR (qO rR rR rR (by rw[S8 R];rfl) rR (qO rR rR rR (by rw[S8 R];rfl) rR (qO rR rR rR (by rw[S8 R];rfl) rR (dV rR (cw rR (S8 R) rR) (dM rR rR rR (qO rR rR rR rR rR (qO rR rR rR rR rR (qO rR rR rR rR rR (qO rR rR rR rR rR (qO rR rR rR rR rR (dV rR (cw rR rR rR) (dM rR rR rR (qO rR rR rR rR rR (qO rR rR rR rR rR (qO rR rR rR rR rR (qO rR rR rR rR rR (qO rR rR rR rR rR (qO rR rR rR rR rR (qO rR rR rR rR rR (qO rR rR rR rR rR (qO rR rR rR rR rR (qO rR rR rR rR rR (qO rR rR rR rR rR (qO rR rR rR rR rR (qO rR rR rR rR rR (qO rR rR rR rR rR (qO rR rR rR rR rR (qO rR rR rR rR rR (qO rR rR rR rR rR (qO rR rR rR rR rR (qO rR rR rR rR rR ?_)))))))))))))))))))))))))))))))))))))));refine qO rR rR rR rR rR (qO rR rR rR rR rR (qO rR rR rR rR rR (qO rR rR rR rR rR (qO rR rR rR rR rR (qO rR rR rR rR rR (qO rR rR rR rR rR (dV rR (cw rR rR rR) ?_)))))));refine qI ?_;refine qd rfl ?_ ?_ <;> intro X
   ·refine gS (gQ rR ?_);exact df rfl (λD=>by have h9:=wh 24 st.N;rw[eC,Et (n:=999) (by decide) D.sN] at R;omega) rfl rfl
   ·cases X
  ·refine qz rR rR rR (S5 R) (qn rR) rR (qz rR rR rR (S5 R) (qa rR) rR (qz rR rR rR (S5 R) (qm 0 OV rR rR Pd (by decide) rR) rR (qz rR rR rR (S5 R) (qu (v:=ptr x 0) Pg rR rR) rR (qz rR rR rR (S5 R) (qa rR) rR (qz rR rR rR (S5 R) (qm 0 O5 rR rR PM (by decide) rR) rR (qz rR rR rR (S5 R) (qu (v:=ptr p 0) PQ rR rR) rR (qz rR rR rR (S5 R) (qa rR) rR (qz rR rR rR (S5 R) (qm 0 PI rR rR PG (by decide) rR) rR (qz rR rR rR (S5 R) (qu (v:= .map (some r2)) PJ rR rR) rR (qz rR rR rR (S5 R) (gO PB rR) rR (qz rR rR rR (S5 R) (qX rR rR) rR (dV rR (bZ rR (S5 R) rR) (dM rR rR rR ?_)))))))))))));by_cases g3:(40:Int)<((tb am 999 st.B).length:Int)
   ·refine qO rR rR rR (by rw[S8 g3];rfl) rR (qO rR rR rR (by rw[S8 g3];rfl) rR (qO rR rR rR (by rw[S8 g3];rfl) rR (qO rR rR rR (by rw[S8 g3];rfl) rR (qO rR rR rR (by rw[S8 g3];rfl) rR (dV rR (cw rR (S8 g3) rR) (dM rR rR rR (qO rR rR rR rR rR (qO rR rR rR rR rR (qO rR rR rR rR rR (qO rR rR rR rR rR (qO rR rR rR rR rR (qO rR rR rR rR rR (qO rR rR rR rR rR (qO rR rR rR rR rR (qO rR rR rR rR rR (qO rR rR rR rR rR (qO rR rR rR rR rR (qO rR rR rR rR rR (qO rR rR rR rR rR (qO rR rR rR rR rR (qO rR rR rR rR rR (qO rR rR rR rR rR (qO rR rR rR rR rR (qO rR rR rR rR rR (qO rR rR rR rR rR (qO rR rR rR rR rR (qO rR rR rR rR rR (qO rR rR rR rR rR (qO rR rR rR rR rR (qO rR rR rR rR rR (qO rR rR rR rR rR (qO rR rR rR rR rR (dV rR (cw rR rR rR) ?_)))))))))))))))))))))))))))))))));refine qI ?_;refine qd rfl ?_ ?_ <;> intro X
    ·refine gS (gQ rR ?_);exact df rfl (λD=>by have h9:=wh 40 st.B;rw[eC,Et (n:=999) (by decide) D.sB] at g3;omega) rfl rfl
    ·cases X
   ·refine qz rR rR rR (S5 g3) (qn rR) rR (qz rR rR rR (S5 g3) (qa rR) rR (qz rR rR rR (S5 g3) (qm 2 OV rR rR OH (by decide) rR) rR (qz rR rR rR (S5 g3) (qu (v:=I st.n) OI rR rR) rR (qz rR rR rR (S5 g3) (qH rR rR) rR (dV rR (bZ rR (S5 g3) rR) (dM rR rR rR ?_))))));by_cases g4:st.n<1
    ·refine qO rR rR rR (by rw[S8 g4];rfl) rR (qO rR rR rR (by rw[S8 g4];rfl) rR (qO rR rR rR (by rw[S8 g4];rfl) rR (qO rR rR rR (by rw[S8 g4];rfl) rR (qO rR rR rR (by rw[S8 g4];rfl) rR (qO rR rR rR (by rw[S8 g4];rfl) rR (qO rR rR rR (by rw[S8 g4];rfl) rR (qO rR rR rR rR rR (qO rR rR rR rR rR (qO rR rR rR rR rR (qO rR rR rR rR rR (qO rR rR rR rR rR (qO rR rR rR rR rR (qO rR rR rR rR rR (qO rR rR rR rR rR (qO rR rR rR rR rR (qO rR rR rR rR rR (qO rR rR rR rR rR (qO rR rR rR rR rR (qO rR rR rR rR rR (qO rR rR rR rR rR (qO rR rR rR rR rR (qO rR rR rR rR rR (qO rR rR rR rR rR (qO rR rR rR rR rR (qO rR rR rR (by rw[S8 g4];rfl) rR (dV rR (cw rR (S8 g4) rR) ?_))))))))))))))))))))))))));refine qI ?_;refine qd rfl ?_ ?_ <;> intro X
     ·refine gS (gQ rR ?_);exact df rfl (λD=>by have:=D.n1;omega) rfl rfl
     ·cases X
    ·refine qz rR rR rR (S5 g4) (qn rR) rR (qz rR rR rR (S5 g4) (qa rR) rR (qz rR rR rR (S5 g4) (qm 1 OV rR rR O2 (by decide) rR) rR (qz rR rR rR (S5 g4) (qu (v:=sl s st.L.length cc) Pf rR rR) rR (qz rR rR rR (S5 g4) (qY OZ rR) rR (qz rR rR rR (S5 g4) (qX rR rR) rR (qz rR rR rR (S5 g4) (qn rR) rR ?_))))));by_cases O:(0:Int)<(st.L.length:Int)
     ·obtain ⟨pl,hpl⟩:∃pl,st.L[st.L.length - 1]? =some pl:=⟨_,S6 (by omega)⟩;have hpl2:st.L.getLast? =some pl:=(by rw[List.getLast?_eq_getElem?];exact hpl);refine qz rR rR rR (S8 O) (qn rR) rR (qz rR rR rR (S8 O) (qa rR) rR (qz rR rR rR (S8 O) (qm 1 OV rR rR O2 (by decide) rR) rR (qz rR rR rR (S8 O) (qu (v:=sl s st.L.length cc) Pf rR rR) rR (qz rR rR rR (S8 O) (qn rR) rR (qz rR rR rR (S8 O) (qa rR) rR (qz rR rR rR (S8 O) (qm 1 OV rR rR O2 (by decide) rR) rR (qz rR rR rR (S8 O) (qu (v:=sl s st.L.length cc) Pf rR rR) rR (qz rR rR rR (S8 O) (qY OZ rR) rR (qz rR rR rR (S8 O) (cZ rR rR (ao (by omega))) rR (qz rR rR rR (S8 O) (qv (st.L.length - 1) OZ OP rR rR (by omega) (by omega) (by rw[yI];omega)) rR (qz rR rR rR (S8 O) (qE (j:=st.L.length - 1) 0 O6 rR rR OH (by decide) rR (by rw[yI];omega)) rR (qz rR rR rR (S8 O) (yF (v:=I pl.id) OI rR (eO hpl) rR) rR (qz rR rR rR (S8 O) (qn rR) rR (qz rR rR rR (S8 O) (qa rR) rR (qz rR rR rR (S8 O) (qm 2 OV rR rR OH (by decide) rR) rR (qz rR rR rR (S8 O) (qu (v:=I st.n) OI rR rR) rR (qz rR rR rR (S8 O) (jt rR rR) rR (qz rR rR rR (S5 g4) (cw rR (S8 O) rR) rR (dV rR (bZ rR (S5 g4) rR) ?_)))))))))))))))))));refine qI ?_;refine qd rfl ?_ ?_ <;> intro X
      ·have g6:st.n<=pl.id:=(by simpa using X);refine gS (gQ rR ?_)
       first
       | exact df rfl (λD=>by have:=D.last pl hpl2;omega) rfl rfl
       | exact df rfl (λD=>by obtain ⟨y,J⟩:=UG.1 V.2;have:=D.sN q y J;omega) rfl rfl
       | exact df rfl (λD=>by obtain ⟨y,J⟩:=UG.1 V.2;have:=D.sB q y J;omega) rfl rfl
      ·have g6:¬st.n<=pl.id:=(by simpa using X);have hlast:∀p,st.L.getLast? =some p->p.id<st.n:=λp hp=>(by rw[hpl2] at hp;injection hp with hp;subst hp;omega);refine qf (qb (gS (gM rR (gV (qa rR) (gF 0 OV rR Pd rR (gL (ptr x 0) Pg rR (gI (uC call138 rR (Fb x p r st.N 999 (by rw[eC] at R;omega))) ?_)))))));rintro _ _ ⟨s79,c79,rfl,rfl⟩;refine yv s79 ?_;refine gV (qY OO rR) (gM rR (qc (qg ?_)));refine qC (α:=Nat) (λk=>k<=(aj 999 st.N).length/\∀q∈(aj 999 st.N).take k,q<=((24:Nat):Int)) (λk=>U [(0,ptr b 0),(79,sl s79 (aj 999 st.N).length c79),(80,I (aj 999 st.N).length),(81,I k)]) (λk=>roL 1 s79 (yC (aj 999 st.N))::pt b (.cells #[ptr x 0,sl s st.L.length cc,I st.n] 123 (0,0))::pt x (.cells #[ptr p 0, .map (some r)] 231 (0,0))::pt p (.cells #[.map (some r2)] 234 (0,0))::mp r (tb we 999 st.N)::mp r2 (tb am 999 st.B)::ai 162 4 s cc (az st.L)::F) (λk=>(aj 999 st.N).length - k) 0 ⟨by simp,λq h=>by simp at h⟩ [0,79,80,81] rfl rR ?_;rintro k ⟨hk,Z⟩;refine gS (gV (qH rR rR) (qc (qb ?_)));refine qd rfl ?_ ?_ <;> intro h82
       ·simp at h82;have hnl:(aj 999 st.N).length<=24:=(by rw[eC] at R;omega);have S:k<(aj 999 st.N).length:=(by omega);obtain ⟨q,hq⟩:∃q,(aj 999 st.N)[k]? =some q:=⟨_,S6 S⟩;have V:=mem_ids.1 (R5 hq);refine qf (qb (qg (gS (gV (qv k OO OH rR rR rR S (by rw[yh];exact S)) (gV (qM (v:=I q) OI rR (wt hq) rR) (gQ rR (gS (gM rR (gV (qX rR rR) (qc ?_))))))))));refine qd rfl ?_ ?_ <;> intro h86
        ·simp at h86;refine gS (gQ rR ?_)
         first
         | exact df rfl (λD=>by have:=D.last pl hpl2;omega) rfl rfl
         | exact df rfl (λD=>by obtain ⟨y,J⟩:=UG.1 V.2;have:=D.sN q y J;omega) rfl rfl
         | exact df rfl (λD=>by obtain ⟨y,J⟩:=UG.1 V.2;have:=D.sB q y J;omega) rfl rfl
        ·simp at h86;refine qf (qD (qo (gP rR rR (by omega) (gM rR (qc ?_)))));exact qk (k+1) ⟨by omega,λy J=>by
          rw[<-e9 hq,Sc,Ub] at J;rcases J with J | rfl
          ·exact Z y J
          ·omega⟩ (by omega) [0,79,80,81] rfl rfl
       ·simp at h82;obtain rfl:k=(aj 999 st.N).length:=(by omega);rw[S7] at Z;refine qw rR ?_;refine qb (gS (gM rR (gV (qa rR) (gF 0 OV rR Pd rR (gL (ptr x 0) Pg rR (gV (qa rR) (gF 0 O5 rR PM rR (gL (ptr p 0) PQ rR (gI (uC call137 rR (Fc p r2 st.B 999 (by rw[eC] at g3;omega))) ?_)))))))));rintro _ _ ⟨s95,c95,rfl,rfl⟩;refine yv s95 ?_;refine gV (qY OO rR) (gM rR (qc (qg ?_)));refine qC (α:=Nat) (λk=>k<=(aj 999 st.B).length/\∀q∈(aj 999 st.B).take k,q<=((40:Nat):Int)) (λk=>U [(0,ptr b 0),(95,sl s95 (aj 999 st.B).length c95),(96,I (aj 999 st.B).length),(97,I k)]) (λk=>roL 1 s95 (yC (aj 999 st.B))::pt b (.cells #[ptr x 0,sl s st.L.length cc,I st.n] 123 (0,0))::pt x (.cells #[ptr p 0, .map (some r)] 231 (0,0))::pt p (.cells #[.map (some r2)] 234 (0,0))::mp r (tb we 999 st.N)::mp r2 (tb am 999 st.B)::ai 162 4 s cc (az st.L)::F) (λk=>(aj 999 st.B).length - k) 0 ⟨by simp,λq h=>by simp at h⟩ [0,95,96,97] rfl rR ?_;rintro k ⟨hk,Y⟩;refine gS (gV (qH rR rR) (qc (qb ?_)));refine qd rfl ?_ ?_ <;> intro h98
        ·simp at h98;have hnl2:(aj 999 st.B).length<=40:=(by rw[eC] at g3;omega);have S:k<(aj 999 st.B).length:=(by omega);obtain ⟨q,hq⟩:∃q,(aj 999 st.B)[k]? =some q:=⟨_,S6 S⟩;have V:=mem_ids.1 (R5 hq);refine qf (qb (qg (gS (gV (qv k OO OH rR rR rR S (by rw[yh];exact S)) (gV (qM (v:=I q) OI rR (wt hq) rR) (gQ rR (gS (gM rR (gV (qX rR rR) (qc ?_))))))))));refine qd rfl ?_ ?_ <;> intro h102
         ·simp at h102;refine gS (gQ rR ?_)
          first
          | exact df rfl (λD=>by have:=D.last pl hpl2;omega) rfl rfl
          | exact df rfl (λD=>by obtain ⟨y,J⟩:=UG.1 V.2;have:=D.sN q y J;omega) rfl rfl
          | exact df rfl (λD=>by obtain ⟨y,J⟩:=UG.1 V.2;have:=D.sB q y J;omega) rfl rfl
         ·simp at h102;refine qf (qD (qo (gP rR rR (by omega) (gM rR (qc ?_)))));exact qk (k+1) ⟨by omega,λy J=>by
           rw[<-e9 hq,Sc,Ub] at J;rcases J with J | rfl
           ·exact Y y J
           ·omega⟩ (by omega) [0,95,96,97] rfl rfl
        ·simp at h98;obtain rfl:k=(aj 999 st.B).length:=(by omega);rw[S7] at Y;refine qw rR ?_;refine qb ?_;have hsN:bh 24 st.N:=uh hP.sN (by decide) Z;have hsB:bh 40 st.B:=uh hP.sB (by decide) Y;rw[tQ (enc:=we) (n:=999) (by decide) hsN,tQ (enc:=am) (n:=999) (by decide) hsB];refine ww r2 p st.B (.refl _) ?_;refine yw p r x ⟨st.B,st.N⟩ (.refl _) ?_;refine yA b x s cc ⟨st.B,st.N⟩ st.L st.n ?_;refine qo (gM rR (gI (uB call193 rR (E6 b ⟨st.B,st.N⟩ st.L st.n (by omega) hsN)) ?_));rintro _ _ ⟨rm,Q,o,rfl,rfl,hk1,hk2⟩;refine gM rR (gX (.map (some rm)) rR (gX (Bo o) rR (gA rR (gQ rR (gS (gM rR (gM rR ?_)))))));rcases hoo:o with _ | _
         ·have hkn:¬KindsP st.N st.L:=λh=>(by have:=hk1.2 h;rw[hoo] at this;cases this);refine yL rR rR rR rR (yL rR rR rR rR (yL rR rR rR rR (gV (bZ rR rR rR) (gM rR (yL rR rR rR rR (yL rR rR rR rR (gV (bZ rR rR rR) (gQ rR ?_))))))));exact df rfl (λD=>by exact hkn D.kinds) rfl rfl
         ·have hkp:KindsP st.N st.L:=hk1.1 hoo;refine yc rR rR rR (qn rR) rR (yc rR rR rR (qn rR) rR ?_);refine fB rR rR rR (yW (Pre:=[mp rm (mi Q),aI b ⟨st.B,st.N⟩ st.L st.n]) call194 rR (E7 b ⟨st.B,st.N⟩ st.L st.n rm Q (by omega) hsN hsB (λq x e=>(hP.b q x e).1.1) (hk2 hoo))) rR ?_;rintro _ _ ⟨o2,rfl,rfl,hc⟩;refine gV (bT rR rR) (gM rR ?_);rcases hoo2:o2 with _ | _
          ·have hcn:¬CountP st.B st.N st.L:=λh=>(by have:=hc.2 h;rw[hoo2] at this;cases this);refine yL rR rR rR rR (yL rR rR rR rR (gV (bZ rR rR rR) (gQ rR ?_)));exact df rfl (λD=>by exact hcn D.counted) rfl rfl
          ·have hcp:CountP st.B st.N st.L:=hc.1 hoo2;refine yc rR rR rR (qn rR) rR ?_;refine fB rR rR rR (yW (Pre:=[aI b ⟨st.B,st.N⟩ st.L st.n]) call195 rR (Fe b ⟨st.B,st.N⟩ st.L st.n (by omega) (E9 hP hsN hsB) (λp hp=>(hP.p p hp).2.2.1))) rR ?_;rintro _ _ ⟨o3,rfl,rfl,ht⟩;refine gV (cw rR rR rR) (gQ rR ?_);rcases hoo3:o3 with _ | _
           ·exact df rfl (λD=>by have:=ht.2 D.within;rw[hoo3] at this;cases this) rfl rfl
           ·exact E8 rfl ⟨by omega,by omega,hlast,hsN,hsB,hkp,hcp,ht.1 hoo3⟩ rfl rfl
     ·have hlast:∀p,st.L.getLast? =some p->p.id<st.n:=λp hp=>by
       have h0:st.L=[]:=RP.1 (by omega);rw[h0] at hp;cases hp
      refine qO rR rR rR (by rw[S5 O];rfl) rR (qO rR rR rR (by rw[S5 O];rfl) rR (qO rR rR rR (by rw[S5 O];rfl) rR (qO rR rR rR (by rw[S5 O];rfl) rR (qO rR rR rR (by rw[S5 O];rfl) rR (qO rR rR rR (by rw[S5 O];rfl) rR (qO rR rR rR (by rw[S5 O];rfl) rR (qO rR rR rR (by rw[S5 O];rfl) rR (qO rR rR rR (by rw[S5 O];rfl) rR (qO rR rR rR (by rw[S5 O];rfl) rR (qO rR rR rR (by rw[S5 O];rfl) rR (qO rR rR rR (by rw[S5 O];rfl) rR (qO rR rR rR (by rw[S5 O];rfl) rR (qO rR rR rR (by rw[S5 O];rfl) rR (qO rR rR rR (by rw[S5 O];rfl) rR (qO rR rR rR (by rw[S5 O];rfl) rR (qO rR rR rR (by rw[S5 O];rfl) rR (qO rR rR rR (by rw[S5 O];rfl) rR (qz rR rR rR (S5 g4) (bZ rR (S5 O) rR) rR (dV rR (bZ rR (S5 g4) rR) ?_)))))))))))))))))));refine qI ?_;refine qd rfl ?_ ?_ <;> intro X
      ·cases X
      ·refine qf (qb (gS (gM rR (gV (qa rR) (gF 0 OV rR Pd rR (gL (ptr x 0) Pg rR (gI (uC call138 rR (Fb x p r st.N 999 (by rw[eC] at R;omega))) ?_)))))));rintro _ _ ⟨s79,c79,rfl,rfl⟩;refine yv s79 ?_;refine gV (qY OO rR) (gM rR (qc (qg ?_)));refine qC (α:=Nat) (λk=>k<=(aj 999 st.N).length/\∀q∈(aj 999 st.N).take k,q<=((24:Nat):Int)) (λk=>U [(0,ptr b 0),(79,sl s79 (aj 999 st.N).length c79),(80,I (aj 999 st.N).length),(81,I k)]) (λk=>roL 1 s79 (yC (aj 999 st.N))::pt b (.cells #[ptr x 0,sl s st.L.length cc,I st.n] 123 (0,0))::pt x (.cells #[ptr p 0, .map (some r)] 231 (0,0))::pt p (.cells #[.map (some r2)] 234 (0,0))::mp r (tb we 999 st.N)::mp r2 (tb am 999 st.B)::ai 162 4 s cc (az st.L)::F) (λk=>(aj 999 st.N).length - k) 0 ⟨by simp,λq h=>by simp at h⟩ [0,79,80,81] rfl rR ?_;rintro k ⟨hk,Z⟩;refine gS (gV (qH rR rR) (qc (qb ?_)));refine qd rfl ?_ ?_ <;> intro h82
       ·simp at h82;have hnl:(aj 999 st.N).length<=24:=(by rw[eC] at R;omega);have S:k<(aj 999 st.N).length:=(by omega);obtain ⟨q,hq⟩:∃q,(aj 999 st.N)[k]? =some q:=⟨_,S6 S⟩;have V:=mem_ids.1 (R5 hq);refine qf (qb (qg (gS (gV (qv k OO OH rR rR rR S (by rw[yh];exact S)) (gV (qM (v:=I q) OI rR (wt hq) rR) (gQ rR (gS (gM rR (gV (qX rR rR) (qc ?_))))))))));refine qd rfl ?_ ?_ <;> intro h86
        ·simp at h86;refine gS (gQ rR ?_)
         first
         | exact df rfl (λD=>by have:=D.last pl hpl2;omega) rfl rfl
         | exact df rfl (λD=>by obtain ⟨y,J⟩:=UG.1 V.2;have:=D.sN q y J;omega) rfl rfl
         | exact df rfl (λD=>by obtain ⟨y,J⟩:=UG.1 V.2;have:=D.sB q y J;omega) rfl rfl
        ·simp at h86;refine qf (qD (qo (gP rR rR (by omega) (gM rR (qc ?_)))));exact qk (k+1) ⟨by omega,λy J=>by
          rw[<-e9 hq,Sc,Ub] at J;rcases J with J | rfl
          ·exact Z y J
          ·omega⟩ (by omega) [0,79,80,81] rfl rfl
       ·simp at h82;obtain rfl:k=(aj 999 st.N).length:=(by omega);rw[S7] at Z;refine qw rR ?_;refine qb (gS (gM rR (gV (qa rR) (gF 0 OV rR Pd rR (gL (ptr x 0) Pg rR (gV (qa rR) (gF 0 O5 rR PM rR (gL (ptr p 0) PQ rR (gI (uC call137 rR (Fc p r2 st.B 999 (by rw[eC] at g3;omega))) ?_)))))))));rintro _ _ ⟨s95,c95,rfl,rfl⟩;refine yv s95 ?_;refine gV (qY OO rR) (gM rR (qc (qg ?_)));refine qC (α:=Nat) (λk=>k<=(aj 999 st.B).length/\∀q∈(aj 999 st.B).take k,q<=((40:Nat):Int)) (λk=>U [(0,ptr b 0),(95,sl s95 (aj 999 st.B).length c95),(96,I (aj 999 st.B).length),(97,I k)]) (λk=>roL 1 s95 (yC (aj 999 st.B))::pt b (.cells #[ptr x 0,sl s st.L.length cc,I st.n] 123 (0,0))::pt x (.cells #[ptr p 0, .map (some r)] 231 (0,0))::pt p (.cells #[.map (some r2)] 234 (0,0))::mp r (tb we 999 st.N)::mp r2 (tb am 999 st.B)::ai 162 4 s cc (az st.L)::F) (λk=>(aj 999 st.B).length - k) 0 ⟨by simp,λq h=>by simp at h⟩ [0,95,96,97] rfl rR ?_;rintro k ⟨hk,Y⟩;refine gS (gV (qH rR rR) (qc (qb ?_)));refine qd rfl ?_ ?_ <;> intro h98
        ·simp at h98;have hnl2:(aj 999 st.B).length<=40:=(by rw[eC] at g3;omega);have S:k<(aj 999 st.B).length:=(by omega);obtain ⟨q,hq⟩:∃q,(aj 999 st.B)[k]? =some q:=⟨_,S6 S⟩;have V:=mem_ids.1 (R5 hq);refine qf (qb (qg (gS (gV (qv k OO OH rR rR rR S (by rw[yh];exact S)) (gV (qM (v:=I q) OI rR (wt hq) rR) (gQ rR (gS (gM rR (gV (qX rR rR) (qc ?_))))))))));refine qd rfl ?_ ?_ <;> intro h102
         ·simp at h102;refine gS (gQ rR ?_)
          first
          | exact df rfl (λD=>by have:=D.last pl hpl2;omega) rfl rfl
          | exact df rfl (λD=>by obtain ⟨y,J⟩:=UG.1 V.2;have:=D.sN q y J;omega) rfl rfl
          | exact df rfl (λD=>by obtain ⟨y,J⟩:=UG.1 V.2;have:=D.sB q y J;omega) rfl rfl
         ·simp at h102;refine qf (qD (qo (gP rR rR (by omega) (gM rR (qc ?_)))));exact qk (k+1) ⟨by omega,λy J=>by
           rw[<-e9 hq,Sc,Ub] at J;rcases J with J | rfl
           ·exact Y y J
           ·omega⟩ (by omega) [0,95,96,97] rfl rfl
        ·simp at h98;obtain rfl:k=(aj 999 st.B).length:=(by omega);rw[S7] at Y;refine qw rR ?_;refine qb ?_;have hsN:bh 24 st.N:=uh hP.sN (by decide) Z;have hsB:bh 40 st.B:=uh hP.sB (by decide) Y;rw[tQ (enc:=we) (n:=999) (by decide) hsN,tQ (enc:=am) (n:=999) (by decide) hsB];refine ww r2 p st.B (.refl _) ?_;refine yw p r x ⟨st.B,st.N⟩ (.refl _) ?_;refine yA b x s cc ⟨st.B,st.N⟩ st.L st.n ?_;refine qo (gM rR (gI (uB call193 rR (E6 b ⟨st.B,st.N⟩ st.L st.n (by omega) hsN)) ?_));rintro _ _ ⟨rm,Q,o,rfl,rfl,hk1,hk2⟩;refine gM rR (gX (.map (some rm)) rR (gX (Bo o) rR (gA rR (gQ rR (gS (gM rR (gM rR ?_)))))));rcases hoo:o with _ | _
         ·have hkn:¬KindsP st.N st.L:=λh=>(by have:=hk1.2 h;rw[hoo] at this;cases this);refine yL rR rR rR rR (yL rR rR rR rR (yL rR rR rR rR (gV (bZ rR rR rR) (gM rR (yL rR rR rR rR (yL rR rR rR rR (gV (bZ rR rR rR) (gQ rR ?_))))))));exact df rfl (λD=>by exact hkn D.kinds) rfl rfl
         ·have hkp:KindsP st.N st.L:=hk1.1 hoo;refine yc rR rR rR (qn rR) rR (yc rR rR rR (qn rR) rR ?_);refine fB rR rR rR (yW (Pre:=[mp rm (mi Q),aI b ⟨st.B,st.N⟩ st.L st.n]) call194 rR (E7 b ⟨st.B,st.N⟩ st.L st.n rm Q (by omega) hsN hsB (λq x e=>(hP.b q x e).1.1) (hk2 hoo))) rR ?_;rintro _ _ ⟨o2,rfl,rfl,hc⟩;refine gV (bT rR rR) (gM rR ?_);rcases hoo2:o2 with _ | _
          ·have hcn:¬CountP st.B st.N st.L:=λh=>(by have:=hc.2 h;rw[hoo2] at this;cases this);refine yL rR rR rR rR (yL rR rR rR rR (gV (bZ rR rR rR) (gQ rR ?_)));exact df rfl (λD=>by exact hcn D.counted) rfl rfl
          ·have hcp:CountP st.B st.N st.L:=hc.1 hoo2;refine yc rR rR rR (qn rR) rR ?_;refine fB rR rR rR (yW (Pre:=[aI b ⟨st.B,st.N⟩ st.L st.n]) call195 rR (Fe b ⟨st.B,st.N⟩ st.L st.n (by omega) (E9 hP hsN hsB) (λp hp=>(hP.p p hp).2.2.1))) rR ?_;rintro _ _ ⟨o3,rfl,rfl,ht⟩;refine gV (cw rR rR rR) (gQ rR ?_);rcases hoo3:o3 with _ | _
           ·exact df rfl (λD=>by have:=ht.2 D.within;rw[hoo3] at this;cases this) rfl rfl
           ·exact E8 rfl ⟨by omega,by omega,hlast,hsN,hsB,hkp,hcp,ht.1 hoo3⟩ rfl rfl
def pZ (x:Nat)(w:World):(Instr.build 123 #[(0,ptr x 0)]).run Tryz.prog w= .ok (.agg #[ptr x 0,sl none 0 0,I 0]) w:=by
 simp[Instr.build,QW,QX,Pd,Instr.fill,qW,show (ptr x 0).cells=#[ptr x 0] from rfl,sl]
def Ff {l:List ChangeM}{i:Nat}{c D:ChangeM}(h:0<i->l[i - 1]? =some D):ki (km l i) c=(decide ((0:Int)<(i:Int)) && (Op.bytesLess c.key D.key || decide (c.key=D.key))):=by
 cases i with
 | zero=>rw[pX];rfl
 | succ i=>
  have J:l[i]? =some D:=h (by omega);rw[pY J];have e:decide ((0:Int)<((i+1:Nat):Int))=true:=S8 (by omega);rw[e,TM]
  rfl
def MV (l:List ChangeM)(s:Option Addr)(cap:Nat)(hl:l.length<=1000000)(V:∀c∈l,c.key.length<=9223372036854775807/\c.val.length<=9223372036854775807)(F:List aa):Ct Tryz.prog 42 [sl s l.length cap] (zck::roL 3 s (ah l)::F) (zE l 117 (zck::roL 3 s (ah l)::F)):=by
 refine Ct.of func42 rR 47 ntmps42 (by simp) λw0=>?_;refine gS (gA rR (gQ rR (gS (gI (uA call118 rR (Dy)) ?_))));rintro _ _ ⟨x,rfl,rfl⟩;refine gV (qF rR (pZ x)) (gI (wR #[ptr x 0,sl none ps0.L.length 0,I ps0.n] rfl rR) ?_);rintro _ _ ⟨Y,rfl,rfl⟩;refine gQ rR ?_;refine eK x ⟨λ_=>none,λ_=>none⟩ ?_;intro p r;refine iJ p (λ_=>none) ?_;intro r2;refine gY r (tb we 999 ps0.N) (by show (tb we 24 (λ_=>none)).Perm (tb we 999 (λ_=>none));rw[ly,ly]) ?_;refine gY r2 (tb am 999 ps0.B) (by show (tb am 40 (λ_=>none)).Perm (tb am 999 (λ_=>none));rw[ly,ly]) ?_;refine yi 162 4 (az ps0.L) rR ?_;refine mb Y x p r r2 none 0 ps0 ?_;refine qb (gS (gM rR (gV (qY OK rR) (gM rR (qc (qg ?_))))));refine qC (α:=Nat×PS) (λz=>z.1<=l.length/\cX none ps0 (l.take z.1)=some z.2/\Pok z.2/\z.2.L.length<=z.1) (λz=>U [(0,sl s l.length cap),(4,ptr Y 0),(10,sl s l.length cap),(11,I l.length),(12,I z.1)]) (λz=>zck::roL 3 s (ah l)::iU Y z.2::F) (λz=>l.length - z.1) (0,ps0) ⟨by simp,by simp[cX],pm,by simp[ps0]⟩ [0,4,10,11,12] rfl rR ?_;rintro ⟨i,st⟩ ⟨hi,D,hP,hL⟩;simp only[] at hi D hP hL ⊢;refine gS (gV (qH rR rR) (qc (qb ?_)));refine qd rfl ?_ ?_ <;> intro h13
 ·simp at h13;have hin:i<l.length:=(by omega);obtain ⟨c,Z⟩:∃c,l[i]? =some c:=⟨_,S6 hin⟩;obtain ⟨pc,hpc⟩:∃pc:ChangeM,0<i->l[i - 1]? =some pc:=⟨(l[i - 1]?).getD c,λh=>by rw[S6 (show i - 1<l.length by omega)];rfl⟩;refine qf (qb (qg (gS (gM rR (gV (qv i OK OJ rR rR rR hin (by rw[qx];exact hin)) (gV (qZ (row:=ym c) O4 OJ rR (yX Z) rR) (gI (qA #[ac [],ac [],Bo false] OR) ?_)))))));rintro _ _ ⟨b6,rfl,rfl⟩;refine gA rR (gU (qp (cs:=#[ac [],ac [],Bo false]) (vs:=ym c) (ym c).toArray OJ rR rR rR rR (by simp) (qs rR)) (qc (qb (gD (Lf:=[pt b6 (.cells (ym c).toArray 174 (0,0)),roL 3 s (ah l)]) [(0,false),(1,false),(2,false),(3,false),(4,false),(5,false),(6,false),(7,false),(8,false),(9,false),(10,false),(11,false),(12,false),(13,false),(14,false),(15,false),(16,false),(17,false),(18,false),(19,false),(20,true),(21,false),(22,false)] (dM rR rR rR (dV rR (qX rR rR) (dM rR rR rR (dJ rR rR rR (qm 0 OS rR rR ON (by decide) rR) (dJ rR rR rR (qu (v:=ac c.key) OQ rR rR) (dJ rR rR rR (qn rR) (dJ rR rR rR (qn rR) (nE rR rR rR (λS=>cZ rR rR (ao (by simp at S;omega))) rR rR (nE rR rR rR (λS=>qv (i - 1) OK OJ rR rR (by simp at S;omega) (by simp at S;omega) (by rw[qx];simp at S;omega)) rR rR (nE rR rR rR (λS=>qE (j:=i - 1) 0 OS rR rR ON (by decide) rR (by rw[qx];simp at S;omega)) rR rR (nE rR rR rR (λS=>yF (v:=ac pc.key) OQ rR (yX (hpc (by simp at S;omega))) rR) rR rR (dJ rR rR rR (AU rR rR) (dV rR (bT rR rR) (dM rR rR rR (dJ rR rR rR (qm 2 OS rR rR Pv (by decide) rR) (dJ rR rR rR (qu (v:=Bo c.gone) PO rR rR) (dV rR (aD rR rR) (dM rR rR rR ?_))))))))))))))))))))));rcases hbd:((decide ((0:Int)<(i:Int)) && (Op.bytesLess c.key pc.key || decide (c.key=pc.key))) || c.gone) with _ | _
  ·refine qz rR rR rR rR (qn rR) rR ?_;rcases hrr:cq st c with _ | X
   ·refine qz rR rR rR rR (qJ (vs:=ym c) O4 OJ rR rR qQ) rR ?_;refine lx rR rR rR rR (yW (Pre:=[zck,iU Y st]) call119 rR (E4 Y st c (by omega) (V c (R5 Z)).1 (V c (R5 Z)).2)) rR ?_;rintro _ _ J;unfold pQ at J;rw[hrr] at J;obtain ⟨rfl,rfl⟩:=J;refine qz rR rR rR rR (wb rR) rR (dV rR (bZ rR rR rR) ?_);refine qI ?_;refine qd rfl ?_ ?_ <;> intro O
    ·refine gS (gV (qP OY rR rR) (gA rR (gQ rR ?_)));exact zF rfl (λX R=>by rw[Fa D Z (.inr hrr)] at R;cases R) rfl rfl
    ·cases O
   ·refine qz rR rR rR rR (qJ (vs:=ym c) O4 OJ rR rR qQ) rR ?_;refine lx rR rR rR rR (yW (Pre:=[zck,iU Y st]) call119 rR (E4 Y st c (by omega) (V c (R5 Z)).1 (V c (R5 Z)).2)) rR ?_;rintro _ _ J;unfold pQ at J;rw[hrr] at J;obtain ⟨rfl,rfl⟩:=J;refine qz rR rR rR rR (wb rR) rR (dV rR (bZ rR rR rR) ?_);refine qI ?_;refine qd rfl ?_ ?_ <;> intro O
    ·cases O
    ·refine qf (qD (qo (gP rR rR (by omega) (gM rR (qc ?_)))));exact qk (i+1,X) ⟨by simp only[];omega,MS D Z (by rw[Ff hpc];simpa using hbd) hrr,LI hP hrr,by have:=MT hrr;simp only[];omega⟩ (by simp only[];omega) [0,4,10,11,12] rfl rfl
  ·refine qO rR rR rR rR rR (qO rR rR rR rR rR ?_);refine oc rR rR rR rR rR ?_;refine qO rR rR rR rR rR (dV rR (cw rR rR rR) ?_);refine qI ?_;refine qd rfl ?_ ?_ <;> intro O
   ·refine gS (gV (qP OY rR rR) (gA rR (gQ rR ?_)));exact zF rfl (λX R=>by rw[Fa D Z (.inl (by rw[Ff hpc];simpa using hbd))] at R;cases R) rfl rfl
   ·cases O
 ·simp at h13;obtain rfl:i=l.length:=(by omega);rw[S7] at D;refine qw rR ?_;refine qb (gS (gM rR (gI (uB call120 rR (MU Y st hP (by omega))) ?_)));rintro _ _ (⟨rfl,hw,rfl⟩ | ⟨rfl,hw,rfl⟩)
  ·refine gV (wb rR) (qc ?_);refine qd rfl ?_ ?_ <;> intro h44
   ·cases h44
   ·refine qf (gS (gM rR (gA rR (gQ rR ?_))));exact MR rfl D hw rfl rfl
  ·refine gV (wb rR) (qc ?_);refine qd rfl ?_ ?_ <;> intro h44
   ·refine gS (gV (qP OY rR rR) (gA rR (gQ rR ?_)));exact zF rfl (λX R=>by rw[D] at R;injection R with R;rw[<-R];exact hw) rfl rfl
   ·cases h44
def aQ (c:ChangeM):ChangeM:=⟨c.key,[],true⟩
def p4 (a b:List ChangeM):List ChangeM:=(a.filter λc=>!cD b c.key).map aQ++b.filter λc=>!decide (c∈a)
def mg:List ChangeM->List ChangeM->List ChangeM
 | [],b=>b
 | a,[]=>a.map aQ
 | x::a,y::b=>if kl x.key y.key=true then aQ x::mg a (y::b) else if kl y.key x.key=true then y::mg (x::a) b else if x=y then mg a b else y::mg a b
termination_by a b=>a.length+b.length
def md (b:List ChangeM):mg [] b=b:=by unfold mg;rfl
def p5 (a:List ChangeM):mg a []=a.map aQ:=by
 cases a with
 | nil=>rw[md];rfl
 | cons x a=>unfold mg;rfl
def me {x y:ChangeM}{a b:List ChangeM}(h:kl x.key y.key=true):mg (x::a) (y::b)=aQ x::mg a (y::b):=by
 rw[mg];rw[RI h]
def mf {x y:ChangeM}{a b:List ChangeM}(D:¬kl x.key y.key=true)(h:kl y.key x.key=true):mg (x::a) (y::b)=y::mg (x::a) b:=by
 rw[mg];rw[RJ D,RI h]
def iV {x y:ChangeM}{a b:List ChangeM}(D:¬kl x.key y.key=true)(h:¬kl y.key x.key=true):mg (x::a) (y::b)=(if x=y then [] else [y])++mg a b:=by
 rw[mg];rw[RJ D,RJ h];split <;> rfl
def isS_iff {l:List ChangeM}{k:ab}:cD l k=true ↔ ∃r∈l,r.key=k:=by unfold cD;simp[U9]
def iW:∀{a b:List ChangeM},srt a->srt b->∀c,c∈mg a b ↔ (∃x∈a,c=aQ x/\∀y∈b,y.key≠x.key)\/(c∈b/\c ∉ a)
 | [],b,_,_,c=>by rw[md];simp
 | x::a,[],_,_,c=>by
  rw[p5,SR];constructor
  ·rintro ⟨z,D,rfl⟩;exact .inl ⟨z,D,rfl,λy hy=>by cases hy⟩
  ·rintro (⟨z,D,rfl,_⟩ | ⟨h,_⟩)
   ·exact ⟨z,D,rfl⟩
   ·cases h
 | x::a,y::b,ha,hb,c=>by
  have Y:=Uq.1 ha;have Z:=Uq.1 hb;by_cases h1:kl x.key y.key=true
  ·rw[me h1,RR,iW Y.2 hb];have hxb:∀z∈y::b,z.key≠x.key:=λz D e=>by
    rcases RR.1 D with rfl | D
    ·exact dP h1 e.symm
    ·exact dP (jg h1 (Z.1 z D)) e.symm
   constructor
   ·rintro (rfl | ⟨z,D,rfl,R⟩ | ⟨X,J⟩)
    ·exact .inl ⟨x,by simp,rfl,hxb⟩
    ·exact .inl ⟨z,Th _ D,rfl,R⟩
    ·refine .inr ⟨X,λO=>?_⟩;rcases RR.1 O with rfl | O
     ·exact hxb _ X rfl
     ·exact J O
   ·rintro (⟨z,D,rfl,R⟩ | ⟨X,J⟩)
    ·rcases RR.1 D with rfl | D
     ·exact .inl rfl
     ·exact .inr (.inl ⟨z,D,rfl,R⟩)
    ·exact .inr (.inr ⟨X,λh=>J (Th _ h)⟩)
  ·by_cases X:kl y.key x.key=true
   ·rw[mf h1 X,RR,iW ha Z.2];have V:∀z∈x::a,z.key≠y.key:=λz D e=>by
     rcases RR.1 D with rfl | D
     ·exact dP X e.symm
     ·exact dP (jg X (Y.1 z D)) e.symm
    constructor
    ·rintro (rfl | ⟨z,D,rfl,R⟩ | ⟨J,O⟩)
     ·exact .inr ⟨by simp,λh=>V _ h rfl⟩
     ·refine .inl ⟨z,D,rfl,λw S=>?_⟩;rcases RR.1 S with rfl | S
      ·exact λe=>V z D e.symm
      ·exact R w S
     ·exact .inr ⟨Th _ J,O⟩
    ·rintro (⟨z,D,rfl,R⟩ | ⟨J,O⟩)
     ·exact .inr (.inl ⟨z,D,rfl,λw S=>R w (Th _ S)⟩)
     ·rcases RR.1 J with rfl | J
      ·exact .inl rfl
      ·exact .inr (.inr ⟨J,O⟩)
   ·have hk:x.key=y.key:=by
     rcases lH x.key y.key with h | h | h
     ·exact absurd h h1
     ·exact h
     ·exact absurd h X
    have hxb:∀z∈b,z.key≠x.key:=λz D e=>dP (Z.1 z D) (by rw[e,hk]);have V:∀z∈a,z.key≠y.key:=λz D e=>dP (Y.1 z D) (by rw[e,hk]);rw[iV h1 X,Sc,iW Y.2 Z.2];constructor
    ·rintro (J | ⟨z,D,rfl,R⟩ | ⟨J,O⟩)
     ·split at J
      ·cases J
      ·rename_i hne;rw[Ub] at J;subst J;refine .inr ⟨by simp,λh=>?_⟩;rcases RR.1 h with h | h
       ·exact hne h.symm
       ·exact V _ h rfl
     ·refine .inl ⟨z,Th _ D,rfl,λw S=>?_⟩;rcases RR.1 S with rfl | S
      ·exact λe=>V z D e.symm
      ·exact R w S
     ·refine .inr ⟨Th _ J,λh=>?_⟩;rcases RR.1 h with rfl | h
      ·exact hxb _ J rfl
      ·exact O h
    ·rintro (⟨z,D,rfl,R⟩ | ⟨J,O⟩)
     ·rcases RR.1 D with rfl | D
      ·exact absurd hk.symm (R y (by simp))
      ·exact .inr (.inl ⟨z,D,rfl,λw S=>R w (Th _ S)⟩)
     ·rcases RR.1 J with rfl | J
      ·left;rw[RJ (λe=>O (by rw[e];simp))];simp
      ·exact .inr (.inr ⟨J,λh=>O (Th _ h)⟩)
termination_by a b=>a.length+b.length
def zH {k:ab}{a b:List ChangeM}(O:srt a)(R:srt b)(D:∀x∈a,kl k x.key=true)(J:∀x∈b,kl k x.key=true):∀x∈mg a b,kl k x.key=true:=λx hx=>by
 rcases (iW O R x).1 hx with ⟨z,S,rfl,_⟩ | ⟨h,_⟩
 ·exact D z S
 ·exact J x h
def mh:∀{a b:List ChangeM},srt a->srt b->srt (mg a b)
 | [],b,_,X=>by rw[md];exact X
 | x::a,[],V,_=>by
  rw[p5];unfold srt;rw[RE];exact V
 | x::a,y::b,V,X=>by
  have D:=Uq.1 V;have J:=Uq.1 X;by_cases R:kl x.key y.key=true
  ·rw[me R];refine Uq.2 ⟨zH D.2 X D.1 λz O=>?_,mh D.2 X⟩;rcases RR.1 O with rfl | O
   ·exact R
   ·exact jg R (J.1 z O)
  ·by_cases S:kl y.key x.key=true
   ·rw[mf R S];refine Uq.2 ⟨zH V J.2 (λz O=>?_) J.1,mh V J.2⟩;rcases RR.1 O with rfl | O
    ·exact S
    ·exact jg S (D.1 z O)
   ·have Y:x.key=y.key:=by
     rcases lH x.key y.key with h | h | h
     ·exact absurd h R
     ·exact h
     ·exact absurd h S
    rw[iV R S];split
    ·exact mh D.2 J.2
    ·exact Uq.2 ⟨zH D.2 J.2 (λz O=>by rw[<-Y];exact D.1 z O) J.1,mh D.2 J.2⟩
termination_by a b=>a.length+b.length
def MW {x y:ChangeM}{l m:List ChangeM}(S:srt (x::l))(V:srt (y::m))(h:∀c,c∈x::l ↔ c∈y::m):x=y:=by
 have D:=Uq.1 S;have J:=Uq.1 V;rcases RR.1 ((h x).1 (by simp)) with e | hx
 ·exact e
 ·rcases RR.1 ((h y).2 (by simp)) with e | X
  ·exact e.symm
  ·have R:=D.1 y X;have O:=J.1 x hx;rw[jh R] at O;cases O
def zI:∀{l m:List ChangeM},srt l->srt m->(∀c,c∈l ↔ c∈m)->l=m
 | [],[],_,_,_=>rfl
 | [],y::m,_,_,h=>by have:=(h y).2 (by simp);cases this
 | x::l,[],_,_,h=>by have:=(h x).1 (by simp);cases this
 | x::l,y::m,S,V,h=>by
  obtain rfl:=MW S V h;have O:=Uq.1 S;have R:=Uq.1 V;rw[zI O.2 R.2 λc=>?_];constructor
  ·intro J;rcases RR.1 ((h c).1 (Th _ J)) with rfl | D
   ·have:=O.1 c J;rw[jf] at this;cases this
   ·exact D
  ·intro J;rcases RR.1 ((h c).2 (Th _ J)) with rfl | D
   ·have:=R.1 c J;rw[jf] at this;cases this
   ·exact D
def MX {l:List ChangeM}(h:srt l){x y:ChangeM}(hx:x∈l)(R:y∈l)(e:x.key=y.key):x=y:=by
 induction l with
 | nil=>cases hx
 | cons z l S=>
  have O:=Uq.1 h;rcases RR.1 hx with J | J
  ·rcases RR.1 R with D | D
   ·rw[J,D]
   ·exact absurd (by rw[<-J];exact e) (dP (O.1 y D))
  ·rcases RR.1 R with D | D
   ·exact absurd (by rw[<-D];exact e.symm) (dP (O.1 x J))
   ·exact S O.2 J D
def MY {a b:List ChangeM}(c:ChangeM):c∈p4 a b ↔ (∃x∈a,c=aQ x/\∀y∈b,y.key≠x.key)\/(c∈b/\c ∉ a):=by
 unfold p4;rw[Sc,SR];constructor
 ·rintro (⟨x,hx,rfl⟩ | h)
  ·rw[Tz] at hx;refine .inl ⟨x,hx.1,rfl,λy S e=>?_⟩;have:cD b x.key=true:=isS_iff.2 ⟨y,S,e⟩;rw[this] at hx;simp at hx
  ·rw[Tz] at h;exact .inr ⟨h.1,by simpa using h.2⟩
 ·rintro (⟨x,hx,rfl,O⟩ | ⟨D,J⟩)
  ·refine .inl ⟨x,Tz.2 ⟨hx,?_⟩,rfl⟩;cases e:cD b x.key with
   | false=>rfl
   | true=>obtain ⟨r,R,h⟩:=isS_iff.1 e;exact absurd h (O r R)
  ·exact .inr (Tz.2 ⟨D,by simpa using J⟩)
def MZ {a b:List ChangeM}(O:srt a)(R:srt b):(p4 a b).Pairwise λx y=>x.key≠y.key:=by
 unfold p4;rw[RD];refine ⟨?_,(Va _ R).imp λh=>dP h,λx hx y J=>?_⟩
 ·rw[RE];exact (Va _ O).imp λh=>dP h
 ·obtain ⟨z,D,rfl⟩:=SR.1 hx;rw[Tz] at D J;intro e;have:cD b z.key=true:=isS_iff.2 ⟨y,J.1,e.symm⟩;rw[this] at D;simp at D
def M0 {a b l:List ChangeM}(J:srt a)(O:srt b)(R:l.Perm (p4 a b))(X:l.Pairwise λx y=>kl y.key x.key=false):l=mg a b:=by
 have S:l.Pairwise λx y=>x.key≠y.key:=(R.pairwise_iff (λh=>Ne.symm h)).2 (MZ J O);have V:srt l:=(X.and S).imp fun {x y} h=>by
  rcases lH x.key y.key with D | D | D
  ·exact D
  ·exact absurd D h.2
  ·rw[h.1] at D;cases D
 refine zI V (mh J O) λc=>?_;rw[R.mem_iff,MY,iW J O]
def Fg {l:List ChangeM}(h:srt l)(c:ChangeM):c∈l ↔ cD l c.key=true/\l[ba l c.key]? =some c:=by
 constructor
 ·intro J;have D:cD l c.key=true:=isS_iff.2 ⟨c,J,rfl⟩;refine ⟨D,?_⟩;rw[lI h] at D;split at D
  ·rename_i r O;rw[O,MX h (R5 O) J (by simpa using D)]
  ·cases D
 ·rintro ⟨_,R⟩;exact R5 R
open Go.Sl Go.Proofs Go.Sort Go.RowKit
instance instInhC:Inhabited ChangeM:=⟨⟨[],[],false⟩⟩
def la (x y:ChangeM):Int:=Lib.compareBytes x.key y.key
def ui (x y:ChangeM):ltOf la x y=kl x.key y.key:=by
 unfold ltOf la;cases h:kl x.key y.key with
 | true=>exact S8 ((j6 x.key y.key).1.2 h)
 | false=>exact S5 λD=>by rw[(j6 x.key y.key).1.1 D] at h;cases h
def M1:SWO (ltOf la) where
 irrefl x:=by rw[ui,jf]
 trans x y z h1 h2:=by rw[ui] at h1 h2 ⊢;exact jg h1 h2
 ntrans x y z h1 h2:=by
  rw[ui] at h1 h2 ⊢;cases h:kl x.key z.key with
  | false=>rfl
  | true=>
   rcases lH x.key y.key with D | D | D
   ·rw[h1] at D;cases D
   ·rw[D,h2] at h;cases h
   ·have:=jg D h;rw[h2] at this;cases this
def M2 (x y:ChangeM)(W:World):Calls Tryz.prog 235 #[.agg #[ac x.key,ac x.val,Bo x.gone], .agg #[ac y.key,ac y.val,Bo y.gone]] W λe w'=>e= .returned (I (la x y))/\∃q J,w'=grow (W.drewN q) J:=by
 have h:=λD=>Tryz.strings_Compare ⟨⟨x.key⟩⟩ ⟨⟨y.key⟩⟩ D;change ∀D,Calls Tryz.prog 188 #[ac x.key,ac y.key] D (λe w'=>e= .returned (I (la x y))/\w'=D) at h;generalize la x y=r at h ⊢
 go_enter func235,ntmps235
 go_wp2_with (go_at_call 188;refine (h _).mono ?_;rintro e w' ⟨rfl,rfl⟩)
 go_ret
 exact ⟨rfl,0,_,by rw[alloc_eq_grow,alloc_eq_grow,grow_grow];rfl⟩
def M3 (blk off size:Nat)(w:World):CmpLays Tryz.prog 235 #[] ym 3 la blk off size w:=
 λ_ _ _ _ x y=>M2 x y _
def mj (l:List ChangeM):Prop:=l.Pairwise λa b=>kl b.key a.key=false
def M4 (l:List ChangeM)(s:Option Addr)(n cap:Nat)(hn:n=l.length)(S:l.length<4611686018427387904)(F:List aa):
  Ct Tryz.prog 234 [sl s n cap, .func (.func 235) #[] #[]] (ai 174 3 s cap (ah l)::F) (λv L'=>∃l',l'.Perm l/\mj l'/\v= .tuple #[]/\L'=ai 174 3 s cap (ah l')::F):=λw0 w hS=>by
 subst hn;rcases wa hS with ⟨rfl,hr,rfl,O⟩ | ⟨b,cs,rfl,h1,h2,h3,h4,O⟩
 ·have hz:l=[]:=(by simpa [ah] using hr);subst hz;refine (AnyF.slices_SortFunc_none {Tryz.sortFn with} none 0 (.func (.func 235) #[] #[]) w).mono ?_;rintro e w' ⟨rfl,rfl⟩;exact ⟨_,hS,[], .refl _,List.Pairwise.nil,rfl,rfl⟩
 ·have Y:=O.at_;have Z:l.length<=cap:=(by simpa [ah] using h2);have eg:∀args w,(callFunc 235 args).run Tryz.prog w= .ok (.enter 235 args) w:=call235;have hH:HoldsK ym 3 w b 0 l.toArray:=λj X=>by
   have J:j<l.length*3:=(by simpa [size_flatK] using X);have hrow:=h4 (j / 3) (ym l[j / 3]) (by rw[yX (S6 (by omega))]) (j % 3);have R:∃v,(ym l[j / 3])[j % 3]? =some v/\(flatK ym 3 l.toArray)[j]! =v:=by
    refine ⟨_,S6 (by simp[ym];omega),?_⟩;rw[get_flatK _ _ _ _ (by simpa using J)];simp[show j / 3<l.length by omega,show j % 3<(ym l[j / 3]).length by simp[ym];omega]
   obtain ⟨v,hv,he⟩:=R;have hc:=hrow v hv;rw[show j / 3*3+j % 3=j by omega] at hc;have:=ge Y hc;refine ⟨?_,by simp[World.frozen?,Y]⟩;rw[he];simpa using this
  refine (AnyQ.slices_SortFunc Tryz.sortFn 3 O4 OJ ym (λ_=>rfl) (λx v hv=>by simp only[ym,RR,Uf,or_false] at hv;rcases hv with rfl | rfl | rfl <;> rfl) la M1 235 #[] b 0 cap l.toArray w eg (M3 b 0 _ w) hH (Rk.1 Y).1 (by simpa using S)).mono ?_;rintro e w' ⟨rfl,h,m,os,hp,hso,rfl⟩;obtain ⟨hp1,_,hp3⟩:=hp;have hsz:h.size=l.length:=(by simpa using hp1);have V:h.toList.Perm l:=by
   have e1:h.extract 0 l.toArray.size=h:=(by rw[<-hp1];simp);have e2:l.toArray.extract 0 l.toArray.size=l.toArray:=(by simp);rw[e1,e2] at hp3;simpa using hp3
  have D:mj h.toList:=by
   rw[mj,Rf];intro i j hi X hij;have J:j<h.size:=(by simpa using X);have hi':i<h.size:=(by simpa using hi);have:=hso i j (by omega) hij (by simpa [hsz] using J);rw[ui] at this;simpa [hi',J] using this
  have e1:sortWorldK ym 3 w b 0 m h os=grow {(Sort.ahead w m) with heap:=(Sort.ahead w m).heap.setIfInBounds b (.cells (putCells id 0 (flatK ym 3 h) cs) 174 (0,0))} os:=by
   unfold sortWorldK putRowK putRow mapBlock;congr 2;apply RS;intro i;rw[RT,RU];have S:=(Rk.1 Y).1;show (if b=i then _ else _)=_;by_cases hk:b=i
   ·subst hk;have he:(Sort.ahead w m).heap[b]? =some (.cells cs 174 (0,0)):=Y;rw[RI rfl,RI rfl,he,RI (by exact S)]
    rfl
   ·rw[RJ hk,RJ hk]
  rw[e1];have hS2:=(O.drew (w.drawn+m)).set (w':={(Sort.ahead w m) with heap:=(Sort.ahead w m).heap.setIfInBounds b (.cells (putCells id 0 (flatK ym 3 h) cs) 174 (0,0))}) rfl;have hS3:=tk os.toList hS2;refine ⟨_,fK (cap:=cap) (sz:=3) (rows:=ah h.toList) hS3 (by simp[putCells,h1]) (by simp[ah,hsz];exact Z) (mQ _) ?_,h.toList,V,D,rfl,rfl⟩;intro j row X f v hf;simp only[ah,Rc] at X;obtain ⟨x,hx,rfl⟩:=Rb.1 X;obtain ⟨hjl,hxe⟩:=Re.1 hx;have hjd:j<h.size:=(by simpa using hjl);have hf3:f<3:=(by have:=(Re.1 hf).1;simpa [ym] using this);simp only[yd,Sa];have hsz3:j*3+f<(flatK ym 3 h).size:=(by rw[size_flatK];omega);have hcs:j*3+f<cs.size:=(by rw[h1];omega);have e2:(putCells id 0 (flatK ym 3 h) cs)[j*3+f]? =some ((flatK ym 3 h)[j*3+f]!):=by
   have hnot:¬h.size*3<=j*3+f:=(by omega);simp[putCells,hcs,hsz3,hnot]
  rw[e2,get_flatK _ _ _ _ (by omega),show (j*3+f) / 3=j by omega,show (j*3+f) % 3=f by omega];have hxd:h[j]! =x:=(by simp at hxe;simp[hjd,hxe]);rw[hxd];have:=(Re.1 hf);obtain ⟨hfl,hfe⟩:=this;simp[hfl,hfe]
end Go.Proofs.YthdjckbjjfiopabGreatDoor
namespace Go.Proofs.YthdjckbjjfiopabGreatDoor
open _root_.Go.Proofs.Tryz
open Go.Sl Go.Proofs
def p6 (k:ab)(w:World):(Instr.build 174 #[(0,ac k),(2,Bo true)]).run Tryz.prog w= .ok (.agg (ym ⟨k,[],true⟩).toArray) w:=by
 simp[Instr.build,OR,Qy,Pv,ON,Instr.fill,qW,ym,show (ac k).cells=#[ac k] from rfl,show (Bo true).cells=#[Bo true] from rfl]
def ik (a b:List ChangeM):List ChangeM:=(a.filter λc=>!cD b c.key).map aQ
def iX (a b:List ChangeM):List ChangeM:=b.filter λc=>!decide (c∈a)
def Fh {l b:List ChangeM}{k:Nat}{c:ChangeM}(h:l[k]? =some c):ik (l.take (k+1)) b=ik (l.take k) b++if cD b c.key=true then [] else [aQ c]:=by
 unfold ik;rw[<-e9 h,TA,RA];congr 1;cases D:cD b c.key <;> simp[D]
def zJ {a l:List ChangeM}{k:Nat}{c:ChangeM}(h:l[k]? =some c):iX a (l.take (k+1))=iX a (l.take k)++if c∈a then [] else [c]:=by
 unfold iX;rw[<-e9 h,TA];congr 1;by_cases D:c∈a <;> simp[D]
def zK (a b:List ChangeM):(ik a b).length<=a.length:=by unfold ik;rw[TD];exact TG _ _
def Fj (a b:List ChangeM):(iX a b).length<=b.length:=by unfold iX;exact TG _ _
def Fk (x:ChangeM)(k:ab)(F:List aa):Ct Tryz.prog 233 [.agg (ym x).toArray,ac k] (F) (R1 (I (Lib.compareBytes x.key k)) F):=by
 refine Ct.of func233 rR 9 ntmps233 (by simp) λw0=>?_;refine gS (gI (wR (ym x).toArray rR rR) ?_);rintro _ _ ⟨h,rfl,rfl⟩;refine gQ rR (gS (gF 0 OS rR ON rR (gL (ac x.key) OQ rR (gM rR (gR (vA call188 rR (Cn x.key k)) (gQ rR ?_))))));refine ql rR rR ?_;exact rfl
def Fl (l:List ChangeM)(s:Option Addr)(cap:Nat)(k:ab)(Z:srt l)(hl:l.length<=1000000)(F:List aa):Ct Tryz.prog 186 [sl s l.length cap,ac k, .func (.func 233) #[] #[]] (roL 3 s (ah l)::F) (R1 (.tuple #[I (ba l k),Bo (cD l k)]) (roL 3 s (ah l)::F)):=by
 refine Ct.of func186 rR 49 ntmps186 (by simp) λw0=>?_;refine gS (gA rR (gQ rR (gS (gM rR (gV (qY OK rR) (gQ rR (gS (gM rR (gA rR (gQ rR (qb (qg ?_))))))))))));refine qC (α:=Nat×Nat) (λz=>z.1<=ba l k/\ba l k<=z.2/\z.2<=l.length) (λz=>U [(0,sl s l.length cap),(1,ac k),(2, .func (.func 233) #[] #[]),(8,I l.length),(9,I z.1),(10,I z.2)]) (λ_=>roL 3 s (ah l)::F) (λz=>z.2 - z.1) (0,l.length) ⟨by simp,oE _ _,Ra _⟩ [0,1,2,8,9,10] rfl rR ?_;rintro ⟨i,j⟩ ⟨hi,hj,X⟩;simp only[] at hi hj X ⊢;refine qb (gS (gM rR (gM rR (gV (qH rR rR) (qc ?_)))));refine qd rfl ?_ ?_ <;> intro V
 ·simp at V;refine qf (qg (qb ?_));have R:(i+j) / 2<l.length:=(by omega);obtain ⟨x,hx⟩:∃x,l[(i+j) / 2]? =some x:=⟨_,S6 R⟩;have S:(i+j) / 2<(ah l).length:=(by rw[qx];exact R);have Y:=Ck Z k hx;refine qo (gM rfl (gM rfl (gP rfl rfl (by omega) (gV (yS OL Qr rfl (fO (by omega))) (gV (fA (r:=(((i+j) / 2:Nat):Int)) rfl rfl (by decide) (by rw[show min ((1:Int).toNat) IntKind.u64.bits=1 by decide,SV _ (by decide)];omega)) (gV (yS Qr OL rfl (ao (by omega))) (gQ rfl (gS (gM rfl (gM rfl (gM rfl (gV (qv ((i+j) / 2) OK OJ rfl rfl rfl R S) (gV (qZ (row:=ym x) O4 OJ rfl (yX hx) rfl) (gM rfl (gI (fC (fi:=[]) (cap:=[]) (Pre:=[]) call233 rfl rfl (Fk x k)) ?_)))))))))))))));rintro _ _ ⟨rfl,rfl⟩;refine gV (qH rR rR) (qc ?_);refine qd rfl ?_ ?_ <;> intro J
  ·simp at J;refine qo (gM rR (gP rR rR (by omega) (gQ rR (qD ?_))));exact qk ((i+j) / 2+1,j) ⟨by simp only[];have:=Y.1 ((j6 _ _).1.1 J);omega,hj,X⟩ (by simp only[];omega) [0,1,2,8,9,10] rfl rfl
  ·simp at J;refine qo (gM rR (gQ rR (qD ?_)));exact qk (i,(i+j) / 2) ⟨hi,by simp only[];rcases Rq ((i+j) / 2) (ba l k) with h | h;have:=(j6 _ _).1.2 (Y.2 h);omega;exact h,by simp only[];omega⟩ (by simp only[];omega) [0,1,2,8,9,10] rfl rfl
 ·simp at V;obtain rfl:i=ba l k:=(by omega);refine qw rR ?_;refine gS (gM rR (gM rR (gM rR (gV (qH rR rR) (gM rR ?_)))));by_cases O:ba l k<l.length
  ·obtain ⟨x,hx⟩:∃x,l[ba l k]? =some x:=⟨_,S6 O⟩;have S:ba l k<(ah l).length:=(by rw[qx];exact O);have D:decide ((ba l k:Int)<l.length)=true:=S8 (by omega);refine yc rR rR D (qn rR) rR (yc rR rR D (qn rR) rR (yc rR rR D (qn rR) rR (yc rR rR D (qv (ba l k) OK OJ rR rR rR O S) rR (yc rR rR D (qZ (row:=ym x) O4 OJ rR (yX hx) rR) rR (yc rR rR D (qn rR) rR ?_)))));refine fB rR rR D (fC (fi:=[]) (cap:=[]) (Pre:=[]) call233 rR rR (Fk x k)) rR ?_;rintro _ _ ⟨rfl,rfl⟩;refine yc rR rR D (yD rR rR) rR (gV (bT rR rR) (gA rR (gQ rR ?_)));exact ql rfl rfl (by rw[lI Z,hx];show Value.tuple #[I (ba l k),Bo (decide ((ba l k:Int)<l.length) && decide (Lib.compareBytes x.key k=0))]=_;rw[D,TM,decide_eq_decide.2 (j6 x.key k).2])
  ·have D:decide ((ba l k:Int)<l.length)=false:=S5 (by omega);refine yL rR rR (by rw[D];rfl) rR (yL rR rR (by rw[D];rfl) rR (yL rR rR (by rw[D];rfl) rR (yL rR rR (by rw[D];rfl) rR (yL rR rR (by rw[D];rfl) rR (yL rR rR (by rw[D];rfl) rR (yL rR rR (by rw[D];rfl) rR (yL rR rR (by rw[D];rfl) rR (gV (bZ rR D rR) (gA rR (gQ rR ?_))))))))));exact ql rfl rfl (by rw[lI Z,Ue (by omega)];rfl)
def M5 (a b:List ChangeM)(s s':Option Addr)(cap O:Nat)(ha:a.length<=1000000)(hb:b.length<=1000000)(V:srt a)(hsb:srt b)(F:List aa):Ct Tryz.prog 172 [sl s a.length cap,sl s' b.length O] (roL 3 s (ah a)::roL 3 s' (ah b)::F) (dU 174 3 (mg a b).length (ah (mg a b)) (roL 3 s (ah a)::roL 3 s' (ah b)::F)):=by
 refine Ct.of func172 rR 70 ntmps172 (by simp) λw0=>?_;refine gS (gQ rR (gS (gQ rR (gS (gQ rR (qb (qb ?_)))))));refine yi 174 3 (ah (ik (a.take 0) b)) rR ?_;refine qo (gM rR (gV (qY OK rR) (gM rR (qc (qg ?_)))));refine qC (α:=Nat×Option Addr×Nat) (λz=>z.1<=a.length) (λz=>U [(0,sl s a.length cap),(1,sl s' b.length O),(5,sl z.2.1 (ik (a.take z.1) b).length z.2.2),(6, .func (.func 233) #[] #[]),(15,sl s a.length cap),(16,I a.length),(17,I z.1)]) (λz=>ai 174 3 z.2.1 z.2.2 (ah (ik (a.take z.1) b))::roL 3 s (ah a)::roL 3 s' (ah b)::F) (λz=>a.length - z.1) (0,none,0) (by simp) [0,1,5,6,15,16,17] rfl rR ?_;rintro ⟨k,s3,c3⟩ hk;simp only[] at hk ⊢;have hgl:=zK (a.take k) b;rw[Sv] at hgl;refine gS (gV (qH rR rR) (qc (qb ?_)));refine qd rfl ?_ ?_ <;> intro h18
 ·simp at h18;have R:k<a.length:=(by omega);obtain ⟨x,hx⟩:∃x,a[k]? =some x:=⟨_,S6 R⟩;refine qf (qb (qg (gS (gV (qv k OK OJ rR rR rR R (by rw[qx];exact R)) (gV (qZ (row:=ym x) O4 OJ rR (yX hx) rR) (gI (qA #[ac [],ac [],Bo false] OR) ?_))))));rintro _ _ ⟨b8,rfl,rfl⟩;refine gU (qp (cs:=#[ac [],ac [],Bo false]) (vs:=ym x) (ym x).toArray OJ rR rR rR rR (by simp) (qs rR)) (qc (gS (gM rR (gF 0 OS rR ON rR (gL (ac x.key) OQ rR (gM rR (gR (vB call186 rR (Fl b s' O x.key hsb (by omega))) (gM rR (gX (I (ba b x.key)) rR (gX (Bo (cD b x.key)) rR (gA rR (gQ rR (gS (gM rR (gV (wb rR) (qc ?_))))))))))))))));refine qd rfl ?_ ?_ <;> intro h30
  ·have S:cD b x.key=false:=(by simpa using h30);have D:=Fh (b:=b) hx;rw[S,RJ (by simp)] at D;refine qo (gM rfl (gF 0 OS rfl ON rfl (gL (ac x.key) OQ rfl (gV (qF rfl (p6 x.key)) (gI (qj [ym (aQ x)] OK OJ OR rfl rfl rfl (by intro r J;simp at J;subst J;rfl) (by decide) (by decide)) ?_)))));rintro _ _ ⟨b35,rfl,rfl⟩;refine gI (qN OK OJ OR rfl Tryz.typeInfo174 (by decide) rfl rfl (qx _) rfl (by intro r J;simp at J;subst J;rfl) (by intro r J;simp at J;subst J;rfl) ⟨by omega,by decide,by decide⟩) ?_;rintro _ _ ⟨s36,c36,rfl,rfl⟩;rw[wT];refine gQ rR (qD (qo (gP rR rR (by omega) (gM rR (qc ?_)))));rw[<-D];exact qk (k+1,s36,c36) (by simp only[];omega) (by simp only[];omega) [0,1,5,6,15,16,17] rfl (by first | rfl | simp[U,D])
  ·have S:cD b x.key=true:=(by simpa using h30);have D:=Fh (b:=b) hx;rw[S,RI rfl,T6] at D;refine qf (qD (qo (gP rR rR (by omega) (gM rR (qc ?_)))));rw[<-D];exact qk (k+1,s3,c3) (by simp only[];omega) (by simp only[];omega) [0,1,5,6,15,16,17] rfl (by first | rfl | simp[U,D])
 ·simp at h18;obtain rfl:k=a.length:=(by omega);rw[S7];refine qw rR ?_;refine qb (qb ?_);refine gg s3 (ah (ik a b++iX a (b.take 0))) (by simp[iX]) ?_;refine qo (gM rR (gV (qY OK rR) (gM rR (qc (qg ?_)))));refine qC (α:=Nat×Option Addr×Nat) (λz=>z.1<=b.length) (λz=>U [(0,sl s a.length cap),(1,sl s' b.length O),(5,sl z.2.1 ((ik a b).length+(iX a (b.take z.1)).length) z.2.2),(6, .func (.func 233) #[] #[]),(38,sl s' b.length O),(39,I b.length),(40,I z.1)]) (λz=>ai 174 3 z.2.1 z.2.2 (ah (ik a b++iX a (b.take z.1)))::roL 3 s (ah a)::roL 3 s' (ah b)::F) (λz=>b.length - z.1) (0,s3,c3) (by simp) [0,1,5,6,38,39,40] rfl (by simp[U,iX,sl]) ?_;rintro ⟨k,s3,c3⟩ hk;simp only[] at hk ⊢;have hgl:=zK a b;have hnl:=Fj a (b.take k);rw[Sv] at hnl;refine gS (gV (qH rR rR) (qc (qb ?_)));refine qd rfl ?_ ?_ <;> intro h41
  ·simp at h41;have R:k<b.length:=(by omega);obtain ⟨y,hy⟩:∃y,b[k]? =some y:=⟨_,S6 R⟩;refine qf (qb (qg (gS (gV (qv k OK OJ rR rR rR R (by rw[qx];exact R)) (gV (qZ (row:=ym y) O4 OJ rR (yX hy) rR) (gI (qA #[ac [],ac [],Bo false] OR) ?_))))));rintro _ _ ⟨b12,rfl,rfl⟩;refine gU (qp (cs:=#[ac [],ac [],Bo false]) (vs:=ym y) (ym y).toArray OJ rR rR rR rR (by simp) (qs rR)) (qc (gS (gM rR (gF 0 OS rR ON rR (gL (ac y.key) OQ rR (gM rR (gR (vB call186 rR (Fl a s cap y.key V (by omega))) (gM rR (gX (I (ba a y.key)) rR (gX (Bo (cD a y.key)) rR (gA rR (gQ rR (qb ?_)))))))))))));refine yO (Lf:=[roL 3 s (ah a),pt b12 (.cells (ym y).toArray 174 (0,0))]) jD (by kernel_rfl) (by kernel_rfl) rR (by kernel_rfl) ?_;refine dM rR rR rR (dV rR (wb rR) (dM rR rR rR ?_));by_cases Z:cD a y.key=true
   ·obtain ⟨r0,hr0⟩:∃r0,a[ba a y.key]? =some r0:=by
     have X:=Z;rw[lI V] at X;split at X
     ·exact ⟨_,‹_›⟩
     ·cases X
    have hrl:=(Re.1 hr0).1;rw[Z];refine qz rR rR rR rR (qn rR) rR (qz rR rR rR rR (qn rR) rR (qz rR rR rR rR (qv (ba a y.key) OK OJ rR rR rR hrl (by rw[qx];exact hrl)) rR (qz rR rR rR rR (qZ (row:=ym r0) O4 OJ rR (yX hr0) rR) rR (qz rR rR rR rR (qJ (vs:=ym y) O4 OJ rR rR qQ) rR (qz rR rR rR rR (nJ eqGuardType174 rR rR (BT r0 y)) rR (dV rR (bZ rR rR rR) ?_))))));refine qI ?_;refine qd rfl ?_ ?_ <;> intro Y
    ·have hne:¬y∈a:=λh=>(by have X:=((Fg V y).1 h).2;rw[hr0] at X;injection X with X;subst X;simp at Y);have D:=zJ (a:=a) hy;rw[RJ hne] at D;refine qo (gM rfl (gV (qJ (vs:=ym y) O4 OJ rfl rfl qQ) (gI (qj [ym (y)] OK OJ OR rfl rfl rfl (by intro r J;simp at J;subst J;rfl) (by decide) (by decide)) ?_)));rintro _ _ ⟨b64,rfl,rfl⟩;refine gI (qN OK OJ OR rfl Tryz.typeInfo174 (by decide) rfl rfl (by rw[qx,Sx]) rfl (by intro r J;simp at J;subst J;rfl) (by intro r J;simp at J;subst J;rfl) ⟨by omega,by decide,by decide⟩) ?_;rintro _ _ ⟨s65,c65,rfl,rfl⟩;rw[wT,Sr];refine gQ rR (qD (qo (gP rR rR (by omega) (gM rR (qc ?_)))));rw[<-D];exact qk (k+1,s65,c65) (by simp only[];omega) (by simp only[];omega) [0,1,5,6,38,39,40] rfl (by first | rfl | simp[U,D,RO])
    ·have hmm:y∈a:=by
      have X:r0=y:=(by simpa using Y);rw[<-X];exact R5 hr0
     have D:=zJ (a:=a) hy;rw[RI hmm,T6] at D;refine qf (qD (qo (gP rR rR (by omega) (gM rR (qc ?_)))));rw[<-D];exact qk (k+1,s3,c3) (by simp only[];omega) (by simp only[];omega) [0,1,5,6,38,39,40] rfl (by first | rfl | simp[U,D])
   ·have hin':cD a y.key=false:=(by simpa using Z);rw[hin'];refine qO rR rR rR rR rR (qO rR rR rR rR rR (qO rR rR rR rR rR (qO rR rR rR rR rR (qO rR rR rR rR rR (qO rR rR rR rR rR (dV rR (cw rR rR rR) ?_))))));refine qI ?_;refine qd rfl ?_ ?_ <;> intro Y
    ·have hne:¬y∈a:=λh=>Z ((Fg V y).1 h).1;have D:=zJ (a:=a) hy;rw[RJ hne] at D;refine qo (gM rfl (gV (qJ (vs:=ym y) O4 OJ rfl rfl qQ) (gI (qj [ym (y)] OK OJ OR rfl rfl rfl (by intro r J;simp at J;subst J;rfl) (by decide) (by decide)) ?_)));rintro _ _ ⟨b64,rfl,rfl⟩;refine gI (qN OK OJ OR rfl Tryz.typeInfo174 (by decide) rfl rfl (by rw[qx,Sx]) rfl (by intro r J;simp at J;subst J;rfl) (by intro r J;simp at J;subst J;rfl) ⟨by omega,by decide,by decide⟩) ?_;rintro _ _ ⟨s65,c65,rfl,rfl⟩;rw[wT,Sr];refine gQ rR (qD (qo (gP rR rR (by omega) (gM rR (qc ?_)))));rw[<-D];exact qk (k+1,s65,c65) (by simp only[];omega) (by simp only[];omega) [0,1,5,6,38,39,40] rfl (by first | rfl | simp[U,D,RO])
    ·cases Y
  ·simp at h41;obtain rfl:k=b.length:=(by omega);rw[S7];refine qw rR ?_;refine gS (gM rR (gI (uB call234 rR (M4 (ik a b++iX a b) s3 _ c3 (by rw[Sx]) (by have:=zK a b;have:=Fj a b;rw[Sx];omega))) ?_));rintro _ _ ⟨l',hp,hso,rfl,rfl⟩;have hmg:=M0 V hsb hp hso;subst hmg;refine qc (gS (gM rR (gQ rR ?_)));exact wk rfl rfl rfl (by rw[hp.length_eq,Sx])
def p7 {S:SI}{L:List Pt}{n:Int}{G:Gh}(h:Con S L n G):∀c∈yf S L n,c.key.length<=9223372036854775807/\c.val.length<=9223372036854775807:=λc D=>by
 have w:=h.wr;unfold yf at D;rcases Sc.1 D with D | D
 ·rcases Sc.1 D with D | D
  ·rcases Sc.1 D with D | D
   ·unfold wQ at D;obtain ⟨q,X,rfl⟩:=SR.1 D;obtain ⟨Y,J⟩:=mem_ids.1 X;obtain ⟨x,hx⟩:=UG.1 J;have V:=w.b q x hx;have O:=wg (n:=q) (by omega);have R:=wg (n:=x.2) (by omega);rw[show gB S.B q=x by unfold gB;rw[hx];rfl];simp only[lY,RX,Sx];omega
   ·unfold bQ at D;obtain ⟨q,X,rfl⟩:=SR.1 D;obtain ⟨Y,J⟩:=mem_ids.1 X;have V:=uc h.sm q;have O:=wg (n:=q) (by omega);have R:=ub (n:=gN S.N q) (by omega) (λk Z=>by have:=V.2 k Z;omega) 4 (by omega);rw[zy] at R;simp only[lZ,RX];omega
  ·obtain ⟨p,hp,rfl⟩:=SR.1 D;have V:=w.p p hp;have O:=wg (n:=p.id) (by omega);have R:=wg (n:=p.disk) (by omega);have h3:=wg (n:=p.size) (by omega);have h4:=wg (n:=p.root) (by omega);simp only[de,RX,Sx];omega
 ·rw[Ub] at D;subst D;have O:=ye (n:=n) (by have:=w.n1;omega);simp only[ga,RX,Uh];omega
def p8:∀(a b:List ChangeM),(mg a b).length<=a.length+b.length
 | [],b=>by rw[md];simp
 | x::a,[]=>by rw[p5];simp
 | x::a,y::b=>by
  by_cases h:kl x.key y.key=true
  ·rw[me h];have:=p8 a (y::b);simp only[RX] at this ⊢;omega
  ·by_cases D:kl y.key x.key=true
   ·rw[mf h D];have:=p8 (x::a) b;simp only[RX] at this ⊢;omega
   ·rw[iV h D];have:=p8 a b;split <;> simp only[SK,SM,RX] <;> omega
termination_by a b=>a.length+b.length
structure SeE where
 key:Int
 a:Nat
 so:Option Addr
 co:Nat
 base:Int
 disk:Int
 size:Int
 puts:List PutM
structure MoE where
 key:Int
 a:Nat
 r:Nat
 point:Int
 over:List (Int×ab)
def dT (l:List (Int×ab)):MM:=l.map λp=>(p.1,ac p.2)
def eQ:List (Int×ab)->Int->Option ab
 | [],_=>none
 | p::l,q=>if p.1=q then some p.2 else eQ l q
def fJ (l:List (Int×ab))(q:Int)(d:ab):List (Int×ab):=if (eQ l q).isSome then l.map λp=>if p.1=q then (q,d) else p else l++ [(q,d)]
def uj:∀(l:List (Int×ab)) (q:Int),lk (dT l) q=(eQ l q).map ac
 | [],q=>rfl
 | p::l,q=>by
  have h:=uj l q;simp only[dT,Rv,lk,eQ] at h ⊢;split
  ·rfl
  ·exact h
def Fm (l:List (Int×ab))(q:Int)(d:ab):dw (dT l) q (ac d)=dT (fJ l q d):=by
 unfold dw fJ;rw[uj,Vb];split
 ·unfold dT;rw[RB,RB];refine Ti λp _=>?_;simp only[Function.comp];split <;> rfl
 ·simp[dT]
def bo (l:List SeE):MM:=l.map λe=>(e.key,ptr e.a 0)
def bp (l:List MoE):MM:=l.map λe=>(e.key,ptr e.a 0)
def aK (l:List SeE)(id:Int):Option SeE:=l.find? λe=>decide (e.key=id)
def bx (l:List MoE)(id:Int):Option MoE:=l.find? λe=>decide (e.key=id)
def jp:∀(l:List SeE) (q:Int),lk (bo l) q=(aK l q).map λe=>ptr e.a 0
 | [],q=>rfl
 | e::l,q=>by
  have D:=jp l q;unfold aK at D ⊢;by_cases h:e.key=q
  ·rw[Vc (by simpa using h)];simp only[bo,Rv,lk,RI h,Option.map_some]
  ·rw[Vd (by simpa using h),<-D];simp only[bo,Rv,lk,RJ h]
def kn:∀(l:List MoE) (q:Int),lk (bp l) q=(bx l q).map λe=>ptr e.a 0
 | [],q=>rfl
 | e::l,q=>by
  have D:=kn l q;unfold bx at D ⊢;by_cases h:e.key=q
  ·rw[Vc (by simpa using h)];simp only[bp,Rv,lk,RI h,Option.map_some]
  ·rw[Vd (by simpa using h),<-D];simp only[bp,Rv,lk,RJ h]
def Fo {l:List SeE}{e:SeE}(h:∀x∈l,x.key≠e.key):dw (bo l) e.key (ptr e.a 0)=bo (l++ [e]):=by
 unfold dw;rw[lk_none.2 (λp D=>by unfold bo at D;obtain ⟨x,hx,rfl⟩:=SR.1 D;exact h x hx),RJ (by simp)];simp[bo]
def Fp {l:List MoE}{e:MoE}(h:∀x∈l,x.key≠e.key):dw (bp l) e.key (ptr e.a 0)=bp (l++ [e]):=by
 unfold dw;rw[lk_none.2 (λp D=>by unfold bp at D;obtain ⟨x,hx,rfl⟩:=SR.1 D;exact h x hx),RJ (by simp)];simp[bp]
def cr (l:List SeE)(id:Int):List SeE:=l.filter λe=>!decide (e.key=id)
def fa (l:List MoE)(id:Int):List MoE:=l.filter λe=>!decide (e.key=id)
def uk (l:List SeE)(id:Int):eV (bo l) id=bo (cr l id):=by
 unfold eV bo cr;rw[TU]
 rfl
def Fq (l:List MoE)(id:Int):eV (bp l) id=bp (fa l id):=by
 unfold eV bp fa;rw[TU]
 rfl
def Fr {l:List SeE}{i:Nat}{e e':SeE}(h:l[i]? =some e)(R:e'.key=e.key)(D:e'.a=e.a):bo (l.set i e')=bo l:=by
 unfold bo;rw[T1];refine S9 λj=>?_;rw[Ud];split
 ·rename_i O;subst O;obtain ⟨J,S⟩:=Re.1 h;rw[RI (by simpa using J),Rc,h,R,D]
  rfl
 ·rfl
def Fs {l:List MoE}{i:Nat}{e e':MoE}(h:l[i]? =some e)(R:e'.key=e.key)(D:e'.a=e.a):bp (l.set i e')=bp l:=by
 unfold bp;rw[T1];refine S9 λj=>?_;rw[Ud];split
 ·rename_i O;subst O;obtain ⟨J,S⟩:=Re.1 h;rw[RI (by simpa using J),Rc,h,R,D]
  rfl
 ·rfl
def wI {α:Type}{l:List α}{i:Nat}{e:α}(h:l[i]? =some e):l.set i e=l:=by
 refine S9 λj=>?_;rw[Ud];split
 ·rename_i J;subst J;obtain ⟨D,O⟩:=Re.1 h;rw[RI D,h]
 ·rfl
structure RpM where
 h:HdM
 used:Nat
 rows:List ChangeM
 S:SI
 L:List Pt
 n:Int
 ses:List SeE
 mou:List MoE
 next:Int
def eu (e:SeE):List aa:=[pt e.a (.cells #[I e.base,I e.disk,I e.size,sl e.so e.puts.length e.co] 168 (0,0)),ai 86 2 e.so e.co (aE e.puts)]
def fb (e:MoE):List aa:=[pt e.a (.cells #[I e.point, .map (some e.r)] 215 (0,0)),mp e.r (dT e.over)]
structure RpA where
 bs:Nat
 bl:Nat
 so:Option Addr
 co:Nat
 bv:Nat
 rs:Nat
 rm:Nat
def Ft (b bd:Nat)(z:RpM)(q:RpA):List aa:=
 [pt b (.cells #[ptr q.bs 0,ptr q.bv 0, .map (some q.rs), .map (some q.rm),I z.next] 103 (0,0)),pt q.bs (.cells (bc bd z.h q.bl q.so z.rows.length q.co) 198 (0,0)),pt q.bl (.cells (aC bd 122 (200 - 122) z.h.first z.used) 273 (0,0)),roL 3 q.so (ah z.rows),aI q.bv z.S z.L z.n,mp q.rs (bo z.ses),big eu z.ses,mp q.rm (bp z.mou),big fb z.mou]
def aw (b bd:Nat)(z:RpM):aa:=hx (Ft b bd z)
section
variable {c:Cx}{E:ap}{L:List aa}{K:List KI}
def fj {F:List aa}(b D:Nat)(z:RpM)[R:Rem L (aw b D z) F](k:∀bs bl so co bv rs rm,G c K E (pt b (.cells #[ptr bs 0,ptr bv 0, .map (some rs), .map (some rm),I z.next] 103 (0,0))::pt bs (.cells (bc D z.h bl so z.rows.length co) 198 (0,0))::pt bl (.cells (aC D 122 (200 - 122) z.h.first z.used) 273 (0,0))::roL 3 so (ah z.rows)::aI bv z.S z.L z.n::mp rs (bo z.ses)::big eu z.ses::mp rm (bp z.mou)::big fb z.mou::F)):G c K E L:=fP (aw b D z) rfl λq=>k q.bs q.bl q.so q.co q.bv q.rs q.rm
def zL {F:List aa}(l:List SeE)(i:Nat){e:SeE}(h:l[i]? =some e)[R:Rem L (big eu l) F](k:G c K E (pt e.a (.cells #[I e.base,I e.disk,I e.size,sl e.so e.puts.length e.co] 168 (0,0))::ai 86 2 e.so e.co (aE e.puts)::big eu (l.eraseIdx i)::F)):G c K E L:=sx (f:=eu) l i h _ rfl k
def zM {F:List aa}(l:List MoE)(i:Nat){e:MoE}(h:l[i]? =some e)[R:Rem L (big fb l) F](k:G c K E (pt e.a (.cells #[I e.point, .map (some e.r)] 215 (0,0))::mp e.r (dT e.over)::big fb (l.eraseIdx i)::F)):G c K E L:=sx (f:=fb) l i h _ rfl k
def yy {F:List aa}(b D:Nat)(z:RpM)(bs bl:Nat)(so:Option Addr)(co bv rs rm:Nat)[J:Split L [pt b (.cells #[ptr bs 0,ptr bv 0, .map (some rs), .map (some rm),I z.next] 103 (0,0)),pt bs (.cells (bc D z.h bl so z.rows.length co) 198 (0,0)),pt bl (.cells (aC D 122 (200 - 122) z.h.first z.used) 273 (0,0)),roL 3 so (ah z.rows),aI bv z.S z.L z.n,mp rs (bo z.ses),big eu z.ses,mp rm (bp z.mou),big fb z.mou] F](k:G c K E (aw b D z::F)):G c K E L:=
 eU (A:=Ft b D z) [pt b (.cells #[ptr bs 0,ptr bv 0, .map (some rs), .map (some rm),I z.next] 103 (0,0)),pt bs (.cells (bc D z.h bl so z.rows.length co) 198 (0,0)),pt bl (.cells (aC D 122 (200 - 122) z.h.first z.used) 273 (0,0)),roL 3 so (ah z.rows),aI bv z.S z.L z.n,mp rs (bo z.ses),big eu z.ses,mp rm (bp z.mou),big fb z.mou] (aw b D z) ⟨bs,bl,so,co,bv,rs,rm⟩ rfl rfl k
end
structure SOk (e:SeE):Prop where
 size:1<=e.size/\e.size<=16
 nodup:(e.puts.map (·.at_)).Nodup
 rng:∀p∈e.puts,(0<=p.at_/\p.at_<e.size)/\p.data.length<=6
structure Rok (z:RpM):Prop where
 con:∃G,Con z.S z.L z.n G
 next:1<=z.next/\z.next<=1000000
 keyS:∀e∈z.ses,1<=e.key/\e.key<z.next
 keyM:∀e∈z.mou,1<=e.key/\e.key<z.next
 sesS:∀e∈z.ses,SOk e
theorem SOk.len {e:SeE}(h:SOk e):e.puts.length<=16:=by
 have D:=og h.nodup (m:=(List.range 16).map λk:Nat=>(k:Int)) λq O=>by
  obtain ⟨p,J,rfl⟩:=SR.1 O;have R:=(h.rng p J).1;have S:=h.size;exact SR.2 ⟨p.at_.toNat,by rw[Ve];omega,by omega⟩
 simpa using D
theorem Rok.putS {z:RpM}(R:Rok z):∀e∈z.ses,e.puts.length<=16/\∀p∈e.puts,p.data.length<=6:=λe h=>⟨(R.sesS e h).len,λp D=>((R.sesS e h).rng p D).2⟩
structure Dk (i:Nat) (D:DiskM) (z:RpM):Prop where
 ok:bB 200 i D
 s80:cE D
 hd:z.h.ep<=1000000/\z.h.side<=1/\1<=z.h.first/\z.h.first<=1000000000
 len:z.rows.length<=80
 okr:∀r∈z.rows,eJ r
 used:z.used<=200 - 122
 srt:srt z.rows
def RpM.kept (z:RpM)(e:Int)(h:HdM)(used:Nat)(rows:List ChangeM)(S:SI)(L:List Pt)(n:Int):RpM:=if e=0 then ⟨h,used,rows,S,L,n,z.ses,z.mou,z.next⟩ else ⟨h,used,rows,z.S,z.L,z.n,z.ses,z.mou,z.next⟩
def ml (z:RpM)(S:SI)(L:List Pt)(n:Int):List ChangeM:=mg (yf z.S z.L z.n) (yf S L n)
def zN:∀{l:List SeE},((bo l).map (·.1)).Nodup->∀{e e':SeE},e∈l->e'∈l->e.key=e'.key->e=e'
 | [],_,e,e',h,_,_=>by cases h
 | a::l,D,e,e',h,R,O=>by
  simp only[bo,Rv,Tg,SR] at D;rcases RR.1 h with rfl | g
  ·rcases RR.1 R with rfl | J
   ·rfl
   ·exact absurd ⟨_,⟨e',J,rfl⟩,O.symm⟩ D.1
  ·rcases RR.1 R with rfl | J
   ·exact absurd ⟨_,⟨e,g,rfl⟩,O⟩ D.1
   ·exact zN (by simpa [bo] using D.2) g J O
def zO:∀{l:List MoE},((bp l).map (·.1)).Nodup->∀{e e':MoE},e∈l->e'∈l->e.key=e'.key->e=e'
 | [],_,e,e',h,_,_=>by cases h
 | a::l,D,e,e',h,R,O=>by
  simp only[bp,Rv,Tg,SR] at D;rcases RR.1 h with rfl | g
  ·rcases RR.1 R with rfl | J
   ·rfl
   ·exact absurd ⟨_,⟨e',J,rfl⟩,O.symm⟩ D.1
  ·rcases RR.1 R with rfl | J
   ·exact absurd ⟨_,⟨e,g,rfl⟩,O⟩ D.1
   ·exact zO (by simpa [bp] using D.2) g J O
def Fu {l:List SeE}(X:((bo l).map (·.1)).Nodup){done rest h:MM}{p:Int×Value}(S:(done++rest).Perm (bo l))(V:rest.Perm (p::h)):(∃i e,l[i]? =some e/\p=(e.key,ptr e.a 0)/\i<l.length)/\((done++ [p])++h).Perm (bo l):=by
 have D:(done++p::h).Perm (bo l):=(V.append_left done).symm.trans S;refine ⟨?_,by simpa using D⟩;have O:p∈bo l:=D.mem_iff.1 (by simp);unfold bo at O;obtain ⟨e,R,rfl⟩:=SR.1 O;obtain ⟨i,J⟩:=Vf R;exact ⟨i,e,J,rfl,(Re.1 J).1⟩
def Fv {l:List MoE}(X:((bp l).map (·.1)).Nodup){done rest h:MM}{p:Int×Value}(S:(done++rest).Perm (bp l))(V:rest.Perm (p::h)):(∃i e,l[i]? =some e/\p=(e.key,ptr e.a 0)/\i<l.length)/\((done++ [p])++h).Perm (bp l):=by
 have D:(done++p::h).Perm (bp l):=(V.append_left done).symm.trans S;refine ⟨?_,by simpa using D⟩;have O:p∈bp l:=D.mem_iff.1 (by simp);unfold bp at O;obtain ⟨e,R,rfl⟩:=SR.1 O;obtain ⟨i,J⟩:=Vf R;exact ⟨i,e,J,rfl,(Re.1 J).1⟩
def bX (z:RpM)(id:Int):Bool:=z.ses.any (λe=>decide (e.base=id)) || z.mou.any λe=>decide (e.point=id)
def Fw (b:Nat)(v1 v2 v3 v4:Value)(h:Int)(D:0<=h/\h<=1000000000)(F:List aa):Ct Tryz.prog 93 [ptr b 0] (pt b (.cells #[v1,v2,v3,v4,I h] 103 (0,0))::F) (R1 (I h) (pt b (.cells #[v1,v2,v3,v4,I (h+1)] 103 (0,0))::F)):=by
 refine Ct.of func93 rR 15 ntmps93 (by simp) λw0=>?_;refine gS (gQ rfl (gS (gM rfl (gV (qa rfl) (gF 4 Ph rfl OH rfl (gL (I h) OI rfl (gV (yr (r:=h+1) rfl rfl (ao (by omega))) (gV (qa rfl) (gF 4 Ph rfl OH rfl (gU (qG #[v1,v2,v3,v4,I (h+1)] OH rfl rfl rfl (by simp) rfl) (qc (gS (gM rfl (gV (qa rfl) (gF 4 Ph rfl OH rfl (gL (I (h+1)) OI rfl (gV (cZ (r:=h) rfl rfl (by rw[show h+1 - 1=h by omega];exact ao (by omega))) (gQ rfl ?_))))))))))))))))));refine ql rR rR ?_;exact rfl
def Fx (b h:Nat)(z:RpM)(D:z.L.length<=1000000)(F:List aa):Ct Tryz.prog 16 [ptr b 0] (aw b h z::F) (λv L'=>∃q,v=ptr q 0/\L'=aI q z.S z.L z.n::aw b h z::F):=by
 refine Ct.of func16 rR 8 ntmps16 (by simp) λw0=>?_;refine fj b h z ?_;intro bs bl so co bv rs rm;refine gS (gQ rR (gS (gM rR (gV (qa rR) (gF 1 Ph rR P3 rR (gL (ptr bv 0) PX rR (gI (uB call66 rR (tY bv z.S z.L z.n D)) ?_)))))));rintro _ _ ⟨q,rfl,rfl⟩;refine gQ rR ?_;refine yy b h (z) bs bl so co bv rs rm ?_;exact qh (aI q z.S z.L z.n::aw b h z::F) rfl ⟨q,rfl,rfl⟩
def zP {ee:Bool}(b R v i:Nat)(D:DiskM)(z:RpM)(V:SI)(L':List Pt)(X:Int)(G G':Gh)(hC:Con z.S z.L z.n G)(hC':Con V L' X G')(hD:Dk i D z)(hi:i<=100000)(F:List aa):Ct Tryz.prog 97 [ptr b 0,ptr v 0] (yn ee::aw b R z::al 179 319 R (D)::aI v V L' X::F) (λv0 L0=>∃e D2 Y O J,kW D z.h z.rows (200 - 122) z.used (ml z V L' X) e D2 Y O J/\v0=wm e/\L0=aw b R (z.kept e Y O J V L' X)::al 179 319 R (D2)::yn ee::F):=by
 have hlen:=hC.v.len;have hrow:=nf (S:=z.S) (n:=z.n) hlen;have hlen':=hC'.v.len;have hrow':=nf (S:=V) (n:=X) hlen';have hml:=p8 (yf z.S z.L z.n) (yf V L' X);refine Ct.of func97 rR 26 ntmps97 (by simp) λw0=>?_;refine fj b R z ?_;intro bs bl so co bv rs rm;refine gS (gQ rR (qb ?_));refine yO (Lf:=[pt b (.cells #[ptr bs 0,ptr bv 0, .map (some rs), .map (some rm),I (z.next)] 103 (0,0))]) jS (by kernel_rfl) (by kernel_rfl) rR (by kernel_rfl) ?_;refine dM rR rR rR (dV rR (qa rR) (dF rR 0 Ph rR sizeOf95 rR (dL rR (ptr bs 0) PW rR (dM rR rR rR (dV rR (qa rR) (dF rR 1 Ph rR P3 rR (dL rR (ptr bv 0) PX rR (dM rR rR rR (av rR (uC (A0:=yn ee) call104 rR (zA (ee:=ee) bv z.S z.L z.n hC.sm)) rR ?_)))))))));rintro _ _ ⟨s14,c14,rfl,rfl⟩;refine yv s14 ?_;refine av rR (uC (A0:=yn ee) call104 rR (zA (ee:=ee) v V L' X hC'.sm)) rR ?_;rintro _ _ ⟨s16,c16,rfl,rfl⟩;refine yv s16 ?_;refine av rR (uC call172 rR (M5 (yf z.S z.L z.n) (yf V L' X) s14 s16 c14 c16 (by omega) (by omega) (k9 hC.wr) (k9 hC'.wr))) rR ?_;rintro _ _ ⟨s17,c17,rfl,rfl⟩;refine yv s17 ?_;refine av rR (uF call103 rR (CO bs R z.h bl so co z.rows 200 i z.used D hD.ok hi hD.s80 (by decide) hD.hd hD.len hD.okr hD.used hD.srt (mg (yf z.S z.L z.n) (yf V L' X)) s17 c17 (by omega))) rR ?_;rintro _ _ ⟨e,D2,Y,O,J,bl2,s2,Z,hcom,rfl,rfl⟩;refine dV rR (qt rR) ?_;refine qI ?_;refine qb (gS (gM rR (gV (eA OT rR) (qc ?_))));refine qd rfl ?_ ?_ <;> intro h20
 ·have he0:e=0:=(by simpa using h20);refine qo (gM rR (gM rR (gV (qa rR) (gF 1 Ph rR P3 rR (gU (qG #[ptr bs 0,ptr v 0, .map (some rs), .map (some rm),I z.next] P3 rR rR rR (by simp) rR) (qc (gS (gM rR (gQ rR ?_)))))))));refine yy b R (⟨Y,O,J,V,L',X,z.ses,z.mou,z.next⟩) bs bl2 s2 Z v rs rm ?_;exact qh (aw b R ⟨Y,O,J,V,L',X,z.ses,z.mou,z.next⟩::al 179 319 R (D2)::yn ee::F) rfl ⟨e,D2,Y,O,J,hcom,rfl,by unfold RpM.kept;rw[RI he0]⟩
 ·have he0:¬e=0:=(by simpa using h20);refine qf (gS (gM rR (gQ rR ?_)));refine yy b R (⟨Y,O,J,z.S,z.L,z.n,z.ses,z.mou,z.next⟩) bs bl2 s2 Z bv rs rm ?_;exact qh (aw b R ⟨Y,O,J,z.S,z.L,z.n,z.ses,z.mou,z.next⟩::al 179 319 R (D2)::yn ee::F) rfl ⟨e,D2,Y,O,J,hcom,rfl,by unfold RpM.kept;rw[RJ he0]⟩
def Fy (b V:Nat)(z:RpM)(id:Int)(F:List aa):Ct Tryz.prog 123 [ptr b 0,I id] (aw b V z::F) (R1 (Bo (bX z id)) (aw b V z::F)):=by
 refine Ct.of func123 rR 39 ntmps123 (by simp) λw0=>?_;refine fj b V z ?_;intro bs bl so co bv rs rm;refine jZ rs (λhnS=>?_);refine jZ rm (λhnM=>?_);refine gS (gQ rR (qb (qb ?_)));refine wY rs ?_;intro es clk;refine qo (gM rR (gV (qa rR) (gF 2 Ph rR Qg rR (gL (.map (some rs)) Ql rR (gI (fV Qm rR) ?_)))));rintro _ _ ⟨b13,rfl,rfl⟩;refine qc (qg ?_);refine qC (α:=MM×MM×Option (Int×Value)) (λy=>(y.2.1++y.1).Perm (bo z.ses)/\∀e∈z.ses,(e.key,ptr e.a 0)∈y.2.1->e.base≠id) (λ_=>U [(0,ptr b 0),(1,I id),(13,ptr b13 0)]) (λy=>dx b13 rs es clk y.1 y.2.2::cz rs es clk (bo z.ses)::pt b (.cells #[ptr bs 0,ptr bv 0, .map (some rs), .map (some rm),I (z.next)] 103 (0,0))::pt bs (.cells (bc V (z.h) bl so (z.rows.length) co) 198 (0,0))::pt bl (.cells (aC V 122 (200 - 122) (z.h.first) (z.used)) 273 (0,0))::roL 3 so (ah z.rows)::aI bv z.S z.L z.n::big eu z.ses::mp rm (bp z.mou)::big fb z.mou::F) (λy=>y.1.length) (bo z.ses,[],none) ⟨.refl _,by simp⟩ [0,1,13] rfl rfl ?_;rintro ⟨rest,done,cur⟩ ⟨hp,hdn⟩;simp only[] at hp hdn ⊢;refine gS (gI (fW rR) ?_);rintro _ _ (⟨hr,rfl,rfl⟩ | ⟨p,J,hq,rfl,rfl⟩)
 ·subst hr;have hS:∀e∈z.ses,e.base≠id:=λe D=>hdn e D (by have:=hp.mem_iff (a:=(e.key,ptr e.a 0));rw[T6] at this;exact this.2 (SR.2 ⟨e,D,rfl⟩));refine gV (qr rR rR) (qc (qb ?_));refine wo rR ?_;refine qw rR ?_;refine qb (qb ?_);refine qT rs ?_;refine wY rm ?_;intro es2 X;refine qo (gM rR (gV (qa rR) (gF 3 Ph rR Qn rR (gL (.map (some rm)) Qu rR (gI (fV Qv rR) ?_)))));rintro _ _ ⟨b28,rfl,rfl⟩;refine qc (qg ?_);refine qC (α:=MM×MM×Option (Int×Value)) (λy=>(y.2.1++y.1).Perm (bp z.mou)/\∀e∈z.mou,(e.key,ptr e.a 0)∈y.2.1->e.point≠id) (λ_=>U [(0,ptr b 0),(1,I id),(28,ptr b28 0)]) (λy=>dx b28 rm es2 X y.1 y.2.2::cz rm es2 X (bp z.mou)::pt b (.cells #[ptr bs 0,ptr bv 0, .map (some rs), .map (some rm),I (z.next)] 103 (0,0))::pt bs (.cells (bc V (z.h) bl so (z.rows.length) co) 198 (0,0))::pt bl (.cells (aC V 122 (200 - 122) (z.h.first) (z.used)) 273 (0,0))::roL 3 so (ah z.rows)::aI bv z.S z.L z.n::big eu z.ses::mp rs (bo z.ses)::big fb z.mou::F) (λy=>y.1.length) (bp z.mou,[],none) ⟨.refl _,by simp⟩ [0,1,28] rfl rfl ?_;rintro ⟨rest,done,cur⟩ ⟨hp,R⟩;simp only[] at hp R ⊢;refine gS (gI (fW rR) ?_);rintro _ _ (⟨hr,rfl,rfl⟩ | ⟨p,J,hq,rfl,rfl⟩)
  ·subst hr;have hM:∀e∈z.mou,e.point≠id:=λe D=>R e D (by have:=hp.mem_iff (a:=(e.key,ptr e.a 0));rw[T6] at this;exact this.2 (SR.2 ⟨e,D,rfl⟩));refine gV (qr rR rR) (qc (qb ?_));refine wo rR ?_;refine qw rR ?_;refine gS (gQ rR ?_);refine qT rm ?_;refine yy b V (z) bs bl so co bv rs rm ?_;exact ql rfl rfl (by show Bo false=_;congr 1;symm;unfold bX;rw[UZ,Us,Us];exact ⟨λe D=>by simpa using hS e D,λe D=>by simpa using hM e D⟩)
  ·obtain ⟨⟨i,e,D,rfl,hi⟩,hp2⟩:=Fv hnM hp hq;refine gV (qr rR rR) (qc (qb ?_));refine wZ rR ?_;refine qf (qg (gS (gV (fX rR) (gX (ptr e.a 0) rR (gQ rR (qb ?_))))));refine zM z.mou i D ?_;refine qo (gM rR (gV (qa rR) (gF 0 QO rR OH rR (gL (I e.point) OI rR (gM rR (gV (yD rR rR) (qc ?_)))))));refine yK (f:=fb) z.mou i e [pt e.a (.cells #[I e.point, .map (some e.r)] 215 (0,0)),mp e.r (dT e.over)] rfl hi ?_;rw[wI D];refine qd rfl ?_ ?_ <;> intro Z
   ·simp at Z;refine gS (gQ rR ?_);refine qT rm ?_;refine yy b V (z) bs bl so co bv rs rm ?_;exact ql rfl rfl (by show Bo true=_;congr 1;symm;unfold bX;rw[SN,U9,U9];exact .inr ⟨e,R5 D,by simpa using Z⟩)
   ·refine qf (qD ?_);refine qk (J,done++ [(e.key,ptr e.a 0)],some (e.key,ptr e.a 0)) ⟨hp2,λx hx O=>?_⟩ (by have:=hq.length_eq;simp at this;simp;omega) [0,1,28] rfl rfl;rcases Sc.1 O with O | O
    ·exact R x hx O
    ·have hk:x.key=e.key:=(by simp at O;exact O.1);rw[zO hnM hx (R5 D) hk];simpa using Z
 ·obtain ⟨⟨i,e,D,rfl,hi⟩,hp2⟩:=Fu hnS hp hq;refine gV (qr rR rR) (qc (qb ?_));refine wZ rR ?_;refine qf (qg (gS (gV (fX rR) (gX (ptr e.a 0) rR (gQ rR (qb ?_))))));refine zL z.ses i D ?_;refine qo (gM rR (gV (qa rR) (gF 0 Qb rR OH rR (gL (I e.base) OI rR (gM rR (gV (yD rR rR) (qc ?_)))))));refine yK (f:=eu) z.ses i e [pt e.a (.cells #[I e.base,I e.disk,I e.size,sl e.so e.puts.length e.co] 168 (0,0)),ai 86 2 e.so e.co (aE e.puts)] rfl hi ?_;rw[wI D];refine qd rfl ?_ ?_ <;> intro Y
  ·simp at Y;refine gS (gQ rR ?_);refine qT rs ?_;refine yy b V (z) bs bl so co bv rs rm ?_;exact ql rfl rfl (by show Bo true=_;congr 1;symm;unfold bX;rw[SN,U9,U9];exact .inl ⟨e,R5 D,by simpa using Y⟩)
  ·refine qf (qD ?_);refine qk (J,done++ [(e.key,ptr e.a 0)],some (e.key,ptr e.a 0)) ⟨hp2,λx hx O=>?_⟩ (by have:=hq.length_eq;simp at this;simp;omega) [0,1,13] rfl rfl;rcases Sc.1 O with O | O
   ·exact hdn x hx O
   ·have hk:x.key=e.key:=(by simp at O;exact O.1);rw[zN hnS hx (R5 D) hk];simpa using Y
def zQ {α:Type}(p:α->Bool):∀l:List α,l.find? p=l[l.findIdx p]?
 | []=>rfl
 | a::l=>by
  rw[List.find?_cons,Vg];cases h:p a with
  | true=>simp
  | false=>simpa using zQ p l
def dt (l:List SeE)(id:Int):Nat:=l.findIdx λe=>decide (e.key=id)
def fc (l:List MoE)(id:Int):Nat:=l.findIdx λe=>decide (e.key=id)
def ko {l:List SeE}{id:Int}{e:SeE}(h:aK l id=some e):l[dt l id]? =some e/\e.key=id/\dt l id<l.length:=by
 have D:=h;unfold aK at D;rw[zQ] at D;have J:=UR h;exact ⟨D,by simpa using J,(Re.1 D).1⟩
def kp {l:List MoE}{id:Int}{e:MoE}(h:bx l id=some e):l[fc l id]? =some e/\e.key=id/\fc l id<l.length:=by
 have D:=h;unfold bx at D;rw[zQ] at D;have J:=UR h;exact ⟨D,by simpa using J,(Re.1 D).1⟩
def ew (L:List Pt)(base disk:Int):Int:=if base=0 then 0 else match qS L base with
 | none=>5
 | some p=>if p.disk≠disk then 3 else 0
def yV (z:RpM)(base disk size:Int):Int:=if disk<1\/999<disk\/size<1\/16<size then 1 else if ew z.L base disk≠0 then ew z.L base disk else if z.ses.length=3 then 8 else 0
def RpM.sess (z:RpM)(l:List SeE):RpM:=⟨z.h,z.used,z.rows,z.S,z.L,z.n,l,z.mou,z.next⟩
def RpM.moun (z:RpM)(l:List MoE):RpM:=⟨z.h,z.used,z.rows,z.S,z.L,z.n,z.ses,l,z.next⟩
def RpM.begun (z:RpM)(a:Nat)(base disk size:Int):RpM:=⟨z.h,z.used,z.rows,z.S,z.L,z.n,z.ses++ [⟨z.next,a,none,0,base,disk,size,[]⟩],z.mou,z.next+1⟩
def RpM.mounted (z:RpM)(a r:Nat)(id:Int):RpM:=⟨z.h,z.used,z.rows,z.S,z.L,z.n,z.ses,z.mou++ [⟨z.next,a,r,id,[]⟩],z.next+1⟩
def dg (z:RpM)(id:Int):Int:=match qS z.L id with
 | none=>5
 | some _=>if z.mou.length=3 then 8 else 0
def wF (z:RpM)(id at_:Int):ab×Int:=match bx z.mou id with
 | none=>([],5)
 | some m=>if (bS z.S z.L m.point at_).2≠0 then ([],(bS z.S z.L m.point at_).2) else match eQ m.over at_ with
  | some d=>(d,0)
  | none=>((bS z.S z.L m.point at_).1,0)
def wH (z:RpM)(id at_:Int)(d:ab):Int:=if (wF z id at_).2≠0 then (wF z id at_).2 else if 6<d.length then 2 else 0
def RpM.written (z:RpM)(id at_:Int)(d:ab):RpM:=match bx z.mou id with
 | none=>z
 | some m=>z.moun (z.mou.set (fc z.mou id) ⟨m.key,m.a,m.r,m.point,fJ m.over at_ d⟩)
def p9 (x y k:Int)(w:World):(Instr.build 168 #[(0,I x),(1,I y),(2,I k)]).run Tryz.prog w= .ok (.agg #[I x,I y,I k,sl none 0 0]) w:=by
 simp[Instr.build,zeroValue168,runUnderlying168,OH,Instr.fill,qW,sl,show ∀k:Int,(I k).cells=#[I k] from λ_=>rfl]
def q6 (x:Int)(r:Nat)(w:World):(Instr.build 215 #[(0,I x),(1, .map (some r))]).run Tryz.prog w= .ok (.agg #[I x, .map (some r)]) w:=by
 simp[Instr.build,zeroValue215,runUnderlying215,OH,QD,Instr.fill,qW,show ∀k:Int,(I k).cells=#[I k] from λ_=>rfl,show (Value.map (some r)).cells=#[.map (some r)] from rfl]
def Fz (b O:Nat)(z:RpM)(base disk size:Int)(hR:Rok z)(F:List aa):Ct Tryz.prog 31 [ptr b 0,I base,I disk,I size] (aw b O z::F) (λv L'=>(yV z base disk size≠0/\v= .tuple #[I 0,wm (yV z base disk size)]/\L'=aw b O z::F)\/(yV z base disk size=0/\∃a,v= .tuple #[I z.next,wm 0]/\L'=aw b O (z.begun a base disk size)::F)):=by
 obtain ⟨G0,hC⟩:=hR.con;have hlen:=hC.v.len;have hnx:=hR.next;refine Ct.of func31 rR 67 ntmps31 (by simp) λw0=>?_;refine fj b O z ?_;intro bs bl so co bv rs rm;refine gS (gA rR (gQ rR (qb (gS (gM rR (gV (qH rR rR) (gM rR (gK rR rR (qn rR) (gK rR rR (qX rR rR) (gV (aD rR rR) (gM rR (gK rR rR (qn rR) (gK rR rR (qH rR rR) (gV (aD rR rR) (gM rR (gK rR rR (qn rR) (gK rR rR (qX rR rR) (gV (aD rR rR) (qc ?_)))))))))))))))))));refine qd rfl ?_ ?_ <;> intro Y
 ·have D:disk<1\/999<disk\/size<1\/16<size:=(by simp at Y;omega);refine gS (gV (qP OY rR rR) (gA rR (gQ rR ?_)));refine yy b O (z) bs bl so co bv rs rm ?_;exact qh (aw b O (z)::F) rfl (.inl ⟨by unfold yV;rw[RI D];decide,by unfold yV;rw[RI D];rfl,rfl⟩)
 ·have D:¬(disk<1\/999<disk\/size<1\/16<size):=(by simp at Y;omega);refine qf (qb (gS (gM rR (gV (da rR rR) (qc ?_)))));refine iq (α:=Unit) (λ_=>ew z.L base disk=0) (λ_=>U [(0,ptr b 0),(1,I base),(2,I disk),(3,I size)]) (λ_=>pt b (.cells #[ptr bs 0,ptr bv 0, .map (some rs), .map (some rm),I (z.next)] 103 (0,0))::pt bs (.cells (bc O (z.h) bl so (z.rows.length) co) 198 (0,0))::pt bl (.cells (aC O 122 (200 - 122) (z.h.first) (z.used)) 273 (0,0))::roL 3 so (ah z.rows)::aI bv z.S z.L z.n::mp rs (bo z.ses)::big eu z.ses::mp rm (bp z.mou)::big fb z.mou::F) ?_ ?_
  ·refine qd rfl ?_ ?_ <;> intro V
   ·simp at V;refine gS (gM rR (gV (qa rR) (gF 1 Ph rR P3 rR (gL (ptr bv 0) PX rR (gM rR (gR (vB call92 rR (yT bv z.S z.L z.n base (by omega))) (gM rR (gX (.agg (qL ((qS z.L base).getD aM)).toArray) rR (gX (Bo (qS z.L base).isSome) rR (gI (qA #[I 0,I 0,I 0,I 0] Pc) ?_))))))))));rintro _ _ ⟨b10,rfl,rfl⟩;refine gU (qp (cs:=#[I 0,I 0,I 0,I 0]) (vs:=qL (((qS z.L base).getD aM))) (qL (((qS z.L base).getD aM))).toArray OP rR rR rR rR (by simp) (qs rR)) (gQ rR (qb (gS (gM rR (gV (wb rR) (qc ?_))))));refine qd rfl ?_ ?_ <;> intro X
    ·simp at X;refine gS (gV (qP OY rR rR) (gA rR (gQ rR ?_)));refine yy b O (z) bs bl so co bv rs rm ?_;exact qh (aw b O (z)::F) rfl (have ho:ew z.L base disk=5:=by unfold ew;rw[RJ V,X]
      .inl ⟨by unfold yV;rw[RJ D,RI (by omega),ho];decide,by unfold yV;rw[RJ D,RI (by omega),ho];rfl,rfl⟩)
    ·simp at X;obtain ⟨p,hf⟩:=UG.1 X;rw[show (qS z.L base).getD aM=p by rw[hf];rfl];refine qf (gS (gF 1 O6 rR OH rR (gL (I p.disk) OI rR (gM rR (gV (da rR rR) (qc ?_))))));refine qd rfl ?_ ?_ <;> intro Z
     ·simp at Z;refine gS (gV (qP OY rR rR) (gA rR (gQ rR ?_)));refine yy b O (z) bs bl so co bv rs rm ?_;exact qh (aw b O (z)::F) rfl (have ho:ew z.L base disk=3:=by unfold ew;rw[RJ V,hf];simp only;rw[RI (by omega)]
       .inl ⟨by unfold yV;rw[RJ D,RI (by omega),ho];decide,by unfold yV;rw[RJ D,RI (by omega),ho];rfl,rfl⟩)
     ·simp at Z;refine qf ?_;exact cT () (by unfold ew;rw[RJ V,hf];simp only;rw[RJ (by omega)]) [0,1,2,3] rfl rfl
   ·simp at V;refine qf ?_;exact cT () (by unfold ew;rw[RI V]) [0,1,2,3] rfl rfl
  rintro _ hof;refine qb (gS (gM rR (gV (qa rR) (gF 2 Ph rR Qg rR (gL (.map (some rs)) Ql rR (gV (gO Qm rR) (gV (yD rR rR) (qc ?_))))))));refine qd rfl ?_ ?_ <;> intro h52
  ·have J:z.ses.length=3:=(by simp[bo] at h52;omega);refine gS (gV (qP OY rR rR) (gA rR (gQ rR ?_)));refine yy b O (z) bs bl so co bv rs rm ?_;exact qh (aw b O (z)::F) rfl (.inl ⟨by unfold yV;rw[RJ D,RJ (by omega),RI J];decide,by unfold yV;rw[RJ D,RJ (by omega),RI J];rfl,rfl⟩)
  ·have J:¬z.ses.length=3:=(by simp[bo] at h52;omega);refine qf (gS (gM rR (gR (vB call93 rR (Fw b (ptr bs 0) (ptr bv 0) (.map (some rs)) (.map (some rm)) z.next (by omega))) (gQ rR (gS (gM rR (gV (qa rR) (gF 2 Ph rR Qg rR (gL (.map (some rs)) Ql rR (gM rR (gM rR (gM rR (gM rR (gV (qF rR (p9 base disk size)) (gI (wR #[I base,I disk,I size,sl none 0 0] rfl rR) ?_)))))))))))))));rintro _ _ ⟨R,rfl,rfl⟩;refine cl (yk Qm OL rR rR rR) ?_;rintro _ _ rfl;rw[Fo (l:=z.ses) (e:=(⟨z.next,R,none,0,base,disk,size,[]⟩:SeE)) (λx hx=>by have:=hR.keyS x hx;show x.key≠z.next;omega)];refine yi 86 2 (aE []) rR ?_;refine sy (f:=eu) z.ses (⟨z.next,R,none,0,base,disk,size,[]⟩:SeE) [pt R (.cells #[I base,I disk,I size,sl none 0 0] 168 (0,0)),ai 86 2 none 0 (aE [])] rfl ?_;refine qc (gS (gM rR (gA rR (gQ rR ?_))));refine yy b O (⟨z.h,z.used,z.rows,z.S,z.L,z.n,z.ses++ [⟨z.next,R,none,0,base,disk,size,[]⟩],z.mou,z.next+1⟩) bs bl so co bv rs rm ?_;exact qh (aw b O (⟨z.h,z.used,z.rows,z.S,z.L,z.n,z.ses++ [⟨z.next,R,none,0,base,disk,size,[]⟩],z.mou,z.next+1⟩)::F) rfl (.inr ⟨by unfold yV;rw[RJ D,RJ (by omega),RJ J],R,rfl,rfl⟩)
def M6 (b D:Nat)(z:RpM)(id:Int)(F:List aa):Ct Tryz.prog 44 [ptr b 0,I id] (aw b D z::F) (λv L'=>(aK z.ses id=none/\v=wm 5/\L'=aw b D z::F)\/(∃e,aK z.ses id=some e/\v=wm 0/\L'=aw b D (z.sess (cr z.ses id))::F)):=by
 refine Ct.of func44 rR 18 ntmps44 (by simp) λw0=>?_;refine fj b D z ?_;intro bs bl so co bv rs rm;refine gS (gQ rfl (qb (gS (gM rfl (gV (qa rfl) (gF 2 Ph rfl Qg rfl (gL (.map (some rs)) Ql rfl (gM rfl (gV (yE (v:= .pointer ((aK z.ses id).map λe=>⟨e.a,0,none⟩)) Qm OL QY rfl rfl (by rw[jp];cases aK z.ses id <;> rfl)) (gV (jW QZ rfl) (qc ?_)))))))))));refine qd rfl ?_ ?_ <;> intro J
 ·have R:aK z.ses id=none:=(by simpa using J);refine gS (gV (qP OY rR rR) (gQ rR ?_));refine yy b D (z) bs bl so co bv rs rm ?_;exact qh (aw b D (z)::F) rfl (.inl ⟨R,rfl,rfl⟩)
 ·obtain ⟨e,O⟩:∃e,aK z.ses id=some e:=UG.1 (by cases X:aK z.ses id with
   | none=>rw[X] at J;cases J
   | some _=>rfl)
  obtain ⟨Y,V,Z⟩:=ko O;rw[O];refine qf (gS (gM rR (gV (qa rR) (gF 2 Ph rR Qg rR (gL (.map (some rs)) Ql rR (gM rR (cl (iz Qm OL rR rR) ?_)))))));rintro _ _ ⟨rfl,rfl⟩;rw[uk];refine mJ (f:=eu) z.ses (cr z.ses id) Tm ?_;refine qc (gS (gQ rR ?_));refine yy b D (⟨z.h,z.used,z.rows,z.S,z.L,z.n,cr z.ses id,z.mou,z.next⟩) bs bl so co bv rs rm ?_;exact qh (aw b D (⟨z.h,z.used,z.rows,z.S,z.L,z.n,cr z.ses id,z.mou,z.next⟩)::F) rfl (.inr ⟨e,rfl,rfl,rfl⟩)
def M7 (b D:Nat)(z:RpM)(id:Int)(F:List aa):Ct Tryz.prog 49 [ptr b 0,I id] (aw b D z::F) (λv L'=>(bx z.mou id=none/\v=wm 5/\L'=aw b D z::F)\/(∃e,bx z.mou id=some e/\v=wm 0/\L'=aw b D (z.moun (fa z.mou id))::F)):=by
 refine Ct.of func49 rR 18 ntmps49 (by simp) λw0=>?_;refine fj b D z ?_;intro bs bl so co bv rs rm;refine gS (gQ rfl (qb (gS (gM rfl (gV (qa rfl) (gF 3 Ph rfl Qn rfl (gL (.map (some rm)) Qu rfl (gM rfl (gV (yE (v:= .pointer ((bx z.mou id).map λe=>⟨e.a,0,none⟩)) Qv OL Q0 rfl rfl (by rw[kn];cases bx z.mou id <;> rfl)) (gV (jW underlying212 rfl) (qc ?_)))))))))));refine qd rfl ?_ ?_ <;> intro J
 ·have R:bx z.mou id=none:=(by simpa using J);refine gS (gV (qP OY rR rR) (gQ rR ?_));refine yy b D (z) bs bl so co bv rs rm ?_;exact qh (aw b D (z)::F) rfl (.inl ⟨R,rfl,rfl⟩)
 ·obtain ⟨e,O⟩:∃e,bx z.mou id=some e:=UG.1 (by cases X:bx z.mou id with
   | none=>rw[X] at J;cases J
   | some _=>rfl)
  obtain ⟨Y,V,Z⟩:=kp O;rw[O];refine qf (gS (gM rR (gV (qa rR) (gF 3 Ph rR Qn rR (gL (.map (some rm)) Qu rR (gM rR (cl (iz Qv OL rR rR) ?_)))))));rintro _ _ ⟨rfl,rfl⟩;rw[Fq];refine mJ (f:=fb) z.mou (fa z.mou id) Tm ?_;refine qc (gS (gQ rR ?_));refine yy b D (⟨z.h,z.used,z.rows,z.S,z.L,z.n,z.ses,fa z.mou id,z.next⟩) bs bl so co bv rs rm ?_;exact qh (aw b D (⟨z.h,z.used,z.rows,z.S,z.L,z.n,z.ses,fa z.mou id,z.next⟩)::F) rfl (.inr ⟨e,rfl,rfl,rfl⟩)
def M8 (b R:Nat)(z:RpM)(id:Int)(Z:Rok z)(F:List aa):Ct Tryz.prog 48 [ptr b 0,I id] (aw b R z::F) (λv L'=>(dg z id≠0/\v= .tuple #[I 0,wm (dg z id)]/\L'=aw b R z::F)\/(dg z id=0/\∃a r,v= .tuple #[I z.next,wm 0]/\L'=aw b R (z.mounted a r id)::F)):=by
 obtain ⟨G0,hC⟩:=Z.con;have hlen:=hC.v.len;have hnx:=Z.next;refine Ct.of func48 rR 40 ntmps48 (by simp) λw0=>?_;refine fj b R z ?_;intro bs bl so co bv rs rm;refine gS (gA rR (gQ rR (gS (gM rR (gV (qa rR) (gF 1 Ph rR P3 rR (gL (ptr bv 0) PX rR (gM rR (gR (vB call92 rR (yT bv z.S z.L z.n id (by omega))) (gM rR (gX (.agg (qL ((qS z.L id).getD aM)).toArray) rR (gX (Bo (qS z.L id).isSome) rR (gI (qA #[I 0,I 0,I 0,I 0] Pc) ?_)))))))))))));rintro _ _ ⟨b6,rfl,rfl⟩;refine gU (qp (cs:=#[I 0,I 0,I 0,I 0]) (vs:=qL (((qS z.L id).getD aM))) (qL (((qS z.L id).getD aM))).toArray OP rR rR rR rR (by simp) (qs rR)) (gQ rR (qb (gS (gM rR (gV (wb rR) (qc ?_))))));refine qd rfl ?_ ?_ <;> intro V
 ·simp at V;refine gS (gV (qP OY rR rR) (gA rR (gQ rR ?_)));refine yy b R (z) bs bl so co bv rs rm ?_;exact qh (aw b R (z)::F) rfl (have Y:dg z id=5:=by unfold dg;rw[V]
   .inl ⟨by rw[Y];decide,by rw[Y];rfl,rfl⟩)
 ·simp at V;obtain ⟨p,hf⟩:=UG.1 V;rw[show (qS z.L id).getD aM=p by rw[hf];rfl];refine qf (qb (gS (gM rR (gV (qa rR) (gF 3 Ph rR Qn rR (gL (.map (some rm)) Qu rR (gV (gO Qv rR) (gV (yD rR rR) (qc ?_)))))))));refine qd rfl ?_ ?_ <;> intro X
  ·have J:z.mou.length=3:=(by simp[bp] at X;omega);refine gS (gV (qP OY rR rR) (gA rR (gQ rR ?_)));refine yy b R (z) bs bl so co bv rs rm ?_;exact qh (aw b R (z)::F) rfl (have Y:dg z id=8:=by unfold dg;rw[hf];simp only;rw[RI J]
    .inl ⟨by rw[Y];decide,by rw[Y];rfl,rfl⟩)
  ·have J:¬z.mou.length=3:=(by simp[bp] at X;omega);refine qf (gS (gM rR (gR (vB call93 rR (Fw b (ptr bs 0) (ptr bv 0) (.map (some rs)) (.map (some rm)) z.next (by omega))) (gQ rR (gS (gM rR (gV (qa rR) (gF 3 Ph rR Qn rR (gL (.map (some rm)) Qu rR (gM rR (gM rR (gI (gW) ?_))))))))))));rintro _ _ ⟨D,rfl,rfl⟩;refine gV (qF rR (q6 id D)) (gI (wR #[I id, .map (some D)] rfl rR) ?_);rintro _ _ ⟨O,rfl,rfl⟩;refine cl (yk Qv OL rR rR rR) ?_;rintro _ _ rfl;rw[Fp (l:=z.mou) (e:=(⟨z.next,O,D,id,[]⟩:MoE)) (λx hx=>by have:=Z.keyM x hx;show x.key≠z.next;omega)];refine sy (f:=fb) z.mou (⟨z.next,O,D,id,[]⟩:MoE) [pt O (.cells #[I id, .map (some D)] 215 (0,0)),mp D []] rfl ?_;refine qc (gS (gM rR (gA rR (gQ rR ?_))));refine yy b R (⟨z.h,z.used,z.rows,z.S,z.L,z.n,z.ses,z.mou++ [⟨z.next,O,D,id,[]⟩],z.next+1⟩) bs bl so co bv rs rm ?_;exact qh (aw b R (⟨z.h,z.used,z.rows,z.S,z.L,z.n,z.ses,z.mou++ [⟨z.next,O,D,id,[]⟩],z.next+1⟩)::F) rfl (.inr ⟨by unfold dg;rw[hf];simp only;rw[RJ J],O,D,rfl,by unfold RpM.mounted;rfl⟩)
end Go.Proofs.YthdjckbjjfiopabGreatDoor