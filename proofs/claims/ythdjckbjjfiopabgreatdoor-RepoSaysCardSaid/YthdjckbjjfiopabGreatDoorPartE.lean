/- Several texts in one: walks and rules used by them. No condition. -/
import Derived.Test.YthdjckbjjfiopabGreatDoorPartB
import Derived.Test.YthdjckbjjfiopabGreatDoorPartD
import Derived.Test.YthdjckbjjfiopabGreatDoorShelf
import Derived.Test.YthdjckbjjfiopabGreatDoorPartA
import Derived.Test.YthdjckbjjfiopabGreatDoorPartC
set_option linter.unusedSimpArgs false
set_option linter.unusedVariables false
set_option linter.defProp false
set_option maxHeartbeats 800000
namespace Go.Proofs.YthdjckbjjfiopabGreatDoor
open Go.Sl Go.Proofs Go.Sort
def tk {w0:World}{L:List aa}:∀(l:List Obj) {w:World},Sat w0 w L->Sat w0 {w with heap:=w.heap++l.toArray} L
 | [],w,h=>by simpa using h
 | o::l,w,h=>by
  have:=tk l (h.alloc o).tail;have e:w.heap++(o::l).toArray=w.heap.push o++l.toArray:=(by apply TO;simp);rw[e];exact this
def KN (D:List Int)(cs:Array Value)(k:Nat)(h:k<D.length)(J:D.length<=cs.size):(putCells (Value.int .i64) 0 D.toArray cs)[k]? =some (I D[k]):=by
 have:k<cs.size:=(by omega);simp[putCells,this,h,I]
def tl (h:List Int)(s:Option Addr)(n cap:Nat)(hn:n=h.length)(R:h.length<4611686018427387904)(F:List aa):
  Ct Tryz.prog 208 [sl s n cap] (ai 3 1 s cap (yC h)::F) (R1 (.tuple #[]) (ai 3 1 s cap (yC (h.mergeSort λx y=>decide (x<=y)))::F)):=λw0 w hS=>by
 subst hn;rcases wa hS with ⟨rfl,hr,rfl,J⟩ | ⟨b,cs,rfl,h1,Y,h3,h4,J⟩
 ·have hz:h=[]:=(by simpa [yC] using hr);subst hz;refine (Tryz.slices_Sort_int_none none 0 w).mono ?_;rintro e w' ⟨rfl,rfl⟩;exact ⟨_,hS,rfl,by simp[List.mergeSort]⟩
 ·have S:=J.at_;have V:h.length<=cs.size:=(by simp[yC] at Y;omega);have hH:Holds (Value.int .i64) w b 0 h.toArray:=λj O=>by
   have D:j<h.length:=(by simpa using O);have hc:=h4 j [I h[j]] (by simp[yC,D]) 0 (I h[j]) rfl;have:=ge S hc;refine ⟨?_,by simp[World.frozen?,S]⟩;simpa [D,I] using this
  refine (Tryz.slices_Sort_int b 0 cap h w hH (Rk.1 S).1 R).mono ?_;rintro e w' ⟨rfl,m,os,rfl⟩;have hml:(h.mergeSort λx y=>decide (x<=y)).length=h.length:=(by simp);have e1:putRow (Value.int .i64) (Sort.ahead w m) b 0 (h.mergeSort λx y=>decide (x<=y)).toArray={(Sort.ahead w m) with heap:=(Sort.ahead w m).heap.setIfInBounds b (.cells (putCells (Value.int .i64) 0 (h.mergeSort λx y=>decide (x<=y)).toArray cs) 3 (0,0))}:=by
   unfold putRow mapBlock;congr 1;apply RS;intro i;rw[RT,RU];have R:=(Rk.1 S).1;show (if b=i then _ else _)=_;by_cases hk:b=i
   ·subst hk;have he:(Sort.ahead w m).heap[b]? =some (.cells cs 3 (0,0)):=S;rw[RI rfl,RI rfl,he,RI (by exact R)]
    rfl
   ·rw[RJ hk,RJ hk]
  rw[e1];have Z:=(J.drew (w.drawn+m)).set (w':={(Sort.ahead w m) with heap:=(Sort.ahead w m).heap.setIfInBounds b (.cells (putCells (Value.int .i64) 0 (h.mergeSort λx y=>decide (x<=y)).toArray cs) 3 (0,0))}) rfl;have hS3:=tk os.toList Z;refine ⟨_,fK (cap:=cap) (sz:=1) (rows:=yC (h.mergeSort λx y=>decide (x<=y))) hS3 (by simp[putCells,h1]) (by simp[yC] at Y ⊢;exact Y) (by simp[yC]) ?_,rfl,rfl⟩;intro j row O f v hf;have D:j<(h.mergeSort λx y=>decide (x<=y)).length:=by
   have:=(Re.1 O).1;simpa [yC] using this
  have X:row=[I (h.mergeSort λx y=>decide (x<=y))[j]]:=by
   simp only[yC,Rc,S6 D,Option.map_some] at O;injection O with O;exact O.symm
  subst X;have hf0:f=0:=by
   have:=(Re.1 hf).1;simp at this;exact this
  subst hf0;simp at hf;simp only[yd,Sa,TP,RQ];rw[KN _ _ _ D (by rw[hml];exact V),<-hf]
end Go.Proofs.YthdjckbjjfiopabGreatDoor
namespace Go.Proofs.YthdjckbjjfiopabGreatDoor
open _root_.Go.Proofs.Tryz
open Go.Sl Go.Proofs
abbrev Bk:=List UInt8×Int
abbrev bV:=Int->Option Bk
abbrev am (x:Bk):Value:= .agg [ac x.1,I x.2].toArray
def Dg (b:Nat)(B:bV)(r:Nat):List aa:=[pt b (.cells #[.map (some r)] 234 (0,0)),mp r (tb am 40 B)]
def bi (b:Nat)(B:bV):aa:=hx (Dg b B)
def oR (B:bV):Prop:=bh 40 B/\∀q x,B q=some x->0<x.2/\x.2<9223372036854775807
def cK (B:bV)(d:ab):Int×Int:=if 6<d.length\/d=[] then (0,3) else match wK 40 B with | none=>(0,8) | some k=>(k,0)
def dp (B:bV)(d:ab):bV:=if 6<d.length\/d=[] then B else match wK 40 B with | none=>B | some k=>qy B k (some (d,1))
def iI (B:bV)(q:Int):ab×Int:=match B q with | none=>([],5) | some x=>(x.1,0)
def fv (B:bV)(q:Int):Int:=if (B q).isSome then 0 else 5
def bj (B:bV)(q n:Int):bV:=match B q with | none=>B | some x=>qy B q (if x.2+n=0 then none else some (x.1,x.2+n))
def xn {ρ:Type}(B:Int->Option ρ)(k:Int)(x y:Option ρ):qy (qy B k x) k y=qy B k y:=funext λq=>by unfold qy;split <;> rfl
section
variable {c:Cx}{E:ap}{L:List aa}{K:List KI}
def iJ {F:List aa}(b:Nat)(B:bV)[R:Rem L (bi b B) F](k:∀r,G c K E (pt b (.cells #[.map (some r)] 234 (0,0))::mp r (tb am 40 B)::F)):G c K E L:=fP (bi b B) rfl λz=>k z
def ww {F:List aa}{M:MM}(r b:Nat)(B:bV)(h:M.Perm (tb am 40 B))[S:Split L [pt b (.cells #[.map (some r)] 234 (0,0)),mp r M] F](k:G c K E (bi b B::F)):G c K E L:=λa w V X=>by
 have O:Sat c.w0 w (pt b (.cells #[.map (some r)] 234 (0,0))::mp r M::F):=S.sat X;have Z:Split (mp r M::F) [] (mp r M::F):=inferInstance;refine k a w V (Sat.hx_mk (A:=Dg b B) r ?_);have r2:Rem (pt b (.cells #[.map (some r)] 234 (0,0))::mp r M::F) (mp r M) (pt b (.cells #[.map (some r)] 234 (0,0))::F):=inferInstance;have D:=(r2.sat O).ex;obtain ⟨⟨es,clk⟩,D⟩:=D;have R:Sat c.w0 w (mp r (tb am 40 B)::pt b (.cells #[.map (some r)] 234 (0,0))::F):=Sat.ex_mk (A:=λp:Array MapEntry×Nat=>λm=>MOk p.1 p.2 (tb am 40 B)/\m r=some (.map p.1 p.2,false)) (es,clk) (D.weak λm J=>⟨J.1.perm_ h,J.2⟩);have Y:Rem (mp r (tb am 40 B)::pt b (.cells #[.map (some r)] 234 (0,0))::F) (pt b (.cells #[.map (some r)] 234 (0,0))) (mp r (tb am 40 B)::F):=inferInstance;exact Y.sat R
end
def fw {B:bV}(h:bh 40 B)(q:Int):lk (tb am 40 B) q=(B q).map am:=vh am h q
def Dh {D rest:MM}{k:Int}{v:Value}(h:lk D k=none):(dw D k v++rest).Perm (D++(k,v)::rest):=by
 unfold dw;rw[RJ (by simp[h]),Sr];exact .refl _
def Di {h rest M:MM}{k:Int}{v:Value}(R:(h++(k,v)::rest).Perm M)(O:(M.map (·.1)).Nodup):lk h k=none:=by
 rw[lk_none];intro p D e;have J:=(R.map (·.1)).nodup_iff.2 O;rw[RA,Tk] at J;exact J.2.2 p.1 (SR.2 ⟨p,D,rfl⟩) k (by simp) e
def Dj (F:List aa):Ct Tryz.prog 191 [] (F) (λv L'=>∃b,v=ptr b 0/\L'=bi b (λ_=>none)::F):=by
 refine Ct.of func191 rR 4 ntmps191 (by simp) λw0=>?_;refine gS (gQ rR (gS (gI (gW) ?_)));rintro _ _ ⟨b1,rfl,rfl⟩;refine gV (qF rR (Hs _ rR)) (gI (wR #[.map (some b1)] rfl rR) ?_);rintro _ _ ⟨h,rfl,rfl⟩;refine gQ rR ?_;refine ww b1 h (λ_=>none) (by rw[ly]) ?_;exact λa w D J=>wp_ret (yu (qB (vs:=[ptr h 0]) rfl D J ⟨h,rfl,rfl⟩))
def KO (b:Nat)(B:bV)(id:Int)(J:oR B)(F:List aa):Ct Tryz.prog 173 [ptr b 0,I id] (bi b B::F) (R1 (.tuple #[ac (iI B id).1,bg 117 (iI B id).2]) (bi b B::F)):=by
 refine Ct.of func173 rR 22 ntmps173 (by simp) λw0=>?_;refine iJ b (B) ?_;intro r;refine gS (gA rR (gQ rR (gS (gM rR (gV (qa rR) (gF 0 PI rR PG rR (gV (qu PJ rR rR) (gM rR ?_))))))));rcases hB0:B id with _ | ⟨d,n⟩
 ·have h:(lk (tb am 40 B) id).getD (.agg #[ac [],I 0])= .agg #[ac [],I 0]:=(by rw[fw J.1,hB0];rfl);have D:(lk (tb am 40 B) id).isSome=false:=(by rw[fw J.1,hB0];rfl);refine gV (ws (M:=tb am 40 B) (q:=id) PB OL PE rR rR h D) (gM rR (gV (qr rR rR) (gV (qr rR rR) (gI (qA #[ac [],I 0] PE) ?_))));rintro _ _ ⟨O,rfl,rfl⟩;refine gU (qp _ Po rR rR rR rR (by decide) rR) (gQ rR (qb (gS (gM rR (gV (wb rR) (qc ?_))))));refine wZ rR ?_;refine gS (gV (qP OY rR rR) (gA rR (gQ rR ?_)));refine ww r b (B) (.refl _) ?_;exact ql rfl rfl (by unfold iI;rw[hB0];rfl)
 ·have h:(lk (tb am 40 B) id).getD (.agg #[ac [],I 0])= .agg #[ac d,I n]:=(by rw[fw J.1,hB0];rfl);have D:(lk (tb am 40 B) id).isSome=true:=(by rw[fw J.1,hB0];rfl);have R:=J.2 id _ hB0;have S:=J.1 id _ hB0;simp only at R;refine gV (ws (M:=tb am 40 B) (q:=id) PB OL PE rR rR h D) (gM rR (gV (qr rR rR) (gV (qr rR rR) (gI (qA #[ac [],I 0] PE) ?_))));rintro _ _ ⟨O,rfl,rfl⟩;refine gU (qp _ Po rR rR rR rR (by decide) rR) (gQ rR (qb (gS (gM rR (gV (wb rR) (qc ?_))))));refine wo rR ?_;refine qf (gS (gF 0 PC rR ON rR (gL (ac d) OQ rR (gA rR (gQ rR ?_)))));refine ww r b (B) (.refl _) ?_;exact ql rfl rfl (by unfold iI;rw[hB0];rfl)
def KQ (b:Nat)(B:bV)(id:Int)(J:oR B)(F:List aa):Ct Tryz.prog 265 [ptr b 0,I id] (bi b B::F) (R1 (bg 117 (fv B id)) (bi b (bj B id 1)::F)):=by
 refine Ct.of func265 rR 29 ntmps265 (by simp) λw0=>?_;refine iJ b (B) ?_;intro r;refine gS (gQ rR (gS (gM rR (gV (qa rR) (gF 0 PI rR PG rR (gV (qu PJ rR rR) (gM rR ?_)))))));rcases hB0:B id with _ | ⟨d,n⟩
 ·have h:(lk (tb am 40 B) id).getD (.agg #[ac [],I 0])= .agg #[ac [],I 0]:=(by rw[fw J.1,hB0];rfl);have D:(lk (tb am 40 B) id).isSome=false:=(by rw[fw J.1,hB0];rfl);refine gV (ws (M:=tb am 40 B) (q:=id) PB OL PE rR rR h D) (gM rR (gV (qr rR rR) (gV (qr rR rR) (gI (qA #[ac [],I 0] PE) ?_))));rintro _ _ ⟨O,rfl,rfl⟩;refine gU (qp _ Po rR rR rR rR (by decide) rR) (gQ rR (qb (gS (gM rR (gV (wb rR) (qc ?_))))));refine wZ rR ?_;refine gS (gV (qP OY rR rR) (gQ rR ?_));refine ww r b (B) (.refl _) ?_;have e:bi b B=bi b (bj B id 1):=(by unfold bj;rw[hB0]);rw[e];exact ql rfl rfl (by unfold fv;rw[hB0];rfl)
 ·have h:(lk (tb am 40 B) id).getD (.agg #[ac [],I 0])= .agg #[ac d,I n]:=(by rw[fw J.1,hB0];rfl);have D:(lk (tb am 40 B) id).isSome=true:=(by rw[fw J.1,hB0];rfl);have R:=J.2 id _ hB0;have S:=J.1 id _ hB0;simp only at R;refine gV (ws (M:=tb am 40 B) (q:=id) PB OL PE rR rR h D) (gM rR (gV (qr rR rR) (gV (qr rR rR) (gI (qA #[ac [],I 0] PE) ?_))));rintro _ _ ⟨O,rfl,rfl⟩;refine gU (qp #[ac d,I n] Po rR rR rR rR (by decide) rR) (gQ rR (qb (gS (gM rR (gV (wb rR) (qc ?_))))));refine wo rR ?_;refine qf (gS (gF 1 PC rR OH rR (gV (qu OI rR rR) (gP rR rR (by omega) (gF 1 PC rR OH rR (gU (qG #[ac d,I (n+1)] OH rR rR rR (by simp) rR) (qc (qb ?_))))))));refine yO (Lf:=[pt b (.cells #[.map (some r)] 234 (0,0)),pt O (.cells #[ac d,I (n+1)] 183 (0,0))]) jA (by kernel_rfl) (by kernel_rfl) rR (by kernel_rfl) ?_;refine dM rR rR rR (dV rR (qa rR) (dF rR 0 PI rR PG rR (dV rR (qu PJ rR rR) (dM rR rR rR (dV rR (qJ (vs:=[ac d,I (n+1)]) QN Po rR rR qQ) (fl rR (yk PB OL rR rR rR) ?_))))));rintro _ _ rfl;refine qI ?_;refine gS (gQ rR ?_);refine ww r b (qy B id (some (d,n+1))) (ja am (x:=(d,n+1)) S) ?_;have e:bj B id 1=qy B id (some (d,n+1)):=(by unfold bj;rw[hB0];simp only;rw[RJ (by omega)]);rw[<-e];exact ql rfl rfl (by unfold fv;rw[hB0];rfl)
def Dm (b:Nat)(B:bV)(id:Int)(J:oR B)(F:List aa):Ct Tryz.prog 231 [ptr b 0,I id] (bi b B::F) (R1 (bg 117 (fv B id)) (bi b (bj B id (-1))::F)):=by
 refine Ct.of func231 rR 37 ntmps231 (by simp) λw0=>?_;refine iJ b (B) ?_;intro r;refine gS (gQ rR (gS (gM rR (gV (qa rR) (gF 0 PI rR PG rR (gV (qu PJ rR rR) (gM rR ?_)))))));rcases hB0:B id with _ | ⟨d,n⟩
 ·have h:(lk (tb am 40 B) id).getD (.agg #[ac [],I 0])= .agg #[ac [],I 0]:=(by rw[fw J.1,hB0];rfl);have D:(lk (tb am 40 B) id).isSome=false:=(by rw[fw J.1,hB0];rfl);refine gV (ws (M:=tb am 40 B) (q:=id) PB OL PE rR rR h D) (gM rR (gV (qr rR rR) (gV (qr rR rR) (gI (qA #[ac [],I 0] PE) ?_))));rintro _ _ ⟨R,rfl,rfl⟩;refine gU (qp _ Po rR rR rR rR (by decide) rR) (gQ rR (qb (gS (gM rR (gV (wb rR) (qc ?_))))));refine wZ rR ?_;refine gS (gV (qP OY rR rR) (gQ rR ?_));refine ww r b (B) (.refl _) ?_;have e:bi b B=bi b (bj B id (-1)):=(by unfold bj;rw[hB0]);rw[e];exact ql rfl rfl (by unfold fv;rw[hB0];rfl)
 ·have h:(lk (tb am 40 B) id).getD (.agg #[ac [],I 0])= .agg #[ac d,I n]:=(by rw[fw J.1,hB0];rfl);have D:(lk (tb am 40 B) id).isSome=true:=(by rw[fw J.1,hB0];rfl);have V:=J.2 id _ hB0;have S:=J.1 id _ hB0;simp only at V;refine gV (ws (M:=tb am 40 B) (q:=id) PB OL PE rR rR h D) (gM rR (gV (qr rR rR) (gV (qr rR rR) (gI (qA #[ac [],I 0] PE) ?_))));rintro _ _ ⟨R,rfl,rfl⟩;refine gU (qp #[ac d,I n] Po rR rR rR rR (by decide) rR) (gQ rR (qb (gS (gM rR (gV (wb rR) (qc ?_))))));refine wo rR ?_;refine qf (gS (gF 1 PC rR OH rR (gV (qu OI rR rR) (gV (cZ rR rR (ao (by omega))) (gF 1 PC rR OH rR (gU (qG #[ac d,I (n - 1)] OH rR rR rR (by simp) rR) (qc (qb ?_))))))));refine yO (Lf:=[pt b (.cells #[.map (some r)] 234 (0,0)),pt R (.cells #[ac d,I (n - 1)] 183 (0,0))]) jA (by kernel_rfl) (by kernel_rfl) rR (by kernel_rfl) ?_;refine dM rR rR rR (dV rR (qa rR) (dF rR 0 PI rR PG rR (dV rR (qu PJ rR rR) (dM rR rR rR (dV rR (qJ (vs:=[ac d,I (n - 1)]) QN Po rR rR qQ) (fl rR (yk PB OL rR rR rR) ?_))))));rintro _ _ rfl;refine qI ?_;refine qb (gS (gF 1 PC rR OH rR (gV (qu OI rR rR) (gV (yD rR rR) (qc ?_)))));refine qd rfl ?_ ?_ <;> intro O
  ·simp at O;refine gY r (tb am 40 (qy B id (some (d,n - 1)))) (ja am (x:=(d,n - 1)) S) ?_;refine qo (gM rR (gV (qa rR) (gF 0 PI rR PG rR (gV (qu PJ rR rR) (gM rR (cl (iz PB OL rR rR) ?_))))));rintro _ _ ⟨rfl,rfl⟩;refine qc (gS (gQ rR ?_));refine gY r (tb am 40 (qy B id none)) (by rw[<-xn B id (some (d,n - 1)) none];exact Il am) ?_;refine ww r b (qy B id none) (.refl _) ?_;have e:bj B id (-1)=qy B id none:=(by unfold bj;rw[hB0];simp only;rw[RI (by omega)]);rw[<-e];exact ql rfl rfl (by unfold fv;rw[hB0];rfl)
  ·simp at O;refine qf (gS (gQ rR ?_));refine ww r b (qy B id (some (d,n - 1))) (ja am (x:=(d,n - 1)) S) ?_;have e:bj B id (-1)=qy B id (some (d,n - 1)):=(by unfold bj;rw[hB0];simp only;rw[RJ (by omega)];rfl);rw[<-e];exact ql rfl rfl (by unfold fv;rw[hB0];rfl)
def KR (b:Nat)(B:bV)(F:List aa):Ct Tryz.prog 209 [ptr b 0] (bi b B::F) (λv L'=>∃q,v=ptr q 0/\L'=bi q (B)::bi b B::F):=by
 refine Ct.of func209 rR 24 ntmps209 (by simp) λw0=>?_;refine iJ b (B) ?_;intro r;refine gS (gQ rR (gS (gI (uA call191 rR Dj) ?_)));rintro _ _ ⟨q,rfl,rfl⟩;refine gQ rR ?_;refine iJ q (λ_=>none) ?_;intro r2;refine gY r2 [] (by rw[ly]) ?_;refine wY r ?_;intro es clk;refine qb (gS (gM rR (gV (qa rR) (gF 0 PI rR PG rR (gV (qu PJ rR rR) (gI (fV PB rR) ?_))))));rintro _ _ ⟨J,rfl,rfl⟩;refine qc (qg ?_);refine qC (α:=MM×MM×Option (Int×Value)) (λz=>(z.2.1++z.1).Perm (tb am 40 B)) (λ_=>U [(0,ptr b 0),(3,ptr q 0),(11,ptr J 0)]) (λz=>dx J r es clk z.1 z.2.2::cz r es clk (tb am 40 B)::pt b (.cells #[.map (some r)] 234 (0,0))::pt q (.cells #[.map (some r2)] 234 (0,0))::mp r2 z.2.1::F) (λz=>z.1.length) (tb am 40 B,[],none) (.refl _) [0,3,11] rfl rR ?_;rintro ⟨rest,D,cur⟩ R;simp only at R;refine gS (gI (fW rR) ?_);rintro _ _ (⟨hr,rfl,rfl⟩ | ⟨⟨k,v⟩,h,S,rfl,rfl⟩)
 ·subst hr;have hg:D.Perm (tb am 40 B):=(by simpa using R);refine gV (qr rR rR) (qc (qb ?_));refine wo rR ?_;refine qw rR ?_;refine gS (gM rR (gQ rR ?_));refine ww r2 q (B) (hg) ?_;refine qT r ?_;refine ww r b (B) (.refl _) ?_;refine dK (L2:=bi q B::bi b B::F) ?_;exact λa w Y Z=>wp_ret (yu (qB (vs:=[ptr q 0]) rfl Y Z ⟨q,rfl,rfl⟩))
 ·obtain ⟨x,hx,V,hk⟩:=mE (R.mem_iff.1 (UE _ (S.mem_iff.2 (TQ ..))));simp only at V hk hx;subst V;have O:(D++(k,am x)::h).Perm (tb am 40 B):=(S.append_left D).symm.trans R;have hl:=Di O (j2 am 40 B);refine gV (qr rR rR) (qc (qb ?_));refine wZ rR ?_;refine qf (qg (gS (gV (fX rR) (gX (I k) rR (gX (am x) rR (gI (qA #[ac [],I 0] PE) ?_))))));rintro _ _ ⟨X,rfl,rfl⟩;refine gA rR (gU (qp (vs:=[ac x.1,I x.2]) #[ac x.1,I x.2] Po rR rR rR rR (by decide) rR) (qc ?_));refine yO (Lf:=[pt q (.cells #[.map (some r2)] 234 (0,0)),pt X (.cells #[ac x.1,I x.2] 183 (0,0))]) jA (by kernel_rfl) (by kernel_rfl) rR (by kernel_rfl) ?_;refine dM rR rR rR (dV rR (qa rR) (dF rR 0 PI rR PG rR (dV rR (qu PJ rR rR) (dM rR rR rR (dV rR (qJ (vs:=[ac x.1,I x.2]) QN Po rR rR qQ) (fl rR (yk PB OL rR rR rR) ?_))))));rintro _ _ rfl;refine qI ?_;refine qD ?_;refine qk (h,dw D k (am x),some (k,am x)) ((Dh hl).trans O) (by have:=S.length_eq;simp at this;simp;omega) [0,3,11] rfl rfl
def Dn (b:Nat)(B:bV)(F:List aa):Ct Tryz.prog 137 [ptr b 0] (bi b B::F) (dU 3 1 (aj 40 B).length (yC (aj 40 B)) (bi b B::F)):=by
 refine Ct.of func137 rR 21 ntmps137 (by simp) λw0=>?_;refine iJ b (B) ?_;intro r;refine wY r ?_;intro es clk;refine yi 3 1 (yC []) rR ?_;refine gS (gQ rR (gS (gQ rR (qb (gS (gM rR (gV (qa rR) (gF 0 PI rR PG rR (gV (qu PJ rR rR) (gI (fV PB rR) ?_))))))))));rintro _ _ ⟨Y,rfl,rfl⟩;refine qc (qg ?_);refine qC (α:=MM×List Int×Option (Int×Value)×Option Addr×Nat) (λz=>(z.2.1++z.1.map (·.1)).Perm (aj 40 B)) (λz=>U [(0,ptr b 0),(9,ptr Y 0),(3,sl z.2.2.2.1 z.2.1.length z.2.2.2.2)]) (λz=>dx Y r es clk z.1 z.2.2.1::cz r es clk (tb am 40 B)::pt b (.cells #[.map (some r)] 234 (0,0))::ai 3 1 z.2.2.2.1 z.2.2.2.2 (yC z.2.1)::F) (λz=>z.1.length) (tb am 40 B,[],none,none,0) (by rw[SK,kL]) [0,9,3] rfl rR ?_;rintro ⟨rest,D,cur,s,c⟩ J;simp only[] at J ⊢;have hzl:D.length<=40:=(by have S:=J.length_eq;have h2:=wh 40 B;simp at S;omega);refine gS (gI (fW rR) ?_);rintro _ _ (⟨O,rfl,rfl⟩ | ⟨⟨k,v⟩,h,Z,rfl,rfl⟩)
 ·subst O;simp only[RC,T6] at J;refine gV (qr rR rR) (qc (qb ?_));refine wo rR ?_;refine qw rR ?_;refine gS (gM rR (gR (vB call208 rR (tl D s D.length c rR (by omega))) ?_));rw[sj J];refine qc (gS (gM rR (gQ rR ?_)));refine qT r ?_;refine ww r b (B) (.refl _) ?_;exact wk rfl rfl rfl (by rw[J.length_eq])
 ·have V:(D++k::h.map (·.1)).Perm (aj 40 B):=by
   have S:=((Z.map (·.1)).append_left D).symm.trans J;simpa using S
  refine gV (qr rR rR) (qc (qb ?_));refine wZ rR ?_;refine qf (qg (gS (gV (fX rR) (gX (I k) rR (gQ rR (qo (gM rR (gM rR (gI (qj [[I k]] OO OH Pe rR rR rR (by simp) (by decide) (by decide)) ?_)))))))));rintro _ _ ⟨b16,rfl,rfl⟩;refine gI (qN OO OH Pe rfl Tryz.typeInfo3 (by decide) rfl rfl (yh _) rfl (by simp) (by intro r O;simp at O;subst O;rfl) ⟨by omega,by decide,by decide⟩) ?_;rintro _ _ ⟨X,R,rfl,rfl⟩;refine gQ rR (qD ?_);rw[show yC D++ [[I k]]=yC (D++ [k]) by simp[yC]];refine qk (h,D++ [k],some (k,v),X,R) (by simpa using V) (by have:=Z.length_eq;simp at this;simp;omega) [0,9,3] rfl (by simp[U])
def KS (b:Nat)(B:bV)(d:ab)(Y:oR B)(hd:d.length<=9223372036854775807)(F:List aa):Ct Tryz.prog 264 [ptr b 0,ac d] (bi b B::F) (R1 (.tuple #[I (cK B d).1,bg 117 (cK B d).2]) (bi b (dp B d)::F)):=by
 refine Ct.of func264 rR 40 ntmps264 (by simp) λw0=>?_;refine gS (gA rR (gQ rR (qb (gS (gM rR (gV (yZ OM rR) (gV (qX rR rR) (gM rR (gK rR rR (qn rR) (gK rR rR (wl rR rR) (gV (aD rR rR) (qc ?_))))))))))));refine qd rfl ?_ ?_ <;> intro J
 ·simp at J;have D:6<d.length\/d=[]:=J.imp (λh=>by omega) id;refine gS (gV (qP OY rR rR) (gA rR (gQ rR ?_)));have R:cK B d=(0,3):=(by unfold cK;rw[RI D]);have S:dp B d=B:=(by unfold dp;rw[RI D]);rw[R,S];exact ql rfl rfl rfl
 ·simp at J;have D:¬(6<d.length\/d=[]):=λh=>h.elim (λh=>by omega) J.2;refine qf (qb (qb ?_));refine iJ b (B) ?_;intro r;refine qo (gM rR (gV (qa rR) (gF 0 PI rR PG rR (gL (.map (some r)) PJ rR (gV (gO PB rR) (gV (yD rR rR) (qc ?_)))))));refine qd rfl ?_ ?_ <;> intro O
  ·simp at O;rw[eC] at O;have X:=full_iff.1 (show (aj 40 B).length=40 by omega);refine gS (gV (qP OY rR rR) (gA rR (gQ rR ?_)));have R:cK B d=(0,8):=(by unfold cK;rw[RJ D,X]);have S:dp B d=B:=(by unfold dp;rw[RJ D,X]);rw[R,S];refine ww r b (B) (.refl _) ?_;exact ql rfl rfl rfl
  ·simp at O;rw[eC] at O;obtain ⟨m,hm⟩:=BB (n:=40) (B:=B) (by omega);have hf:=g9 hm;refine qf (gS (gQ rR (qb (qg ?_))));refine qC (α:=Nat) (λk=>1<=k/\k<=m) (λk=>U [(0,ptr b 0),(1,ac d),(6,I k)]) (λ_=>pt b (.cells #[.map (some r)] 234 (0,0))::mp r (tb am 40 B)::F) (λk=>m - k) 1 ⟨by omega,by omega⟩ [0,1,6] rfl rR ?_;intro k h0;obtain ⟨e,n,Z,hnk⟩:∃e n,(lk (tb am 40 B) (k:Int)).getD (.agg #[ac [],I 0])= .agg [ac e,I n].toArray/\(0<n ↔ k<m):=by
    rcases hB0:B (k:Int) with _ | ⟨e,n⟩
    ·exact ⟨[],0,by rw[fw Y.1,hB0];rfl,by simp;exact (Rq k m).elim (λh=>by have:=hf.2.2 k h0.1 h;rw[hB0] at this;cases this) id⟩
    ·exact ⟨e,n,by rw[fw Y.1,hB0];rfl,by
      have h1:=Y.2 k _ hB0;simp only at h1;have h2:k≠m:=λe=>(by rw[e,hf.2.1] at hB0;cases hB0);omega⟩
   refine qb (gS (gM rR (gV (qa rR) (gF 0 PI rR PG rR (gV (qu PJ rR rR) (gM rR (gV (yE (v:= .agg [ac e,I n].toArray) PB OL PE rR rR Z) (gV (AV (v:=I n) PC rR OI rR rR) (gV (qX rR rR) (qc ?_))))))))));refine qd rfl ?_ ?_ <;> intro V
   ·simp at V;refine qf (qg (qo (gM rR (gP rR rR (by omega) (gQ rR (qD ?_))))));exact qk (k+1) ⟨by omega,by omega⟩ (by omega) [0,1,6] rfl rfl
   ·simp at V;obtain rfl:k=m:=(by omega);refine qw rR ?_;refine gS (gM rR (gV (qa rR) (gF 0 PI rR PG rR (gV (qu PJ rR rR) (gM rR (gM rR (gV (qF rR (uU _ rR _ rR)) (cl (yk PB OL rR rR rR) ?_))))))));rintro _ _ rfl;refine qc (gS (gM rR (gA rR (gQ rR ?_))));have R:cK B d=((k:Int),0):=(by unfold cK;rw[RJ D,hm]);have S:dp B d=qy B k (some (d,1)):=(by unfold dp;rw[RJ D,hm]);rw[R,S];refine ww r b (qy B k (some (d,1))) (ja am (x:=(d,1)) (by omega)) ?_;exact ql rfl rfl rfl
structure Nd where
 k0:Int
 k1:Int
 k2:Int
 k3:Int
 refs:Int
deriving DecidableEq
abbrev aB:=Int->Option Nd
structure SI where
 B:bV
 N:aB
abbrev aV (n:Nd):List Value:=[I n.k0,I n.k1,I n.k2,I n.k3,I n.refs]
abbrev we (n:Nd):Value:= .agg (aV n).toArray
def kd (n:Nd):List Int:=[n.k0,n.k1,n.k2,n.k3]
abbrev aA (n:Nd):List Value:=[I n.k0,I n.k1,I n.k2,I n.k3]
def ak (n:Nd)(i:Nat):Int:=match i with | 0=>n.k0 | 1=>n.k1 | 2=>n.k2 | _=>n.k3
def mW (n:Nd)(i:Nat)(x:Int):Nd:=match i with | 0=>{n with k0:=x} | 1=>{n with k1:=x} | 2=>{n with k2:=x} | _=>{n with k3:=x}
def dC:Nd:=⟨0,0,0,0,0⟩
def gN (N:aB)(q:Int):Nd:=(N q).getD dC
def rf (n:Nd)(r:Int):Nd:=⟨n.k0,n.k1,n.k2,n.k3,r⟩
def jm (N:aB)(q:Int):aB:=qy N q (some (rf (gN N q) ((gN N q).refs+1)))
def aG (leaf:Bool)(S:SI)(k:Int):SI:=if k=0 then S else if leaf=true then ⟨bj S.B k 1,S.N⟩ else ⟨S.B,jm S.N k⟩
def bU (S:SI)(k:Int):SI:=if k=0 then S else ⟨bj S.B k (-1),S.N⟩
def cR (f:SI->Int->SI)(S:SI)(q:Int):SI:=if q=0 then S else if 0<(gN S.N q).refs - 1 then ⟨S.B,qy S.N q (some (rf (gN S.N q) ((gN S.N q).refs - 1)))⟩ else (kd (gN S.N q)).foldl f ⟨S.B,qy S.N q none⟩
def aY:SI->Int->SI:=cR bU
def cj:SI->Int->SI:=cR aY
def dc (n:Nd):Prop:=n.k0=0/\n.k1=0/\n.k2=0/\n.k3=0
instance (n:Nd):Decidable (dc n):=by unfold dc;infer_instance
def qR (S:SI)(n:Nd):Int×Int:=if dc n then (0,0) else match wK 24 S.N with | none=>(0,8) | some k=>(k,0)
def qU (leaf:Bool)(S:SI)(n:Nd):SI:=if dc n then S else match wK 24 S.N with | none=>S | some k=>(kd n).foldl (aG leaf) ⟨S.B,qy S.N k (some (rf n 1))⟩
def ct (S:SI)(root:Int)(at_:Nat):ab:=(iI S.B (ak (gN S.N (ak (gN S.N root) (at_ / 4))) (at_ % 4))).1
def wX (S:SI)(q:Int):SI:=if 0<q then ⟨S.B,jm S.N q⟩ else S
def qi (S:SI)(d:ab):Int×Int:=if d=[] then (0,0) else cK S.B d
def qe (S:SI)(d:ab):SI:=if d=[] then S else ⟨dp S.B d,S.N⟩
def yz (S:SI)(root:Int)(at_:Nat)(b:Int):Nd:=mW (gN S.N (ak (gN S.N root) (at_ / 4))) (at_ % 4) b
def aT (S:SI)(root:Int)(at_:Nat)(leaf:Int):Nd:=mW (gN S.N root) (at_ / 4) leaf
def aR (S:SI)(b:Int):SI:=if 0<b then ⟨bj S.B b (-1),S.N⟩ else S
def aP (S:SI)(root:Int)(at_:Nat)(d:ab):Int×Int:=
 let b:=qi S d;let S1:=qe S d
 if b.2≠0 then (0,b.2) else
 let l:=qR S1 (yz S1 root at_ b.1);let S2:=qU true S1 (yz S1 root at_ b.1)
 if l.2≠0 then (0,l.2) else
 let S3:=aR S2 b.1
 let o:=qR S3 (aT S1 root at_ l.1)
 if o.2≠0 then (0,o.2) else (o.1,0)
def ck (S:SI)(root:Int)(at_:Nat)(d:ab):SI:=
 let b:=qi S d;let S1:=qe S d
 if b.2≠0 then S1 else
 let l:=qR S1 (yz S1 root at_ b.1);let S2:=qU true S1 (yz S1 root at_ b.1)
 if l.2≠0 then S2 else
 let S3:=aR S2 b.1
 let o:=qR S3 (aT S1 root at_ l.1);let S4:=qU false S3 (aT S1 root at_ l.1)
 if o.2≠0 then S4 else aY S4 l.1
def aH (m:Int)(S:SI):Prop:=bh 40 S.B/\(∀q x,S.B q=some x->0<x.2/\x.2<=m)/\bh 24 S.N/\∀q n,S.N q=some n->0<n.refs/\n.refs<=m
def oS {m:Int}{S:SI}(h:aH m S)(D:m<=1000000):oR S.B:=⟨h.1,λq x e=>by have:=h.2.1 q x e;omega⟩
def lR {m m':Int}{S:SI}(h:aH m S)(D:m<=m'):aH m' S:=⟨h.1,λq x e=>by have:=h.2.1 q x e;omega,h.2.2.1,λq n e=>by have:=h.2.2.2 q n e;omega⟩
def kX {m:Int}{S:SI}(h:aH m S)(D:0<=m)(q:Int):0<=(gN S.N q).refs/\(gN S.N q).refs<=m:=by
 unfold gN;cases e:S.N q with
 | none=>simp[dC];exact D
 | some n=>have:=h.2.2.2 q n e;simp;omega
def kY {m:Int}{S:SI}(h:aH m S){q:Int}{x:Option Nd}(D:x.isSome=true->1<=q/\q<=24)(hx:∀n,x=some n->0<n.refs/\n.refs<=m):aH m ⟨S.B,qy S.N q x⟩:=
 ⟨h.1,h.2.1,iB h.2.2.1 D,λp n e=>by
  change qy S.N q x p=some n at e;unfold qy at e;split at e
  ·exact hx n e
  ·exact h.2.2.2 p n e⟩
def Dp {m:Int}{S:SI}(h:aH m S)(q:Int){n:Int}(R:n=1\/n= -1):aH (m+1) ⟨bj S.B q n,S.N⟩:=by
 refine ⟨?_,?_,h.2.2.1,λp x e=>by have:=h.2.2.2 p x e;omega⟩
 ·show bh 40 (bj S.B q n);unfold bj;cases e:S.B q with
  | none=>exact h.1
  | some x=>exact iB h.1 λ_=>h.1 q x e
 ·intro p x e;change bj S.B q n p=some x at e;unfold bj at e;cases D:S.B q with
  | none=>rw[D] at e;have:=h.2.1 p x e;omega
  | some y=>
   rw[D] at e;unfold qy at e;simp only at e;split at e
   ·split at e
    ·cases e
    ·rename_i J O;injection e with e;subst e;have:=h.2.1 q y D;simp only;omega
   ·have:=h.2.1 p x e;omega
def Dq {m:Int}{S:SI}(h:aH m S)(q:Int):aH m ⟨bj S.B q (-1),S.N⟩:=by
 have J:=Dp h q (n:= -1) (.inr rfl);refine ⟨J.1,λp x e=>?_,h.2.2.1,h.2.2.2⟩;have O:=J.2.1 p x e;refine ⟨O.1,?_⟩;change bj S.B q (-1) p=some x at e;unfold bj at e;cases D:S.B q with
 | none=>rw[D] at e;exact (h.2.1 p x e).2
 | some y=>
  rw[D] at e;unfold qy at e;simp only at e;split at e
  ·split at e
   ·cases e
   ·injection e with e;subst e;have:=h.2.1 q y D;simp only;omega
  ·exact (h.2.1 p x e).2
def KU {m:Int}{S:SI}(h:aH m S)(D:0<=m){q:Int}(J:1<=q/\q<=24):aH (m+1) ⟨S.B,jm S.N q⟩:=
 kY (lR h (by omega)) (λ_=>J) λn e=>by
  injection e with e;subst e;have:=kX h D q;simp only[rf];omega
def KV {m:Int}{S:SI}(h:aH m S)(D:0<=m){leaf:Bool}{k:Int}(J:leaf=false->0<=k/\k<=24):aH (m+1) (aG leaf S k):=by
 unfold aG;split
 ·exact lR h (by omega)
 ·split
  ·exact Dp h k (.inl rfl)
  ·rename_i O R;have:=J (by simpa using R);exact KU h D (by omega)
def xo {m:Int}{S:SI}(h:aH m S)(k:Int):aH m (bU S k):=by
 unfold bU;split
 ·exact h
 ·exact Dq h k
def oT {α β:Type}{P:α->Prop}{f:α->β->α}(D:∀a b,P a->P (f a b)):∀(l:List β) (a:α),P a->P (l.foldl f a)
 | [],a,h=>h
 | b::l,a,h=>oT D l (f a b) (D a b h)
def KW {m:Int}{S:SI}{f:SI->Int->SI}(O:∀S k,aH m S->aH m (f S k))(h:aH m S)(q:Int):aH m (cR f S q):=by
 unfold cR;split
 ·exact h
 ·split
  ·rename_i X D;have V:S.N q≠none:=λe=>(by unfold gN at D;rw[e] at D;simp[dC] at D);obtain ⟨n,J⟩:=UF.1 V;refine kY h (λ_=>h.2.2.1 q n J) λY e=>?_;injection e with e;subst e;have:=h.2.2.2 q n J;have R:gN S.N q=n:=(by unfold gN;rw[J];rfl);rw[R] at D ⊢;simp only[rf];omega
  ·exact oT (P:=aH m) O _ _ (kY h (λe=>by cases e) λn e=>by cases e)
def Dr {m:Int}{S:SI}(h:aH m S)(q:Int):aH m (aY S q):=KW (λS k h=>xo h k) h q
def part (f:SI->Int->SI)(S:SI)(n:Nd)(i:Nat):SI:=((kd n).take i).foldl f S
def fx (f:SI->Int->SI)(S:SI)(n:Nd):∀i,i<4->part f S n (i+1)=f (part f S n i) (ak n i)
 | 0,_=>rfl
 | 1,_=>rfl
 | 2,_=>rfl
 | 3,_=>rfl
 | i+4,h=>absurd h (by omega)
def oU {m:Int}{S:SI}(h:aH m S)(J:0<=m){leaf:Bool}{n:Nd}(D:leaf=false->∀i,i<4->0<=ak n i/\ak n i<=24):∀i:Nat,i<=4->aH (m+i) (part (aG leaf) S n i)
 | 0,_=>lR h (by omega)
 | i+1,R=>by
  rw[fx _ _ _ i (by omega)];have:=KV (oU h J D i (by omega)) (by omega) (leaf:=leaf) (k:=ak n i) λO=>D O i (by omega);rw[show m+((i+1:Nat):Int)=m+i+1 by omega];exact this
def tm {m:Int}{f:SI->Int->SI}(D:∀S k,aH m S->aH m (f S k)){S:SI}(h:aH m S)(n:Nd)(i:Nat):aH m (part f S n i):=oT (P:=aH m) D _ _ h
def tn {m:Int}{S:SI}(h:aH m S)(J:1<=m){k:Nat}(D:1<=k/\k<=24)(n:Nd):aH m ⟨S.B,qy S.N k (some (rf n 1))⟩:=kY h (λ_=>by omega) λO e=>by
 injection e with e;subst e;simp only[rf];omega
def tq {m:Int}{S:SI}(h:aH m S)(O:1<=m){leaf:Bool}{n:Nd}(J:leaf=false->∀i,i<4->0<=ak n i/\ak n i<=24):aH (m+4) (qU leaf S n):=by
 unfold qU;split
 ·exact lR h (by omega)
 ·split
  ·exact lR h (by omega)
  ·rename_i k D;exact oU (tn h O (g9 D).1 n) (by omega) J 4 (by omega)
def Ds {m:Int}{S:SI}(h:aH m S)(J:1<=m)(d:ab):aH m (qe S d):=by
 unfold qe;split
 ·exact h
 ·refine ⟨?_,?_,h.2.2.1,h.2.2.2⟩
  ·show bh 40 (dp S.B d);unfold dp;split
   ·exact h.1
   ·split
    ·exact h.1
    ·rename_i k D;have:=(g9 D).1;exact iB h.1 λ_=>by omega
  ·intro q x e;change dp S.B d q=some x at e;unfold dp at e;split at e
   ·exact h.2.1 q x e
   ·cases D:wK 40 S.B with
    | none=>rw[D] at e;exact h.2.1 q x e
    | some k=>
     rw[D] at e;simp only at e;unfold qy at e;split at e
     ·injection e with e;subst e;simp;omega
     ·exact h.2.1 q x e
def Dt {m:Int}{S:SI}(h:aH m S)(b:Int):aH m (aR S b):=by
 unfold aR;split
 ·exact Dq h b
 ·exact h
def Du (b:Nat)(S:SI)(z:Nat×Nat):List aa:=[pt b (.cells #[ptr z.1 0, .map (some z.2)] 231 (0,0)),bi z.1 S.B,mp z.2 (tb we 24 S.N)]
def aX (b:Nat)(S:SI):aa:=hx (Du b S)
section
variable {c:Cx}{E:ap}{L:List aa}{K:List KI}
def eK {F:List aa}(b:Nat)(S:SI)[R:Rem L (aX b S) F](k:∀p r,G c K E (pt b (.cells #[ptr p 0, .map (some r)] 231 (0,0))::bi p S.B::mp r (tb we 24 S.N)::F)):G c K E L:=fP (aX b S) rfl λz=>k z.1 z.2
def yw {F:List aa}{M:MM}(p r b:Nat)(S:SI)(h:M.Perm (tb we 24 S.N))[J:Split L [pt b (.cells #[ptr p 0, .map (some r)] 231 (0,0)),bi p S.B,mp r M] F](k:G c K E (aX b S::F)):G c K E L:=λa w X Y=>by
 have O:Sat c.w0 w (pt b (.cells #[ptr p 0, .map (some r)] 231 (0,0))::bi p S.B::mp r M::F):=J.sat Y;refine k a w X (Sat.hx_mk (A:=Du b S) (p,r) ?_);have r2:Rem (pt b (.cells #[ptr p 0, .map (some r)] 231 (0,0))::bi p S.B::mp r M::F) (mp r M) (pt b (.cells #[ptr p 0, .map (some r)] 231 (0,0))::bi p S.B::F):=inferInstance;obtain ⟨⟨es,clk⟩,R⟩:=(r2.sat O).ex;have V:Sat c.w0 w (mp r (tb we 24 S.N)::pt b (.cells #[ptr p 0, .map (some r)] 231 (0,0))::bi p S.B::F):=Sat.ex_mk (A:=λp:Array MapEntry×Nat=>λm=>MOk p.1 p.2 (tb we 24 S.N)/\m r=some (.map p.1 p.2,false)) (es,clk) (R.weak λm D=>⟨D.1.perm_ h,D.2⟩);have Z:Sl.Sub (mp r (tb we 24 S.N)::pt b (.cells #[ptr p 0, .map (some r)] 231 (0,0))::bi p S.B::F) (pt b (.cells #[ptr p 0, .map (some r)] 231 (0,0))::bi p S.B::mp r (tb we 24 S.N)::F):=inferInstance;exact Z.sat V
end
def iK {N:aB}(h:bh 24 N)(q:Int):(lk (tb we 24 N) q).getD (we dC)=we (gN N q):=by
 rw[vh we h];unfold gN;cases N q <;> rfl
def eM (n:Nd):∀i,i<4->(aA n)[i]? =some (I (ak n i))
 | 0,_=>rfl
 | 1,_=>rfl
 | 2,_=>rfl
 | 3,_=>rfl
 | i+4,h=>absurd h (by omega)
def KX (n:Nd)(x:Int):∀i,i<4->(aA n).set i (I x)=aA (mW n i x)
 | 0,_=>rfl
 | 1,_=>rfl
 | 2,_=>rfl
 | 3,_=>rfl
 | i+4,h=>absurd h (by omega)
def Dv (n:Nd)(w:World):(Instr.build 187 #[(0, .agg (aA n).toArray),(1,I 1)]).run Tryz.prog w= .ok (we (rf n 1)) w:=by
 simp[Instr.build,Py,QU,O0,OH,Instr.fill,qW,show (I 1).cells=#[I 1] from rfl,rf]
def Dw (a b:Nd)(w:World):(Op.equal 185 (.agg (aA a).toArray) (.agg (aA b).toArray)).run Tryz.prog w= .ok (decide (a.k0=b.k0/\a.k1=b.k1/\a.k2=b.k2/\a.k3=b.k3)) w:=by
 have h:=λx y:Int=>nK (P:=Tryz.prog) (w:=w) (a:=x) (b:=y) 9998 OL;show (Op.equalIn (9999+1) _ _ _).run _ _=_;unfold Op.equalIn;simp[underlying,program,Sem.run,Pa,OH,List.range',Std.Legacy.Range.forIn_eq_forIn_range',Std.Legacy.Range.size,Go.part,OI,h];by_cases D:a.k0=b.k0 <;> by_cases J:a.k1=b.k1 <;> by_cases O:a.k2=b.k2 <;> by_cases R:a.k3=b.k3 <;> simp[D,J,O,R]
def Dx (w:World):(Instr.build 185 #[]).run Tryz.prog w= .ok (.agg (aA dC).toArray) w:=by
 simp[Instr.build,Qt,runUnderlying185,Instr.fill,qW,dC]
def mX {n:Nd}{r:Int}{T:TypeId}{f:Nat×Nat}:∀i v,(aA n)[i]? =some v->yd (.cells (aV (rf n r)).toArray T f) (0+0+i)=some v:=λi v h=>by
 match i,h with
 | 0,h=>simpa [yd,rf] using h
 | 1,h=>simpa [yd,rf] using h
 | 2,h=>simpa [yd,rf] using h
 | 3,h=>simpa [yd,rf] using h
 | i+4,h=>simp at h
def oV {m:Int}{S:SI}(h:aH m S){f k:Nat}(V:wK 24 S.N=some f)(X:1<=k/\k<=f):0<(gN S.N k).refs ↔ k<f:=by
 have R:=g9 V;constructor
 ·intro O;rcases Rq k f with D | D
  ·exact D
  ·obtain rfl:k=f:=(by omega);unfold gN at O;rw[R.2.1] at O;simp[dC] at O
 ·intro J;have D:=R.2.2 k X.1 J;cases e:S.N k with
  | none=>rw[e] at D;cases D
  | some n=>have:=h.2.2.2 k n e;unfold gN;rw[e];exact this.1
def Dy (F:List aa):Ct Tryz.prog 118 [] (F) (λv L'=>∃b,v=ptr b 0/\L'=aX b ⟨λ_=>none,λ_=>none⟩::F):=by
 refine Ct.of func118 rR 5 ntmps118 (by simp) λw0=>?_;refine gS (gQ rR (gS (gI (uA call191 rR (Dj)) ?_)));rintro _ _ ⟨p,rfl,rfl⟩;refine gI (gW) ?_;rintro _ _ ⟨D,rfl,rfl⟩;refine gV (qF rR (Bc _ rR _ rR)) (gI (wR #[ptr p 0, .map (some D)] rfl rR) ?_);rintro _ _ ⟨h,rfl,rfl⟩;refine gQ rR ?_;refine yw p D h ⟨λ_=>none,λ_=>none⟩ (by rw[ly]) ?_;exact λa w J O=>wp_ret (yu (qB (vs:=[ptr h 0]) rfl J O ⟨h,rfl,rfl⟩))
def Dz (b:Nat)(S:SI)(q m:Int)(hok:aH m S)(D:0<=m/\m<=1000000)(J:1<=q/\q<=24)(F:List aa):Ct Tryz.prog 249 [ptr b 0,I q] (aX b S::F) (R1 (.tuple #[]) (aX b ⟨S.B,jm S.N q⟩::F)):=by
 refine Ct.of func249 rR 21 ntmps249 (by simp) λw0=>?_;refine eK b (S) ?_;intro p r;refine gS (gM rR (gV (qa rR) (gF 1 O5 rR Pn rR (gL (.map (some r)) Pr rR (gM rR (gV (yE (v:=we (gN S.N (q))) Ps OL Py rR rR (iK hok.2.2.1 _)) (gI (qA #[I 0,I 0,I 0,I 0,I 0] Py) ?_)))))));rintro _ _ ⟨h,rfl,rfl⟩;refine gU (qp (cs:=#[I 0,I 0,I 0,I 0,I 0]) (vs:=aV (gN S.N q)) (aV (gN S.N q)).toArray O7 rR rR rR rR (by simp) (qs rR)) (qc (gS (gF 4 O3 rR OH rR (gL (I (gN S.N q).refs) OI rR (gV (yr rR rR (ao (by have:=kX hok D.1 q;omega))) (gF 4 O3 rR OH rR (gU (qG (aV (rf (gN S.N q) ((gN S.N q).refs+1))).toArray OH rR rR rR (by simp) rR) (qc ?_))))))));refine yO (Lf:=[pt b (.cells #[ptr p 0, .map (some r)] 231 (0,0)),pt h (.cells (aV (rf (gN S.N q) ((gN S.N q).refs+1))).toArray 187 (0,0))]) jA (by kernel_rfl) (by kernel_rfl) rR (by kernel_rfl) ?_;refine dM rR rR rR (dV rR (qa rR) (dF rR 1 O5 rR Pn rR (dL rR (.map (some r)) Pr rR (dM rR rR rR (dV rR (qJ (vs:=aV (rf (gN S.N q) ((gN S.N q).refs+1))) QC O7 rR rR qQ) (fl rR (yk Ps OL rR rR rR) ?_))))));rintro _ _ rfl;refine qI ?_;refine yw p r b (⟨S.B,jm S.N q⟩) (ja we (x:=rf (gN S.N q) ((gN S.N q).refs+1)) J) ?_;exact fk rfl rfl rfl
def xp (b:Nat)(S:SI)(q m:Int)(hok:aH m S)(hm:0<=m/\m<=1000000)(F:List aa):Ct Tryz.prog 232 [ptr b 0,I q,Bo true] (aX b S::F) (R1 (.tuple #[]) (aX b (aY S q)::F)):=by
 refine Ct.of func232 rR 55 ntmps232 (by simp) λw0=>?_;refine qb (gS (gM rR (gV (yD rR rR) (qc ?_))));refine qd rfl ?_ ?_ <;> intro D
 ·simp at D;rw[show aX b S=aX b (aY S q) by unfold aY cR;rw[RI D]];exact ql rfl rfl rfl
 ·simp at D;refine qf (qb ?_);refine eK b (S) ?_;intro p r;refine qo (gM rR (gV (qa rR) (gF 1 O5 rR Pn rR (gL (.map (some r)) Pr rR (gM rR (gV (yE (v:=we (gN S.N (q))) Ps OL Py rR rR (iK hok.2.2.1 _)) (gI (qA #[I 0,I 0,I 0,I 0,I 0] Py) ?_)))))));rintro _ _ ⟨b6,rfl,rfl⟩;refine gU (qp (cs:=#[I 0,I 0,I 0,I 0,I 0]) (vs:=aV (gN S.N q)) (aV (gN S.N q)).toArray O7 rR rR rR rR (by simp) (qs rR)) (qc (gS (gF 4 O3 rR OH rR (gL (I (gN S.N q).refs) OI rR (gV (cZ rR rR (ao (by have:=kX hok hm.1 q;omega))) (gF 4 O3 rR OH rR (gU (qG (aV (rf (gN S.N q) ((gN S.N q).refs - 1))).toArray OH rR rR rR (by simp) rR) (qc (qb ?_)))))))));refine yO (Lf:=[pt b (.cells #[ptr p 0, .map (some r)] 231 (0,0)),pt b6 (.cells (aV (rf (gN S.N q) ((gN S.N q).refs - 1))).toArray 187 (0,0))]) jA (by kernel_rfl) (by kernel_rfl) rR (by kernel_rfl) ?_;refine dM rR rR rR (dV rR (qa rR) (dF rR 1 O5 rR Pn rR (dL rR (.map (some r)) Pr rR (dM rR rR rR (dV rR (qJ (vs:=aV (rf (gN S.N q) ((gN S.N q).refs - 1))) QC O7 rR rR qQ) (fl rR (yk Ps OL rR rR rR) ?_))))));rintro _ _ rfl;refine qI ?_;refine qb (gS (gF 4 O3 rR OH rR (gL (I ((gN S.N q).refs - 1)) OI rR (gV (qX rR rR) (qc ?_)))));refine qd rfl ?_ ?_ <;> intro J
  ·simp at J;have hp:S.N q≠none:=λe=>(by unfold gN at J;rw[e] at J;simp[dC] at J);obtain ⟨n,hn⟩:=UF.1 hp;refine yw p r b (⟨S.B,qy S.N q (some (rf (gN S.N q) ((gN S.N q).refs - 1)))⟩) (ja we (x:=rf (gN S.N q) ((gN S.N q).refs - 1)) (hok.2.2.1 q n hn)) ?_;rw[show (⟨S.B,qy S.N q (some (rf (gN S.N q) ((gN S.N q).refs - 1)))⟩:SI)=aY S q by unfold aY cR;rw[RJ D,RI (by omega)]];exact ql rfl rfl rfl
  ·simp at J;refine qf (gS (gM rR (gV (qa rR) (gF 1 O5 rR Pn rR (gL (.map (some r)) Pr rR (gM rR (cl (iz Ps OL rR rR) ?_)))))));rintro _ _ ⟨rfl,rfl⟩;refine qc (qb ?_);refine yw p r b (⟨S.B,qy S.N q none⟩) (BC we (v:=we (rf (gN S.N q) ((gN S.N q).refs - 1)))) ?_;show G _ _ _ (aX b (part bU ⟨S.B,qy S.N q none⟩ (gN S.N q) 0)::_);refine qo (gF 0 O3 rR O0 rR (gV (qJ (vs:=aA (gN S.N q)) Pw O0 rR rR mX) (gM rR (qc (qg ?_)))));refine qC (α:=Nat) (λi=>i<=4) (λi=>U [(0,ptr b 0),(2,Bo true),(36, .agg (aA (gN S.N q)).toArray),(37,I i)]) (λi=>aX b (part bU ⟨S.B,qy S.N q none⟩ (gN S.N q) i)::F) (λi=>4 - i) 0 (by omega) [0,2,36,37] rfl rR ?_;intro i hi;have Y:=tm (f:=bU) (λS k h=>xo h k) (kY hok (q:=q) (x:=none) (λe=>by cases e) (λn e=>by cases e)) (gN S.N q) i;refine gS (gV (qH rR rR) (qc (qb ?_)));refine qd rfl ?_ ?_ <;> intro V
   ·simp at V;have R:i<4:=(by omega);refine qf (qb (qg (gS (gV (kE (v:=I (ak (gN S.N q) i)) i Pa OH OI rR rR rR R (by simpa using eM (gN S.N q) i R)) (gQ rR (qg (gS (gM rR (gV (yD rR rR) (gQ rR ?_))))))))));refine qd rfl ?_ ?_ <;> intro O
    ·simp at O;refine qf (qD (qD (qo (gP rR rR (by omega) (gM rR (qc ?_))))));rw[show part bU ⟨S.B,qy S.N q none⟩ (gN S.N q) i=part bU ⟨S.B,qy S.N q none⟩ (gN S.N q) (i+1) by rw[fx _ _ _ i R];unfold bU;rw[RI O]];exact qk (i+1) (by omega) (by omega) [0,2,36,37] rfl rfl
    ·simp at O;refine gS (gM rR (gQ rR ?_));refine qd rfl ?_ ?_ <;> intro X
     ·refine eK b (part bU ⟨S.B,qy S.N q none⟩ (gN S.N q) i) ?_;intro Z r2;refine qo (gM rR (gV (qa rR) (gF 0 O5 rR PM rR (gL (ptr Z 0) PQ rR (gM rR (gR (vB call231 rR (Dm Z (part bU ⟨S.B,qy S.N q none⟩ (gN S.N q) i).B (ak (gN S.N q) i) (oS Y (by omega)))) (qc (qD (qD (qo (gP rR rR (by omega) (gM rR (qc ?_)))))))))))));refine yw Z r2 b (⟨bj (part bU ⟨S.B,qy S.N q none⟩ (gN S.N q) i).B (ak (gN S.N q) i) (-1),(part bU ⟨S.B,qy S.N q none⟩ (gN S.N q) i).N⟩) (.refl _) ?_;rw[show (⟨bj (part bU ⟨S.B,qy S.N q none⟩ (gN S.N q) i).B (ak (gN S.N q) i) (-1),(part bU ⟨S.B,qy S.N q none⟩ (gN S.N q) i).N⟩:SI)=part bU ⟨S.B,qy S.N q none⟩ (gN S.N q) (i+1) by rw[fx _ _ _ i R];unfold bU;rw[RJ O]];exact qk (i+1) (by omega) (by omega) [0,2,36,37] rfl rfl
     ·simp at X
   ·simp at V;obtain rfl:i=4:=(by omega);refine qw rR ?_;rw[show part bU ⟨S.B,qy S.N q none⟩ (gN S.N q) 4=aY S q by unfold aY cR;rw[RJ D,RJ (by omega)];rfl];exact fk rfl rfl rfl
def KZ (b:Nat)(S:SI)(q m:Int)(hok:aH m S)(Z:0<=m/\m<=1000000)(F:List aa):Ct Tryz.prog 232 [ptr b 0,I q,Bo false] (aX b S::F) (R1 (.tuple #[]) (aX b (cj S q)::F)):=by
 refine Ct.of func232 rR 55 ntmps232 (by simp) λw0=>?_;refine qb (gS (gM rR (gV (yD rR rR) (qc ?_))));refine qd rfl ?_ ?_ <;> intro D
 ·simp at D;rw[show aX b S=aX b (cj S q) by unfold cj cR;rw[RI D]];exact ql rfl rfl rfl
 ·simp at D;refine qf (qb ?_);refine eK b (S) ?_;intro p r;refine qo (gM rR (gV (qa rR) (gF 1 O5 rR Pn rR (gL (.map (some r)) Pr rR (gM rR (gV (yE (v:=we (gN S.N (q))) Ps OL Py rR rR (iK hok.2.2.1 _)) (gI (qA #[I 0,I 0,I 0,I 0,I 0] Py) ?_)))))));rintro _ _ ⟨b6,rfl,rfl⟩;refine gU (qp (cs:=#[I 0,I 0,I 0,I 0,I 0]) (vs:=aV (gN S.N q)) (aV (gN S.N q)).toArray O7 rR rR rR rR (by simp) (qs rR)) (qc (gS (gF 4 O3 rR OH rR (gL (I (gN S.N q).refs) OI rR (gV (cZ rR rR (ao (by have:=kX hok Z.1 q;omega))) (gF 4 O3 rR OH rR (gU (qG (aV (rf (gN S.N q) ((gN S.N q).refs - 1))).toArray OH rR rR rR (by simp) rR) (qc (qb ?_)))))))));refine yO (Lf:=[pt b (.cells #[ptr p 0, .map (some r)] 231 (0,0)),pt b6 (.cells (aV (rf (gN S.N q) ((gN S.N q).refs - 1))).toArray 187 (0,0))]) jA (by kernel_rfl) (by kernel_rfl) rR (by kernel_rfl) ?_;refine dM rR rR rR (dV rR (qa rR) (dF rR 1 O5 rR Pn rR (dL rR (.map (some r)) Pr rR (dM rR rR rR (dV rR (qJ (vs:=aV (rf (gN S.N q) ((gN S.N q).refs - 1))) QC O7 rR rR qQ) (fl rR (yk Ps OL rR rR rR) ?_))))));rintro _ _ rfl;refine qI ?_;refine qb (gS (gF 4 O3 rR OH rR (gL (I ((gN S.N q).refs - 1)) OI rR (gV (qX rR rR) (qc ?_)))));refine qd rfl ?_ ?_ <;> intro J
  ·simp at J;have hp:S.N q≠none:=λe=>(by unfold gN at J;rw[e] at J;simp[dC] at J);obtain ⟨n,hn⟩:=UF.1 hp;refine yw p r b (⟨S.B,qy S.N q (some (rf (gN S.N q) ((gN S.N q).refs - 1)))⟩) (ja we (x:=rf (gN S.N q) ((gN S.N q).refs - 1)) (hok.2.2.1 q n hn)) ?_;rw[show (⟨S.B,qy S.N q (some (rf (gN S.N q) ((gN S.N q).refs - 1)))⟩:SI)=cj S q by unfold cj cR;rw[RJ D,RI (by omega)]];exact ql rfl rfl rfl
  ·simp at J;refine qf (gS (gM rR (gV (qa rR) (gF 1 O5 rR Pn rR (gL (.map (some r)) Pr rR (gM rR (cl (iz Ps OL rR rR) ?_)))))));rintro _ _ ⟨rfl,rfl⟩;refine qc (qb ?_);refine yw p r b (⟨S.B,qy S.N q none⟩) (BC we (v:=we (rf (gN S.N q) ((gN S.N q).refs - 1)))) ?_;show G _ _ _ (aX b (part aY ⟨S.B,qy S.N q none⟩ (gN S.N q) 0)::_);refine qo (gF 0 O3 rR O0 rR (gV (qJ (vs:=aA (gN S.N q)) Pw O0 rR rR mX) (gM rR (qc (qg ?_)))));refine qC (α:=Nat) (λi=>i<=4) (λi=>U [(0,ptr b 0),(2,Bo false),(36, .agg (aA (gN S.N q)).toArray),(37,I i)]) (λi=>aX b (part aY ⟨S.B,qy S.N q none⟩ (gN S.N q) i)::F) (λi=>4 - i) 0 (by omega) [0,2,36,37] rfl rR ?_;intro i hi;have Y:=tm (f:=aY) (λS k h=>Dr h k) (kY hok (q:=q) (x:=none) (λe=>by cases e) (λn e=>by cases e)) (gN S.N q) i;refine gS (gV (qH rR rR) (qc (qb ?_)));refine qd rfl ?_ ?_ <;> intro V
   ·simp at V;have O:i<4:=(by omega);refine qf (qb (qg (gS (gV (kE (v:=I (ak (gN S.N q) i)) i Pa OH OI rR rR rR O (by simpa using eM (gN S.N q) i O)) (gQ rR (qg (gS (gM rR (gV (yD rR rR) (gQ rR ?_))))))))));refine qd rfl ?_ ?_ <;> intro R
    ·simp at R;refine qf (qD (qD (qo (gP rR rR (by omega) (gM rR (qc ?_))))));rw[show part aY ⟨S.B,qy S.N q none⟩ (gN S.N q) i=part aY ⟨S.B,qy S.N q none⟩ (gN S.N q) (i+1) by rw[fx _ _ _ i O];unfold aY cR;rw[RI R]];exact qk (i+1) (by omega) (by omega) [0,2,36,37] rfl rfl
    ·simp at R;refine gS (gM rR (gQ rR ?_));refine qd rfl ?_ ?_ <;> intro X
     ·simp at X
     ·refine qo (gM rR (gM rR (gR (vB call232 rR (xp b (part aY ⟨S.B,qy S.N q none⟩ (gN S.N q) i) (ak (gN S.N q) i) m Y Z)) (qc (qD (qD (qo (gP rR rR (by omega) (gM rR (qc ?_))))))))));rw[show aY (part aY ⟨S.B,qy S.N q none⟩ (gN S.N q) i) (ak (gN S.N q) i)=part aY ⟨S.B,qy S.N q none⟩ (gN S.N q) (i+1) from (fx _ _ _ i O).symm];exact qk (i+1) (by omega) (by omega) [0,2,36,37] rfl rfl
   ·simp at V;obtain rfl:i=4:=(by omega);refine qw rR ?_;rw[show part aY ⟨S.B,qy S.N q none⟩ (gN S.N q) 4=cj S q by unfold cj cR;rw[RJ D,RJ (by omega)];rfl];exact fk rfl rfl rfl
def xq (b:Nat)(S:SI)(n:Nd)(lf:Bool)(m:Int)(hok:aH m S)(hm:1<=m/\m<=900000)(hk:lf=false->∀i,i<4->0<=ak n i/\ak n i<=24)(F:List aa):Ct Tryz.prog 230 [ptr b 0, .agg (aA n).toArray,Bo lf] (aX b S::F) (R1 (.tuple #[I (qR S n).1,bg 117 (qR S n).2]) (aX b (qU lf S n)::F)):=by
 refine Ct.of func230 rR 58 ntmps230 (by simp) λw0=>?_;refine gS (gI (wR (aA n).toArray rR rR) ?_);rintro _ _ ⟨b4,rfl,rfl⟩;refine gA rR (gQ rR (qb (gS (gV (qJ (vs:=aA (n)) Pw O0 rR rR qQ) (gV (qF rR Dx) (gV (Ba eqGuardType185 rR rR (Dw n dC)) (qc ?_)))))));refine qd rfl ?_ ?_ <;> intro X
 ·have D:dc n:=of_decide_eq_true X;refine gS (gA rR (gQ rR ?_));rw[show qR S n=(0,0) by unfold qR;rw[RI D],show qU lf S n=S by unfold qU;rw[RI D]];exact ql rfl rfl rfl
 ·have D:¬dc n:=of_decide_eq_false X;refine qf (qb (qb ?_));refine eK b (S) ?_;intro p r;refine qo (gM rR (gV (qa rR) (gF 1 O5 rR Pn rR (gL (.map (some r)) Pr rR (gV (gO Ps rR) (gV (yD rR rR) (qc ?_)))))));refine qd rfl ?_ ?_ <;> intro R
  ·simp at R;rw[eC] at R;have h:=full_iff.1 (show (aj 24 S.N).length=24 by omega);refine gS (gV (qP OY rR rR) (gA rR (gQ rR ?_)));rw[show qR S n=(0,8) by unfold qR;rw[RJ D,h],show qU lf S n=S by unfold qU;rw[RJ D,h]];refine yw p r b (S) (.refl _) ?_;exact ql rfl rfl rfl
  ·simp at R;rw[eC] at R;obtain ⟨j,h⟩:=BB (n:=24) (B:=S.N) (by omega);have hjf:=g9 h;refine qf (gS (gQ rR (qb (qg ?_))));refine qC (α:=Nat) (λk=>1<=k/\k<=j) (λk=>U [(0,ptr b 0),(2,Bo lf),(4,ptr b4 0),(8,I k)]) (λ_=>pt b (.cells #[ptr p 0, .map (some r)] 231 (0,0))::bi p S.B::mp r (tb we 24 S.N)::pt b4 (.cells (aA n).toArray 185 (0,0))::F) (λk=>j - k) 1 ⟨by omega,by omega⟩ [0,2,4,8] rfl rR ?_;intro k h0;have hnk:=oV hok h h0;refine qb (gS (gM rR (gV (qa rR) (gF 1 O5 rR Pn rR (gL (.map (some r)) Pr rR (gM rR (gV (yE (v:=we (gN S.N (k))) Ps OL Py rR rR (iK hok.2.2.1 _)) (gV (AV (v:=I (gN S.N k).refs) O3 rR OI rR rR) (gV (qX rR rR) (qc ?_))))))))));refine qd rfl ?_ ?_ <;> intro Y
   ·simp at Y;refine qf (qg (qo (gM rR (gP rR rR (by omega) (gQ rR (qD ?_))))));exact qk (k+1) ⟨by omega,by omega⟩ (by omega) [0,2,4,8] rfl rfl
   ·simp at Y;obtain rfl:k=j:=(by omega);refine qw rR ?_;refine qb ?_;refine yO (Lf:=[pt b (.cells #[ptr p 0, .map (some r)] 231 (0,0)),pt b4 (.cells (aA n).toArray 185 (0,0))]) jN (by kernel_rfl) (by kernel_rfl) rR (by kernel_rfl) ?_;refine dM rR rR rR (dV rR (qa rR) (dF rR 1 O5 rR Pn rR (dL rR (.map (some r)) Pr rR (dM rR rR rR (dV rR (qJ (vs:=aA (n)) Pw O0 rR rR qQ) (dV rR (qF rR (Dv n)) (fl rR (yk Ps OL rR rR rR) ?_)))))));rintro _ _ rfl;refine qI ?_;refine yw p r b (⟨S.B,qy S.N k (some (rf n 1))⟩) (ja we (x:=rf n 1) (by omega)) ?_;show G _ _ _ (aX b (part (aG lf) ⟨S.B,qy S.N k (some (rf n 1))⟩ n 0)::_);refine qb (gS (gV (qJ (vs:=aA (n)) Pw O0 rR rR qQ) (gM rR (qc (qg ?_)))));refine qC (α:=Nat) (λi=>i<=4) (λi=>U [(0,ptr b 0),(2,Bo lf),(8,I k),(38, .agg (aA n).toArray),(39,I i)]) (λi=>aX b (part (aG lf) ⟨S.B,qy S.N k (some (rf n 1))⟩ n i)::F) (λi=>4 - i) 0 (by omega) [0,2,8,38,39] rfl rR ?_;intro i hi;have hpi:=oU (tn (k:=k) hok hm.1 (by omega) n) (by omega) hk i hi;refine gS (gV (qH rR rR) (qc (qb ?_)));refine qd rfl ?_ ?_ <;> intro Z
    ·simp at Z;have J:i<4:=(by omega);refine qf (qb (qg (gS (gV (kE (v:=I (ak (n) i)) i Pa OH OI rR rR rR J (by simpa using eM (n) i J)) (gQ rR (qg (gS (gM rR (gV (yD rR rR) (gQ rR ?_))))))))));refine qd rfl ?_ ?_ <;> intro O
     ·simp at O;refine qf (qD (qD (qo (gP rR rR (by omega) (gM rR (qc ?_))))));rw[show part (aG lf) ⟨S.B,qy S.N k (some (rf n 1))⟩ n i=part (aG lf) ⟨S.B,qy S.N k (some (rf n 1))⟩ n (i+1) by rw[fx _ _ _ i J];unfold aG;rw[RI O]];exact qk (i+1) (by omega) (by omega) [0,2,8,38,39] rfl rfl
     ·simp at O;refine gS (gM rR (gQ rR ?_));refine qd rfl ?_ ?_ <;> intro V
      ·refine eK b (part (aG lf) ⟨S.B,qy S.N k (some (rf n 1))⟩ n i) ?_;intro p2 r2;refine qo (gM rR (gV (qa rR) (gF 0 O5 rR PM rR (gL (ptr p2 0) PQ rR (gM rR (gR (vB call265 rR (KQ p2 (part (aG lf) ⟨S.B,qy S.N k (some (rf n 1))⟩ n i).B (ak n i) (oS hpi (by omega)))) (qc (qD (qD (qo (gP rR rR (by omega) (gM rR (qc ?_)))))))))))));refine yw p2 r2 b (⟨bj (part (aG lf) ⟨S.B,qy S.N k (some (rf n 1))⟩ n i).B (ak n i) 1,(part (aG lf) ⟨S.B,qy S.N k (some (rf n 1))⟩ n i).N⟩) (.refl _) ?_;rw[show (⟨bj (part (aG lf) ⟨S.B,qy S.N k (some (rf n 1))⟩ n i).B (ak n i) 1,(part (aG lf) ⟨S.B,qy S.N k (some (rf n 1))⟩ n i).N⟩:SI)=part (aG lf) ⟨S.B,qy S.N k (some (rf n 1))⟩ n (i+1) by rw[fx _ _ _ i J];unfold aG;rw[RJ O,RI V]];exact qk (i+1) (by omega) (by omega) [0,2,8,38,39] rfl rfl
      ·refine qo (gM rR (gM rR (gR (vB call249 rR (Dz b (part (aG lf) ⟨S.B,qy S.N k (some (rf n 1))⟩ n i) (ak n i) (m+i) hpi (by omega) (by have:=hk (by simpa using V) i J;omega))) (qc (qD (qD (qo (gP rR rR (by omega) (gM rR (qc ?_))))))))));rw[show (⟨(part (aG lf) ⟨S.B,qy S.N k (some (rf n 1))⟩ n i).B,jm (part (aG lf) ⟨S.B,qy S.N k (some (rf n 1))⟩ n i).N (ak n i)⟩:SI)=part (aG lf) ⟨S.B,qy S.N k (some (rf n 1))⟩ n (i+1) by rw[fx _ _ _ i J];unfold aG;rw[RJ O,RJ (by simpa using V)]];exact qk (i+1) (by omega) (by omega) [0,2,8,38,39] rfl rfl
    ·simp at Z;obtain rfl:i=4:=(by omega);refine qw rR ?_;refine gS (gM rR (gA rR (gQ rR ?_)));rw[show qR S n=((k:Int),0) by unfold qR;rw[RJ D,h],show qU lf S n=part (aG lf) ⟨S.B,qy S.N k (some (rf n 1))⟩ n 4 by unfold qU;rw[RJ D,h];rfl];exact ql rfl rfl rfl
def K0 (b:Nat)(S:SI)(d:ab)(m:Int)(hok:aH m S)(D:m<=1000000)(hd:d.length<=9223372036854775807)(F:List aa):Ct Tryz.prog 229 [ptr b 0,ac d] (aX b S::F) (R1 (.tuple #[I (qi S d).1,bg 117 (qi S d).2]) (aX b (qe S d)::F)):=by
 refine Ct.of func229 rR 16 ntmps229 (by simp) λw0=>?_;refine gS (gA rR (gQ rR (qb (gS (gM rR (gV (wl rR rR) (qc ?_)))))));refine qd rfl ?_ ?_ <;> intro h
 ·simp at h;refine gS (gA rR (gQ rR ?_));rw[show qi S d=(0,0) by unfold qi;rw[RI h],show qe S d=S by unfold qe;rw[RI h]];exact ql rfl rfl rfl
 ·simp at h;refine qf (qb ?_);refine eK b (S) ?_;intro p r;refine qo (gM rR (gV (qa rR) (gF 0 O5 rR PM rR (gL (ptr p 0) PQ rR (gM rR (gR (vB call264 rR (KS p S.B d (oS hok D) hd)) (gX (I (cK S.B d).1) rR (gX (bg 117 (cK S.B d).2) rR (gA rR (gQ rR ?_))))))))));rw[show qi S d=cK S.B d by unfold qi;rw[RJ h],show qe S d=⟨dp S.B d,S.N⟩ by unfold qe;rw[RJ h]];refine yw p r b (⟨dp S.B d,S.N⟩) (.refl _) ?_;exact ql rfl rfl rfl
def DA (b:Nat)(S:SI)(q m:Int)(hok:aH m S)(D:0<=m/\m<=1000000)(J:q<=24)(F:List aa):Ct Tryz.prog 196 [ptr b 0,I q] (aX b S::F) (R1 (I q) (aX b (wX S q)::F)):=by
 refine Ct.of func196 rR 11 ntmps196 (by simp) λw0=>?_;refine gS (gQ rR (qb (gS (gM rR (gV (qX rR rR) (qc ?_))))));refine qd rfl ?_ ?_ <;> intro h
 ·simp at h;refine qo (gM rR (gM rR (gR (vB call249 rR (Dz b S q m hok D (by omega))) (qc (gS (gM rR (gQ rR ?_)))))));rw[show (⟨S.B,jm S.N q⟩:SI)=wX S q by unfold wX;rw[RI h]];exact ql rfl rfl rfl
 ·simp at h;refine qf (gS (gM rR (gQ rR ?_)));rw[show aX b S=aX b (wX S q) by unfold wX;rw[RJ (by omega)]];exact ql rfl rfl rfl
def xr (b:Nat)(S:SI)(q m:Int)(hok:aH m S)(h:0<=m/\m<=1000000)(F:List aa):Ct Tryz.prog 170 [ptr b 0,I q] (aX b S::F) (R1 (.tuple #[]) (aX b (cj S q)::F)):=by
 refine Ct.of func170 rR 7 ntmps170 (by simp) λw0=>?_;refine qo (gM rR (gM rR (gR (vB call232 rR (KZ b S q m hok h)) (qc ?_))));exact fk rfl rfl rfl
def kZ (a:Nat)(h:a<16):IntKind.i64.wrap ((a:Int).tdiv 4)=((a / 4:Nat):Int):=by
 rw[show ((a:Int).tdiv 4)=((a / 4:Nat):Int) from rfl];exact ao (by omega)
def ka (a:Nat):(a:Int).tmod 4=((a % 4:Nat):Int):=rfl
def tr (n:Nd):(aV n).toArray.extract 0 (0+4)=(aA n).toArray:=by simp
def xt (S:SI)(n:Nd):0<=(qR S n).1/\(qR S n).1<=24:=by
 unfold qR;split
 ·simp
 ·cases h:wK 24 S.N with
  | none=>simp
  | some k=>have:=(g9 h).1;simp;omega
def xu (n:Nd)(x:Int):∀i j,i<4->j<4->ak (mW n i x) j=if j=i then x else ak n j:=by
 intro i j D J
 match i,j,D,J with
 | 0,0,_,_ | 0,1,_,_ | 0,2,_,_ | 0,3,_,_ | 1,0,_,_ | 1,1,_,_ | 1,2,_,_ | 1,3,_,_ | 2,0,_,_ | 2,1,_,_ | 2,2,_,_ | 2,3,_,_ | 3,0,_,_ | 3,1,_,_ | 3,2,_,_ | 3,3,_,_=>rfl
 | i+4,j,h,_=>omega
 | 0,j+4,_,h | 1,j+4,_,h | 2,j+4,_,h | 3,j+4,_,h=>omega
def mY {n:Nd}{x:Int}{o i:Nat}(h:i<4)(D:o=i):(aA n).toArray.setIfInBounds o (I x)=(aA (mW n i x)).toArray:=by
 subst D;rw[Im,KX n x o h]
def xw (b:Nat)(S:SI)(root:Int)(at_:Nat)(m:Int)(hok:aH m S)(D:m<=1000000)(h:at_<16)(F:List aa):Ct Tryz.prog 98 [ptr b 0,I root,I at_] (aX b S::F) (R1 (ac (ct S root at_)) (aX b S::F)):=by
 refine Ct.of func98 rR 39 ntmps98 (by simp) λw0=>?_;refine eK b (S) ?_;intro p r;refine gS (gQ rR (gS (gM rR (gV (qa rR) (gF 1 O5 rR Pn rR (gL (.map (some r)) Pr rR (gM rR (gV (yE (v:=we (gN S.N (root))) Ps OL Py rR rR (iK hok.2.2.1 _)) (gV (sn (aA (gN S.N root)) O3 rR Pw O0 rR (tr _)) (gM rR (gV (ir rR rR (by decide) (kZ at_ h)) (gV (kE (v:=I (ak (gN S.N root) (at_ / 4))) (at_ / 4) Pa OH OI rR rR rR (by omega) (by simpa using eM (gN S.N root) (at_ / 4) (by omega))) (gQ rR (qb (gD (Lf:=[pt b (.cells #[ptr p 0, .map (some r)] 231 (0,0)),mp r (tb we 24 S.N)]) [(0,false),(1,false),(2,false),(3,false),(4,false),(5,false),(6,false),(7,false),(8,false),(9,false),(10,false),(11,false),(12,false),(13,false),(14,true),(15,false),(16,false),(17,false),(18,false),(19,false)] (dM rR rR rR (dV rR (qa rR) (dF rR 0 O5 rR PM rR (dL rR (ptr p 0) PQ rR (dM rR rR rR (dV rR (qa rR) (dF rR 1 O5 rR Pn rR (dL rR (.map (some r)) Pr rR (dM rR rR rR (dV rR (yE (v:=we (gN S.N (ak (gN S.N root) (at_ / 4)))) Ps OL Py rR rR (iK hok.2.2.1 _)) (dV rR (sn (aA (gN S.N (ak (gN S.N root) (at_ / 4)))) O3 rR Pw O0 rR (tr _)) (dM rR rR rR (dV rR (kC rR rR (by decide) (ka at_)) (dV rR (kE (v:=I (ak (gN S.N (ak (gN S.N root) (at_ / 4))) (at_ % 4))) (at_ % 4) Pa OH OI rR rR rR (SU _ (by decide)) (by simpa using eM (gN S.N (ak (gN S.N root) (at_ / 4))) (at_ % 4) (SU _ (by decide)))) (av rR (uB call173 rR (KO p S.B (ak (gN S.N (ak (gN S.N root) (at_ / 4))) (at_ % 4)) (oS hok D))) rR ?_))))))))))))))))))))))))))))));rintro _ _ ⟨rfl,rfl⟩;refine dM rR rR rR (dV rR (qr (v:=ac (ct S root at_)) rR rR) (dV rR (qr (v:=bg 117 (iI S.B (ak (gN S.N (ak (gN S.N root) (at_ / 4))) (at_ % 4))).2) rR rR) (dV rR (qt rR) (dV rR (qt rR) ?_))));refine qI ?_;refine gS (gM rR (gQ rR ?_));refine yw p r b (S) (.refl _) ?_;exact ql rfl rfl rfl
def DB (b:Nat)(S:SI)(root:Int)(at_:Nat)(d:ab)(m:Int)(hok:aH m S)(hm:1<=m/\m<=800000)(hat:at_<16)(hd:d.length<=9223372036854775807)(hk:∀i,i<4->0<=ak (gN S.N root) i/\ak (gN S.N root) i<=24)(F:List aa):Ct Tryz.prog 169 [ptr b 0,I root,I at_,ac d] (aX b S::F) (R1 (.tuple #[I (aP S root at_ d).1,bg 117 (aP S root at_ d).2]) (aX b (ck S root at_ d)::F)):=by
 have J:=Ds hok hm.1 d;have hN1:(qe S d).N=S.N:=(by unfold qe;split <;> rfl);have X:aH (m+4) (qU true (qe S d) (yz (qe S d) root at_ (qi S d).1)):=tq J hm.1 (λh=>by cases h);have O:aH (m+4) (aR (qU true (qe S d) (yz (qe S d) root at_ (qi S d).1)) (qi S d).1):=Dt X _;have hk3:∀i,i<4->0<=ak (aT (qe S d) root at_ (qR (qe S d) (yz (qe S d) root at_ (qi S d).1)).1) i/\ak (aT (qe S d) root at_ (qR (qe S d) (yz (qe S d) root at_ (qi S d).1)).1) i<=24:=λi hi=>by
  unfold aT;rw[xu _ _ _ _ (by omega) hi,hN1];split
  ·exact xt _ _
  ·exact hk i hi
 have Y:aH (m+4+4) (qU false (aR (qU true (qe S d) (yz (qe S d) root at_ (qi S d).1)) (qi S d).1) (aT (qe S d) root at_ (qR (qe S d) (yz (qe S d) root at_ (qi S d).1)).1)):=tq O (by omega) (λ_=>hk3);refine Ct.of func169 rR 80 ntmps169 (by simp) λw0=>?_;refine gS (gA rR (gQ rR (gS (gM rR (gM rR (gR (vB call229 rR (K0 b S d m hok (by omega) hd)) (gM rR (gX (I (qi S d).1) rR (gX (bg 117 (qi S d).2) rR (gA rR (gQ rR (qb (gS (gM rR (gV (yP OT rR) (qc ?_))))))))))))))));refine qd rfl ?_ ?_ <;> intro R
 ·simp at R;refine gS (gM rR (gA rR (gQ rR ?_)));rw[show aP S root at_ d=(0,(qi S d).2) by unfold aP;simp only;rw[RI R],show ck S root at_ d=(qe S d) by unfold ck;simp only;rw[RI R]];exact ql rfl rfl rfl
 ·simp at R;refine qf (qb ?_);refine eK b ((qe S d)) ?_;intro p r;refine qo (gM rR (gV (qa rR) (gF 1 O5 rR Pn rR (gL (.map (some r)) Pr rR (gM rR (gV (yE (v:=we (gN (qe S d).N (root))) Ps OL Py rR rR (iK J.2.2.1 _)) (gV (sn (aA (gN (qe S d).N root)) O3 rR Pw O0 rR (tr _)) (gI (qA #[I 0,I 0,I 0,I 0] Qt) ?_))))))));rintro _ _ ⟨b12,rfl,rfl⟩;refine gU (qp (cs:=#[I 0,I 0,I 0,I 0]) (vs:=aA (gN (qe S d).N root)) (aA (gN (qe S d).N root)).toArray O0 rR rR rR rR (by simp) (qs rR)) (qc (qb ?_));refine yO (Lf:=[pt b (.cells #[ptr p 0, .map (some r)] 231 (0,0)),mp r (tb we 24 (qe S d).N),pt b12 (.cells (aA (gN (qe S d).N root)).toArray 185 (0,0))]) jI (by kernel_rfl) (by kernel_rfl) rR (by kernel_rfl) ?_;refine dM rR rR rR (dV rR (qa rR) (dF rR 1 O5 rR Pn rR (dL rR (.map (some r)) Pr rR (dM rR rR rR (dV rR (ir rR rR (by decide) (kZ at_ hat)) (dV rR (yj (at_ / 4) Pa OH rR rR rR (by omega)) (dV rR (qu (v:=I (ak (gN (qe S d).N root) (at_ / 4))) OI rR (by simpa [yd] using eM (gN (qe S d).N root) (at_ / 4) (by omega))) (dV rR (yE (v:=we (gN (qe S d).N (ak (gN (qe S d).N root) (at_ / 4)))) Ps OL Py rR rR (iK J.2.2.1 _)) (dV rR (sn (aA (gN (qe S d).N (ak (gN (qe S d).N root) (at_ / 4)))) O3 rR Pw O0 rR (tr _)) (av rR (qA #[I 0,I 0,I 0,I 0] Qt) rR ?_))))))))));rintro _ _ ⟨b13,rfl,rfl⟩;refine fl rR (qp (cs:=#[I 0,I 0,I 0,I 0]) (vs:=aA (gN (qe S d).N (ak (gN (qe S d).N root) (at_ / 4)))) (aA (gN (qe S d).N (ak (gN (qe S d).N root) (at_ / 4)))).toArray O0 rR rR rR rR (by simp) (qs rR)) ?_;rintro _ _ rfl;refine qI ?_;refine gS (gM rR (gV (kC rR rR (by decide) (ka at_)) (gM rR (gV (yj (at_ % 4) Pa OH rR rR rR (SU _ (by decide))) (gU (qG (aA (yz (qe S d) root at_ (qi S d).1)).toArray OH rR rR rR (by simp;omega) (mY (SU _ (by decide)) (by omega))) (qc (qb ?_)))))));refine yw p r b ((qe S d)) (.refl _) ?_;refine qo (gM rfl (gV (qJ (vs:=aA (yz (qe S d) root at_ (qi S d).1)) Pw O0 rfl rfl qQ) (gR (vB call230 rfl (xq b (qe S d) (yz (qe S d) root at_ (qi S d).1) true m J (by omega) (λh=>by cases h))) (gM rfl (gX (I (qR (qe S d) (yz (qe S d) root at_ (qi S d).1)).1) rfl (gX (bg 117 (qR (qe S d) (yz (qe S d) root at_ (qi S d).1)).2) rfl (gA rfl (gQ rfl (qb (gS (gM rfl (gV (yP OT rfl) (qc ?_)))))))))))));refine qd rfl ?_ ?_ <;> intro V
  ·simp at V;refine gS (gM rR (gA rR (gQ rR ?_)));rw[show aP S root at_ d=(0,(qR (qe S d) (yz (qe S d) root at_ (qi S d).1)).2) by unfold aP;simp only;rw[RJ (by omega),RI V],show ck S root at_ d=(qU true (qe S d) (yz (qe S d) root at_ (qi S d).1)) by unfold ck;simp only;rw[RJ (by omega),RI V]];exact ql rfl rfl rfl
  ·simp at V;refine qf (qb (gS (gM rR (gV (qX rR rR) (qc ?_)))));refine qd rfl ?_ ?_ <;> intro Z
   ·simp at Z;refine eK b ((qU true (qe S d) (yz (qe S d) root at_ (qi S d).1))) ?_;intro p2 r2;refine qo (gM rR (gV (qa rR) (gF 0 O5 rR PM rR (gL (ptr p2 0) PQ rR (gM rR (gR (vB call231 rR (Dm p2 (qU true (qe S d) (yz (qe S d) root at_ (qi S d).1)).B (qi S d).1 (oS X (by omega)))) (qc ?_)))))));refine yw p2 r2 b (⟨bj (qU true (qe S d) (yz (qe S d) root at_ (qi S d).1)).B (qi S d).1 (-1),(qU true (qe S d) (yz (qe S d) root at_ (qi S d).1)).N⟩) (.refl _) ?_;rw[show (⟨bj (qU true (qe S d) (yz (qe S d) root at_ (qi S d).1)).B (qi S d).1 (-1),(qU true (qe S d) (yz (qe S d) root at_ (qi S d).1)).N⟩:SI)=(aR (qU true (qe S d) (yz (qe S d) root at_ (qi S d).1)) (qi S d).1) by unfold aR;rw[RI Z]];refine gS (gM rR (gV (ir rR rR (by decide) (kZ at_ hat)) (gM rR (gV (yj (at_ / 4) Pa OH rR rR rR (by omega)) (gU (qG (aA (aT (qe S d) root at_ (qR (qe S d) (yz (qe S d) root at_ (qi S d).1)).1)).toArray OH rR rR rR (by simp;omega) (mY (by omega) (by omega))) (qc (gS (gM rR (gV (qJ (vs:=aA (aT (qe S d) root at_ (qR (qe S d) (yz (qe S d) root at_ (qi S d).1)).1)) Pw O0 rR rR qQ) (gR (vB call230 rR (xq b (aR (qU true (qe S d) (yz (qe S d) root at_ (qi S d).1)) (qi S d).1) (aT (qe S d) root at_ (qR (qe S d) (yz (qe S d) root at_ (qi S d).1)).1) false (m+4) O (by omega) (λ_=>hk3))) (gM rR (gX (I (qR (aR (qU true (qe S d) (yz (qe S d) root at_ (qi S d).1)) (qi S d).1) (aT (qe S d) root at_ (qR (qe S d) (yz (qe S d) root at_ (qi S d).1)).1)).1) rR (gX (bg 117 (qR (aR (qU true (qe S d) (yz (qe S d) root at_ (qi S d).1)) (qi S d).1) (aT (qe S d) root at_ (qR (qe S d) (yz (qe S d) root at_ (qi S d).1)).1)).2) rR (gA rR (gQ rR (qb (gS (gM rR (gV (yP OT rR) (qc ?_))))))))))))))))))));refine qd rfl ?_ ?_ <;> intro D
    ·simp at D;refine gS (gM rR (gA rR (gQ rR ?_)));rw[show aP S root at_ d=(0,(qR (aR (qU true (qe S d) (yz (qe S d) root at_ (qi S d).1)) (qi S d).1) (aT (qe S d) root at_ (qR (qe S d) (yz (qe S d) root at_ (qi S d).1)).1)).2) by unfold aP;simp only;rw[RJ (by omega),RJ (by omega),RI D],show ck S root at_ d=(qU false (aR (qU true (qe S d) (yz (qe S d) root at_ (qi S d).1)) (qi S d).1) (aT (qe S d) root at_ (qR (qe S d) (yz (qe S d) root at_ (qi S d).1)).1)) by unfold ck;simp only;rw[RJ (by omega),RJ (by omega),RI D]];exact ql rfl rfl rfl
    ·simp at D;refine qf (gS (gM rR (gM rR (gR (vB call232 rR (xp b (qU false (aR (qU true (qe S d) (yz (qe S d) root at_ (qi S d).1)) (qi S d).1) (aT (qe S d) root at_ (qR (qe S d) (yz (qe S d) root at_ (qi S d).1)).1)) (qR (qe S d) (yz (qe S d) root at_ (qi S d).1)).1 (m+4+4) Y (by omega))) (qc (gS (gM rR (gA rR (gQ rR ?_)))))))));rw[show aP S root at_ d=((qR (aR (qU true (qe S d) (yz (qe S d) root at_ (qi S d).1)) (qi S d).1) (aT (qe S d) root at_ (qR (qe S d) (yz (qe S d) root at_ (qi S d).1)).1)).1,0) by unfold aP;simp only;rw[RJ (by omega),RJ (by omega),RJ (by omega)],show ck S root at_ d=aY (qU false (aR (qU true (qe S d) (yz (qe S d) root at_ (qi S d).1)) (qi S d).1) (aT (qe S d) root at_ (qR (qe S d) (yz (qe S d) root at_ (qi S d).1)).1)) (qR (qe S d) (yz (qe S d) root at_ (qi S d).1)).1 by unfold ck;simp only;rw[RJ (by omega),RJ (by omega),RJ (by omega)]];exact ql rfl rfl rfl
   ·simp at Z;rw[show aX b (qU true (qe S d) (yz (qe S d) root at_ (qi S d).1))=aX b (aR (qU true (qe S d) (yz (qe S d) root at_ (qi S d).1)) (qi S d).1) by unfold aR;rw[RJ (by omega)]];refine qf (gS (gM rR (gV (ir rR rR (by decide) (kZ at_ hat)) (gM rR (gV (yj (at_ / 4) Pa OH rR rR rR (by omega)) (gU (qG (aA (aT (qe S d) root at_ (qR (qe S d) (yz (qe S d) root at_ (qi S d).1)).1)).toArray OH rR rR rR (by simp;omega) (mY (by omega) (by omega))) (qc (gS (gM rR (gV (qJ (vs:=aA (aT (qe S d) root at_ (qR (qe S d) (yz (qe S d) root at_ (qi S d).1)).1)) Pw O0 rR rR qQ) (gR (vB call230 rR (xq b (aR (qU true (qe S d) (yz (qe S d) root at_ (qi S d).1)) (qi S d).1) (aT (qe S d) root at_ (qR (qe S d) (yz (qe S d) root at_ (qi S d).1)).1) false (m+4) O (by omega) (λ_=>hk3))) (gM rR (gX (I (qR (aR (qU true (qe S d) (yz (qe S d) root at_ (qi S d).1)) (qi S d).1) (aT (qe S d) root at_ (qR (qe S d) (yz (qe S d) root at_ (qi S d).1)).1)).1) rR (gX (bg 117 (qR (aR (qU true (qe S d) (yz (qe S d) root at_ (qi S d).1)) (qi S d).1) (aT (qe S d) root at_ (qR (qe S d) (yz (qe S d) root at_ (qi S d).1)).1)).2) rR (gA rR (gQ rR (qb (gS (gM rR (gV (yP OT rR) (qc ?_)))))))))))))))))))));refine qd rfl ?_ ?_ <;> intro D
    ·simp at D;refine gS (gM rR (gA rR (gQ rR ?_)));rw[show aP S root at_ d=(0,(qR (aR (qU true (qe S d) (yz (qe S d) root at_ (qi S d).1)) (qi S d).1) (aT (qe S d) root at_ (qR (qe S d) (yz (qe S d) root at_ (qi S d).1)).1)).2) by unfold aP;simp only;rw[RJ (by omega),RJ (by omega),RI D],show ck S root at_ d=(qU false (aR (qU true (qe S d) (yz (qe S d) root at_ (qi S d).1)) (qi S d).1) (aT (qe S d) root at_ (qR (qe S d) (yz (qe S d) root at_ (qi S d).1)).1)) by unfold ck;simp only;rw[RJ (by omega),RJ (by omega),RI D]];exact ql rfl rfl rfl
    ·simp at D;refine qf (gS (gM rR (gM rR (gR (vB call232 rR (xp b (qU false (aR (qU true (qe S d) (yz (qe S d) root at_ (qi S d).1)) (qi S d).1) (aT (qe S d) root at_ (qR (qe S d) (yz (qe S d) root at_ (qi S d).1)).1)) (qR (qe S d) (yz (qe S d) root at_ (qi S d).1)).1 (m+4+4) Y (by omega))) (qc (gS (gM rR (gA rR (gQ rR ?_)))))))));rw[show aP S root at_ d=((qR (aR (qU true (qe S d) (yz (qe S d) root at_ (qi S d).1)) (qi S d).1) (aT (qe S d) root at_ (qR (qe S d) (yz (qe S d) root at_ (qi S d).1)).1)).1,0) by unfold aP;simp only;rw[RJ (by omega),RJ (by omega),RJ (by omega)],show ck S root at_ d=aY (qU false (aR (qU true (qe S d) (yz (qe S d) root at_ (qi S d).1)) (qi S d).1) (aT (qe S d) root at_ (qR (qe S d) (yz (qe S d) root at_ (qi S d).1)).1)) (qR (qe S d) (yz (qe S d) root at_ (qi S d).1)).1 by unfold ck;simp only;rw[RJ (by omega),RJ (by omega),RJ (by omega)]];exact ql rfl rfl rfl
def K3 (b:Nat)(S:SI)(F:List aa):Ct Tryz.prog 139 [ptr b 0] (aX b S::F) (λv L'=>∃q,v=ptr q 0/\L'=aX q S::aX b S::F):=by
 refine Ct.of func139 rR 31 ntmps139 (by simp) λw0=>?_;refine eK b (S) ?_;intro p r;refine gS (gQ rR (gS (gM rR (gV (qa rR) (gF 0 O5 rR PM rR (gL (ptr p 0) PQ rR (gI (uB call209 rR (KR p S.B)) ?_)))))));rintro _ _ ⟨X,rfl,rfl⟩;refine gI (gW) ?_;rintro _ _ ⟨D,rfl,rfl⟩;refine gV (qF rR (Bc _ rR _ rR)) (gI (wR #[ptr X 0, .map (some D)] rfl rR) ?_);rintro _ _ ⟨h,rfl,rfl⟩;refine gQ rR ?_;refine wY r ?_;intro es clk;refine qb (gS (gM rR (gV (qa rR) (gF 1 O5 rR Pn rR (gL (.map (some r)) Pr rR (gI (fV Ps rR) ?_))))));rintro _ _ ⟨R,rfl,rfl⟩;refine qc (qg ?_);refine qC (α:=MM×MM×Option (Int×Value)) (λz=>(z.2.1++z.1).Perm (tb we 24 S.N)) (λ_=>U [(0,ptr b 0),(3,ptr h 0),(18,ptr R 0)]) (λz=>dx R r es clk z.1 z.2.2::cz r es clk (tb we 24 S.N)::pt b (.cells #[ptr p 0, .map (some r)] 231 (0,0))::bi p S.B::pt h (.cells #[ptr X 0, .map (some D)] 231 (0,0))::bi X S.B::mp D z.2.1::F) (λz=>z.1.length) (tb we 24 S.N,[],none) (.refl _) [0,3,18] rfl rR ?_;rintro ⟨rest,O,cur⟩ Y;simp only at Y;refine gS (gI (fW rR) ?_);rintro _ _ (⟨hr,rfl,rfl⟩ | ⟨⟨k,v⟩,J,Z,rfl,rfl⟩)
 ·subst hr;have hg:O.Perm (tb we 24 S.N):=(by simpa using Y);refine gV (qr rR rR) (qc (qb ?_));refine wo rR ?_;refine qw rR ?_;refine gS (gM rR (gQ rR ?_));refine yw X D h S hg ?_;refine qT r ?_;refine yw p r b S (.refl _) ?_;refine dK (L2:=aX h S::aX b S::F) ?_;exact λa w hE hS=>wp_ret (yu (qB (vs:=[ptr h 0]) rfl hE hS ⟨h,rfl,rfl⟩))
 ·obtain ⟨x,hx,hv,hk⟩:=mE (Y.mem_iff.1 (UE _ (Z.mem_iff.2 (TQ ..))));simp only at hv hk hx;subst hv;have V:(O++(k,we x)::J).Perm (tb we 24 S.N):=(Z.append_left O).symm.trans Y;have hl:=Di V (j2 we 24 S.N);refine gV (qr rR rR) (qc (qb ?_));refine wZ rR ?_;refine qf (qg (gS (gV (fX rR) (gX (I k) rR (gX (we x) rR (gI (qA #[I 0,I 0,I 0,I 0,I 0] Py) ?_))))));rintro _ _ ⟨b5,rfl,rfl⟩;refine gA rR (gU (qp (cs:=#[I 0,I 0,I 0,I 0,I 0]) (vs:=aV x) (aV x).toArray O7 rR rR rR rR (by simp) (qs rR)) (qc ?_));refine yO (Lf:=[pt h (.cells #[ptr X 0, .map (some D)] 231 (0,0)),pt b5 (.cells (aV x).toArray 187 (0,0))]) jA (by kernel_rfl) (by kernel_rfl) rR (by kernel_rfl) ?_;refine dM rR rR rR (dV rR (qa rR) (dF rR 1 O5 rR Pn rR (dL rR (.map (some D)) Pr rR (dM rR rR rR (dV rR (qJ (vs:=aV (x)) QC O7 rR rR qQ) (fl rR (yk Ps OL rR rR rR) ?_))))));rintro _ _ rfl;refine qI ?_;refine qD ?_;refine qk (J,dw O k (we x),some (k,we x)) ((Dh hl).trans V) (by have:=Z.length_eq;simp at this;simp;omega) [0,3,18] rfl rfl
def DC (b:Nat)(S:SI)(F:List aa):Ct Tryz.prog 138 [ptr b 0] (aX b S::F) (dU 3 1 (aj 24 S.N).length (yC (aj 24 S.N)) (aX b S::F)):=by
 refine Ct.of func138 rR 21 ntmps138 (by simp) λw0=>?_;refine eK b (S) ?_;intro p r;refine wY r ?_;intro es clk;refine yi 3 1 (yC []) rR ?_;refine gS (gQ rR (gS (gQ rR (qb (gS (gM rR (gV (qa rR) (gF 1 O5 rR Pn rR (gL (.map (some r)) Pr rR (gI (fV Ps rR) ?_))))))))));rintro _ _ ⟨Z,rfl,rfl⟩;refine qc (qg ?_);refine qC (α:=MM×List Int×Option (Int×Value)×Option Addr×Nat) (λz=>(z.2.1++z.1.map (·.1)).Perm (aj 24 S.N)) (λz=>U [(0,ptr b 0),(9,ptr Z 0),(3,sl z.2.2.2.1 z.2.1.length z.2.2.2.2)]) (λz=>dx Z r es clk z.1 z.2.2.1::cz r es clk (tb we 24 S.N)::pt b (.cells #[ptr p 0, .map (some r)] 231 (0,0))::bi p S.B::ai 3 1 z.2.2.2.1 z.2.2.2.2 (yC z.2.1)::F) (λz=>z.1.length) (tb we 24 S.N,[],none,none,0) (by rw[SK,kL]) [0,9,3] rfl rR ?_;rintro ⟨rest,D,cur,s,c⟩ J;simp only[] at J ⊢;have hzl:D.length<=24:=(by have V:=J.length_eq;have h2:=wh 24 S.N;simp at V;omega);refine gS (gI (fW rR) ?_);rintro _ _ (⟨O,rfl,rfl⟩ | ⟨⟨k,v⟩,h,hq,rfl,rfl⟩)
 ·subst O;simp only[RC,T6] at J;refine gV (qr rR rR) (qc (qb ?_));refine wo rR ?_;refine qw rR ?_;refine gS (gM rR (gR (vB call208 rR (tl D s D.length c rR (by omega))) ?_));rw[sj J];refine qc (gS (gM rR (gQ rR ?_)));refine qT r ?_;refine yw p r b S (.refl _) ?_;exact wk rfl rfl rfl (by rw[J.length_eq])
 ·have X:(D++k::h.map (·.1)).Perm (aj 24 S.N):=by
   have V:=((hq.map (·.1)).append_left D).symm.trans J;simpa using V
  refine gV (qr rR rR) (qc (qb ?_));refine wZ rR ?_;refine qf (qg (gS (gV (fX rR) (gX (I k) rR (gQ rR (qo (gM rR (gM rR (gI (qj [[I k]] OO OH Pe rR rR rR (by simp) (by decide) (by decide)) ?_)))))))));rintro _ _ ⟨b16,rfl,rfl⟩;refine gI (qN OO OH Pe rfl Tryz.typeInfo3 (by decide) rfl rfl (yh _) rfl (by simp) (by intro r O;simp at O;subst O;rfl) ⟨by omega,by decide,by decide⟩) ?_;rintro _ _ ⟨Y,R,rfl,rfl⟩;refine gQ rR (qD ?_);rw[show yC D++ [[I k]]=yC (D++ [k]) by simp[yC]];refine qk (h,D++ [k],some (k,v),Y,R) (by simpa using X) (by have:=hq.length_eq;simp at this;simp;omega) [0,9,3] rfl (by simp[U])
def bA (n:Option Nd)(q:Int):Int:=match n with
 | none=>0
 | some n=>(if n.k0=q then 1 else 0)+(if n.k1=q then 1 else 0)+(if n.k2=q then 1 else 0)+(if n.k3=q then 1 else 0)
def dD (N:aB)(q:Int):List Nat->Int
 | []=>0
 | k::l=>bA (N (k:Int)) q+dD N q l
def aF (N:aB)(q:Int):Int:=dD N q (List.range' 1 24)
def oW (n:Option Nd)(q:Int):0<=bA n q:=by
 cases n with
 | none=>simp[bA]
 | some n=>simp only[bA];split <;> split <;> split <;> split <;> omega
def K4 (n:Option Nd)(q:Int):bA n q<=4:=by
 cases n with
 | none=>simp[bA]
 | some n=>simp only[bA];split <;> split <;> split <;> split <;> omega
def xx (N:aB)(q:Int):∀l,0<=dD N q l
 | []=>by simp[dD]
 | k::l=>by have:=xx N q l;have:=oW (N (k:Int)) q;simp only[dD];omega
def DD (N:aB)(q:Int):∀l,dD N q l<=4*l.length
 | []=>by simp[dD]
 | k::l=>by have:=DD N q l;have:=K4 (N (k:Int)) q;simp only[dD,RX];omega
def iL (N:aB)(q:Int):0<=aF N q:=xx _ _ _
def tt (N:aB)(q:Int):aF N q<=96:=by have:=DD N q (List.range' 1 24);simp at this;exact this
def DE {N:aB}{q:Int}{k:Nat}:∀{l:List Nat},k∈l->bA (N (k:Int)) q<=dD N q l
 | [],h=>by simp at h
 | j::l,h=>by
  have D:=xx N q l;have J:=oW (N (j:Int)) q;simp only[dD];rcases RR.1 h with rfl | h
  ·omega
  ·have:=DE (N:=N) (q:=q) h;omega
def DF {N:aB}{q p:Int}{x:Option Nd}:∀{l:List Nat},(∀k∈l,(k:Int)≠p)->dD (qy N p x) q l=dD N q l
 | [],_=>rfl
 | j::l,h=>by
  simp only[dD];rw[DF (λk D=>h k (Th _ D))];have:=h j (by simp);simp[qy,this]
def DG {N:aB}{q:Int}{p:Nat}{x:Option Nd}:∀{l:List Nat},l.Nodup->p∈l->dD (qy N (p:Int) x) q l=dD N q l - bA (N (p:Int)) q+bA x q
 | [],_,h=>by simp at h
 | j::l,D,h=>by
  rw[Tg] at D;simp only[dD];by_cases O:j=p
  ·subst O;have J:∀k∈l,(k:Int)≠(j:Int):=λk S e=>D.1 (by
     have R:k=j:=(by omega);exact R ▸ S)
   rw[DF J];simp[qy];omega
  ·rcases RR.1 h with rfl | h
   ·exact absurd rfl O
   ·rw[DG D.2 h];have:(j:Int)≠p:=(by omega);simp[qy,this];omega
def tu {N:aB}{p:Int}(h:1<=p/\p<=24)(x:Option Nd)(q:Int):aF (qy N p x) q=aF N q - bA (N p) q+bA x q:=by
 obtain ⟨k,rfl⟩:∃k:Nat,p=k:=⟨p.toNat,by omega⟩;exact DG (TB (step:=1)) (by rw[TF];omega)
def tv {N:aB}{p:Int}(h:1<=p/\p<=24)(q:Int):bA (N p) q<=aF N q:=by
 obtain ⟨k,rfl⟩:∃k:Nat,p=k:=⟨p.toNat,by omega⟩;exact DE (by rw[TF];omega)
def tw (n:Nd):∀i,i<4->1<=bA (some n) (ak n i)
 | 0,_=>by simp only[bA,ak];split <;> split <;> split <;> split <;> first | omega | exact absurd trivial ‹¬True›
 | 1,_=>by simp only[bA,ak];split <;> split <;> split <;> split <;> first | omega | exact absurd trivial ‹¬True›
 | 2,_=>by simp only[bA,ak];split <;> split <;> split <;> split <;> first | omega | exact absurd trivial ‹¬True›
 | 3,_=>by simp only[bA,ak];split <;> split <;> split <;> split <;> first | omega | exact absurd trivial ‹¬True›
 | i+4,h=>absurd h (by omega)
def xy {n:Nd}{q:Int}(h:0<bA (some n) q):∃i,i<4/\ak n i=q:=by
 simp only[bA] at h;by_cases D:n.k0=q
 ·exact ⟨0,by omega,D⟩
 ·by_cases J:n.k1=q
  ·exact ⟨1,by omega,J⟩
  ·by_cases O:n.k2=q
   ·exact ⟨2,by omega,O⟩
   ·by_cases R:n.k3=q
    ·exact ⟨3,by omega,R⟩
    ·simp[D,J,O,R] at h
def xz {N:aB}{q:Int}:∀{l:List Nat},(∀k∈l,bA (N (k:Int)) q=0)->dD N q l=0
 | [],_=>rfl
 | k::l,h=>by simp only[dD];rw[h k (by simp),xz λj D=>h j (Th _ D)];rfl
def DH (q:Int):aF (λ_=>none) q=0:=xz λ_ _=>rfl
structure Gh where
 R:aB
 L:aB
 D:Int->Option ab
 eR:Int->Int
 eL:Int->Int
 eB:Int->Int
def dQ (G:Gh):aB:=λq=>match G.R q with
 | some n=>some (rf n (G.eR q))
 | none=>(G.L q).map λn=>rf n (G.eL q+aF G.R q)
def kc (G:Gh):bV:=λq=>(G.D q).map λd=>(d,G.eB q+aF G.L q)
def ag (G:Gh):SI:=⟨kc G,dQ G⟩
structure Val (G:Gh):Prop where
 sR:bh 24 G.R
 sL:bh 24 G.L
 sD:bh 40 G.D
 dj:∀q,G.R q=none\/G.L q=none
 nR:∀q,0<=G.eR q
 nL:∀q,0<=G.eL q
 nB:∀q,0<=G.eB q
 pR:∀q,q≠0->((G.R q).isSome=true ↔ 0<G.eR q)
 pL:∀q,q≠0->((G.L q).isSome=true ↔ 0<G.eL q+aF G.R q)
 pD:∀q,q≠0->((G.D q).isSome=true ↔ 0<G.eB q+aF G.L q)
def del (f:Int->Int)(q:Int)(d:Int):Int->Int:=λp=>if p=q then f p+d else f p
def mZ (f:Int->Int)(q d:Int):del f q d q=f q+d:=by simp[del]
def tx (f:Int->Int){q p:Int}(d:Int)(h:p≠q):del f q d p=f p:=by simp[del,h]
def lS {ρ:Type}{n:Nat}{B:Int->Option ρ}(h:bh n B):B 0=none:=by
 cases e:B 0 with
 | none=>rfl
 | some x=>have:=h 0 x e;omega
def gt {ρ:Type}{n:Nat}{B:Int->Option ρ}(h:bh n B){q:Int}{x:ρ}(e:B q=some x):q≠0:=by have:=h q x e;omega
theorem Val.kidR {G:Gh}(V:Val G){q:Int}{n:Nd}(h:G.R q=some n){i:Nat}(S:i<4):ak n i=0\/∃m,G.L (ak n i)=some m:=by
 by_cases D:ak n i=0
 ·exact .inl D
 ·right;have J:=tv (N:=G.R) (V.sR q n h) (ak n i);rw[h] at J;have X:=tw n i S;have O:=(V.pL _ D).2 (by have:=V.nL (ak n i);omega);exact UG.1 O
theorem Val.kidL {G:Gh}(V:Val G){q:Int}{n:Nd}(h:G.L q=some n){i:Nat}(S:i<4):ak n i=0\/∃d,G.D (ak n i)=some d:=by
 by_cases J:ak n i=0
 ·exact .inl J
 ·right;have O:=tv (N:=G.L) (V.sL q n h) (ak n i);rw[h] at O;have X:=tw n i S;have R:=(V.pD _ J).2 (by have:=V.nB (ak n i);omega);exact UG.1 R
def iN {G:Gh}{q:Int}{n:Nd}(h:G.R q=some n):(ag G).N q=some (rf n (G.eR q)):=by simp[ag,dQ,h]
def jn {G:Gh}(V:Val G){q:Int}{n:Nd}(h:G.L q=some n):(ag G).N q=some (rf n (G.eL q+aF G.R q)):=by
 have:G.R q=none:=(V.dj q).resolve_right (by rw[h];simp);simp[ag,dQ,h,this]
def lT {G:Gh}{q:Int}(h:G.R q=none)(D:G.L q=none):(ag G).N q=none:=by simp[ag,dQ,h,D]
def xA {G:Gh}{q:Int}(h:(ag G).N q=none):G.R q=none/\G.L q=none:=by
 simp only[ag,dQ] at h;cases e:G.R q with
 | some n=>rw[e] at h;cases h
 | none=>rw[e] at h;simp at h;exact ⟨rfl,h⟩
def ke {G:Gh}{q:Int}{d:ab}(h:G.D q=some d):(ag G).B q=some (d,G.eB q+aF G.L q):=by simp[ag,kc,h]
def oX {G:Gh}{q:Int}(h:G.D q=none):(ag G).B q=none:=by simp[ag,kc,h]
def oY {G:Gh}(V:Val G){m:Int}(X:∀q,G.eR q<=m)(S:∀q,G.eL q<=m)(O:∀q,G.eB q<=m):aH (m+96) (ag G):=by
 refine ⟨λq x e=>?_,λq x e=>?_,λq n e=>?_,λq n e=>?_⟩
 ·cases h:G.D q with
  | none=>rw[oX h] at e;cases e
  | some d=>exact V.sD q d h
 ·cases h:G.D q with
  | none=>rw[oX h] at e;cases e
  | some d=>
   rw[ke h] at e;injection e with e;subst e;have:=(V.pD q (gt V.sD h)).1 (by rw[h];rfl);have:=tt G.L q;have:=O q;simp only;omega
 ·cases h:G.R q with
  | some n=>exact V.sR q n h
  | none=>cases J:G.L q with
   | some n=>exact V.sL q n J
   | none=>rw[lT h J] at e;cases e
 ·cases h:G.R q with
  | some Y=>
   rw[iN h] at e;injection e with e;subst e;have:=(V.pR q (gt V.sR h)).1 (by rw[h];rfl);have:=X q;simp only[rf];omega
  | none=>cases J:G.L q with
   | some Y=>
    rw[jn V J] at e;injection e with e;subst e;have:=(V.pL q (gt V.sL J)).1 (by rw[J];rfl);have:=tt G.R q;have:=S q;simp only[rf];omega
   | none=>rw[lT h J] at e;cases e
def fF {S T:SI}(h:S.B=T.B)(D:S.N=T.N):S=T:=by cases S;cases T;simp_all
def ndSub (A B:aB):Prop:=∀q n,A q=some n->B q=some n
def dSub (A B:Int->Option ab):Prop:=∀q n,A q=some n->B q=some n
def cutD (G:Gh)(b:Int):Gh:={G with eB:=del G.eB b (-1),D:=if G.eB b+aF G.L b=1 then qy G.D b none else G.D}
theorem Val.cutD {G:Gh}(V:Val G){b:Int}(O:b≠0)(R:1<=G.eB b):Val (cutD G b):=by
 have S:=iL G.L b;refine ⟨V.sR,V.sL,?_,V.dj,V.nR,V.nL,λq=>?_,V.pR,V.pL,λq J=>?_⟩
 ·show bh 40 (if G.eB b+aF G.L b=1 then qy G.D b none else G.D);split
  ·exact iB V.sD λe=>by cases e
  ·exact V.sD
 ·show 0<=del G.eB b (-1) q;unfold del;split
  ·rename_i e;subst e;omega
  ·exact V.nB q
 ·show ((if G.eB b+aF G.L b=1 then qy G.D b none else G.D) q).isSome=true ↔ 0<del G.eB b (-1) q+aF G.L q;by_cases h:q=b
  ·subst h;rw[mZ];split
   ·simp[qy];omega
   ·rw[V.pD q J];omega
  ·rw[tx _ _ h];have:(if G.eB b+aF G.L b=1 then qy G.D b none else G.D) q=G.D q:=(by split <;> simp[qy,h]);rw[this,V.pD q J]
def DI {G:Gh}(V:Val G){b:Int}(O:b≠0)(R:1<=G.eB b):(⟨bj (ag G).B b (-1),(ag G).N⟩:SI)=ag (cutD G b):=by
 have S:=iL G.L b;obtain ⟨d,hd⟩:=UG.1 ((V.pD b O).2 (by omega));refine fF (funext λq=>?_) rfl;show bj (ag G).B b (-1) q=kc (cutD G b) q;unfold bj;rw[ke hd];simp only;by_cases h:q=b
 ·subst h;show (qy _ _ _) q=((if G.eB q+aF G.L q=1 then qy G.D q none else G.D) q).map λd=>(d,del G.eB q (-1) q+aF G.L q);rw[mZ];by_cases J:G.eB q+aF G.L q=1
  ·rw[RI J,RI (by omega)];simp[qy]
  ·rw[RJ J,RJ (by omega),hd];simp[qy];omega
 ·show (qy _ _ _) q=((if G.eB b+aF G.L b=1 then qy G.D b none else G.D) q).map λd=>(d,del G.eB b (-1) q+aF G.L q);rw[tx _ _ h];have:(if G.eB b+aF G.L b=1 then qy G.D b none else G.D) q=G.D q:=(by split <;> simp[qy,h]);rw[this];simp[qy,h,ag,kc]
def K5 (G:Gh)(b:Int):dSub (cutD G b).D G.D:=λq n h=>by
 change (if G.eB b+aF G.L b=1 then qy G.D b none else G.D) q=some n at h;split at h
 ·unfold qy at h;split at h
  ·cases h
  ·exact h
 ·exact h
def aL (l:List Int)(q:Int):Int:=if q=0 then 0 else (l.count q:Int)
def wB (k:Int)(l:List Int)(q:Int):aL (k::l) q=aL l q+if k=q/\q≠0 then 1 else 0:=by
 unfold aL;by_cases h:q=0
 ·simp[h]
 ·rw[RJ h,RJ h,UH];by_cases D:k=q <;> simp[D,h]
def lU (l:List Int)(q:Int):0<=aL l q:=by unfold aL;split <;> omega
def m7 (n:Nd){q:Int}(h:q≠0):aL (kd n) q=bA (some n) q:=by
 simp only[kd,wB,bA];have:aL [] q=0:=(by simp[aL]);rw[this];simp only[h,ne_eq,not_false_eq_true,and_true];omega
structure LessD (G G':Gh):Prop where
 R:G'.R=G.R
 L:G'.L=G.L
 eR:G'.eR=G.eR
 eL:G'.eL=G.eL
 D:dSub G'.D G.D
def xB:∀(l:List Int) {G:Gh},Val G->(∀q,aL l q<=G.eB q)->∃O,Val O/\l.foldl bU (ag G)=ag O/\LessD G O/\∀q,O.eB q=G.eB q - aL l q
 | [],G,V,_=>⟨G,V,rfl,⟨rfl,rfl,rfl,rfl,λq n h=>h⟩,λq=>by simp[aL]⟩
 | k::l,G,V,h=>by
  by_cases S:k=0
  ·subst S;obtain ⟨O,X,e,s,Z⟩:=xB l V λq=>by have:=h q;rw[wB] at this;split at this <;> omega
   refine ⟨O,X,?_,s,λq=>?_⟩
   ·rw[SF,show bU (ag G) 0=ag G by simp[bU]];exact e
   ·rw[Z,wB,RJ (λh=>h.2 h.1.symm)];omega
  ·have he:1<=G.eB k:=(by have:=h k;rw[wB,RI ⟨rfl,S⟩] at this;have:=lU l k;omega);obtain ⟨O,X,e,s,Z⟩:=xB l (V.cutD S he) λq=>by
    have:=h q;rw[wB] at this;show aL l q<=del G.eB k (-1) q;unfold del;by_cases J:q=k
    ·subst J;rw[RI ⟨rfl,S⟩] at this;simp;omega
    ·rw[RJ (λY=>J Y.1.symm)] at this;simp[J];omega
   refine ⟨O,X,?_,⟨s.R,s.L,s.eR,s.eL,λq n hn=>K5 G k q n (s.D q n hn)⟩,λq=>?_⟩
   ·rw[SF,show bU (ag G) k=ag (cutD G k) by unfold bU;rw[RJ S];exact DI V S he];exact e
   ·rw[Z,wB];show del G.eB k (-1) q - aL l q=_;unfold del;by_cases J:q=k
    ·subst J;rw[RI rfl,RI ⟨rfl,S⟩];omega
    ·rw[RJ J,RJ (λY=>J Y.1.symm)];omega
structure LessL (G G':Gh):Prop where
 R:G'.R=G.R
 eR:G'.eR=G.eR
 eB:G'.eB=G.eB
 L:ndSub G'.L G.L
 D:dSub G'.D G.D
def K6 (i:Nat):ak dC i=0:=by unfold ak;split <;> rfl
def DJ (n:Nd)(r:Int)(i:Nat):ak (rf n r) i=ak n i:=by unfold ak;split <;> rfl
def lV {N:aB}{q:Int}{n:Nd}(h:N q=some n):gN N q=n:=by unfold gN;rw[h];rfl
theorem Val.keepL {G:Gh}(V:Val G){q:Int}(O:q≠0)(J:1<=G.eL q)(D:2<=G.eL q+aF G.R q):Val {G with eL:=del G.eL q (-1)}:=by
 refine ⟨V.sR,V.sL,V.sD,V.dj,V.nR,λp=>?_,V.nB,V.pR,λp h=>?_,V.pD⟩
 ·show 0<=del G.eL q (-1) p;unfold del;split
  ·rename_i e;subst e;omega
  ·exact V.nL p
 ·show (G.L p).isSome=true ↔ 0<del G.eL q (-1) p+aF G.R p;rw[V.pL p h];unfold del;split
  ·rename_i e;subst e;omega
  ·rfl
def DK {G:Gh}(V:Val G){q:Int}(J:q≠0)(Y:1<=G.eL q)(X:2<=G.eL q+aF G.R q):aY (ag G) q=ag {G with eL:=del G.eL q (-1)}:=by
 obtain ⟨n,h⟩:=UG.1 ((V.pL q J).2 (by omega));have O:=lV (jn V h);unfold aY cR;rw[RJ J,O,RI (by simp only[rf];omega)];refine fF rR (funext λp=>?_);show qy (ag G).N q _ p=dQ _ p;by_cases D:p=q
 ·subst D;have S:G.R p=none:=(V.dj p).resolve_right (by rw[h];simp);simp only[qy,dQ,S,h,Option.map_some,RI,rf,del];congr 2;omega
 ·simp only[qy,RJ D,ag,dQ,del]
def goL (G:Gh)(q:Int)(n:Nd):Gh:={G with L:=qy G.L q none,eL:=del G.eL q (-1),eB:=λp=>G.eB p+aL (kd n) p}
def DL {G:Gh}(V:Val G){q:Int}{n:Nd}(h:G.L q=some n){p:Int}(D:p≠0):G.eB p+aL (kd n) p+aF (qy G.L q none) p=G.eB p+aF G.L p:=by
 rw[tu (V.sL q n h),h,m7 n D];simp only[bA];omega
theorem Val.goL {G:Gh}(V:Val G){q:Int}{n:Nd}(J:G.L q=some n)(S:1<=G.eL q)(O:G.eL q+aF G.R q=1):Val (goL G q n):=by
 have X:=iL G.R q;refine ⟨V.sR,iB V.sL (λe=>by cases e),V.sD,λp=>?_,V.nR,λp=>?_,λp=>?_,V.pR,λp h=>?_,λp h=>?_⟩
 ·show G.R p=none\/qy G.L q none p=none;unfold qy;split
  ·exact .inr rfl
  ·exact V.dj p
 ·show 0<=del G.eL q (-1) p;unfold del;split
  ·rename_i e;subst e;omega
  ·exact V.nL p
 ·show 0<=G.eB p+aL (kd n) p;have:=V.nB p;have:=lU (kd n) p;omega
 ·show (qy G.L q none p).isSome=true ↔ 0<del G.eL q (-1) p+aF G.R p;unfold qy del;split
  ·rename_i e;subst e;simp;omega
  ·exact V.pL p h
 ·show (G.D p).isSome=true ↔ 0<G.eB p+aL (kd n) p+aF (qy G.L q none) p;rw[DL V J h];exact V.pD p h
def K7 {G:Gh}(V:Val G){q:Int}{n:Nd}(J:G.L q=some n):(⟨(ag G).B,qy (ag G).N q none⟩:SI)=ag (goL G q n):=by
 refine fF (funext λp=>?_) (funext λp=>?_)
 ·show (G.D p).map _=(G.D p).map _;cases h:G.D p with
  | none=>rfl
  | some d=>
   have:=DL V J (gt V.sD h);simp only[Option.map_some,goL];rw[this]
 ·show qy (ag G).N q none p=dQ (goL G q n) p;by_cases O:p=q
  ·subst O;have S:G.R p=none:=(V.dj p).resolve_right (by rw[J];simp);simp[qy,dQ,goL,S]
  ·simp[qy,O,ag,dQ,goL,del]
def K8 {G:Gh}(V:Val G){q:Int}(S:q≠0)(X:1<=G.eL q):∃J,Val J/\aY (ag G) q=ag J/\LessL G J/\J.eL=del G.eL q (-1):=by
 obtain ⟨n,Y⟩:=UG.1 ((V.pL q S).2 (by have:=iL G.R q;omega));by_cases Z:2<=G.eL q+aF G.R q
 ·exact ⟨_,V.keepL S X Z,DK V S X Z,⟨rfl,rfl,rfl,λq n h=>h,λq n h=>h⟩,rfl⟩
 ·have h1:G.eL q+aF G.R q=1:=(by have:=iL G.R q;omega);have hg:=lV (jn V Y);obtain ⟨J,V',e,s,hb⟩:=xB (kd n) (V.goL Y X h1) λp=>by
   show aL (kd n) p<=G.eB p+aL (kd n) p;have:=V.nB p;omega
  refine ⟨J,V',?_,⟨s.R,s.eR,funext λp=>?_,λp m O=>?_,s.D⟩,s.eL⟩
  ·unfold aY cR;rw[RJ S,hg,RJ (by simp only[rf];omega),K7 V Y];exact e
  ·rw[hb p];show G.eB p+aL (kd n) p - aL (kd n) p=G.eB p;omega
  ·rw[s.L] at O;change qy G.L q none p=some m at O;unfold qy at O;split at O
   ·cases O
   ·exact O
def xD:∀(l:List Int) {G:Gh},Val G->(∀q,aL l q<=G.eL q)->∃O,Val O/\l.foldl aY (ag G)=ag O/\LessL G O/\∀q,O.eL q=G.eL q - aL l q
 | [],G,V,_=>⟨G,V,rfl,⟨rfl,rfl,rfl,λq n h=>h,λq n h=>h⟩,λq=>by simp[aL]⟩
 | k::l,G,V,h=>by
  by_cases S:k=0
  ·subst S;obtain ⟨O,Z,e,s,hq⟩:=xD l V λq=>by have:=h q;rw[wB] at this;split at this <;> omega
   refine ⟨O,Z,?_,s,λq=>?_⟩
   ·rw[SF,show aY (ag G) 0=ag G by simp[aY,cR]];exact e
   ·rw[hq,wB,RJ (λh=>h.2 h.1.symm)];omega
  ·have he:1<=G.eL k:=(by have:=h k;rw[wB,RI ⟨rfl,S⟩] at this;have:=lU l k;omega);obtain ⟨G1,V1,e1,Y,X⟩:=K8 V S he;obtain ⟨O,Z,e,s,hq⟩:=xD l V1 λq=>by
    have:=h q;rw[wB] at this;rw[X];unfold del;by_cases J:q=k
    ·subst J;rw[RI ⟨rfl,S⟩] at this;simp;omega
    ·rw[RJ (λhh=>J hh.1.symm)] at this;simp[J];omega
   refine ⟨O,Z,?_,⟨s.R.trans Y.R,s.eR.trans Y.eR,s.eB.trans Y.eB,λq n hn=>Y.L q n (s.L q n hn),λq n hn=>Y.D q n (s.D q n hn)⟩,λq=>?_⟩
   ·rw[SF,e1];exact e
   ·rw[hq,wB,X];unfold del;by_cases J:q=k
    ·subst J;rw[RI rfl,RI ⟨rfl,S⟩];omega
    ·rw[RJ J,RJ (λhh=>J hh.1.symm)];omega
structure LessR (G G':Gh):Prop where
 eL:G'.eL=G.eL
 eB:G'.eB=G.eB
 R:ndSub G'.R G.R
 L:ndSub G'.L G.L
 D:dSub G'.D G.D
def goR (G:Gh)(q:Int)(n:Nd):Gh:={G with R:=qy G.R q none,eR:=del G.eR q (-1),eL:=λp=>G.eL p+aL (kd n) p}
def DM {G:Gh}(V:Val G){q:Int}{n:Nd}(h:G.R q=some n){p:Int}(D:p≠0):G.eL p+aL (kd n) p+aF (qy G.R q none) p=G.eL p+aF G.R p:=by
 rw[tu (V.sR q n h),h,m7 n D];simp only[bA];omega
theorem Val.goR {G:Gh}(V:Val G){q:Int}{n:Nd}(D:G.R q=some n)(J:G.eR q=1):Val (goR G q n):=by
 refine ⟨iB V.sR (λe=>by cases e),V.sL,V.sD,λp=>?_,λp=>?_,λp=>?_,V.nB,λp h=>?_,λp h=>?_,V.pD⟩
 ·show qy G.R q none p=none\/G.L p=none;unfold qy;split
  ·exact .inl rfl
  ·exact V.dj p
 ·show 0<=del G.eR q (-1) p;unfold del;split
  ·rename_i e;subst e;omega
  ·exact V.nR p
 ·show 0<=G.eL p+aL (kd n) p;have:=V.nL p;have:=lU (kd n) p;omega
 ·show (qy G.R q none p).isSome=true ↔ 0<del G.eR q (-1) p;unfold qy del;split
  ·rename_i e;subst e;simp;omega
  ·exact V.pR p h
 ·show (G.L p).isSome=true ↔ 0<G.eL p+aL (kd n) p+aF (qy G.R q none) p;rw[DM V D h];exact V.pL p h
def K9 {G:Gh}(V:Val G){q:Int}{n:Nd}(D:G.R q=some n):(⟨(ag G).B,qy (ag G).N q none⟩:SI)=ag (goR G q n):=by
 refine fF rR (funext λp=>?_);show qy (ag G).N q none p=dQ (goR G q n) p;by_cases h:p=q
 ·subst h;have J:G.L p=none:=(V.dj p).resolve_left (by rw[D];simp);simp[qy,dQ,goR,J]
 ·have O:qy G.R q none p=G.R p:=(by simp[qy,h]);have S:del G.eR q (-1) p=G.eR p:=(by simp[del,h]);show qy (ag G).N q none p=match qy G.R q none p with
   | some n=>some (rf n (del G.eR q (-1) p))
   | none=>(G.L p).map λm=>rf m (G.eL p+aL (kd n) p+aF (qy G.R q none) p)
  rw[O,S];simp only[qy,RJ h,ag,dQ];cases J:G.R p with
  | some m=>rfl
  | none=>cases X:G.L p with
   | none=>rfl
   | some m=>
    have:=DM V D (gt V.sL X);show some _=some (rf m (G.eL p+aL (kd n) p+aF (qy G.R q none) p));rw[this]
def La {G:Gh}(V:Val G){q:Int}(Y:q≠0->1<=G.eR q):∃S,Val S/\cj (ag G) q=ag S/\LessR G S/\∀p,S.eR p=G.eR p - if p=q/\q≠0 then 1 else 0:=by
 by_cases O:q=0
 ·subst O;exact ⟨G,V,by simp[cj,cR],⟨rfl,rfl,λq n h=>h,λq n h=>h,λq n h=>h⟩,λp=>by simp⟩
 have Y:=Y O;obtain ⟨n,X⟩:=UG.1 ((V.pR q O).2 (by omega));have Z:=lV (iN X);by_cases h2:2<=G.eR q
 ·refine ⟨{G with eR:=del G.eR q (-1)},⟨V.sR,V.sL,V.sD,V.dj,λp=>?_,V.nL,V.nB,λp J=>?_,V.pL,V.pD⟩,?_,⟨rfl,rfl,λq n h=>h,λq n h=>h,λq n h=>h⟩,λp=>?_⟩
  ·show 0<=del G.eR q (-1) p;unfold del;split
   ·rename_i e;subst e;omega
   ·exact V.nR p
  ·show (G.R p).isSome=true ↔ 0<del G.eR q (-1) p;rw[V.pR p J];unfold del;split
   ·rename_i e;subst e;omega
   ·rfl
  ·unfold cj cR;rw[RJ O,Z,RI (by simp only[rf];omega)];refine fF rR (funext λp=>?_);show qy (ag G).N q _ p=dQ _ p;by_cases J:p=q
   ·subst J;simp only[qy,dQ,X,RI,rf,del];congr 2
   ·simp only[qy,RJ J,ag,dQ,del]
  ·show del G.eR q (-1) p=_;unfold del;by_cases J:p=q
   ·simp[J,O];omega
   ·simp[J]
 ·have h1:G.eR q=1:=(by omega);obtain ⟨S,V',e,s,hb⟩:=xD (kd n) (V.goR X h1) λp=>by
   show aL (kd n) p<=G.eL p+aL (kd n) p;have:=V.nL p;omega
  refine ⟨S,V',?_,⟨funext λp=>?_,s.eB,λp m J=>?_,s.L,s.D⟩,λp=>?_⟩
  ·unfold cj cR;rw[RJ O,Z,RJ (by simp only[rf];omega),K9 V X];exact e
  ·rw[hb p];show G.eL p+aL (kd n) p - aL (kd n) p=G.eL p;omega
  ·rw[s.R] at J;change qy G.R q none p=some m at J;unfold qy at J;split at J
   ·cases J
   ·exact J
  ·rw[s.eR];show del G.eR q (-1) p=_;unfold del;by_cases J:p=q
   ·simp[J,O];omega
   ·simp[J]
theorem ndSub.rfl {A:aB}:ndSub A A:=λq n h=>h
theorem ndSub.trans {A B C:aB}(h:ndSub A B)(D:ndSub B C):ndSub A C:=λq n e=>D q n (h q n e)
theorem dSub.rfl {A:Int->Option ab}:dSub A A:=λq n h=>h
theorem dSub.trans {A B C:Int->Option ab}(h:dSub A B)(D:dSub B C):dSub A C:=λq n e=>D q n (h q n e)
def DO {A:aB}{k:Int}{n:Nd}(h:A k=none):ndSub A (qy A k (some n)):=λq m e=>by
 unfold qy;split
 ·rename_i D;rw[D,h] at e;cases e
 ·exact e
def Lb {A:Int->Option ab}{k:Int}{n:ab}(h:A k=none):dSub A (qy A k (some n)):=λq m e=>by
 unfold qy;split
 ·rename_i D;rw[D,h] at e;cases e
 ·exact e
def tz {G:Gh}{q:Int}{n:Nd}(h:G.R q=some n)(i:Nat):ak (gN (ag G).N q) i=ak n i:=by rw[lV (iN h),DJ]
def oZ {G:Gh}(V:Val G){q:Int}{n:Nd}(h:G.L q=some n)(i:Nat):ak (gN (ag G).N q) i=ak n i:=by rw[lV (jn V h),DJ]
def iO {G:Gh}(V:Val G)(i:Nat):ak (gN (ag G).N 0) i=0:=by
 unfold gN;rw[lT (lS V.sR) (lS V.sL)];exact K6 i
def dv (S:SI)(q:Int):ab:=(iI S.B q).1
def xE {G:Gh}{q:Int}{d:ab}(h:G.D q=some d):dv (ag G) q=d:=by unfold dv iI;rw[ke h]
def Lc {G:Gh}{q:Int}(h:G.D q=none):dv (ag G) q=[]:=by unfold dv iI;rw[oX h]
def kf {G:Gh}(V:Val G):dv (ag G) 0=[]:=Lc (lS V.sD)
def rt (G:Gh)(q:Int):Prop:=q=0\/∃n,G.R q=some n
def lf (G:Gh)(q:Int):Prop:=q=0\/∃n,G.L q=some n
def bl (G:Gh)(q:Int):Prop:=q=0\/∃n,G.D q=some n
def kg {G:Gh}(V:Val G){q:Int}(h:rt G q){i:Nat}(D:i<4):lf G (ak (gN (ag G).N q) i):=by
 rcases h with rfl | ⟨n,h⟩
 ·exact .inl (iO V i)
 ·rw[tz h];exact V.kidR h D
def m8 {G:Gh}(V:Val G){q:Int}(h:lf G q){i:Nat}(D:i<4):bl G (ak (gN (ag G).N q) i):=by
 rcases h with rfl | ⟨n,h⟩
 ·exact .inl (iO V i)
 ·rw[oZ V h];exact V.kidL h D
def DP {G D:Gh}(V:Val G)(J:Val D)(s:ndSub G.R D.R){q:Int}(h:rt G q)(i:Nat):ak (gN (ag D).N q) i=ak (gN (ag G).N q) i:=by
 rcases h with rfl | ⟨n,h⟩
 ·rw[iO V,iO J]
 ·rw[tz h,tz (s q n h)]
def xG {G D:Gh}(V:Val G)(J:Val D)(s:ndSub G.L D.L){q:Int}(h:lf G q)(i:Nat):ak (gN (ag D).N q) i=ak (gN (ag G).N q) i:=by
 rcases h with rfl | ⟨n,h⟩
 ·rw[iO V,iO J]
 ·rw[oZ V h,oZ J (s q n h)]
def xH {G J:Gh}(V:Val G)(O:Val J)(s:dSub G.D J.D){q:Int}(h:bl G q):dv (ag J) q=dv (ag G) q:=by
 rcases h with rfl | ⟨n,h⟩
 ·rw[kf V,kf O]
 ·rw[xE h,xE (s q n h)]
def lW (S:SI)(root:Int)(i:Nat):ct S root i=dv S (ak (gN S.N (ak (gN S.N root) (i / 4))) (i % 4)):=rfl
def m9 {G J:Gh}(V:Val G)(O:Val J)(sR:ndSub G.R J.R)(sL:ndSub G.L J.L)(sD:dSub G.D J.D){root:Int}(h:rt G root){i:Nat}(X:i<16):ct (ag J) root i=ct (ag G) root i:=by
 rw[lW,lW,DP V O sR h];have S:=kg V h (i:=i / 4) (by omega);rw[xG V O sL S];exact xH V O sD (m8 V S (by omega))
def DQ {G D:Gh}(s:ndSub G.R D.R){q:Int}(h:rt G q):rt D q:=h.imp id λ⟨n,e⟩=>⟨n,s q n e⟩
def DR {G D:Gh}(s:ndSub G.L D.L){q:Int}(h:lf G q):lf D q:=h.imp id λ⟨n,e⟩=>⟨n,s q n e⟩
def k5 {G:Gh}(V:Val G){q:Int}(h:rt G q):0<=q/\q<=24:=by
 rcases h with rfl | ⟨n,h⟩
 ·omega
 ·have:=V.sR q n h;omega
def DS {G:Gh}(V:Val G){q:Int}(h:lf G q):0<=q/\q<=24:=by
 rcases h with rfl | ⟨n,h⟩
 ·omega
 ·have:=V.sL q n h;omega
def DT {p q:Nat->Bool}(a:Nat):∀(l:List Nat),l.Nodup->(∀k∈l,k≠a->p k=true->q k=true)->(l.filter p).length<=(l.filter q).length+1
 | [],_,_=>by simp
 | k::l,J,h=>by
  rw[Tg] at J;by_cases R:k=a
  ·subst R;have S:(l.filter p).length<=(l.filter q).length:=by
    rw[<-TH,<-TH];exact List.countP_mono_left λj D O=>h j (Th _ D) (λe=>J.1 (e ▸ D)) O
   rw[Ut,Ut];split <;> split <;> simp <;> omega
  ·have S:=DT a l J.2 λj D=>h j (Th _ D);have V:=h k (by simp) R;rw[Ut,Ut];split
   ·rename_i O;rw[RI (V O)];simp;omega
   ·split <;> simp <;> omega
def xI {ρ σ:Type}{n:Nat}{A:Int->Option ρ}{B:Int->Option σ}(a:Int)(h:∀q,q≠a->(A q).isSome=true->(B q).isSome=true):(aj n A).length<=(aj n B).length+1:=by
 unfold aj;rw[TD,TD];exact DT a.toNat _ (TB (step:=1)) λk D J=>h k (by rw[TF] at D;omega)
def DU (G:Gh)(q:Int):((ag G).B q).isSome=(G.D q).isSome:=by simp[ag,kc]
def tA (G:Gh)(q:Int):((ag G).N q).isSome=((G.R q).isSome || (G.L q).isSome):=by
 simp only[ag,dQ];cases G.R q <;> simp
structure Blk (G G1:Gh) (d:ab) (b:Int):Prop where
 V:Val G1
 R:G1.R=G.R
 L:G1.L=G.L
 eR:G1.eR=G.eR
 eL:G1.eL=G.eL
 eB:G1.eB=if b=0 then G.eB else del G.eB b 1
 D:dSub G.D G1.D
 b0:b=0->d=[]
 b1:b≠0->G1.D b=some d
 ne:∀q,q≠b->G1.D q=G.D q
def Ld {G:Gh}(V:Val G){d:ab}{b:Int}(h:qi (ag G) d=(b,0)):∃Y,qe (ag G) d=ag Y/\Blk G Y d b:=by
 unfold qi at h;by_cases hd:d=[]
 ·rw[RI hd] at h;injection h with h;subst h;exact ⟨G,by unfold qe;rw[RI hd],V,rfl,rfl,rfl,rfl,rfl,λq n h=>h,λ_=>hd,λh=>absurd rfl h,λq _=>rfl⟩
 ·rw[RJ hd] at h;unfold cK at h;by_cases X:6<d.length\/d=[]
  ·rw[RI X] at h;injection h with _ h;cases h
  ·rw[RJ X] at h;cases S:wK 40 (ag G).B with
   | none=>rw[S] at h;injection h with _ h;cases h
   | some k=>
    rw[S] at h;injection h with h;subst h;have hk:=g9 S;have J:(k:Int)≠0:=(by omega);have R:G.D k=none:=by
     have:=hk.2.1;cases e:G.D k with
     | none=>rfl
     | some x=>rw[ke e] at this;cases this
    have hz:G.eB k=0/\aF G.L k=0:=by
     have Z:=V.pD k J;rw[R] at Z;have h2:=V.nB k;have h3:=iL G.L k;have h4:¬(0<G.eB k+aF G.L k):=λh=>(by simpa using Z.2 h);omega
    refine ⟨{G with D:=qy G.D k (some d),eB:=del G.eB k 1},?_,⟨V.sR,V.sL,iB V.sD (λ_=>by omega),V.dj,V.nR,V.nL,λq=>?_,V.pR,V.pL,λq O=>?_⟩,rfl,rfl,rfl,rfl,?_,Lb R,λh=>absurd h J,λ_=>by simp[qy],λq O=>by simp[qy,O]⟩
    ·unfold qe dp;rw[RJ hd,RJ X,S];refine fF (funext λq=>?_) rfl;show qy (ag G).B k _ q=(qy G.D k (some d) q).map λd=>(d,del G.eB k 1 q+aF G.L q);by_cases O:q=k
     ·subst O;simp[qy,del];omega
     ·simp[qy,O,del,ag,kc]
    ·show 0<=del G.eB k 1 q;unfold del;have:=V.nB q;split <;> omega
    ·show (qy G.D k (some d) q).isSome=true ↔ 0<del G.eB k 1 q+aF G.L q;unfold qy del;split
     ·rename_i e;subst e;simp;omega
     ·exact V.pD q O
    ·show del G.eB k 1=_;rw[RJ J]
def Le {B:bV}{q:Int}{x:Bk}(h:B q=some x)(hx:0<x.2):bj B q 1=qy B q (some (x.1,x.2+1)):=by
 unfold bj;rw[h];simp only;rw[RJ (by omega)]
def xJ:∀(l:List Int) (S:SI),(∀q x,S.B q=some x->0<x.2)->(∀k∈l,k=0\/∃x,S.B k=some x)->l.foldl (aG true) S=⟨λq=>(S.B q).map λx=>(x.1,x.2+aL l q),S.N⟩
 | [],S,_,_=>fF (funext λq=>by show S.B q=(S.B q).map _;cases S.B q <;> simp[aL]) rfl
 | k::l,S,R,h=>by
  rw[SF];by_cases O:k=0
  ·subst O;rw[show aG true S 0=S by simp[aG],xJ l S R λj V=>h j (Th _ V)];refine fF (funext λq=>?_) rfl;show (S.B q).map _=(S.B q).map _;rw[wB,RJ (λJ=>J.2 J.1.symm),UI]
  ·obtain ⟨x,hx⟩:=(h k (by simp)).resolve_left O;have Y:aG true S k=⟨qy S.B k (some (x.1,x.2+1)),S.N⟩:=(by unfold aG;rw[RJ O,RI rfl,Le hx (R k x hx)]);rw[Y,xJ l _ (λq y D=>?_) λj V=>?_]
   ·refine fF (funext λq=>?_) rfl;show (qy S.B k (some (x.1,x.2+1)) q).map _=(S.B q).map _;rw[wB];unfold qy;by_cases X:q=k
    ·subst X;simp[hx,O];omega
    ·rw[RJ X,RJ (λJ=>X J.1.symm),UI]
   ·change qy S.B k (some (x.1,x.2+1)) q=some y at D;unfold qy at D;split at D
    ·injection D with D;subst D;have:=R k x hx;simp only;omega
    ·exact R q y D
   ·refine (h j (Th _ V)).imp id λ⟨y,D⟩=>?_;show ∃Z,qy S.B k (some (x.1,x.2+1)) j=some Z;unfold qy;split
    ·exact ⟨_,rfl⟩
    ·exact ⟨y,D⟩
def tB:∀(l:List Int) (S:SI),(∀k∈l,k=0\/∃x,S.N k=some x)->l.foldl (aG false) S=⟨S.B,λq=>(S.N q).map λn=>rf n (n.refs+aL l q)⟩
 | [],S,_=>fF rfl (funext λq=>by show S.N q=(S.N q).map _;cases S.N q <;> simp[aL,rf])
 | k::l,S,h=>by
  rw[SF];by_cases J:k=0
  ·subst J;rw[show aG false S 0=S by simp[aG],tB l S λj O=>h j (Th _ O)];refine fF rR (funext λq=>?_);show (S.N q).map _=(S.N q).map _;rw[wB,RJ (λD=>D.2 D.1.symm),UI]
  ·obtain ⟨x,hx⟩:=(h k (by simp)).resolve_left J;have V:aG false S k=⟨S.B,qy S.N k (some (rf x (x.refs+1)))⟩:=(by unfold aG jm;rw[RJ J,RJ (by simp),lV hx]);rw[V,tB l _ λj O=>?_]
   ·refine fF rR (funext λq=>?_);show (qy S.N k (some (rf x (x.refs+1))) q).map _=(S.N q).map _;rw[wB];unfold qy;by_cases R:q=k
    ·subst R;simp[hx,J,rf];omega
    ·rw[RJ R,RJ (λD=>R D.1.symm),UI]
   ·refine (h j (Th _ O)).imp id λ⟨y,X⟩=>?_;show ∃Y,qy S.N k (some (rf x (x.refs+1))) j=some Y;unfold qy;split
    ·exact ⟨_,rfl⟩
    ·exact ⟨y,X⟩
def o9 {n:Nd}{k:Int}(h:k∈kd n):∃i,i<4/\ak n i=k:=by
 simp only[kd,RR,Uf,or_false] at h;rcases h with rfl | rfl | rfl | rfl
 ·exact ⟨0,by omega,rfl⟩
 ·exact ⟨1,by omega,rfl⟩
 ·exact ⟨2,by omega,rfl⟩
 ·exact ⟨3,by omega,rfl⟩
def xK {n:Nd}(h:dc n)(i:Nat):ak n i=0:=by
 unfold ak;split
 ·exact h.1
 ·exact h.2.1
 ·exact h.2.2.1
 ·exact h.2.2.2
def pa {S:SI}{n:Nd}{k:Int}(h:qR S n=(k,0)):(k=0/\dc n/\∀leaf,qU leaf S n=S)\/∃j:Nat,k=j/\(1<=j/\j<=24)/\S.N k=none/\¬dc n/\∀leaf,qU leaf S n=(kd n).foldl (aG leaf) ⟨S.B,qy S.N k (some (rf n 1))⟩:=by
 unfold qR at h;by_cases D:dc n
 ·rw[RI D] at h;injection h with h;exact .inl ⟨h.symm,D,λleaf=>by unfold qU;rw[RI D]⟩
 ·rw[RJ D] at h;cases J:wK 24 S.N with
  | none=>rw[J] at h;injection h with _ h;cases h
  | some j=>
   rw[J] at h;injection h with h;subst h;have:=g9 J;exact .inr ⟨j,rfl,this.1,this.2.1,D,λleaf=>by unfold qU;rw[RJ D,J]⟩
def DV (S:SI)(n:Nd):(qR S n).2=0\/(qR S n).2=8:=by
 unfold qR;split
 ·exact .inl rfl
 ·split
  ·exact .inr rfl
  ·exact .inl rfl
def DW {G:Gh}(V:Val G){k:Int}(S:k≠0)(h:(ag G).N k=none):G.R k=none/\G.L k=none/\G.eR k=0/\G.eL k=0/\aF G.R k=0:=by
 have D:=xA h;have J:=V.pR k S;have O:=V.pL k S;rw[D.1] at J;rw[D.2] at O;have X:¬(0<G.eR k):=λh=>(by simpa using J.2 h);have Y:¬(0<G.eL k+aF G.R k):=λh=>(by simpa using O.2 h);have:=V.nR k;have:=V.nL k;have:=iL G.R k;exact ⟨D.1,D.2,by omega,by omega,by omega⟩
def Lg {G:Gh}(V:Val G){n:Nd}{k:Int}(hk:∀i,i<4->bl G (ak n i))(h:qR (ag G) n=(k,0)):(k=0/\dc n/\qU true (ag G) n=ag G)\/(k≠0/\(ag G).N k=none/\qU true (ag G) n=ag {G with L:=qy G.L k (some n),eL:=del G.eL k 1}/\Val {G with L:=qy G.L k (some n),eL:=del G.eL k 1}):=by
 rcases pa h with ⟨Z,h2,X⟩ | ⟨j,Z,h2,X,h4,h5⟩
 ·exact .inl ⟨Z,h2,X true⟩
 ·right;have O:k≠0:=(by omega);obtain ⟨z1,z2,z3,z4,z5⟩:=DW V O X;have S:1<=k/\k<=24:=(by omega);have ht:∀q,q≠0->aF (qy G.L k (some n)) q=aF G.L q+aL (kd n) q:=λq J=>(by rw[tu S,z2,m7 n J];simp only[bA];omega);refine ⟨O,X,?_,⟨V.sR,iB V.sL (λ_=>S),V.sD,λq=>?_,V.nR,λq=>?_,V.nB,V.pR,λq J=>?_,λq J=>?_⟩⟩
  ·rw[h5 true,xJ]
   ·refine fF (funext λq=>?_) (funext λq=>?_)
    ·show (kc G q).map _=(G.D q).map _;unfold kc;cases e:G.D q with
     | none=>rfl
     | some d=>simp only[Option.map_some,ht q (gt V.sD e)];congr 2;omega
    ·show qy (ag G).N k (some (rf n 1)) q=match G.R q with
      | some n=>some (rf n (G.eR q))
      | none=>(qy G.L k (some n) q).map λm=>rf m (del G.eL k 1 q+aF G.R q)
     unfold qy del;by_cases J:q=k
     ·subst J;rw[z1];simp[z4,z5]
     ·simp only[RJ J];rfl
   ·intro q x hx;cases e:G.D q with
    | none=>change (ag G).B q=some x at hx;rw[oX e] at hx;cases hx
    | some d=>
     change (ag G).B q=some x at hx;rw[ke e] at hx;injection hx with hx;subst hx;exact (V.pD q (gt V.sD e)).1 (by rw[e];rfl)
   ·intro q J;obtain ⟨i,Y,rfl⟩:=o9 J;exact (hk i Y).imp id λ⟨d,e⟩=>⟨_,ke e⟩
  ·show G.R q=none\/qy G.L k (some n) q=none;unfold qy;split
   ·rename_i e;subst e;exact .inl z1
   ·exact V.dj q
  ·show 0<=del G.eL k 1 q;have:=V.nL q;unfold del;split <;> omega
  ·show (qy G.L k (some n) q).isSome=true ↔ 0<del G.eL k 1 q+aF G.R q;unfold qy del;split
   ·rename_i e;subst e;simp;omega
   ·exact V.pL q J
  ·show (G.D q).isSome=true ↔ 0<G.eB q+aF (qy G.L k (some n)) q;rw[ht q J,V.pD q J];have h6:=lU (kd n) q;have h7:=V.nB q;have h8:=iL G.L q;constructor
   ·intro h;omega
   ·intro h;by_cases h9:0<aL (kd n) q
    ·rw[m7 n J] at h9;obtain ⟨i,Y,e⟩:=xy h9;obtain ⟨d,hd⟩:=(hk i Y).resolve_left (by rw[e];exact J);rw[e] at hd;exact (V.pD q J).1 (by rw[hd];rfl)
    ·omega
def Lh {G:Gh}(V:Val G){n:Nd}{k:Int}(hk:∀i,i<4->lf G (ak n i))(h:qR (ag G) n=(k,0)):(k=0/\dc n/\qU false (ag G) n=ag G)\/(k≠0/\(ag G).N k=none/\qU false (ag G) n=ag {G with R:=qy G.R k (some n),eR:=del G.eR k 1}/\Val {G with R:=qy G.R k (some n),eR:=del G.eR k 1}):=by
 rcases pa h with ⟨h1,h2,Z⟩ | ⟨j,h1,h2,Z,h4,h5⟩
 ·exact .inl ⟨h1,h2,Z false⟩
 ·right;have X:k≠0:=(by omega);obtain ⟨z1,z2,z3,z4,z5⟩:=DW V X Z;have Y:1<=k/\k<=24:=(by omega);have ht:∀q,q≠0->aF (qy G.R k (some n)) q=aF G.R q+aL (kd n) q:=λq D=>(by rw[tu Y,z1,m7 n D];simp only[bA];omega);have hc:∀q,(∀m,G.L q≠some m)->aL (kd n) q=0:=λq D=>by
   by_cases S:q=0
   ·subst S;rfl
   ·have h6:=lU (kd n) q;by_cases h9:0<aL (kd n) q
    ·rw[m7 n S] at h9;obtain ⟨i,hi,e⟩:=xy h9;obtain ⟨m,J⟩:=(hk i hi).resolve_left (by rw[e];exact S);rw[e] at J;exact absurd J (D m)
    ·omega
  refine ⟨X,Z,?_,⟨iB V.sR (λ_=>Y),V.sL,V.sD,λq=>?_,λq=>?_,V.nL,V.nB,λq D=>?_,λq D=>?_,V.pD⟩⟩
  ·rw[h5 false,tB]
   ·refine fF rR (funext λq=>?_);show (qy (ag G).N k (some (rf n 1)) q).map _=match qy G.R k (some n) q with
      | some m=>some (rf m (del G.eR k 1 q))
      | none=>(G.L q).map λm=>rf m (G.eL q+aF (qy G.R k (some n)) q)
    by_cases D:q=k
    ·subst D;have:aL (kd n) q=0:=hc q λm J=>(by rw[z2] at J;cases J);simp[qy,del,z3,this,rf]
    ·have e1:qy G.R k (some n) q=G.R q:=(by simp[qy,D]);have e2:qy (ag G).N k (some (rf n 1)) q=(ag G).N q:=(by simp[qy,D]);have e3:del G.eR k 1 q=G.eR q:=(by simp[del,D]);rw[e1,e2,e3];cases hr:G.R q with
     | some m=>
      have O:G.L q=none:=(V.dj q).resolve_left (by rw[hr];simp);have:aL (kd n) q=0:=hc q λm J=>(by rw[O] at J;cases J);rw[iN hr];simp[this,rf]
     | none=>cases O:G.L q with
      | none=>rw[lT hr O];rfl
      | some m=>
       rw[jn V O];simp only[Option.map_some,ht q (gt V.sL O),rf];congr 2;omega
   ·intro q D;obtain ⟨i,hi,rfl⟩:=o9 D;refine (hk i hi).imp id λ⟨m,e⟩=>?_;have:ak n i≠k:=λh=>(by rw[h,z2] at e;cases e);exact ⟨_,by show qy (ag G).N k _ (ak n i)=_;unfold qy;rw[RJ this];exact jn V e⟩
  ·show qy G.R k (some n) q=none\/G.L q=none;unfold qy;split
   ·rename_i e;subst e;exact .inr z2
   ·exact V.dj q
  ·show 0<=del G.eR k 1 q;have:=V.nR q;unfold del;split <;> omega
  ·show (qy G.R k (some n) q).isSome=true ↔ 0<del G.eR k 1 q;unfold qy del;split
   ·rename_i e;subst e;simp;omega
   ·exact V.pR q D
  ·show (G.L q).isSome=true ↔ 0<G.eL q+aF (qy G.R k (some n)) q;rw[ht q D,V.pL q D];have h6:=lU (kd n) q;have h7:=V.nL q;have h8:=iL G.R q;constructor
   ·intro h;omega
   ·intro h;by_cases h9:0<aL (kd n) q
    ·cases O:G.L q with
     | none=>
       have:=hc q λm J=>(by rw[O] at J;cases J);omega
     | some m=>exact (V.pL q D).1 (by rw[O];rfl)
    ·omega
def gZ:Gh:=⟨λ_=>none,λ_=>none,λ_=>none,λ_=>0,λ_=>0,λ_=>0⟩
def pb:ag gZ=⟨λ_=>none,λ_=>none⟩:=rfl
def Lj:Val gZ:=⟨n4 _,n4 _,n4 _,λ_=> .inl rfl,λ_=>UJ _,λ_=>UJ _,λ_=>UJ _,
 λq _=>by simp[gZ],λq _=>by
  have:aF gZ.R q=0:=DH q;rw[this];simp[gZ],λq _=>by
   have:aF gZ.L q=0:=DH q;rw[this];simp[gZ]⟩
def Lk {G:Gh}(V:Val G){q:Int}(X:rt G q):∃h,Val h/\wX (ag G) q=ag h/\h.R=G.R/\h.L=G.L/\h.D=G.D/\h.eL=G.eL/\h.eB=G.eB/\∀p,h.eR p=G.eR p+if p=q/\q≠0 then 1 else 0:=by
 by_cases O:q=0
 ·subst O;exact ⟨G,V,by unfold wX;rw[RJ (by omega)],rfl,rfl,rfl,rfl,rfl,λp=>by simp⟩
 ·obtain ⟨n,S⟩:=X.resolve_left O;have Z:=V.sR q n S;have Y:=(V.pR q O).1 (by rw[S];rfl);refine ⟨{G with eR:=del G.eR q 1},⟨V.sR,V.sL,V.sD,V.dj,λp=>?_,V.nL,V.nB,λp J=>?_,V.pL,V.pD⟩,?_,rfl,rfl,rfl,rfl,rfl,λp=>?_⟩
  ·show 0<=del G.eR q 1 p;have:=V.nR p;unfold del;split <;> omega
  ·show (G.R p).isSome=true ↔ 0<del G.eR q 1 p;rw[V.pR p J];unfold del;split
   ·rename_i e;subst e;omega
   ·rfl
  ·unfold wX jm;rw[RI (by omega),lV (iN S)];refine fF rR (funext λp=>?_);show qy (ag G).N q _ p=dQ _ p;by_cases J:p=q
   ·subst J;simp only[qy,dQ,S,RI,rf,del]
   ·simp only[qy,RJ J,ag,dQ,del]
  ·show del G.eR q 1 p=_;unfold del;by_cases J:p=q
   ·simp[J,O]
   ·simp[J]
def tC (n:Nd)(x:Int):∀i j,i<4->j<4->ak (mW n i x) j=if j=i then x else ak n j
 | 0,0,_,_=>rfl
 | 0,1,_,_=>rfl
 | 0,2,_,_=>rfl
 | 0,3,_,_=>rfl
 | 1,0,_,_=>rfl
 | 1,1,_,_=>rfl
 | 1,2,_,_=>rfl
 | 1,3,_,_=>rfl
 | 2,0,_,_=>rfl
 | 2,1,_,_=>rfl
 | 2,2,_,_=>rfl
 | 2,3,_,_=>rfl
 | 3,0,_,_=>rfl
 | 3,1,_,_=>rfl
 | 3,2,_,_=>rfl
 | 3,3,_,_=>rfl
 | i+4,_,h,_=>absurd h (by omega)
 | 0,j+4,_,h=>absurd h (by omega)
 | 1,j+4,_,h=>absurd h (by omega)
 | 2,j+4,_,h=>absurd h (by omega)
 | 3,j+4,_,h=>absurd h (by omega)
def DX (f:Int->Int)(q:Int):del (del f q 1) q (-1)=f:=funext λp=>by unfold del;split <;> omega
structure SetOk (G G':Gh) (root:Int) (at_:Nat) (d:ab) (out:Int):Prop where
 V:Val G'
 eR:∀p,G'.eR p=G.eR p+if p=out/\out≠0 then 1 else 0
 eL:G'.eL=G.eL
 eB:G'.eB=G.eB
 R:ndSub G.R G'.R
 L:ndSub G.L G'.L
 D:dSub G.D G'.D
 o:rt G' out
 get:∀i,i<16->ct (ag G') out i=if i=at_ then d else ct (ag G) root i
 nB:(aj 40 (ag G').B).length<=(aj 40 (ag G).B).length+1
 nN:(aj 24 (ag G').N).length<=(aj 24 (ag G).N).length+2
def Ll {G:Gh}{b:Int}(V:Val G)(X:0<=b)(h:b≠0->1<=G.eB b/\1<=aF G.L b):∃J,aR (ag G) b=ag J/\Val J/\J.R=G.R/\J.L=G.L/\J.D=G.D/\J.eR=G.eR/\J.eL=G.eL/\J.eB=if b=0 then G.eB else del G.eB b (-1):=by
 unfold aR;by_cases O:b=0
 ·subst O;exact ⟨G,by rw[RJ (by omega)],V,rfl,rfl,rfl,rfl,rfl,by rw[RI rfl]⟩
 ·have S:=h O;refine ⟨cutD G b,?_,V.cutD O S.1,rfl,rfl,?_,rfl,rfl,?_⟩
  ·rw[RI (by omega)];exact DI V O S.1
  ·show (if G.eB b+aF G.L b=1 then qy G.D b none else G.D)=G.D;rw[RJ (by omega)]
  ·rw[RJ O];rfl
def DY {S:SI}{root:Int}{at_:Nat}{d:ab}{out:Int}(h:aP S root at_ d=(out,0)):∃b k,qi S d=(b,0)/\qR (qe S d) (yz (qe S d) root at_ b)=(k,0)/\qR (aR (qU true (qe S d) (yz (qe S d) root at_ b)) b) (aT (qe S d) root at_ k)=(out,0)/\ck S root at_ d=aY (qU false (aR (qU true (qe S d) (yz (qe S d) root at_ b)) b) (aT (qe S d) root at_ k)) k:=by
 unfold aP at h;unfold ck;simp only at h ⊢;obtain ⟨b,X⟩:∃b,qi S d=b:=⟨_,rfl⟩;obtain ⟨b,e⟩:=b;rw[X] at h ⊢;simp only at h ⊢;by_cases D:e=0
 ·subst D;rw[RJ (by simp)] at h ⊢;obtain ⟨l,R⟩:∃l,qR (qe S d) (yz (qe S d) root at_ b)=l:=⟨_,rfl⟩;obtain ⟨k,e⟩:=l;rw[R] at h ⊢;simp only at h ⊢;by_cases J:e=0
  ·subst J;rw[RJ (by simp)] at h ⊢;obtain ⟨o,V⟩:∃o,qR (aR (qU true (qe S d) (yz (qe S d) root at_ b)) b) (aT (qe S d) root at_ k)=o:=⟨_,rfl⟩;obtain ⟨o,e⟩:=o;rw[V] at h ⊢;simp only at h ⊢;by_cases O:e=0
   ·subst O;rw[RJ (by simp)] at h ⊢;injection h with h;subst h;exact ⟨b,k,rfl,R,V,rfl⟩
   ·rw[RI O] at h;injection h with _ h;exact absurd h O
  ·rw[RI J] at h;injection h with _ h;exact absurd h J
 ·rw[RI D] at h;injection h with _ h;exact absurd h D
def Lm {G:Gh}(V:Val G){root:Int}{at_:Nat}{d:ab}{out:Int}(hr:rt G root)(ha:at_<16)(h:aP (ag G) root at_ d=(out,0)):∃G',ck (ag G) root at_ d=ag G'/\SetOk G G' root at_ d out:=by
 obtain ⟨b,k,X,hl,ho,hS⟩:=DY h;obtain ⟨S,e1,J⟩:=Ld V X;have V1:=J.V;rw[e1] at hl ho hS;have hb0:0<=b:=by
  by_cases X:b=0
  ·omega
  ·have:=V1.sD b d (J.b1 X);omega
 have hbl:bl S b:=by
  by_cases X:b=0
  ·exact .inl X
  ·exact .inr ⟨d,J.b1 X⟩
 have hr1:rt S root:=DQ (by rw[J.R];exact ndSub.rfl) hr;have hli:at_ / 4<4:=(by omega);have hlj:at_ % 4<4:=(by omega);have hol:=kg V1 hr1 hli;have hkL:∀i,i<4->bl S (ak (yz (ag S) root at_ b) i):=λi hi=>by
  unfold yz;rw[tC _ _ _ _ hlj hi];split
  ·exact hbl
  ·exact m8 V1 hol hi
 obtain ⟨nl,hnl⟩:∃n,n=yz (ag S) root at_ b:=⟨_,rfl⟩;have hnlk:∀i,i<4->ak nl i=if i=at_ % 4 then b else ak (gN (ag S).N (ak (gN (ag S).N root) (at_ / 4))) i:=λi hi=>by rw[hnl];exact tC _ _ _ _ hlj hi
 rw[<-hnl] at hl ho hS hkL;obtain ⟨nr,hnr⟩:∃n,n=aT (ag S) root at_ k:=⟨_,rfl⟩;have hnrk:∀i,i<4->ak nr i=if i=at_ / 4 then k else ak (gN (ag S).N root) i:=λi hi=>by rw[hnr];exact tC _ _ _ _ hli hi
 rw[<-hnr] at ho hS
 -- the leaf
 obtain ⟨G2,V2,e2,r2,d2,er2,eb2,el2,l2,k2,lk2,nn2⟩:∃G2,Val G2/\qU true (ag S) nl=ag G2/\G2.R=G.R/\G2.D=S.D/\G2.eR=G.eR/\G2.eB=S.eB/\G2.eL=(if k=0 then G.eL else del G.eL k 1)/\ndSub G.L G2.L/\lf G2 k/\(∀i,i<4->ak (gN (ag G2).N k) i=ak nl i)/\(∀q,q≠k->(G2.L q).isSome=true->(G.L q).isSome=true):=by
  rcases Lg V1 hkL hl with ⟨rfl,h2,h3⟩ | ⟨h1,h2,h3,h4⟩
  ·exact ⟨S,V1,h3,J.R,rfl,J.eR,rfl,by rw[RI rfl,J.eL],by rw[J.L];exact ndSub.rfl, .inl rfl,λi _=>by rw[xK h2,iO V1],λq _ h=>by rw[J.L] at h;exact h⟩
  ·refine ⟨_,h4,h3,J.R,rfl,J.eR,rfl,by rw[RJ h1,<-J.eL],by rw[<-J.L];exact DO (xA h2).2, .inr ⟨nl,by simp[qy]⟩,λi _=>oZ h4 (by simp[qy]) i,λq hq h=>?_⟩;change (qy S.L k (some nl) q).isSome=true at h;simpa [qy,hq,J.L] using h
 have l12:ndSub S.L G2.L:=(by rw[J.L];exact l2);rw[e2] at ho hS
 -- the block's own
 have ht2:b≠0->1<=G2.eB b/\1<=aF G2.L b:=λX=>by
  constructor
  ·rw[eb2,J.eB,RJ X,mZ];have:=V.nB b;omega
  ·have hkb:=hnlk (at_ % 4) hlj;rw[RI rfl] at hkb;have hk0:k≠0:=λhk=>by
    subst hk;have:=lk2 (at_ % 4) hlj;rw[iO V2,hkb] at this;exact X this.symm
   obtain ⟨m,hm⟩:=k2.resolve_left hk0;have h5:=tv (N:=G2.L) (V2.sL k m hm) b;have h6:=tw m (at_ % 4) hlj;have h7:=lk2 (at_ % 4) hlj;rw[oZ V2 hm,hkb] at h7;rw[h7,<-hm] at h6;omega
 obtain ⟨Y,e3,V3,r3,l3,d3,er3,el3,eb3⟩:=Ll V2 hb0 ht2;rw[e3] at ho hS;have eb3':Y.eB=G.eB:=by
  rw[eb3,eb2,J.eB];by_cases X:b=0
  ·rw[RI X,RI X]
  ·rw[RJ X,RJ X,DX]
 -- the root
 have k3:lf Y k:=DR (by rw[l3];exact ndSub.rfl) k2;have hkR:∀i,i<4->lf Y (ak nr i):=λi hi=>by
  rw[hnrk i hi];split
  ·exact k3
  ·exact DR (by rw[l3];exact l12) (kg V1 hr1 hi)
 obtain ⟨O,V4,e4,d4,l4,eb4,el4,r4,er4,o4,ok4,nn4,t4⟩:∃O,Val O/\qU false (ag Y) nr=ag O/\O.D=Y.D/\O.L=Y.L/\O.eB=Y.eB/\O.eL=Y.eL/\ndSub Y.R O.R/\(∀p,O.eR p=Y.eR p+if p=out/\out≠0 then 1 else 0)/\rt O out/\(∀i,i<4->ak (gN (ag O).N out) i=ak nr i)/\(∀q,q≠out->(O.R q).isSome=true->(Y.R q).isSome=true)/\(k≠0->1<=aF O.R k):=by
  rcases Lh V3 hkR ho with ⟨rfl,h2,h3⟩ | ⟨h1,h2,h3,h4⟩
  ·refine ⟨Y,V3,h3,rfl,rfl,rfl,rfl,ndSub.rfl,λp=>by simp, .inl rfl,λi _=>by rw[xK h2,iO V3],λq _ h=>h,λhk=>?_⟩;have:=hnrk (at_ / 4) hli;rw[RI rfl,xK h2] at this;exact absurd this.symm hk
  ·refine ⟨_,h4,h3,rfl,rfl,rfl,rfl,DO (xA h2).1,λp=>?_, .inr ⟨nr,by simp[qy]⟩,λi _=>tz (by simp[qy]) i,λq hq h=>?_,λhk=>?_⟩
   ·show del Y.eR out 1 p=_;unfold del;by_cases hp:p=out
    ·simp[hp,h1]
    ·simp[hp]
   ·change (qy Y.R out (some nr) q).isSome=true at h;simpa [qy,hq] using h
   ·have h5:=tv (N:=qy Y.R out (some nr)) (h4.sR out nr (by simp[qy])) k;have h6:=tw nr (at_ / 4) hli;have h7:=hnrk (at_ / 4) hli;rw[RI rfl] at h7;rw[h7] at h6;rw[show qy Y.R out (some nr) out=some nr by simp[qy]] at h5;exact Int.le_trans h6 h5
 rw[e4] at hS
 -- the leaf's own
 obtain ⟨Z,e5,V5,r5,d5,l5,er5,el5,eb5⟩:∃Z,aY (ag O) k=ag Z/\Val Z/\Z.R=O.R/\Z.D=O.D/\Z.L=O.L/\Z.eR=O.eR/\Z.eL=G.eL/\Z.eB=O.eB:=by
  by_cases hk:k=0
  ·subst hk;exact ⟨O,by simp[aY,cR],V4,rfl,rfl,rfl,rfl,by rw[el4,el3,el2,RI rfl],rfl⟩
  ·have h1:O.eL k=G.eL k+1:=(by rw[el4,el3,el2,RJ hk,mZ]);have h2:=V.nL k;have h3:=t4 hk;refine ⟨_,DK V4 hk (by omega) (by omega),V4.keepL hk (by omega) (by omega),rfl,rfl,rfl,rfl,?_,rfl⟩;show del O.eL k (-1)=G.eL;rw[el4,el3,el2,RJ hk,DX]
 have sR:ndSub G.R Z.R:=(by rw[r5,<-r2,<-r3];exact r4);have sL1:ndSub S.L Z.L:=(by rw[l5,l4,l3];exact l12);have sL:ndSub G.L Z.L:=(by rw[l5,l4,l3];exact l2);have sD:dSub G.D Z.D:=(by rw[d5,d4,d3,d2];exact J.D);have sD1:dSub S.D Z.D:=(by rw[d5,d4,d3,d2];exact dSub.rfl);have sR1:ndSub S.R Z.R:=(by rw[J.R];exact sR);refine ⟨Z,hS.trans e5,⟨V5,λp=>by rw[er5,er4,er3,er2],el5,by rw[eb5,eb4,eb3'],sR,sL,sD,DQ (by rw[r5];exact ndSub.rfl) o4,λi hi=>?_,?_,?_⟩⟩
 ·-- what the new root has
  have ho5:∀i,i<4->ak (gN (ag Z).N out) i=ak nr i:=λi hi=>(by rw[DP V4 V5 (by rw[r5];exact ndSub.rfl) o4];exact ok4 i hi);rw[lW,ho5 (i / 4) (by omega),hnrk (i / 4) (by omega)];by_cases h4:i / 4=at_ / 4
  ·rw[RI h4,xG V2 V5 (by rw[l5,l4,l3];exact ndSub.rfl) k2,lk2 _ (by omega),hnlk _ (by omega)];by_cases h5:i % 4=at_ % 4
   ·rw[RI h5,RI (by omega)];by_cases X:b=0
    ·rw[X,kf V5,J.b0 X]
    ·exact xE (sD1 b d (J.b1 X))
   ·rw[RJ h5,RJ (by omega),xH V1 V5 sD1 (m8 V1 hol (by omega)),lW,<-h4];have h6:=m8 V1 (kg V1 hr1 (i:=i / 4) (by omega)) (i:=i % 4) (by omega);have h7:=m9 V V1 (by rw[J.R];exact ndSub.rfl) (by rw[J.L];exact ndSub.rfl) J.D hr hi;rw[lW,lW] at h7;exact h7
  ·rw[RJ h4,RJ (by omega)];have h6:=kg V1 hr1 (i:=i / 4) (by omega);rw[xG V1 V5 sL1 h6,xH V1 V5 sD1 (m8 V1 h6 (by omega))];exact m9 V V1 (by rw[J.R];exact ndSub.rfl) (by rw[J.L];exact ndSub.rfl) J.D hr hi
 ·refine xI b λq hq h=>?_;rw[DU,d5,d4,d3,d2,J.ne q hq] at h;rw[DU];exact h
 ·refine Rh (xI (B:=(ag Y).N) out λq hq h=>?_) (Nat.add_le_add_right (xI k λq hq h=>?_) 1)
  ·rw[tA,r5,l5,l4,SN] at h;rw[tA,SN];exact h.imp (nn4 q hq) id
  ·rw[tA,r3,r2,l3,SN] at h;rw[tA,SN];exact h.imp id (nn2 q hq)
def xM (l:List Int)(x q:Int):aL (l++ [x]) q=aL l q+if q=x/\x≠0 then 1 else 0:=by
 unfold aL;by_cases D:q=0
 ·subst D;rw[RI rfl,RI rfl,RJ (λh=>h.2 h.1.symm)]
  rfl
 ·rw[RJ D,RJ D,UK,UH];by_cases hx:x=q
  ·subst hx;simp[D]
  ·simp[hx,Ne.symm hx]
def Ln (l:List Int)(q:Int):aL l q<=l.length:=by
 unfold aL;split
 ·omega
 ·have:=UL (l:=l) (a:=q);omega
def DZ {l:List Int}{q:Int}(h:q∈l)(D:q≠0):1<=aL l q:=by
 unfold aL;rw[RJ D];have:=UM.2 h;omega
structure Rt (G:Gh) (roots:List Int):Prop where
 V:Val G
 eL:∀q,G.eL q=0
 eB:∀q,G.eB q=0
 eR:∀q,G.eR q=aL roots q
def dS {G:Gh}{D:List Int}(h:Rt G D){q:Int}(O:q∈D):rt G q:=by
 by_cases J:q=0
 ·exact .inl J
 ·refine .inr (UG.1 ((h.V.pR q J).2 ?_));have:=DZ O J;rw[h.eR];omega
def na {G:Gh}{D:List Int}(h:Rt G D){m:Int}(J:(D.length:Int)+96<=m):aH m (ag G):=lR (oY h.V (m:=D.length) (λq=>by rw[h.eR];exact Ln _ _) (λq=>by rw[h.eL];omega) (λq=>by rw[h.eB];omega)) J
def tD {G:Gh}(V:Val G){q:Int}(h:rt G q):∀i,i<4->0<=ak (gN (ag G).N q) i/\ak (gN (ag G).N q) i<=24:=λi D=>DS V (kg V h D)
def pd {G J:Gh}{D:List Int}{root out:Int}{at_:Nat}{d:ab}(h:Rt G D)(o:SetOk G J root at_ d out):Rt J (D++ [out]):=
 ⟨o.V,λq=>by rw[o.eL];exact h.eL q,λq=>by rw[o.eB];exact h.eB q,λq=>by rw[o.eR,h.eR,xM]⟩
def Lo:Rt gZ [0]:=⟨Lj,λ_=>rfl,λ_=>rfl,λq=>by
 show (0:Int)=aL [0] q;unfold aL;by_cases h:q=0
 ·simp[h]
 ·simp[h,Ne.symm h]⟩
def Lp {l:List ActM}{m:Int}(h:fZ l m=true):(l.length:Int)<=m:=by
 unfold fZ at h;simp only[Ru,decide_eq_true_eq] at h;exact h.1
def tE (S:SI)(root:Int)(at_:Nat)(d:ab):0<=(aP S root at_ d).2:=by
 have D:0<=(qi S d).2:=by
  unfold qi;split
  ·simp
  ·unfold cK;split
   ·simp
   ·cases wK 40 S.B <;> simp
 have h:∀S n,0<=(qR S n).2:=λS n=>(by have:=DV S n;omega);unfold aP;simp only;split
 ·exact D
 ·split
  ·exact h _ _
  ·split
   ·exact h _ _
   ·simp
structure Pt where
 id:Int
 disk:Int
 size:Int
 root:Int
deriving DecidableEq
abbrev qL (p:Pt):List Value:=[I p.id,I p.disk,I p.size,I p.root]
def az (l:List Pt):List (List Value):=l.map qL
def yI (l:List Pt):(az l).length=l.length:=by simp[az]
def eO {l:List Pt}{k:Nat}{c:Pt}(h:l[k]? =some c):(az l)[k]? =some (qL c):=by simp[az,h]
def aM:Pt:=⟨0,0,0,0⟩
def qS (l:List Pt)(id:Int):Option Pt:=l.find? λp=>decide (p.id=id)
def k6 (l:List Pt)(id:Int):Nat:=l.findIdx λp=>decide (p.id=id)
def fG (l:List Pt)(id:Int):Int:=if k6 l id<l.length then (k6 l id:Int) else -1
def tF {l:List Pt}{id:Int}{k:Nat}{s:Pt}(D:∀j,j<k->∀t,l[j]? =some t->t.id≠id)(S:l[k]? =some s)(J:s.id=id):fG l id=k:=by
 obtain ⟨R,h⟩:=Re.1 S;have e:k6 l id=k:=by
  unfold k6;rw[List.findIdx_eq R];refine ⟨by rw[h];simpa using J,λj O=>?_⟩;have:=D j O l[j] (S6 (by omega));simpa using this
 unfold fG;rw[RI (by omega),e]
def tG {l:List Pt}{id:Int}(D:∀j,j<l.length->∀t,l[j]? =some t->t.id≠id):fG l id= -1:=by
 unfold fG;rw[RJ];intro h;have:=UN (w:=h);simp at this;exact D _ h _ (S6 h) this
def xN {l:List Pt}{id:Int}(h:¬fG l id<0):∃i s,fG l id=((i:Nat):Int)/\l[i]? =some s/\s.id=id/\i<l.length/\qS l id=some s/\∀j,j<i->∀t,l[j]? =some t->t.id≠id:=by
 unfold fG at h ⊢;split at h
 ·rename_i J;have D:l[k6 l id].id=id:=of_decide_eq_true (UN (p:=λp:Pt=>decide (p.id=id)) (w:=J));have O:∀j,j<k6 l id->∀t,l[j]? =some t->t.id≠id:=λj R t X=>by
   have S:=UO R;obtain ⟨V,e⟩:=Re.1 X;subst e;simpa using S
  refine ⟨k6 l id,l[k6 l id],by rw[RI J],S6 J,D,J,?_,O⟩;unfold qS;rw[UP];refine ⟨S8 D,_,J,rfl,λj R=>?_⟩;have:=O j R l[j] (S6 (by omega));simpa using this
 ·omega
def D4 {l:List Pt}{id:Int}(h:fG l id<0):qS l id=none:=by
 unfold qS;rw[TI];intro x hx;unfold fG at h;split at h
 ·omega
 ·rename_i J;intro D;exact J (UQ ⟨x,hx,D⟩)
def wd {l:List Pt}{id:Int}{p:Pt}(h:qS l id=some p):p∈l/\p.id=id:=by
 unfold qS at h;exact ⟨List.mem_of_find?_eq_some h,by simpa using UR h⟩
def put1 (z:SI×Int)(at_:Nat)(d:ab):Except Int (SI×Int):=if (aP z.1 z.2 at_ d).2=0 then .ok (cj (ck z.1 z.2 at_ d) z.2,(aP z.1 z.2 at_ d).1) else .error (aP z.1 z.2 at_ d).2
def dY:SI×Int->List Nat->Except Int (SI×Int)
 | z,[]=> .ok z
 | z,a::l=>match put1 z a [] with
  | .ok z'=>dY z' l
  | .error e=> .error e
def cf (size:Int):SI×Int->List PutM->Except Int (SI×Int)
 | z,[]=> .ok z
 | z,p::l=>if p.at_<0\/size<=p.at_ then .error 1 else if ct z.1 z.2 p.at_.toNat=p.data then cf size z l else match put1 z p.at_.toNat p.data with
  | .ok z'=>cf size z' l
  | .error e=> .error e
def dE (S:SI)(L:List Pt)(base disk size:Int):Except Int (SI×Int):=if base=0 then .ok (S,0) else match qS L base with
 | none=> .error 5
 | some p=>if p.disk≠disk then .error 3 else dY (wX S p.root,p.root) (List.range' size.toNat (p.size.toNat - size.toNat))
def cn (L:List Pt)(n:Int):Int:=if L.length=6\/999<n then 8 else 0
abbrev VR:=Except Int (SI×List Pt×Int×Int)
def bW (S:SI)(L:List Pt)(n base disk size:Int)(puts:List PutM):VR:=if disk<1\/999<disk\/size<1\/16<size then .error 1 else match dE S L base disk size with
 | .error e=> .error e
 | .ok z=>match cf size z puts with
  | .error e=> .error e
  | .ok z=>if cn L n≠0 then .error (cn L n) else .ok (z.1,L++ [⟨n,disk,size,z.2⟩],n+1,n)
def dq (S:SI)(L:List Pt)(n id:Int):VR:=match qS L id with
 | none=> .error 5
 | some p=>if cn L n≠0 then .error (cn L n) else .ok (wX S p.root,L++ [⟨n,p.disk,p.size,p.root⟩],n+1,n)
def dG (S:SI)(L:List Pt)(n id:Int):VR:=match qS L id with
 | none=> .error 5
 | some p=> .ok (cj S p.root,L.filter (λx=>!decide (x.id=id)),n,0)
def bS (S:SI)(L:List Pt)(id at_:Int):ab×Int:=match qS L id with
 | none=>([],5)
 | some p=>if at_<0\/p.size<=at_ then ([],1) else (ct S p.root at_.toNat,0)
def aZ (L:List Pt)(disk keep:Int):List Int:=let l:=(L.filter λp=>decide (p.disk=disk)).map (·.id);l.take (l.length - keep.toNat)
structure Vok (S:SI) (L:List Pt) (n:Int) (G:Gh):Prop where
 e:S=ag G
 rt:Rt G (L.map (·.root))
 len:L.length<=6
 n1:1<=n/\n<=1000
 pts:∀p∈L,(1<=p.id/\p.id<n)/\(1<=p.disk/\p.disk<=999)/\(1<=p.size/\p.size<=16)
 srt:L.Pairwise λa b=>a.id<b.id
def xO {G:Gh}{l l':List Int}(h:Rt G l)(e:∀q,aL l q=aL l' q):Rt G l':=⟨h.V,h.eL,h.eB,λq=>by rw[h.eR,e]⟩
def D5 {G:Gh}{l:List Int}(h:Rt G l):Rt G (0::l):=xO h λq=>by
 rw[wB,RJ (λh=>h.2 h.1.symm)];omega
def Lq {G:Gh}{l:List Int}(h:Rt G (0::l)):Rt G l:=xO h λq=>by
 rw[wB,RJ (λh=>h.2 h.1.symm)];omega
def Lr {G:Gh}{l:List Int}{x:Int}(h:Rt G (x::l)):Rt G (l++ [x]):=xO h λq=>by
 rw[wB,xM];by_cases h:x=q
 ·subst h;simp
 ·simp[h,Ne.symm h]
def pf (x:Int)(l:List Int)(q:Int):aL (x::l) q=aL l q+if q=x/\x≠0 then 1 else 0:=by
 rw[wB];by_cases h:x=q
 ·subst h;simp
 ·simp[h,Ne.symm h]
def pg {G:Gh}{l:List Int}{q:Int}(h:Rt G l)(hq:q∈l):∃J,wX (ag G) q=ag J/\Rt J (q::l)/\J.R=G.R/\J.L=G.L/\J.D=G.D:=by
 obtain ⟨J,O,e,S,X,Y,Z,e5,e6⟩:=Lk h.V (dS h hq);exact ⟨J,e,⟨O,λp=>by rw[Z];exact h.eL p,λp=>by rw[e5];exact h.eB p,λp=>by rw[e6,h.eR,pf]⟩,S,X,Y⟩
def D6 {G:Gh}{l l':List Int}{q:Int}(h:Rt G l)(X:q∈l)(S:∀p,aL l p=aL l' p+if p=q/\q≠0 then 1 else 0):∃D,cj (ag G) q=ag D/\Rt D l'/\LessR G D:=by
 obtain ⟨D,J,e,s,O⟩:=La h.V (q:=q) λR=>by rw[h.eR];exact DZ X R
 exact ⟨D,e,⟨J,λp=>by rw[s.eL];exact h.eL p,λp=>by rw[s.eB];exact h.eB p,λp=>by rw[O,h.eR,S];omega⟩,s⟩
def kh (G G':Gh)(rs:List Int):Prop:=∀r∈rs,∀i,i<16->ct (ag G') r i=ct (ag G) r i
def D7 {G J:Gh}{l l':List Int}(h:Rt G l)(S:Rt J l')(s:LessR G J)(rs:List Int)(Y:∀r∈rs,r∈l'):kh G J rs:=λr O i X=>(m9 S.V h.V s.R s.L s.D (dS S (Y r O)) X).symm
def k7 {G:Gh}{root:Int}{rs:List Int}{at_:Nat}{d:ab}(h:Rt G (root::rs))(hl:rs.length<=8)(ha:at_<16)(hE:(aP (ag G) root at_ d).2=0):
  ∃J O,ck (ag G) root at_ d=ag J/\aH 200 (ag J)/\rt J root/\Val J/\cj (ag J) root=ag O/\Rt O ((aP (ag G) root at_ d).1::rs)/\
   (∀i,i<16->ct (ag O) (aP (ag G) root at_ d).1 i=if i=at_ then d else ct (ag G) root i)/\kh G O rs:=by
 obtain ⟨J,e1,o⟩:=Lm h.V (dS h (TQ ..)) ha (Prod.ext rfl hE:aP (ag G) root at_ d=((aP (ag G) root at_ d).1,0));have S:=pd h o;obtain ⟨O,e2,Z,s⟩:=D6 (l':=(aP (ag G) root at_ d).1::rs) S (q:=root) (by simp) λp=>by
  rw[xM,pf,pf];omega
 have k2:=D7 S Z s ((aP (ag G) root at_ d).1::rs) λr Y=>Y;refine ⟨J,O,e1,na S (by simp;omega),dS S (by simp),S.V,e2,Z,λi X=>?_,λr Y i X=>?_⟩
 ·rw[k2 _ (TQ ..) i X];exact o.get i X
 ·rw[k2 _ (Th _ Y) i X];exact m9 h.V o.V o.R o.L o.D (dS h (Th _ Y)) X
def D8 {z:SI×Int}{at_:Nat}{d:ab}{e:Int}(h:put1 z at_ d= .error e):0<e:=by
 unfold put1 at h;split at h
 ·cases h
 ·injection h with h;have:=tE z.1 z.2 at_ d;omega
def D9:∀(l:List Nat) {z:SI×Int} {e:Int},dY z l= .error e->0<e
 | [],z,e,h=>by simp[dY] at h
 | a::l,z,e,h=>by
  unfold dY at h;cases D:put1 z a [] with
  | ok J=>rw[D] at h;exact D9 l h
  | error e'=>rw[D] at h;injection h with h;subst h;exact D8 D
def xP {size:Int}:∀(l:List PutM) {z:SI×Int} {e:Int},cf size z l= .error e->0<e
 | [],z,e,h=>by simp[cf] at h
 | p::l,z,e,h=>by
  unfold cf at h;split at h
  ·injection h with h;omega
  ·split at h
   ·exact xP l h
   ·cases D:put1 z p.at_.toNat p.data with
    | ok J=>rw[D] at h;exact xP l h
    | error e'=>rw[D] at h;injection h with h;subst h;exact D8 D
def Ea {S:SI}{L:List Pt}{base disk size e:Int}(h:dE S L base disk size= .error e):0<e:=by
 unfold dE at h;split at h
 ·cases h
 ·split at h
  ·injection h with h;omega
  ·split at h
   ·injection h with h;omega
   ·exact D9 _ h
def Eb (L:List Pt)(n:Int):cn L n=0\/cn L n=8:=by unfold cn;split <;> simp
def tH {S:SI}{L:List Pt}{n base disk size e:Int}{puts:List PutM}(h:bW S L n base disk size puts= .error e):0<e:=by
 unfold bW at h;split at h
 ·injection h with h;omega
 ·cases D:dE S L base disk size with
  | error e'=>rw[D] at h;injection h with h;subst h;exact Ea D
  | ok z=>
   rw[D] at h;simp only at h;cases J:cf size z puts with
   | error e'=>rw[J] at h;injection h with h;subst h;exact xP _ J
   | ok O=>
    rw[J] at h;simp only at h;split at h
    ·injection h with h;have:=Eb L n;omega
    ·cases h
def Ec {rs:List Int}(Y:rs.length<=8):∀(l:List Nat) {G:Gh} {root:Int} {z:SI×Int},Rt G (root::rs)->(∀a∈l,a<16)->dY (ag G,root) l= .ok z->
  ∃J,z.1=ag J/\Rt J (z.2::rs)/\(∀i,i<16->ct (ag J) z.2 i=if i∈l then [] else ct (ag G) root i)/\kh G J rs
 | [],G,root,z,h,_,e=>by
  simp only[dY] at e;injection e with e;subst e;exact ⟨G,rfl,h,λi _=>by simp,λr _ i _=>rfl⟩
 | a::l,G,root,z,h,X,e=>by
  unfold dY at e;cases D:put1 (ag G,root) a [] with
  | error e'=>rw[D] at e;cases e
  | ok z'=>
   rw[D] at e;simp only at e;unfold put1 at D;split at D
   ·rename_i hE;injection D with D;obtain ⟨G1,G2,R,o1,r1,v1,e2,h2,g2,k2⟩:=k7 h Y (X a (by simp)) hE;simp only at D R;rw[R,e2] at D;subst D;obtain ⟨J,hz,h',g',k'⟩:=Ec Y l h2 (λb hb=>X b (Th _ hb)) e;refine ⟨J,hz,h',λi O=>?_,λr Z i O=>by rw[k' r Z i O,k2 r Z i O]⟩;rw[g' i O,g2 i O];by_cases S:i∈l
    ·simp[S]
    ·by_cases V:i=a
     ·simp[V]
     ·simp[S,V]
   ·cases D
def nb (l:List PutM)(i:Nat)(d:ab):ab:=l.foldl (λd p=>if p.at_=(i:Int) then p.data else d) d
def xQ {size:Int}(hs:size<=16){rs:List Int}(hl:rs.length<=8):∀(l:List PutM) {G:Gh} {root:Int} {z:SI×Int},Rt G (root::rs)->cf size (ag G,root) l= .ok z->
  ∃O,z.1=ag O/\Rt O (z.2::rs)/\(∀i,i<16->ct (ag O) z.2 i=nb l i (ct (ag G) root i))/\kh G O rs/\∀p∈l,0<=p.at_/\p.at_<size
 | [],G,root,z,h,e=>by
  simp only[cf] at e;injection e with e;subst e;exact ⟨G,rfl,h,λi _=>rfl,(λr _ i _=>rfl),λp J=>by simp at J⟩
 | p::l,G,root,z,h,e=>by
  unfold cf at e;split at e
  ·cases e
  ·rename_i hb;have X:0<=p.at_/\p.at_<size:=(by omega);have D:∀i:Nat,i=p.at_.toNat ↔ p.at_=(i:Int):=λi=>(by omega);split at e
   ·rename_i hg;obtain ⟨O,hz,h',Z,k',Y⟩:=xQ hs hl l h e;refine ⟨O,hz,h',λi S=>?_,k',λq V=>?_⟩
    ·rw[Z i S];unfold nb;rw[SF];by_cases R:p.at_=(i:Int)
     ·rw[RI R,<-hg,<-(D i).2 R]
     ·rw[RJ R]
    ·rcases RR.1 V with rfl | V
     ·exact X
     ·exact Y q V
   ·cases J:put1 (ag G,root) p.at_.toNat p.data with
    | error e'=>rw[J] at e;cases e
    | ok z'=>
     rw[J] at e;simp only at e;unfold put1 at J;split at J
     ·rename_i hE;injection J with J;obtain ⟨G1,G2,e1,o1,r1,v1,e2,h2,g2,k2⟩:=k7 h hl (by omega) hE;simp only at J e1;rw[e1,e2] at J;subst J;obtain ⟨O,hz,h',Z,k',Y⟩:=xQ hs hl l h2 e;refine ⟨O,hz,h',λi S=>?_,λr hr i S=>by rw[k' r hr i S,k2 r hr i S],λq V=>?_⟩
      ·rw[Z i S,g2 i S];unfold nb;rw[SF];by_cases R:p.at_=(i:Int)
       ·rw[RI R,RI ((D i).2 R)]
       ·rw[RJ R,RJ (λh=>R ((D i).1 h))]
      ·rcases RR.1 V with rfl | V
       ·exact X
       ·exact Y q V
     ·cases J
def wz {L:List Pt}{id:Int}{p:Pt}(h:qS L id=some p):p.root∈L.map (·.root):=SR.2 ⟨p,(wd h).1,rfl⟩
def xR {S:SI}{L:List Pt}{n base disk size:Int}{G:Gh}{z:SI×Int}(h:Vok S L n G)(hs:1<=size/\size<=16)(e:dE S L base disk size= .ok z):
  ∃D,z.1=ag D/\Rt D (z.2::L.map (·.root))/\kh G D (L.map (·.root))/\
   ∀i:Nat,i<16->ct (ag D) z.2 i=match (if base=0 then none else qS L base) with | none=>[] | some p=>if size<=(i:Int)/\(i:Int)<p.size then [] else ct S p.root i:=by
 have R:(L.map (·.root)).length<=8:=(by have:=h.len;simp;omega);have hS:=h.e;subst hS;unfold dE at e;by_cases Y:base=0
 ·rw[RI Y] at e;injection e with e;subst e;refine ⟨G,rfl,D5 h.rt,(λr _ i _=>rfl),λi _=>?_⟩;rw[RI Y,lW,iO h.rt.V,iO h.rt.V,kf h.rt.V]
 ·rw[RJ Y] at e ⊢;cases J:qS L base with
  | none=>rw[J] at e;cases e
  | some p=>
   rw[J] at e;simp only at e ⊢;split at e
   ·cases e
   ·obtain ⟨Z,hpi⟩:=wd J;have hps:=(h.pts p Z).2.2;obtain ⟨G1,e1,h1,q1,q2,q3⟩:=pg h.rt (wz J);rw[e1] at e;obtain ⟨D,hz,h',g',k'⟩:=Ec R _ h1 (λa ha=>by rw[TF] at ha;omega) e;have same:∀r∈L.map (·.root),∀i,i<16->ct (ag G1) r i=ct (ag G) r i:=λr X i O=>m9 h.rt.V h1.V (by rw[q1];exact ndSub.rfl) (by rw[q2];exact ndSub.rfl) (by rw[q3];exact dSub.rfl) (dS h.rt X) O;refine ⟨D,hz,h',λr X i O=>by rw[k' r X i O,same r X i O],λi O=>?_⟩;rw[g' i (by omega),same _ (wz J) i (by omega)];have:i∈List.range' size.toNat (p.size.toNat - size.toNat) ↔ size<=(i:Int)/\(i:Int)<p.size:=(by rw[TF];omega);simp only[this]
def Ed {S:SI}{L:List Pt}{n disk size root:Int}{G O:Gh}(h:Vok S L n G)(V:Rt O (root::L.map (·.root)))(D:cn L n=0)(hd:1<=disk/\disk<=999)(hs:1<=size/\size<=16):Vok (ag O) (L++ [⟨n,disk,size,root⟩]) (n+1) O:=by
 unfold cn at D;have D:¬(L.length=6\/999<n):=λX=>(by rw[RI X] at D;cases D);have Y:=h.len;have Z:=h.n1;refine ⟨rfl,?_,by simp;omega,by omega,λp J=>?_,?_⟩
 ·rw[RA];exact Lr V
 ·rcases Sc.1 J with J | J
  ·have:=h.pts p J;omega
  ·rw[Ub] at J;subst J;simp only;omega
 ·rw[RD];refine ⟨h.srt,US _ _,λa D b R=>?_⟩;rw[Ub] at R;subst R;exact (h.pts a D).1.2
def xT {S:SI}{L:List Pt}{n base disk size:Int}{puts:List PutM}{G:Gh}{O:SI}{L':List Pt}{X r:Int}(h:Vok S L n G)(e:bW S L n base disk size puts= .ok (O,L',X,r)):
  ∃Y root,Vok O L' X Y/\kh G Y (L.map (·.root))/\L'=L++ [⟨n,disk,size,root⟩]/\X=n+1/\r=n/\(1<=disk/\disk<=999)/\(1<=size/\size<=16)/\(∀p∈puts,0<=p.at_/\p.at_<size)/\
   ∀i:Nat,i<16->ct O root i=nb puts i (match (if base=0 then none else qS L base) with | none=>[] | some p=>if size<=(i:Int)/\(i:Int)<p.size then [] else ct S p.root i):=by
 unfold bW at e;split at e
 ·cases e
 ·rename_i hbd;have D:(L.map (·.root)).length<=8:=(by have:=h.len;simp;omega);cases R:dE S L base disk size with
  | error e'=>rw[R] at e;cases e
  | ok z=>
   rw[R] at e;simp only at e;obtain ⟨z1,z2⟩:=z;obtain ⟨G1,hz,h1,k1,g1⟩:=xR h (by omega) R;simp only at hz;subst hz;cases V:cf size (ag G1,z2) puts with
   | error e'=>rw[V] at e;cases e
   | ok z'=>
    rw[V] at e;simp only at e;obtain ⟨y1,y2⟩:=z';obtain ⟨G2,hy,h2,g2,k2,b2⟩:=xQ (by omega) D puts h1 V;simp only at hy;subst hy;split at e
    ·cases e
    ·rename_i ha;injection e with e;injection e with e1 e;injection e with e2 e;injection e with e3 e4;subst e1 e2 e3 e4;refine ⟨G2,y2,Ed h h2 (Decidable.not_not.1 ha) (by omega) (by omega),λr Z i J=>by rw[k2 r Z i J,k1 r Z i J],rfl,rfl,rfl,by omega,by omega,b2,λi J=>?_⟩;rw[g2 i (by omega),g1 i J]
def xU {S:SI}{L:List Pt}{n id:Int}{G:Gh}{Z:SI}{L':List Pt}{X r:Int}(h:Vok S L n G)(e:dq S L n id= .ok (Z,L',X,r)):
  ∃Y p,Vok Z L' X Y/\qS L id=some p/\kh G Y (L.map (·.root))/\L'=L++ [⟨n,p.disk,p.size,p.root⟩]/\X=n+1/\r=n:=by
 unfold dq at e;cases J:qS L id with
 | none=>rw[J] at e;cases e
 | some p=>
  rw[J] at e;simp only at e;split at e
  ·cases e
  ·rename_i ha;injection e with e;injection e with O e;injection e with e2 e;injection e with e3 e4;subst O e2 e3 e4;obtain ⟨R,hpi⟩:=wd J;have D:=h.pts p R;have hS:=h.e;subst hS;obtain ⟨G1,O,h1,q1,q2,q3⟩:=pg h.rt (wz J);rw[O];exact ⟨G1,p,Ed h h1 (Decidable.not_not.1 ha) D.2.1 D.2.2,rfl,λr hr i hi=>m9 h.rt.V h1.V (by rw[q1];exact ndSub.rfl) (by rw[q2];exact ndSub.rfl) (by rw[q3];exact dSub.rfl) (dS h.rt hr) hi,rfl,rfl,rfl⟩
def Ls {L:List Pt}{p:Pt}(J:L.Pairwise λa b=>a.id<b.id)(D:p∈L)(q:Int):aL (L.map (·.root)) q=aL ((L.filter λx=>!decide (x.id=p.id)).map (·.root)) q+if q=p.root/\p.root≠0 then 1 else 0:=by
 induction L with
 | nil=>simp at D
 | cons a L R=>
  rw[Uq] at J;rw[Rv,pf];rcases RR.1 D with rfl | D
  ·have h:L.filter (λx=>!decide (x.id=p.id))=L:=Tt.2 λb O=>(by have:=J.1 b O;simp;omega);rw[Tn (by simp),h]
  ·have:=J.1 p D;rw[To (by simp;omega),Rv,pf,R J.2 D];omega
def Ee {S:SI}{L:List Pt}{n id:Int}{G:Gh}{Y:SI}{L':List Pt}{V r:Int}(h:Vok S L n G)(e:dG S L n id= .ok (Y,L',V,r)):
  ∃X p,Vok Y L' V X/\qS L id=some p/\kh G X (L'.map (·.root))/\L'=L.filter (λx=>!decide (x.id=id))/\V=n/\r=0:=by
 unfold dG at e;cases D:qS L id with
 | none=>rw[D] at e;cases e
 | some p=>
  rw[D] at e;simp only at e;injection e with e;injection e with J e;injection e with e2 e;injection e with e3 e4;subst J e2 e3 e4;obtain ⟨R,O⟩:=wd D;have hS:=h.e;subst hS;subst O;obtain ⟨G1,J,Z,s1⟩:=D6 (l':=(L.filter λx=>!decide (x.id=p.id)).map (·.root)) h.rt (wz D) (Ls h.srt R);rw[J];refine ⟨G1,p,⟨rfl,Z,Rh (TG _ _) h.len,h.n1,λx hx=>h.pts x (Tz.1 hx).1,TE Tm h.srt⟩,rfl,D7 h.rt Z s1 _ λr hr=>hr,rfl,rfl,rfl⟩
def ph:Vok (ag gZ) [] 1 gZ:=⟨rfl,Lq Lo,by simp,by omega,(λp h=>by simp at h),List.Pairwise.nil⟩
def gv {S:SI}{L:List Pt}{n:Int}{G:Gh}(h:Vok S L n G):aH 200 S:=by rw[h.e];exact na h.rt (by have:=h.len;simp;omega)
def fy (S:SI)(L:List Pt):Prop:=∀p∈L,∀i:Nat,p.size<=(i:Int)->i<16->ct S p.root i=[]
def Lt {puts:List PutM}{size:Int}(h:∀p∈puts,0<=p.at_/\p.at_<size){i:Nat}(O:size<=(i:Int)):∀d:ab,nb puts i d=d:=by
 unfold nb
 induction puts with
 | nil=>intro d;rfl
 | cons p l J=>
  intro d;have:=h p (by simp);rw[SF,RJ (by omega)];exact J (λq D=>h q (Th _ D)) d
def tI {G D:Gh}{L:List Pt}(h:fy (ag G) L)(k:kh G D (L.map (·.root))):fy (ag D) L:=λp O i R J=>by
 rw[k _ (SR.2 ⟨p,O,rfl⟩) i J];exact h p O i R J
def Lu {S:SI}{L:List Pt}{n base disk size:Int}{puts:List PutM}{G:Gh}{Y:SI}{L':List Pt}{n' r:Int}(h:Vok S L n G)(t:fy S L)(e:bW S L n base disk size puts= .ok (Y,L',n',r)):fy Y L':=by
 obtain ⟨G',root,h',k',e1,_,_,_,hs,hp,g⟩:=xT h e;have hS:=h.e;subst hS;have V:=h'.e;subst V;rw[e1];intro p D i O R;rcases Sc.1 D with D | D
 ·exact tI t k' p D i O R
 ·rw[Ub] at D;subst D;simp only at O ⊢;rw[g i R,Lt hp O];split
  ·rfl
  ·rename_i q J;split
   ·rfl
   ·rename_i hn;have X:q∈L:=by
     by_cases Z:base=0
     ·rw[RI Z] at J;cases J
     ·rw[RJ Z] at J;exact (wd J).1
    exact t q X i (by omega) R
def Lv {S:SI}{L:List Pt}{n id:Int}{G:Gh}{O:SI}{L':List Pt}{n' r:Int}(h:Vok S L n G)(t:fy S L)(e:dq S L n id= .ok (O,L',n',r)):fy O L':=by
 obtain ⟨G',q,Z,hf,X,Y,_⟩:=xU h e;have hS:=h.e;subst hS;have J:=Z.e;subst J;rw[Y];intro p D i R V;rcases Sc.1 D with D | D
 ·exact tI t X p D i R V
 ·rw[Ub] at D;subst D;exact tI t X q (wd hf).1 i R V
def Lw {S:SI}{L:List Pt}{n id:Int}{G:Gh}{J:SI}{L':List Pt}{n' r:Int}(h:Vok S L n G)(t:fy S L)(e:dG S L n id= .ok (J,L',n',r)):fy J L':=by
 obtain ⟨G',q,V,hf,k',R,_⟩:=Ee h e;have Z:=h.e;subst Z;have D:=V.e;subst D;refine tI (λp O i X Y=>t p ?_ i X Y) k';rw[R] at O;exact (Tz.1 O).1
def pi:fy (ag gZ) []:=λp h=>by simp at h
def vR (b:Nat->SI->List Pt->Int->aa)(Ev:Int->Value)(p:Nat)(F:List aa)(R:VR):Value->List aa->Prop:=λv L'=>match R with
 | .ok (S,L,n,r)=>v= .tuple #[I r,Ev 0]/\L'=b p S L n::F
 | .error e=>v= .tuple #[I 0,Ev e]/\L'=F
def nc (b:Nat->SI->List Pt->Int->aa)(Ev:Int->Value)(p:Nat)(F:List aa)(R:VR):Value->List aa->Prop:=λv L'=>match R with
 | .ok (S,L,n,_)=>v=Ev 0/\L'=b p S L n::F
 | .error e=>v=Ev e/\L'=F
def lX (S:SI)(L:List Pt)(n base disk size:Int):VR:=match dE S L base disk size with
 | .ok z=> .ok (z.1,L,n,z.2)
 | .error e=> .error e
def ei (L:List Pt)(n disk size root:Int):List Pt:=if cn L n=0 then L++ [⟨n,disk,size,root⟩] else L
def em (L:List Pt)(n:Int):Int:=if cn L n=0 then n+1 else n
def cu (L:List Pt)(n:Int):Int:=if cn L n=0 then n else 0
def Ef (b:Nat)(S:SI)(L:List Pt)(n:Int)(z:Nat×Option Addr×Nat):List aa:=[pt b (.cells #[ptr z.1 0,sl z.2.1 L.length z.2.2,I n] 123 (0,0)),aX z.1 S,ai 162 4 z.2.1 z.2.2 (az L)]
def aI (b:Nat)(S:SI)(L:List Pt)(n:Int):aa:=hx (Ef b S L n)
section
variable {c:Cx}{E:ap}{L:List aa}{K:List KI}
def f9 {F:List aa}(b:Nat)(S:SI)(P:List Pt)(n:Int)[R:Rem L (aI b S P n) F](k:∀x s h,G c K E (pt b (.cells #[ptr x 0,sl s P.length h,I n] 123 (0,0))::aX x S::ai 162 4 s h (az P)::F)):G c K E L:=fP (aI b S P n) rfl λz=>k z.1 z.2.1 z.2.2
def yA {F:List aa}(b x:Nat)(s:Option Addr)(h:Nat)(S:SI)(P:List Pt)(n:Int)[D:Split L [pt b (.cells #[ptr x 0,sl s P.length h,I n] 123 (0,0)),aX x S,ai 162 4 s h (az P)] F](k:G c K E (aI b S P n::F)):G c K E L:=
 eU (A:=Ef b S P n) [pt b (.cells #[ptr x 0,sl s P.length h,I n] 123 (0,0)),aX x S,ai 162 4 s h (az P)] (aI b S P n) (x,s,h) rfl rfl k
def wL {F:List aa}{R:VR}{vs:List Value}{b:Nat->SI->List Pt->Int->aa}{h:Int->Value}{p:Nat}{e:Int}(J:c.R=vR b h p F R)(V:R= .error e)(X:du E c.fn.results.toList=some vs)(Y:cG vs= .tuple #[I 0,h e])[S:Sub L F](hds:c.n.ds=[]:=by rfl):G c (.code .ret::K) E L:=
 λa w D O=>wp_ret (yu (qB (hds:=hds) X D (S.sat O) (by rw[J,V];exact ⟨Y,rfl⟩)))
def k8 {F:List aa}{R:VR}{vs:List Value}{b:Nat->SI->List Pt->Int->aa}{h:Int->Value}{p:Nat}{S:SI}{P:List Pt}{n r:Int}(O:c.R=vR b h p F R)(X:R= .ok (S,P,n,r))(Y:du E c.fn.results.toList=some vs)(Z:cG vs= .tuple #[I r,h 0])[D:Sub L (b p S P n::F)](hds:c.n.ds=[]:=by rfl):G c (.code .ret::K) E L:=
 λa w J V=>wp_ret (yu (qB (hds:=hds) Y J (D.sat V) (by rw[O,X];exact ⟨Z,rfl⟩)))
def Eg {F:List aa}{R:VR}{vs:List Value}{b:Nat->SI->List Pt->Int->aa}{h:Int->Value}{p:Nat}{e:Int}(J:c.R=nc b h p F R)(V:R= .error e)(X:du E c.fn.results.toList=some vs)(Y:cG vs=h e)[S:Sub L F](hds:c.n.ds=[]:=by rfl):G c (.code .ret::K) E L:=
 λa w D O=>wp_ret (yu (qB (hds:=hds) X D (S.sat O) (by rw[J,V];exact ⟨Y,rfl⟩)))
def Eh {F:List aa}{R:VR}{vs:List Value}{b:Nat->SI->List Pt->Int->aa}{h:Int->Value}{p:Nat}{S:SI}{P:List Pt}{n r:Int}(O:c.R=nc b h p F R)(X:R= .ok (S,P,n,r))(Y:du E c.fn.results.toList=some vs)(Z:cG vs=h 0)[D:Sub L (b p S P n::F)](hds:c.n.ds=[]:=by rfl):G c (.code .ret::K) E L:=
 λa w J V=>wp_ret (yu (qB (hds:=hds) Y J (D.sat V) (by rw[O,X];exact ⟨Z,rfl⟩)))
def pj {T sz cap:Nat}{rows:List (List Value)}{F:List aa}(s:Option Addr)(n:Nat)[R:OwR L s T sz cap rows F](k:G c K E (ai T sz s cap (rows.take n)::F)):G c K E L:=λa w V X=>k a w V ((R.sat X).weak λm D=>by
 rcases D with ⟨rfl,rfl,rfl⟩ | ⟨b,cs,hs,D,J,h2,O,S⟩
 ·exact .inl ⟨rfl,by simp,rfl⟩
 ·refine .inr ⟨b,cs,hs,D,J,by simp;omega,λr Z=>O r (SD Z),λj row h f v Y=>S j row ?_ f v Y⟩;rw[TS] at h;split at h
  ·exact h
  ·cases h)
end
open Go.Sl Go.Proofs Go.Sort
def yn (e:Bool):aa:=λm=>
 (∃g cs t f,Tryz.prog.globalNamed "internal/strconv.uint64pow10" =some g/\m g=some (.cells cs t f,true)/\cs=(Lib.pow10Tab.map λz=>Value.int .u64 z).toArray)/\
 (e=true->∃g t f tp p,Tryz.prog.globalNamed "strconv.ErrSyntax" =some g/\m g=some (.cells #[.iface tp p] t f,true))
abbrev zck:aa:=yn true
def xV {w0 w w':World}{L:List aa}(h:Sat w0 w L)(b:RowKit.Below w.heap.size w w'):Sat w0 w' L:=by
 obtain ⟨f,D,J⟩:=h.parts;refine ⟨b.os.trans h.os,b.tape.trans h.tape,b.output.trans h.output,Rh h.size b.size,f,λi A O=>⟨(D i A O).1,λk x hx=>?_⟩,J⟩;have:=(D i A O).2 k x hx;rw[b.block k (Rk.1 this).1];exact this
def Ej {w0 w:World}{A:aa}{L:List aa}(h:Sat w0 w (A::L)):∃m:Res,m.fits w/\A m:=by
 obtain ⟨f,D,_⟩:=h.parts;exact ⟨f 0,(D 0 A rfl).2,(D 0 A rfl).1⟩
def Lx {e:Bool}{w0 w:World}{L:List aa}(h:Sat w0 w (yn e::L)):Lib.TabIs Tryz.prog w "internal/strconv.uint64pow10" .u64 Lib.pow10Tab:=by
 obtain ⟨m,hm,⟨g,cs,t,f,h1,h2,rfl⟩,_⟩:=Ej h;have:=hm _ _ h2;simp only[Lib.TabIs,World.var?,h1,Td,this]
def Ly {w0 w:World}{L:List aa}(h:Sat w0 w (zck::L)):∃tp p,w.var? Tryz.prog "strconv.ErrSyntax" =some #[.iface tp p]:=by
 obtain ⟨m,hm,_,h6⟩:=Ej h;obtain ⟨g,t,f,tp,p,h1,h2⟩:=h6 rfl;have:=hm _ _ h2;exact ⟨tp,p,by simp only[World.var?,h1,Td,this]⟩
def Lz {e:Bool}{W w0 w:World}{L:List aa}(h:Sat w0 w (old W::L))(h1:Lib.TabIs Tryz.prog W "internal/strconv.uint64pow10" .u64 Lib.pow10Tab)(h2:e=true->∃tp p,W.var? Tryz.prog "strconv.ErrSyntax" =some #[.iface tp p]):Sat w0 w (yn e::old W::L):=by
 refine (h.dup (Pers.old W)).weak λm hm=>⟨?_,λhe=>?_⟩
 ·unfold Lib.TabIs World.var? at h1;cases hg:Tryz.prog.globalNamed "internal/strconv.uint64pow10" with
  | none=>rw[hg] at h1;cases h1
  | some g=>
   rw[hg] at h1;simp only[Td] at h1;split at h1
   ·rename_i cs t f he;injection h1 with h1;exact ⟨g,cs,t,f,rfl,hm g _ he,h1⟩
   ·cases h1
 ·obtain ⟨tp,p,h2⟩:=h2 he;unfold World.var? at h2;cases hg:Tryz.prog.globalNamed "strconv.ErrSyntax" with
  | none=>rw[hg] at h2;cases h2
  | some g=>
   rw[hg] at h2;simp only[Td] at h2;split at h2
   ·rename_i cs t f he;injection h2 with h2;subst h2;exact ⟨g,t,f,tp,p,rfl,hm g _ he⟩
   ·cases h2
def ztw {W w0 w:World}{L:List aa}(h:Sat w0 w (old W::L))(h1:Lib.TabIs Tryz.prog W "internal/strconv.uint64pow10" .u64 Lib.pow10Tab)(h2:∃tp p,W.var? Tryz.prog "strconv.ErrSyntax" =some #[.iface tp p]):Sat w0 w (zck::old W::L):=Lz h h1 λ_=>h2
def LA {ee:Bool}(n:Int)(D: -9223372036854775808<=n)(J:n<=9223372036854775807)(F:List aa):
  Ct Tryz.prog 217 [I n] (yn ee::F) (R1 (ac (Lib.itoa n)) (yn ee::F)):=λw0 w h=>by
 refine (Tryz.strconv_Itoa n D J w (Lx h)).mono ?_;rintro e w' ⟨rfl,k,os,rfl⟩;exact ⟨_,tk os.toList (h.drew (w.drawn+k)),rfl,rfl⟩
def LB (c:Nat)(J:c<=3)(F:List aa):
  Ct Tryz.prog 244 [ac [48],I c] F (R1 (ac (Lib.repeatL [48] c)) F):=λw0 w h=>by
 refine (Tryz.strings_Repeat ⟨⟨[48]⟩⟩ c w (by omega) (by show 1*c<=_;omega)).mono ?_;rintro e w' ⟨rfl,D⟩;exact ⟨_,xV h D,rfl,rfl⟩
def Ek:∀(l:List UInt8) (D:Nat),(D+1)*10 ^ l.length<=100000->Lib.parseUint10 D l≠ .range/\∀u,Lib.parseUint10 D l= .ok u->u<(D+1)*10 ^ l.length
 | [],D,h=>by
  simp only[Lib.parseUint10];exact ⟨by simp,λu J=>by injection J with J;subst J;simp⟩
 | c::r,D,h=>by
  simp only[RX,Nat.pow_succ] at h ⊢;have V:1<=10 ^ r.length:=Nat.one_le_pow _ _ (by decide);have S:D+1<=(D+1)*(10 ^ r.length*10):=Nat.le_mul_of_pos_right _ (by omega);simp only[Lib.parseUint10];split
  ·rename_i hd;have R:(D*10+(c.toNat - 48)+1)*10 ^ r.length<=(D+1)*(10 ^ r.length*10):=by
    rw[show (D+1)*(10 ^ r.length*10)=((D+1)*10)*10 ^ r.length by rw[R4 (10 ^ r.length) 10,Nat.mul_assoc]];exact R9 _ (by omega)
   rw[RJ (by omega),RJ (by omega)];have O:=Ek r (D*10+(c.toNat - 48)) (by omega);exact ⟨O.1,λu J=>Nat.lt_of_lt_of_le (O.2 u J) R⟩
  ·exact ⟨by simp,λu J=>by cases J⟩
def El {l:List UInt8}(h:l.length<=3):Lib.parseMag l≠ .range/\∀u,Lib.parseMag l= .ok u->u<10 ^ l.length:=by
 unfold Lib.parseMag;split
 ·exact ⟨by simp,λu D=>by cases D⟩
 ·have J:10 ^ l.length<=10 ^ 3:=SG (by decide) h;have:=Ek l 0 (by omega);simpa using this
def Em {s:List UInt8}(J:s.length=3):Lib.atoiAll s≠ .range/\∀v,Lib.atoiAll s= .ok v-> -99<=v/\v<=999:=by
 cases s with
 | nil=>simp at J
 | cons c r=>
  simp at J;unfold Lib.atoiAll;simp only;by_cases V:c.toNat=43\/c.toNat=45
  ·rw[RI V];obtain ⟨O,R⟩:=El (l:=r) (by omega);cases D:Lib.parseMag r with
   | ok u=>
    have S:=R u D;rw[J] at S;simp only;rw[RJ (by omega),RJ (by omega)];refine ⟨by simp,λv h=>?_⟩;injection h with h;subst h;split <;> omega
   | range=>exact absurd D O
   | _=>exact ⟨by simp,λv h=>by cases h⟩
  ·rw[RJ V];obtain ⟨O,R⟩:=El (l:=c::r) (by simp;omega);cases D:Lib.parseMag (c::r) with
   | ok u=>
    have S:=R u D;simp only[RX,J] at S;simp only;rw[RJ (by omega),RJ (by omega)];refine ⟨by simp,λv h=>?_⟩;injection h with h;subst h;split <;> omega
   | range=>exact absurd D O
   | _=>exact ⟨by simp,λv h=>by cases h⟩
def iP (s:List UInt8):Option Int:=match Lib.atoiAll s with | .ok v=>some v | _=>none
def LC (s:List UInt8)(O:s.length=3)(F:List aa):
  Ct Tryz.prog 219 [ac s] (zck::F) (λv L'=>L'=zck::F/\((∃n,iP s=some n/\v= .tuple #[I n, .nilIface])\/(iP s=none/\∃t p,v= .tuple #[I 0, .iface t (ptr p 0)]))):=λw0 w D=>by
 cases h:Lib.atoiAll s with
 | ok v=>
  refine (Tryz.strconv_Atoi_ok ⟨⟨s⟩⟩ (by show s.length<=_;omega) v h w).mono ?_;rintro e w' ⟨rfl,S⟩;rcases S with rfl | ⟨t,rfl⟩
  ·exact ⟨_,D,rfl, .inl ⟨v,by unfold iP;rw[h],rfl⟩⟩
  ·refine ⟨zck::F,?_,rfl, .inl ⟨v,by unfold iP;rw[h],rfl⟩⟩;exact xV D ((Lib.bytesWorld_below w _ t))
 | range=>exact absurd h (Em O).1
 | _=>
  obtain ⟨V,p,R⟩:=Ly D;refine (Tryz.strconv_Atoi_syntax_var ⟨⟨s⟩⟩ (by show s.length<=_;omega) h V p w R).mono ?_;rintro e w' ⟨N,rfl,_,_,J⟩;exact ⟨_,xV D J,rfl, .inr ⟨by unfold iP;rw[h],_,N,rfl⟩⟩
def aN (n:Int):List UInt8:=Lib.repeatL [48] (3 - (Lib.itoa n).length)++Lib.itoa n
def bw (n:Nat):UInt8:=UInt8.ofNat (48+n)
def gw {n:Nat}(h:n<10):(bw n).toNat=48+n:=by
 unfold bw;rw[UInt8.toNat_ofNat'];omega
def eP {u:Nat}(h:u<10):Lib.decDigits u=[bw u]:=by rw[Lib.decDigits,dif_pos h];rfl
def wC {u:Nat}(h:¬u<10):Lib.decDigits u=Lib.decDigits (u / 10)++ [bw (u % 10)]:=by rw[Lib.decDigits,dif_neg h];rfl
def tJ (u:Nat):Lib.itoa (u:Int)=Lib.decDigits u:=by unfold Lib.itoa;rw[RJ (by omega)];simp
def pk {u:Nat}(h:u<1000):aN (u:Int)=[bw (u / 100),bw (u / 10 % 10),bw (u % 10)]:=by
 unfold aN;rw[tJ];by_cases D:u<10
 ·rw[eP D,show u / 100=0 by omega,show u / 10 % 10=0 by omega,show u % 10=u by omega];rfl
 ·rw[wC D];by_cases J:u<100
  ·rw[eP (by omega),show u / 100=0 by omega,show u / 10 % 10=u / 10 by omega];rfl
  ·rw[wC (by omega),eP (by omega),show u / 10 / 10=u / 100 by omega];rfl
def LD:aN 1000=[49,48,48,48]:=by
 unfold aN;rw[show (1000:Int)=((1000:Nat):Int) from rfl,tJ,wC (by omega),wC (by omega),wC (by omega),eP (by omega)]
 rfl
def wg {n:Int}(h:0<=n/\n<=999):(aN n).length=3:=by
 obtain ⟨u,rfl⟩:∃u:Nat,n=u:=⟨n.toNat,by omega⟩;rw[pk (by omega)];rfl
def xW {n:Int}(h: -999<=n/\n<=1000):(Lib.itoa n).length<=4:=by
 by_cases J:n<0
 ·unfold Lib.itoa;rw[RI J,RX];have hd:∀u:Nat,u<1000->(Lib.decDigits u).length<=3:=λu S=>by
   by_cases D:u<10
   ·rw[eP D];simp
   ·rw[wC D];by_cases O:u<100
    ·rw[eP (by omega)];simp
    ·rw[wC (by omega),eP (by omega)];simp
  have:=hd n.natAbs (by omega);omega
 ·obtain ⟨u,rfl⟩:∃u:Nat,n=u:=⟨n.toNat,by omega⟩;rw[tJ];by_cases D:u<10
  ·rw[eP D];simp
  ·rw[wC D];by_cases O:u<100
   ·rw[eP (by omega)];simp
   ·rw[wC (by omega)];by_cases R:u<1000
    ·rw[eP (by omega)];simp
    ·obtain rfl:u=1000:=(by omega);rw[wC (by omega),eP (by omega)];simp
def ye {n:Int}(h: -999<=n/\n<=1000):(aN n).length<=4:=by
 have:=xW h;unfold aN;rw[Sx,Lib.repeatL_length];simp;omega
def xX {c:Nat}(h:c<10)(D:Nat)(r:List UInt8)(J:D<1000):Lib.parseUint10 D (bw c::r)=Lib.parseUint10 (D*10+c) r:=by
 simp only[Lib.parseUint10];rw[gw h,RI (by omega),RJ (by omega),show 48+c - 48=c by omega,RJ (by omega)]
def LF {n:Int}(h:0<=n/\n<=999):iP (aN n)=some n:=by
 obtain ⟨u,rfl⟩:∃u:Nat,n=u:=⟨n.toNat,by omega⟩;rw[pk (by omega)];unfold iP Lib.atoiAll;simp only;rw[gw (by omega),RJ (by omega)];unfold Lib.parseMag;rw[RJ (by simp),xX (by omega) _ _ (by omega),xX (by omega) _ _ (by omega),xX (by omega) _ _ (by omega)];simp only[Lib.parseUint10];rw[RJ (by omega),RJ (by omega),RJ (by omega)];simp only[Option.some.injEq];omega
def En {s:List UInt8}(D:s.length=3){v:Int}(h:iP s=some v): -99<=v/\v<=999:=by
 unfold iP at h;split at h
 ·rename_i u J;injection h with h;subst h;exact (Em D).2 _ J
 ·cases h
def iQ (s:List UInt8):Option Int:=match iP s with | some v=>if aN v=s then some v else none | none=>none
def LG {n:Int}(h:0<=n/\n<=999):iQ (aN n)=some n:=by unfold iQ;rw[LF h];simp
def LH {s:List UInt8}(J:s.length=3){v:Int}(h:iQ s=some v):aN v=s/\ -99<=v/\v<=999:=by
 unfold iQ at h;cases D:iP s with
 | none=>rw[D] at h;cases h
 | some u=>
  rw[D] at h;simp only at h;split at h
  ·injection h with h;subst h;exact ⟨‹_›,En J D⟩
  ·cases h
def dr:Nat->List UInt8->Option (List Int)
 | 0,_=>some []
 | k+1,s=>match iQ (s.take 3) with
  | none=>none
  | some v=>(dr k (s.drop 3)).map (v::·)
def tK:∀{k:Nat} {s:List UInt8} {l:List Int},dr k s=some l->l.length=k
 | 0,s,l,h=>by simp[dr] at h;subst h;rfl
 | k+1,s,l,h=>by
  simp only[dr] at h;split at h
  ·cases h
  ·obtain ⟨l',D,rfl⟩:=Rb.1 h;simp[tK D]
def Eo:∀{k:Nat} {s:List UInt8} {l:List Int},3*k<=s.length->dr k s=some l->s=l.flatMap aN++s.drop (3*k)/\∀v∈l, -99<=v/\v<=999
 | 0,s,l,_,h=>by simp[dr] at h;subst h;simp
 | k+1,s,l,Y,h=>by
  simp only[dr] at h;split at h
  ·cases h
  ·rename_i v X;obtain ⟨l',S,rfl⟩:=Rb.1 h;have V:(s.take 3).length=3:=(by simp;omega);obtain ⟨D,J⟩:=LH V X;obtain ⟨O,R⟩:=Eo (by simp;omega) S;refine ⟨?_,λx hx=>?_⟩
   ·rw[TY,D,Sr]
    conv=>lhs;rw[<-UT 3 s,O]
    rw[UV];rw[show 3*(k+1)=3+3*k by omega]
   ·rcases RR.1 hx with rfl | hx
    ·exact J
    ·exact R x hx
def tL:∀{l:List Int} {k:Nat} (t:List UInt8),l.length=k->(∀v∈l,0<=v/\v<=999)->dr k (l.flatMap aN++t)=some l
 | [],k,t,D,_=>by subst D;rfl
 | v::l,k,t,D,h=>by
  obtain ⟨k,rfl⟩:∃j,k=j+1:=⟨l.length,by simpa using D.symm⟩;have J:=h v (by simp);have O:=wg J;simp only[dr,TY,Sr];rw[SY (by omega),T4 (by omega),LG J,UB (by omega),T5 (by omega),SK];simp only;rw[tL t (by simpa using D) λx hx=>h x (by simp[hx])]
  rfl
def xY (k:Nat):∀(j:Nat) (s:List UInt8),dr (j+k) s=(dr j s).bind λl=>(dr k (s.drop (3*j))).map (l++·)
 | 0,s=>by simp[dr]
 | j+1,s=>by
  rw[show j+1+k=(j+k)+1 by omega];simp only[dr];cases iQ (s.take 3) with
  | none=>rfl
  | some v=>
   simp only;rw[xY k j];cases dr j (s.drop 3) with
   | none=>rfl
   | some l=>
    simp only[Td,Option.map_some,UV,Option.map_map];rw[show 3+3*j=3*(j+1) by omega]
    rfl
def x9 {j:Nat}{s:List UInt8}{l:List Int}(h:dr j s=some l):dr (j+1) s=(iQ ((s.drop (3*j)).take 3)).map λv=>l++ [v]:=by
 rw[xY,h];simp only[Td,dr];cases iQ ((s.drop (3*j)).take 3) <;> rfl
def Ep {j k:Nat}{s:List UInt8}(h:dr j s=none):dr (j+k) s=none:=by rw[xY,h];rfl
end Go.Proofs.YthdjckbjjfiopabGreatDoor
namespace Go.Proofs.YthdjckbjjfiopabGreatDoor
open Go.Sl Go.Proofs
def gB (B:bV)(q:Int):Bk:=(B q).getD ([],0)
def lY (id:Int)(x:Bk):ChangeM:=⟨98::aN id,aN x.2++x.1,false⟩
def ic (n:Nd):ab:=aN n.refs++(kd n).flatMap aN
def lZ (id:Int)(n:Nd):ChangeM:=⟨110::aN id,ic n,false⟩
def de (p:Pt):ChangeM:=⟨112::aN p.id,aN p.disk++aN p.size++aN p.root,false⟩
def ga (n:Int):ChangeM:=⟨[120],aN n,false⟩
def wQ (m:Nat)(B:bV):List ChangeM:=(aj m B).map λq=>lY q (gB B q)
def bQ (m:Nat)(N:aB):List ChangeM:=(aj m N).map λq=>lZ q (gN N q)
def yf (S:SI)(L:List Pt)(n:Int):List ChangeM:=wQ 40 S.B++bQ 24 S.N++L.map de++ [ga n]
structure Sm (S:SI) (L:List Pt) (n:Int):Prop where
 ok:aH 999 S
 dat:∀q x,S.B q=some x->x.1.length<=6
 kid:∀q m,S.N q=some m->∀k∈kd m,0<=k/\k<=999
 pts:∀p∈L,(0<=p.id/\p.id<=999)/\(0<=p.disk/\p.disk<=999)/\(0<=p.size/\p.size<=999)/\(0<=p.root/\p.root<=999)
 len:L.length<=6
 n1:0<=n/\n<=1000
def tM (S:SI)(L:List Pt)(n:Int):(yf S L n).length=(aj 40 S.B).length+(aj 24 S.N).length+L.length+1:=by
 simp[yf,wQ,bQ];omega
def nf {S:SI}{L:List Pt}{n:Int}(h:L.length<=6):(yf S L n).length<=71:=by
 rw[tM];have:=wh 40 S.B;have:=wh 24 S.N;omega
structure PS where
 B:bV
 N:aB
 L:List Pt
 n:Int
def ps0:PS:=⟨λ_=>none,λ_=>none,[],0⟩
def bR (k:Nat)(s:ab):Option (List Int):=if s.length<3*k then none else dr k s
def Er (c:ChangeM):Prop:=c.key=[120]
instance (c:ChangeM):Decidable (Er c):=by unfold Er;infer_instance
def xF (st:PS)(c:ChangeM):Option PS:=if c.val=[49,48,48,48] then some {st with n:=1000} else match bR 1 c.val with
 | some [v]=>if c.val.length=3 then some {st with n:=v} else none
 | _=>none
def bF (st:PS)(id:Int)(c:ChangeM):Option PS:=match bR 1 c.val with
 | some [r]=>if 0<r/\3<c.val.length/\c.val.length<=9 then some {st with B:=qy st.B id (some (c.val.drop 3,r))} else none
 | _=>none
def nF (st:PS)(id:Int)(c:ChangeM):Option PS:=match bR 5 c.val with
 | some [r,k0,k1,k2,k3]=>if 0<r/\c.val.length=15 then some {st with N:=qy st.N id (some ⟨k0,k1,k2,k3,r⟩)} else none
 | _=>none
def pF (st:PS)(id:Int)(c:ChangeM):Option PS:=match bR 3 c.val with
 | some [d,s,r]=>if c.val.length=9/\0<d/\0<s/\s<=16 then some {st with L:=st.L++ [⟨id,d,s,r⟩]} else none
 | _=>none
def ie (st:PS)(id:Int)(c:ChangeM):Option PS:=if c.key.head? =some 98 then bF st id c else if c.key.head? =some 110 then nF st id c else if c.key.head? =some 112 then pF st id c else none
def cq (st:PS)(c:ChangeM):Option PS:=if c.key=[120] then xF st c else if c.key.length≠4\/c.gone=true then none else match bR 1 (c.key.drop 1) with
 | some [id]=>if id<1 then none else ie st id c
 | _=>none
def ki (pv:Option ab)(c:ChangeM):Bool:=match pv with
 | none=>false
 | some p=>Op.bytesLess c.key p || decide (c.key=p)
def cX:Option ab->PS->List ChangeM->Option PS
 | _,st,[]=>some st
 | pv,st,c::l=>if ki pv c=true\/c.gone=true then none else match cq st c with
  | none=>none
  | some st'=>cX (some c.key) st' l
def bk (L:List Pt)(q:Int):Prop:=q≠0/\∃p∈L,p.root=q
def ig (N:aB)(L:List Pt)(q:Int):Prop:=q≠0/\∃r m,bk L r/\N r=some m/\q∈kd m
instance (L:List Pt)(q:Int):Decidable (bk L q):=by unfold bk;infer_instance
structure KindsP (N:aB) (L:List Pt):Prop where
 r:∀q,bk L q->(N q).isSome=true
 l:∀q,ig N L q->(N q).isSome=true
 dj:∀q,bk L q->¬ig N L q
 all:∀q,(N q).isSome=true->bk L q\/ig N L q
def iR (N:aB)(L:List Pt):aB:=λq=>if bk L q then N q else none
def fH (N:aB)(L:List Pt):aB:=λq=>if bk L q then none else N q
def cN (N:aB)(L:List Pt)(q:Int):Int:=aL (L.map (·.root)) q+aF (iR N L) q
structure CountP (B:bV) (N:aB) (L:List Pt):Prop where
 nz:∀q m,N q=some m->¬dc m
 n:∀q m,N q=some m->cN N L q=m.refs
 b:∀q x,B q=some x->aF (fH N L) q=x.2
 all:∀q,q≠0->aF (fH N L) q≠0->(B q).isSome=true
structure WholeP (st:PS):Prop where
 len:st.L.length<=6
 n1:1<=st.n
 last:∀p,st.L.getLast? =some p->p.id<st.n
 sN:bh 24 st.N
 sB:bh 40 st.B
 kinds:KindsP st.N st.L
 counted:CountP st.B st.N st.L
 within:fy ⟨st.B,st.N⟩ st.L
structure Pok (st:PS):Prop where
 sB:bh 999 st.B
 sN:bh 999 st.N
 b:∀q x,st.B q=some x->(0<x.2/\x.2<=999)/\x.1≠ []/\x.1.length<=6
 n:∀q m,st.N q=some m->(0<m.refs/\m.refs<=999)/\∀k∈kd m, -99<=k/\k<=999
 p:∀p∈st.L,(1<=p.id/\p.id<=999)/\(0<p.disk/\p.disk<=999)/\(0<p.size/\p.size<=16)/\(-99<=p.root/\p.root<=999)
 n1:st.n<=1000/\ -99<=st.n
def pm:Pok ps0:=⟨n4 _,n4 _,(λq x h=>by cases h),(λq x h=>by cases h),(λp h=>by simp[ps0] at h),by simp[ps0]⟩
def iT {k:Nat}{s:ab}{l:List Int}(h:bR k s=some l):l.length=k/\3*k<=s.length:=by
 unfold bR at h;split at h
 ·cases h
 ·exact ⟨tK h,by omega⟩
def wW {k:Nat}{s:ab}{l:List Int}(h:bR k s=some l):s=l.flatMap aN++s.drop (3*k)/\∀v∈l, -99<=v/\v<=999:=by
 have D:=(iT h).2;unfold bR at h;rw[RJ (by omega)] at h;exact Eo D h
def l6 {l:List Int}(h:l.length=1):∃a,l=[a]:=by
 match l,h with
 | [a],_=>exact ⟨a,rfl⟩
def y0 {l:List Int}(h:l.length=3):∃a b c,l=[a,b,c]:=by
 match l,h with
 | [a,b,c],_=>exact ⟨a,b,c,rfl⟩
def y4 {l:List Int}(h:l.length=5):∃a b c d e,l=[a,b,c,d,e]:=by
 match l,h with
 | [a,b,c,d,e],_=>exact ⟨a,b,c,d,e,rfl⟩
def Es {ρ:Type}{B:Int->Option ρ}{P:ρ->Prop}(h:∀q x,B q=some x->P x){id:Int}{y:ρ}(D:P y):∀q x,qy B id (some y) q=some x->P x:=λq x e=>by
 unfold qy at e;split at e
 ·injection e with e;subst e;exact D
 ·exact h q x e
def LI {st R:PS}{c:ChangeM}(h:Pok st)(e:cq st c=some R):Pok R:=by
 unfold cq at e;split at e
 ·unfold xF at e;split at e
  ·injection e with e;subst e;exact ⟨h.sB,h.sN,h.b,h.n,h.p,by simp⟩
  ·split at e
   ·rename_i v D;split at e
    ·injection e with e;subst e;have:=(wW D).2 v (by simp);exact ⟨h.sB,h.sN,h.b,h.n,h.p,by simp only;omega⟩
    ·cases e
   ·cases e
 ·split at e
  ·cases e
  ·split at e
   ·rename_i id S;have hr:=(wW S).2 id (by simp);split at e
    ·cases e
    ·have J:1<=id/\id<=((999:Nat):Int):=(by omega);unfold ie at e;split at e
     ·unfold bF at e;split at e
      ·rename_i r D;have:=(wW D).2 r (by simp);split at e
       ·injection e with e;subst e;exact ⟨iB h.sB λ_=>J,h.sN,Es (P:=λx:Bk=>(0<x.2/\x.2<=999)/\x.1≠ []/\x.1.length<=6) h.b ⟨by simp only;omega,by simp only;intro X;have:=Rd List.length X;simp at this;omega,by simp;omega⟩,h.n,h.p,h.n1⟩
       ·cases e
      ·cases e
     ·split at e
      ·unfold nF at e;split at e
       ·rename_i r k0 k1 k2 k3 D;have D:=(wW D).2;split at e
        ·injection e with e;subst e;refine ⟨h.sB,iB h.sN λ_=>J,h.b,Es (P:=λm:Nd=>(0<m.refs/\m.refs<=999)/\∀k∈kd m, -99<=k/\k<=999) h.n ⟨?_,?_⟩,h.p,h.n1⟩
         ·have:=D r (by simp);simp only;omega
         ·intro k V;exact D k (by simp[kd] at V ⊢;rcases V with h | h | h | h <;> simp[h])
        ·cases e
       ·cases e
      ·split at e
       ·unfold pF at e;split at e
        ·rename_i d s r D;have D:=(wW D).2;split at e
         ·injection e with e;subst e;refine ⟨h.sB,h.sN,h.b,h.n,λp O=>?_,h.n1⟩;rcases Sc.1 O with O | O
          ·exact h.p p O
          ·rw[Ub] at O;subst O;have Y:=D d (by simp);have Z:=D s (by simp);have h3:=D r (by simp);simp only;omega
         ·cases e
        ·cases e
       ·cases e
   ·cases e
def tN {st:PS}{id:Int}{c:ChangeM}(h:c.key.head? =some 98):ie st id c=bF st id c:=by unfold ie;rw[RI h]
def tO {st:PS}{id:Int}{c:ChangeM}(h:c.key.head? =some 110):ie st id c=nF st id c:=by unfold ie;rw[RJ (by rw[h];decide),RI h]
def tP {st:PS}{id:Int}{c:ChangeM}(h:c.key.head? =some 112):ie st id c=pF st id c:=by unfold ie;rw[RJ (by rw[h];decide),RJ (by rw[h];decide),RI h]
def pn {n:Nd}:∀{i:Nat},i<4->ak n i∈kd n
 | 0,_=>by simp[kd,ak]
 | 1,_=>by simp[kd,ak]
 | 2,_=>by simp[kd,ak]
 | 3,_=>by simp[kd,ak]
 | i+4,h=>absurd h (by omega)
end Go.Proofs.YthdjckbjjfiopabGreatDoor