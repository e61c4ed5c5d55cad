/- Several texts in one: walks and rules used by them. No condition. -/
import Derived.Test.YthdjckbjjfiopabGreatDoorCartB
import Derived.Test.YthdjckbjjfiopabGreatDoorCartE
import Derived.Test.YthdjckbjjfiopabGreatDoorShelf
import Derived.Test.YthdjckbjjfiopabGreatDoorCartA
import Derived.Test.YthdjckbjjfiopabGreatDoorCartD
import Derived.Test.YthdjckbjjfiopabGreatDoorCartC
set_option linter.unusedSimpArgs false
set_option linter.unusedVariables false
set_option synthInstance.maxSize 9999
set_option synthInstance.maxHeartbeats 0
set_option linter.defProp false
set_option maxHeartbeats 800000
namespace Go.Proofs.YthdjckbjjfiopabGreatDoor
open Go.Sl Go.Proofs Go.Sort
def qU {w0:World}{L:List ag}:∀(l:List Obj) {w:World},Sat w0 w L->Sat w0 {w with heap:=w.heap++l.toArray} L
 | [],w,h=>by simpa using h
 | o::l,w,h=>by
  have:=qU l (h.alloc o).tail;have e:w.heap++(o::l).toArray=w.heap.push o++l.toArray:=(by apply Array.ext';simp);rw[e];exact this
def EL (J:List Int)(cs:Array Value)(k:Nat)(h:k<J.length)(O:J.length<=cs.size):(putCells (Value.int .i64) 0 J.toArray cs)[k]? =some (I J[k]):=by
 have:k<cs.size:=(by omega);simp[putCells,this,h,I]
def ki (J:List Int)(s:Option Addr)(n cap:Nat)(hn:n=J.length)(S:J.length<4611686018427387904)(F:List ag):
  Ct Tryz.prog 208 [sl s n cap] (bi 3 1 s cap (bz J)::F) (R1 (.tuple #[]) (bi 3 1 s cap (bz (J.mergeSort λx y=>decide (x<=y)))::F)):=λw0 w hS=>by
 subst hn;rcases dz hS with ⟨rfl,hr,rfl,R⟩ | ⟨b,cs,rfl,h1,Z,h3,h4,R⟩
 ·have hz:J=[]:=(by simpa [bz] using hr);subst hz;refine (Tryz.slices_Sort_int_none none 0 w).mono ?_;rintro e w' ⟨rfl,rfl⟩;exact ⟨_,hS,rfl,by simp[List.mergeSort]⟩
 ·have V:=R.at_;have X:J.length<=cs.size:=(by simp[bz] at Z;omega);have hH:Holds (Value.int .i64) w b 0 J.toArray:=λj hj=>by
   have O:j<J.length:=(by simpa using hj);have hc:=h4 j [I J[j]] (by simp[bz,O]) 0 (I J[j]) rfl;have:=iH V hc;refine ⟨?_,by simp[World.frozen?,V]⟩;simpa [O,I] using this
  refine (Tryz.slices_Sort_int b 0 cap J w hH (Yk.1 V).1 S).mono ?_;rintro e w' ⟨rfl,m,os,rfl⟩;have hml:(J.mergeSort λx y=>decide (x<=y)).length=J.length:=(by simp);have e1:putRow (Value.int .i64) (Sort.ahead w m) b 0 (J.mergeSort λx y=>decide (x<=y)).toArray={(Sort.ahead w m) with heap:=(Sort.ahead w m).heap.setIfInBounds b (.cells (putCells (Value.int .i64) 0 (J.mergeSort λx y=>decide (x<=y)).toArray cs) 3 (0,0))}:=by
   unfold putRow mapBlock;congr 1;apply YY;intro i;rw[ZG,kaC];have S:=(Yk.1 V).1;show (if b=i then _ else _)=_;by_cases hk:b=i
   ·subst hk;have he:(Sort.ahead w m).heap[b]? =some (.cells cs 3 (0,0)):=V;rw[YB rfl,YB rfl,he,YB (by exact S)]
    rfl
   ·rw[YC hk,YC hk]
  rw[e1];have hS2:=(R.drew (w.drawn+m)).set (w':={(Sort.ahead w m) with heap:=(Sort.ahead w m).heap.setIfInBounds b (.cells (putCells (Value.int .i64) 0 (J.mergeSort λx y=>decide (x<=y)).toArray cs) 3 (0,0))}) rfl;have hS3:=qU os.toList hS2;refine ⟨_,fy (cap:=cap) (sz:=1) (rows:=bz (J.mergeSort λx y=>decide (x<=y))) hS3 (by simp[putCells,h1]) (by simp[bz] at Z ⊢;exact Z) (by simp[bz]) ?_,rfl,rfl⟩;intro j row hj f v hf;have O:j<(J.mergeSort λx y=>decide (x<=y)).length:=by
   have:=(Yh.1 hj).1;simpa [bz] using this
  have Y:row=[I (J.mergeSort λx y=>decide (x<=y))[j]]:=by
   simp only[bz,Zw,Zu O,Option.map_some] at hj;injection hj with hj;exact hj.symm
  subst Y;have hf0:f=0:=by
   have:=(Yh.1 hf).1;simp at this;exact this
  subst hf0;simp at hf;simp only[bG,YR,Nat.mul_one,Zm];rw[EL _ _ _ O (by rw[hml];exact X),<-hf]
end Go.Proofs.YthdjckbjjfiopabGreatDoor
namespace Go.Proofs.YthdjckbjjfiopabGreatDoor
open _root_.Go.Proofs.Tryz
open Go.Sl Go.Proofs
abbrev Bk:=List UInt8×Int
abbrev pN:=Int->Option Bk
abbrev cL (x:Bk):Value:= .agg [aC x.1,I x.2].toArray
def UU (b:Nat)(B:pN)(r:Nat):List ag:=[pt b (.cells #[.map (some r)] 234 (0,0)),mp r (tb cL 40 B)]
def ml (b:Nat)(B:pN):ag:=hx (UU b B)
def Tt (B:pN):Prop:=l9 40 B/\∀q x,B q=some x->0<x.2/\x.2<9223372036854775807
def ky (B:pN)(d:ak):Int×Int:=if 6<d.length\/d=[] then (0,3) else match d9 40 B with | none=>(0,8) | some k=>(k,0)
def lL (B:pN)(d:ak):pN:=if 6<d.length\/d=[] then B else match d9 40 B with | none=>B | some k=>aB B k (some (d,1))
def yL (B:pN)(q:Int):ak×Int:=match B q with | none=>([],5) | some x=>(x.1,0)
def rg (B:pN)(q:Int):Int:=if (B q).isSome then 0 else 5
def fo (B:pN)(q n:Int):pN:=match B q with | none=>B | some x=>aB B q (if x.2+n=0 then none else some (x.1,x.2+n))
def vd {ρ:Type}(B:Int->Option ρ)(k:Int)(x y:Option ρ):aB (aB B k x) k y=aB B k y:=funext λq=>by grind[aB]
section
variable {c:Cx}{E:dr}{L:List ag}{K:List KI}
def kj {F:List ag}(b:Nat)(B:pN)[R:Rem L (ml b B) F](k:∀r,G c K E (pt b (.cells #[.map (some r)] 234 (0,0))::mp r (tb cL 40 B)::F)):G c K E L:=jl (ml b B) rfl λz=>k z
def dP {F:List ag}{M:MM}(r b:Nat)(B:pN)(h:M.Perm (tb cL 40 B))[S:Split L [pt b (.cells #[.map (some r)] 234 (0,0)),mp r M] F](k:G c K E (ml b B::F)):G c K E L:=λa w R V=>by
 have h1:Sat c.w0 w (pt b (.cells #[.map (some r)] 234 (0,0))::mp r M::F):=S.sat V;have Y:Split (mp r M::F) [] (mp r M::F):=inferInstance;refine k a w R (Sat.hx_mk (A:=UU b B) r ?_);have r2:Rem (pt b (.cells #[.map (some r)] 234 (0,0))::mp r M::F) (mp r M) (pt b (.cells #[.map (some r)] 234 (0,0))::F):=inferInstance;have J:=(r2.sat h1).ex;obtain ⟨⟨es,clk⟩,J⟩:=J;have O:Sat c.w0 w (mp r (tb cL 40 B)::pt b (.cells #[.map (some r)] 234 (0,0))::F):=Sat.ex_mk (A:=λp:Array MapEntry×Nat=>λm=>MOk p.1 p.2 (tb cL 40 B)/\m r=some (.map p.1 p.2,false)) (es,clk) (J.weak λm hm=>⟨hm.1.perm_ h,hm.2⟩);have X:Rem (mp r (tb cL 40 B)::pt b (.cells #[.map (some r)] 234 (0,0))::F) (pt b (.cells #[.map (some r)] 234 (0,0))) (mp r (tb cL 40 B)::F):=inferInstance;exact X.sat O
end
def FR {B:pN}(h:l9 40 B)(q:Int):lk (tb cL 40 B) q=(B q).map cL:=Gj cL h q
def EM {J rest:MM}{k:Int}{v:Value}(h:lk J k=none):(l6 J k v++rest).Perm (J++(k,v)::rest):=by
 simp_all[l6]
def yM {J rest M:MM}{k:Int}{v:Value}(hp:(J++(k,v)::rest).Perm M)(hn:(M.map (·.1)).Nodup):lk J k=none:=by
 grind[lk_none]
def wl (F:List ag):Ct Tryz.prog 191 [] (F) (λv L'=>∃b,v=ptr b 0/\L'=ml b (λ_=>none)::F):=by
 refine Ct.of func191 rR 4 ntmps191 (by simp) λw0=>?_;refine gS (gQ (gS (gI (fw) ?_)));rintro _ _ ⟨b1,rfl,rfl⟩;refine gV (aR (KZ _ rR)) (gI (di #[.map (some b1)]) ?_);rintro _ _ ⟨J,rfl,rfl⟩;refine gQ ?_;refine dP b1 J (λ_=>none) (by rw[ma]) ?_;exact λa w O R=>wp_ret (bX (aW (vs:=[ptr J 0]) rfl O R ⟨J,rfl,rfl⟩))
def ve (b:Nat)(B:pN)(id:Int)(R:Tt B)(F:List ag):Ct Tryz.prog 173 [ptr b 0,I id] (ml b B::F) (R1 (.tuple #[aC (yL B id).1,fv 117 (yL B id).2]) (ml b B::F)):=by
 refine Ct.of func173 rR 22 ntmps173 (by simp) λw0=>?_;refine kj b (B) ?_;intro r;refine gS (gA (gQ (gS (gM (gV aa (gF 0 Ws rR Wm (gV (az Wt) (gM ?_))))))));rcases hB0:B id with _ | ⟨d,n⟩
 ·have J:(lk (tb cL 40 B) id).getD (.agg #[aC [],I 0])= .agg #[aC [],I 0]:=(by rw[FR R.1,hB0];rfl);have O:(lk (tb cL 40 B) id).isSome=false:=(by rw[FR R.1,hB0];rfl);refine gV (d8 (M:=tb cL 40 B) (q:=id) We Vf Wk J O) (gM (gV aH (gV aH (gI (aO #[aC [],I 0] Wk) ?_))));rintro _ _ ⟨S,rfl,rfl⟩;refine gU (ax _ VV (by decide)) (gQ (ac (gS (gM (gV cE (ab ?_))))));refine eH ?_;refine gS (gV (aZ Vn) (gA (gQ ?_)));refine dP r b (B) (.refl _) ?_;exact ao rfl rfl (by unfold yL;rw[hB0];rfl)
 ·have J:(lk (tb cL 40 B) id).getD (.agg #[aC [],I 0])= .agg #[aC d,I n]:=(by rw[FR R.1,hB0];rfl);have O:(lk (tb cL 40 B) id).isSome=true:=(by rw[FR R.1,hB0];rfl);have hn:=R.2 id _ hB0;have hq:=R.1 id _ hB0;simp only at hn;refine gV (d8 (M:=tb cL 40 B) (q:=id) We Vf Wk J O) (gM (gV aH (gV aH (gI (aO #[aC [],I 0] Wk) ?_))));rintro _ _ ⟨S,rfl,rfl⟩;refine gU (ax _ VV (by decide)) (gQ (ac (gS (gM (gV cE (ab ?_))))));refine dW ?_;refine ai (gS (gF 0 Wf rR Vh (gL (aC d) Vj (gA (gQ ?_)))));refine dP r b (B) (.refl _) ?_;exact ao rfl rfl (by unfold yL;rw[hB0];rfl)
def vf (b:Nat)(B:pN)(id:Int)(R:Tt B)(F:List ag):Ct Tryz.prog 265 [ptr b 0,I id] (ml b B::F) (R1 (fv 117 (rg B id)) (ml b (fo B id 1)::F)):=by
 refine Ct.of func265 rR 29 ntmps265 (by simp) λw0=>?_;refine kj b (B) ?_;intro r;refine gS (gQ (gS (gM (gV aa (gF 0 Ws rR Wm (gV (az Wt) (gM ?_)))))));rcases hB0:B id with _ | ⟨d,n⟩
 ·have J:(lk (tb cL 40 B) id).getD (.agg #[aC [],I 0])= .agg #[aC [],I 0]:=(by rw[FR R.1,hB0];rfl);have O:(lk (tb cL 40 B) id).isSome=false:=(by rw[FR R.1,hB0];rfl);refine gV (d8 (M:=tb cL 40 B) (q:=id) We Vf Wk J O) (gM (gV aH (gV aH (gI (aO #[aC [],I 0] Wk) ?_))));rintro _ _ ⟨S,rfl,rfl⟩;refine gU (ax _ VV (by decide)) (gQ (ac (gS (gM (gV cE (ab ?_))))));refine eH ?_;refine gS (gV (aZ Vn) (gQ ?_));refine dP r b (B) (.refl _) ?_;have e:ml b B=ml b (fo B id 1):=(by unfold fo;rw[hB0]);rw[e];exact ao rfl rfl (by unfold rg;rw[hB0];rfl)
 ·have J:(lk (tb cL 40 B) id).getD (.agg #[aC [],I 0])= .agg #[aC d,I n]:=(by rw[FR R.1,hB0];rfl);have O:(lk (tb cL 40 B) id).isSome=true:=(by rw[FR R.1,hB0];rfl);have hn:=R.2 id _ hB0;have hq:=R.1 id _ hB0;simp only at hn;refine gV (d8 (M:=tb cL 40 B) (q:=id) We Vf Wk J O) (gM (gV aH (gV aH (gI (aO #[aC [],I 0] Wk) ?_))));rintro _ _ ⟨S,rfl,rfl⟩;refine gU (ax #[aC d,I n] VV (by decide)) (gQ (ac (gS (gM (gV cE (ab ?_))))));refine dW ?_;refine ai (gS (gF 1 Wf rR Vb (gV (az Vc) (gP (gF 1 Wf rR Vb (gU (aK #[aC d,I (n+1)] Vb (by simp)) (ab (ac ?_))))))));refine cO (Lf:=[pt b (.cells #[.map (some r)] 234 (0,0)),pt S (.cells #[aC d,I (n+1)] 183 (0,0))]) jA ?_;refine dM rR (dV rR aa (dF rR 0 Ws rR Wm (dV rR (az Wt) (dM rR (dV rR (aU (vs:=[aC d,I (n+1)]) XR VV bp) (rc rR (cn We Vf) ?_))))));rintro _ _ rfl;refine aP ?_;refine gS (gQ ?_);refine dP r b (aB B id (some (d,n+1))) (nq cL (x:=(d,n+1)) hq) ?_;have e:fo B id 1=aB B id (some (d,n+1)):=(by unfold fo;rw[hB0];simp only;rw[YC (by omega)]);rw[<-e];exact ao rfl rfl (by unfold rg;rw[hB0];rfl)
def mm (b:Nat)(B:pN)(id:Int)(R:Tt B)(F:List ag):Ct Tryz.prog 231 [ptr b 0,I id] (ml b B::F) (R1 (fv 117 (rg B id)) (ml b (fo B id (-1))::F)):=by
 refine Ct.of func231 rR 37 ntmps231 (by simp) λw0=>?_;refine kj b (B) ?_;intro r;refine gS (gQ (gS (gM (gV aa (gF 0 Ws rR Wm (gV (az Wt) (gM ?_)))))));rcases hB0:B id with _ | ⟨d,n⟩
 ·have J:(lk (tb cL 40 B) id).getD (.agg #[aC [],I 0])= .agg #[aC [],I 0]:=(by rw[FR R.1,hB0];rfl);have O:(lk (tb cL 40 B) id).isSome=false:=(by rw[FR R.1,hB0];rfl);refine gV (d8 (M:=tb cL 40 B) (q:=id) We Vf Wk J O) (gM (gV aH (gV aH (gI (aO #[aC [],I 0] Wk) ?_))));rintro _ _ ⟨V,rfl,rfl⟩;refine gU (ax _ VV (by decide)) (gQ (ac (gS (gM (gV cE (ab ?_))))));refine eH ?_;refine gS (gV (aZ Vn) (gQ ?_));refine dP r b (B) (.refl _) ?_;have e:ml b B=ml b (fo B id (-1)):=(by unfold fo;rw[hB0]);rw[e];exact ao rfl rfl (by unfold rg;rw[hB0];rfl)
 ·have J:(lk (tb cL 40 B) id).getD (.agg #[aC [],I 0])= .agg #[aC d,I n]:=(by rw[FR R.1,hB0];rfl);have O:(lk (tb cL 40 B) id).isSome=true:=(by rw[FR R.1,hB0];rfl);have hn:=R.2 id _ hB0;have hq:=R.1 id _ hB0;simp only at hn;refine gV (d8 (M:=tb cL 40 B) (q:=id) We Vf Wk J O) (gM (gV aH (gV aH (gI (aO #[aC [],I 0] Wk) ?_))));rintro _ _ ⟨V,rfl,rfl⟩;refine gU (ax #[aC d,I n] VV (by decide)) (gQ (ac (gS (gM (gV cE (ab ?_))))));refine dW ?_;refine ai (gS (gF 1 Wf rR Vb (gV (az Vc) (gV (fe (da (by omega))) (gF 1 Wf rR Vb (gU (aK #[aC d,I (n - 1)] Vb (by simp)) (ab (ac ?_))))))));refine cO (Lf:=[pt b (.cells #[.map (some r)] 234 (0,0)),pt V (.cells #[aC d,I (n - 1)] 183 (0,0))]) jA ?_;refine dM rR (dV rR aa (dF rR 0 Ws rR Wm (dV rR (az Wt) (dM rR (dV rR (aU (vs:=[aC d,I (n - 1)]) XR VV bp) (rc rR (cn We Vf) ?_))))));rintro _ _ rfl;refine aP ?_;refine ac (gS (gF 1 Wf rR Vb (gV (az Vc) (gV bT (ab ?_)))));apply ah<;>intro S
  ·simp at S;refine pp r (tb cL 40 (aB B id (some (d,n - 1)))) (nq cL (x:=(d,n - 1)) hq) ?_;refine am (gM (gV aa (gF 0 Ws rR Wm (gV (az Wt) (gM (ir (iv We Vf) ?_))))));rintro _ _ ⟨rfl,rfl⟩;refine ab (gS (gQ ?_));refine pp r (tb cL 40 (aB B id none)) (by rw[<-vd B id (some (d,n - 1)) none];exact Rd cL) ?_;refine dP r b (aB B id none) (.refl _) ?_;have e:fo B id (-1)=aB B id none:=(by unfold fo;rw[hB0];simp only;rw[YB (by omega)]);rw[<-e];exact ao rfl rfl (by unfold rg;rw[hB0];rfl)
  ·simp at S;refine ai (gS (gQ ?_));refine dP r b (aB B id (some (d,n - 1))) (nq cL (x:=(d,n - 1)) hq) ?_;have e:fo B id (-1)=aB B id (some (d,n - 1)):=(by unfold fo;rw[hB0];simp only;rw[YC (by omega)];rfl);rw[<-e];exact ao rfl rfl (by unfold rg;rw[hB0];rfl)
def tC (b:Nat)(B:pN)(F:List ag):Ct Tryz.prog 209 [ptr b 0] (ml b B::F) (λv L'=>∃q,v=ptr q 0/\L'=ml q (B)::ml b B::F):=by
 refine Ct.of func209 rR 24 ntmps209 (by simp) λw0=>?_;refine kj b (B) ?_;intro r;refine gS (gQ (gS (gI (uA call191 wl) ?_)));rintro _ _ ⟨q,rfl,rfl⟩;refine gQ ?_;refine kj q (λ_=>none) ?_;intro r2;refine pp r2 [] (by rw[ma]) ?_;refine fj r ?_;intro es clk;refine ac (gS (gM (gV aa (gF 0 Ws rR Wm (gV (az Wt) (gI (ii We) ?_))))));rintro _ _ ⟨R,rfl,rfl⟩;refine ab (al ?_);refine aM (α:=MM×MM×Option (Int×Value)) (λz=>(z.2.1++z.1).Perm (tb cL 40 B)) (λ_=>U [(0,ptr b 0),(3,ptr q 0),(11,ptr R 0)]) (λz=>x9 R r es clk z.1 z.2.2::sH r es clk (tb cL 40 B)::pt b (.cells #[.map (some r)] 234 (0,0))::pt q (.cells #[.map (some r2)] 234 (0,0))::mp r2 z.2.1::F) (λz=>z.1.length) (tb cL 40 B,[],none) (.refl _) [0,3,11] rfl ?_;rintro ⟨rest,O,cur⟩ hp;simp only at hp;refine gS (gI j9 ?_);rintro _ _ (⟨hr,rfl,rfl⟩ | ⟨⟨k,v⟩,J,hq,rfl,rfl⟩)
 ·subst hr;have Z:O.Perm (tb cL 40 B):=(by simpa using hp);refine gV aH (ab (ac ?_));refine dW ?_;refine aF ?_;refine gS (gM (gQ ?_));refine dP r2 q (B) (Z) ?_;refine bQ r ?_;refine dP r b (B) (.refl _) ?_;refine iR (L2:=ml q B::ml b B::F) ?_;exact λa w X Y=>wp_ret (bX (aW (vs:=[ptr q 0]) rfl X Y ⟨q,rfl,rfl⟩))
 ·obtain ⟨x,hx,hv,hk⟩:=uU (hp.mem_iff.1 (kaD _ (hq.mem_iff.2 (Z2 ..))));simp only at hv hk hx;subst hv;have S:(O++(k,cL x)::J).Perm (tb cL 40 B):=(hq.append_left O).symm.trans hp;have hl:=yM S (nH cL 40 B);refine gV aH (ab (ac ?_));refine eH ?_;refine ai (al (gS (gV ij (gX (I k) (gX (cL x) (gI (aO #[aC [],I 0] Wk) ?_))))));rintro _ _ ⟨V,rfl,rfl⟩;refine gA (gU (ax (vs:=[aC x.1,I x.2]) #[aC x.1,I x.2] VV (by decide)) (ab ?_));refine cO (Lf:=[pt q (.cells #[.map (some r2)] 234 (0,0)),pt V (.cells #[aC x.1,I x.2] 183 (0,0))]) jA ?_;refine dM rR (dV rR aa (dF rR 0 Ws rR Wm (dV rR (az Wt) (dM rR (dV rR (aU (vs:=[aC x.1,I x.2]) XR VV bp) (rc rR (cn We Vf) ?_))))));rintro _ _ rfl;refine aP ?_;refine aG ?_;refine ap (J,l6 O k (cL x),some (k,cL x)) ((EM hl).trans S) (by have:=hq.length_eq;simp at this;simp;omega) [0,3,11] rfl
def px (b:Nat)(B:pN)(F:List ag):Ct Tryz.prog 137 [ptr b 0] (ml b B::F) (ww 3 1 (bZ 40 B).length (bz (bZ 40 B)) (ml b B::F)):=by
 refine Ct.of func137 rR 21 ntmps137 (by simp) λw0=>?_;refine kj b (B) ?_;intro r;refine fj r ?_;intro es clk;refine bH 3 1 (bz []) ?_;refine gS (gQ (gS (gQ (ac (gS (gM (gV aa (gF 0 Ws rR Wm (gV (az Wt) (gI (ii We) ?_))))))))));rintro _ _ ⟨X,rfl,rfl⟩;refine ab (al ?_);refine aM (α:=MM×List Int×Option (Int×Value)×Option Addr×Nat) (λz=>(z.2.1++z.1.map (·.1)).Perm (bZ 40 B)) (λz=>U [(0,ptr b 0),(9,ptr X 0),(3,sl z.2.2.2.1 z.2.1.length z.2.2.2.2)]) (λz=>x9 X r es clk z.1 z.2.2.1::sH r es clk (tb cL 40 B)::pt b (.cells #[.map (some r)] 234 (0,0))::bi 3 1 z.2.2.2.1 z.2.2.2.2 (bz z.2.1)::F) (λz=>z.1.length) (tb cL 40 B,[],none,none,0) (by rw[Zg,mW]) [0,9,3] rfl ?_;rintro ⟨rest,O,cur,s,c⟩ hp;simp only[] at hp ⊢;have Z:O.length<=40:=(by have h1:=hp.length_eq;have h2:=ea 40 B;simp at h1;omega);refine gS (gI j9 ?_);rintro _ _ (⟨hr,rfl,rfl⟩ | ⟨⟨k,v⟩,J,hq,rfl,rfl⟩)
 ·subst hr;simp only[Yx,kaE] at hp;refine gV aH (ab (ac ?_));refine dW ?_;refine aF ?_;refine gS (gM (gR (vB call208 (ki O s O.length c rR (by omega))) ?_));rw[tc hp];refine ab (gS (gM (gQ ?_)));refine bQ r ?_;refine dP r b (B) (.refl _) ?_;exact df rfl rfl rfl (by rw[hp.length_eq])
 ·have S:(O++k::J.map (·.1)).Perm (bZ 40 B):=by
   have h1:=((hq.map (·.1)).append_left O).symm.trans hp;simpa using h1
  refine gV aH (ab (ac ?_));refine eH ?_;refine ai (al (gS (gV ij (gX (I k) (gQ (am (gM (gM (gI (av [[I k]] Vi Vb VL (by simp)) ?_)))))))));rintro _ _ ⟨Y,rfl,rfl⟩;refine gI (bo Vi Vb VL Tryz.typeInfo3 (hn:=by exact bW _) (by simp) (by intro r hr;simp at hr;subst hr;rfl) ⟨by omega,by decide,by decide⟩) ?_;rintro _ _ ⟨V,R,rfl,rfl⟩;refine gQ (aG ?_);rw[show bz O++ [[I k]]=bz (O++ [k]) by simp[bz]];refine ap (J,O++ [k],some (k,v),V,R) (by simpa using S) (by have:=hq.length_eq;simp at this;simp;omega) [0,9,3] rfl (he:=by simp[U])
def vg (b:Nat)(B:pN)(d:ak)(Z:Tt B)(hd:d.length<=9223372036854775807)(F:List ag):Ct Tryz.prog 264 [ptr b 0,aC d] (ml b B::F) (R1 (.tuple #[I (ky B d).1,fv 117 (ky B d).2]) (ml b (lL B d)::F)):=by
 refine Ct.of func264 rR 40 ntmps264 (by simp) λw0=>?_;refine gS (gA (gQ (ac (gS (gM (gV (cW Vg) (gV aT (gM (gK aq (gK cj (gV cu (ab ?_))))))))))));apply ah<;>intro O
 ·simp at O;have J:6<d.length\/d=[]:=O.imp (λh=>by omega) id;refine gS (gV (aZ Vn) (gA (gQ ?_)));have S:ky B d=(0,3):=(by unfold ky;rw[YB J]);have V:lL B d=B:=(by unfold lL;rw[YB J]);rw[S,V];exact ao rfl rfl rfl
 ·simp at O;have J:¬(6<d.length\/d=[]):=λh=>h.elim (λh=>by omega) O.2;refine ai (ac (ac ?_));refine kj b (B) ?_;intro r;refine am (gM (gV aa (gF 0 Ws rR Wm (gL (.map (some r)) Wt (gV (lh We) (gV bT (ab ?_)))))));apply ah<;>intro R
  ·simp at R;rw[gw] at R;have Y:=full_iff.1 (show (bZ 40 B).length=40 by omega);refine gS (gV (aZ Vn) (gA (gQ ?_)));have S:ky B d=(0,8):=(by unfold ky;rw[YC J,Y]);have V:lL B d=B:=(by unfold lL;rw[YC J,Y]);rw[S,V];refine dP r b (B) (.refl _) ?_;exact ao rfl rfl rfl
  ·simp at R;rw[gw] at R;obtain ⟨m,hm⟩:=vZ (n:=40) (B:=B) (by omega);have hf:=iJ hm;refine ai (gS (gQ (ac (al ?_))));refine aM (α:=Nat) (λk=>1<=k/\k<=m) (λk=>U [(0,ptr b 0),(1,aC d),(6,I k)]) (λ_=>pt b (.cells #[.map (some r)] 234 (0,0))::mp r (tb cL 40 B)::F) (λk=>m - k) 1 ⟨by omega,by omega⟩ [0,1,6] rfl ?_;intro k h0;obtain ⟨e,n,hlk,hnk⟩:∃e n,(lk (tb cL 40 B) (k:Int)).getD (.agg #[aC [],I 0])= .agg [aC e,I n].toArray/\(0<n ↔ k<m):=by
    rcases hB0:B (k:Int) with _ | ⟨e,n⟩
    ·exact ⟨[],0,by rw[FR Z.1,hB0];rfl,by simp;exact (YL k m).elim (λh=>by have:=hf.2.2 k h0.1 h;rw[hB0] at this;cases this) id⟩
    ·exact ⟨e,n,by rw[FR Z.1,hB0];rfl,by
      have h1:=Z.2 k _ hB0;simp only at h1;have h2:k≠m:=λe=>(by rw[e,hf.2.1] at hB0;cases hB0);omega⟩
   refine ac (gS (gM (gV aa (gF 0 Ws rR Wm (gV (az Wt) (gM (gV (cI (v:= .agg [aC e,I n].toArray) We Vf Wk hlk) (gV (Hq (v:=I n) Wf rR Vc rR rR) (gV aT (ab ?_))))))))));apply ah<;>intro X
   ·simp at X;refine ai (al (am (gM (gP (gQ (aG ?_))))));exact ap (k+1) ⟨by omega,by omega⟩ (by omega) [0,1,6] rfl
   ·simp at X;obtain rfl:k=m:=(by omega);refine aF ?_;refine gS (gM (gV aa (gF 0 Ws rR Wm (gV (az Wt) (gM (gM (gV (aR (rU _ rR _ rR)) (ir (cn We Vf) ?_))))))));rintro _ _ rfl;refine ab (gS (gM (gA (gQ ?_))));have S:ky B d=((k:Int),0):=(by unfold ky;rw[YC J,hm]);have V:lL B d=aB B k (some (d,1)):=(by unfold lL;rw[YC J,hm]);rw[S,V];refine dP r b (aB B k (some (d,1))) (nq cL (x:=(d,1)) (by omega)) ?_;exact ao rfl rfl rfl
structure Nd where
 k0:Int
 k1:Int
 k2:Int
 k3:Int
 refs:Int
deriving DecidableEq
abbrev fU:=Int->Option Nd
structure SI where
 B:pN
 N:fU
abbrev km (n:Nd):List Value:=[I n.k0,I n.k1,I n.k2,I n.k3,I n.refs]
abbrev cl (n:Nd):Value:= .agg (km n).toArray
def kd (n:Nd):List Int:=[n.k0,n.k1,n.k2,n.k3]
abbrev fQ (n:Nd):List Value:=[I n.k0,I n.k1,I n.k2,I n.k3]
def bU (n:Nd)(i:Nat):Int:=match i with | 0=>n.k0 | 1=>n.k1 | 2=>n.k2 | _=>n.k3
def JY (n:Nd)(i:Nat)(x:Int):Nd:=match i with | 0=>{n with k0:=x} | 1=>{n with k1:=x} | 2=>{n with k2:=x} | _=>{n with k3:=x}
def yN:Nd:=⟨0,0,0,0,0⟩
def gN (N:fU)(q:Int):Nd:=(N q).getD yN
def rf (n:Nd)(r:Int):Nd:=⟨n.k0,n.k1,n.k2,n.k3,r⟩
def rB (N:fU)(q:Int):fU:=aB N q (some (rf (gN N q) ((gN N q).refs+1)))
def dg (leaf:Bool)(S:SI)(k:Int):SI:=if k=0 then S else if leaf=true then ⟨fo S.B k 1,S.N⟩ else ⟨S.B,rB S.N k⟩
def eO (S:SI)(k:Int):SI:=if k=0 then S else ⟨fo S.B k (-1),S.N⟩
def vh (f:SI->Int->SI)(S:SI)(q:Int):SI:=if q=0 then S else if 0<(gN S.N q).refs - 1 then ⟨S.B,aB S.N q (some (rf (gN S.N q) ((gN S.N q).refs - 1)))⟩ else (kd (gN S.N q)).foldl f ⟨S.B,aB S.N q none⟩
def k9:SI->Int->SI:=vh eO
def rh:SI->Int->SI:=vh k9
def fc (n:Nd):Prop:=n.k0=0/\n.k1=0/\n.k2=0/\n.k3=0
instance (n:Nd):Decidable (fc n):=by unfold fc;infer_instance
def be (S:SI)(n:Nd):Int×Int:=if fc n then (0,0) else match d9 24 S.N with | none=>(0,8) | some k=>(k,0)
def bf (leaf:Bool)(S:SI)(n:Nd):SI:=if fc n then S else match d9 24 S.N with | none=>S | some k=>(kd n).foldl (dg leaf) ⟨S.B,aB S.N k (some (rf n 1))⟩
def jn (S:SI)(root:Int)(at_:Nat):ak:=(yL S.B (bU (gN S.N (bU (gN S.N root) (at_ / 4))) (at_ % 4))).1
def eI (S:SI)(q:Int):SI:=if 0<q then ⟨S.B,rB S.N q⟩ else S
def ar (S:SI)(d:ak):Int×Int:=if d=[] then (0,0) else ky S.B d
def aj (S:SI)(d:ak):SI:=if d=[] then S else ⟨lL S.B d,S.N⟩
def br (S:SI)(root:Int)(at_:Nat)(b:Int):Nd:=JY (gN S.N (bU (gN S.N root) (at_ / 4))) (at_ % 4) b
def ef (S:SI)(root:Int)(at_:Nat)(leaf:Int):Nd:=JY (gN S.N root) (at_ / 4) leaf
def jY (S:SI)(b:Int):SI:=if 0<b then ⟨fo S.B b (-1),S.N⟩ else S
def dH (S:SI)(root:Int)(at_:Nat)(d:ak):Int×Int:=
 let b:=ar S d;let S1:=aj S d
 if b.2≠0 then (0,b.2) else
 let l:=be S1 (br S1 root at_ b.1);let S2:=bf true S1 (br S1 root at_ b.1)
 if l.2≠0 then (0,l.2) else
 let S3:=jY S2 b.1
 let o:=be S3 (ef S1 root at_ l.1)
 if o.2≠0 then (0,o.2) else (o.1,0)
def iW (S:SI)(root:Int)(at_:Nat)(d:ak):SI:=
 let b:=ar S d;let S1:=aj S d
 if b.2≠0 then S1 else
 let l:=be S1 (br S1 root at_ b.1);let S2:=bf true S1 (br S1 root at_ b.1)
 if l.2≠0 then S2 else
 let S3:=jY S2 b.1
 let o:=be S3 (ef S1 root at_ l.1);let S4:=bf false S3 (ef S1 root at_ l.1)
 if o.2≠0 then S4 else k9 S4 l.1
def gJ (m:Int)(S:SI):Prop:=l9 40 S.B/\(∀q x,S.B q=some x->0<x.2/\x.2<=m)/\l9 24 S.N/\∀q n,S.N q=some n->0<n.refs/\n.refs<=m
def tD {m:Int}{S:SI}(h:gJ m S)(hm:m<=1000000):Tt S.B:=⟨h.1,λq x e=>by have:=h.2.1 q x e;omega⟩
theorem mo {m m':Int}{S:SI}(h:gJ m S)(hm:m<=m'):gJ m' S:=⟨h.1,λq x e=>by have:=h.2.1 q x e;omega,h.2.2.1,λq n e=>by have:=h.2.2.2 q n e;omega⟩
def m9 {m:Int}{S:SI}(h:gJ m S)(h0:0<=m)(q:Int):0<=(gN S.N q).refs/\(gN S.N q).refs<=m:=by
 unfold gN;cases e:S.N q with
 | none=>simp[yN];exact h0
 | some n=>have:=h.2.2.2 q n e;simp;omega
def la {m:Int}{S:SI}(h:gJ m S){q:Int}{x:Option Nd}(hq:x.isSome=true->1<=q/\q<=24)(hx:∀n,x=some n->0<n.refs/\n.refs<=m):gJ m ⟨S.B,aB S.N q x⟩:=
 ⟨h.1,h.2.1,ka h.2.2.1 hq,λp n e=>by
  change aB S.N q x p=some n at e;unfold aB at e;split at e
  ·exact hx n e
  ·exact h.2.2.2 p n e⟩
theorem EN {m:Int}{S:SI}(h:gJ m S)(q:Int){n:Int}(hn:n=1\/n= -1):gJ (m+1) ⟨fo S.B q n,S.N⟩:=by
 refine ⟨?_,?_,h.2.2.1,λp x e=>by have:=h.2.2.2 p x e;omega⟩
 ·show l9 40 (fo S.B q n);unfold fo;cases e:S.B q with
  | none=>exact h.1
  | some x=>exact ka h.1 λ_=>h.1 q x e
 ·intro p x e;change fo S.B q n p=some x at e;unfold fo at e;cases J:S.B q with
  | none=>rw[J] at e;have:=h.2.1 p x e;omega
  | some y=>
   rw[J] at e;unfold aB at e;simp only at e;split at e
   ·split at e
    ·cases e
    ·rename_i h1 O;injection e with e;subst e;have:=h.2.1 q y J;simp only;omega
   ·have:=h.2.1 p x e;omega
theorem EO {m:Int}{S:SI}(h:gJ m S)(q:Int):gJ m ⟨fo S.B q (-1),S.N⟩:=by
 have h1:=EN h q (n:= -1) (.inr rfl);refine ⟨h1.1,λp x e=>?_,h.2.2.1,h.2.2.2⟩;have O:=h1.2.1 p x e;refine ⟨O.1,?_⟩;change fo S.B q (-1) p=some x at e;unfold fo at e;cases J:S.B q with
 | none=>rw[J] at e;exact (h.2.1 p x e).2
 | some y=>
  rw[J] at e;unfold aB at e;simp only at e;split at e
  ·split at e
   ·cases e
   ·injection e with e;subst e;have:=h.2.1 q y J;simp only;omega
  ·exact (h.2.1 p x e).2
theorem JZ {m:Int}{S:SI}(h:gJ m S)(h0:0<=m){q:Int}(hq:1<=q/\q<=24):gJ (m+1) ⟨S.B,rB S.N q⟩:=
 la (mo h (by omega)) (λ_=>hq) λn e=>by
  injection e with e;subst e;have:=m9 h h0 q;simp only[rf];omega
def LX {m:Int}{S:SI}(h:gJ m S)(h0:0<=m){leaf:Bool}{k:Int}(hk:leaf=false->0<=k/\k<=24):gJ (m+1) (dg leaf S k):=by
 grind[dg,mo,EN,JZ]
def vi {m:Int}{S:SI}(h:gJ m S)(k:Int):gJ m (eO S k):=by
 grind[eO,EO]
def p9 {α β:Type}{P:α->Prop}{f:α->β->α}(J:∀a b,P a->P (f a b)):∀(l:List β) (a:α),P a->P (l.foldl f a)
 | [],a,h=>h
 | b::l,a,h=>p9 J l (f a b) (J a b h)
def O6 {m:Int}{S:SI}{f:SI->Int->SI}(J:∀S k,gJ m S->gJ m (f S k))(h:gJ m S)(q:Int):gJ m (vh f S q):=by
 unfold vh;split
 ·exact h
 ·split
  ·rename_i hq hr;have hp:S.N q≠none:=λe=>(by grind[gN,yN]);obtain ⟨n,hn⟩:=kaF.1 hp;refine la h (λ_=>h.2.2.1 q n hn) λO e=>?_;injection e with e;subst e;have:=h.2.2.2 q n hn
   grind[gN,rf]
  ·exact p9 (P:=gJ m) J _ _ (la h (λe=>by cases e) λn e=>by cases e)
def HW {m:Int}{S:SI}(h:gJ m S)(q:Int):gJ m (k9 S q):=O6 (λS k h=>vi h k) h q
def part (f:SI->Int->SI)(S:SI)(n:Nd)(i:Nat):SI:=((kd n).take i).foldl f S
def iX (f:SI->Int->SI)(S:SI)(n:Nd):∀i,i<4->part f S n (i+1)=f (part f S n i) (bU n i)
 | 0,_=>rfl
 | 1,_=>rfl
 | 2,_=>rfl
 | 3,_=>rfl
 | i+4,h=>absurd h (by omega)
def nU {m:Int}{S:SI}(h:gJ m S)(h0:0<=m){leaf:Bool}{n:Nd}(hk:leaf=false->∀i,i<4->0<=bU n i/\bU n i<=24):∀i:Nat,i<=4->gJ (m+i) (part (dg leaf) S n i)
 | 0,_=>mo h (by omega)
 | i+1,hi=>by
  rw[iX _ _ _ i (by omega)];have:=LX (nU h h0 hk i (by omega)) (by omega) (leaf:=leaf) (k:=bU n i) λhl=>hk hl i (by omega)
  grind
def xl {m:Int}{f:SI->Int->SI}(J:∀S k,gJ m S->gJ m (f S k)){S:SI}(h:gJ m S)(n:Nd)(i:Nat):gJ m (part f S n i):=p9 (P:=gJ m) J _ _ h
def tE {m:Int}{S:SI}(h:gJ m S)(hm:1<=m){k:Nat}(hk:1<=k/\k<=24)(n:Nd):gJ m ⟨S.B,aB S.N k (some (rf n 1))⟩:=la h (λ_=>by omega) λJ e=>by
 grind[rf]
def tF {m:Int}{S:SI}(h:gJ m S)(hm:1<=m){leaf:Bool}{n:Nd}(hk:leaf=false->∀i,i<4->0<=bU n i/\bU n i<=24):gJ (m+4) (bf leaf S n):=by
 unfold bf;split
 ·exact mo h (by omega)
 ·split
  ·exact mo h (by omega)
  ·rename_i k J;exact nU (tE h hm (iJ J).1 n) (by omega) hk 4 (by omega)
def Be {m:Int}{S:SI}(h:gJ m S)(hm:1<=m)(d:ak):gJ m (aj S d):=by
 unfold aj;split
 ·exact h
 ·refine ⟨?_,?_,h.2.2.1,h.2.2.2⟩
  ·show l9 40 (lL S.B d);unfold lL;split
   ·exact h.1
   ·split
    ·exact h.1
    ·rename_i k J;have:=(iJ J).1;exact ka h.1 λ_=>by omega
  ·intro q x e;change lL S.B d q=some x at e;unfold lL at e;split at e
   ·exact h.2.1 q x e
   ·cases J:d9 40 S.B with
    | none=>rw[J] at e;exact h.2.1 q x e
    | some k=>
     rw[J] at e;simp only at e;unfold aB at e;split at e
     ·grind
     ·exact h.2.1 q x e
def HX {m:Int}{S:SI}(h:gJ m S)(b:Int):gJ m (jY S b):=by
 grind[jY,EO]
def UV (b:Nat)(S:SI)(z:Nat×Nat):List ag:=[pt b (.cells #[ptr z.1 0, .map (some z.2)] 231 (0,0)),ml z.1 S.B,mp z.2 (tb cl 24 S.N)]
def kK (b:Nat)(S:SI):ag:=hx (UV b S)
section
variable {c:Cx}{E:dr}{L:List ag}{K:List KI}
def fd {F:List ag}(b:Nat)(S:SI)[R:Rem L (kK b S) F](k:∀p r,G c K E (pt b (.cells #[ptr p 0, .map (some r)] 231 (0,0))::ml p S.B::mp r (tb cl 24 S.N)::F)):G c K E L:=jl (kK b S) rfl λz=>k z.1 z.2
def ct {F:List ag}{M:MM}(p r b:Nat)(S:SI)(h:M.Perm (tb cl 24 S.N))[J:Split L [pt b (.cells #[ptr p 0, .map (some r)] 231 (0,0)),ml p S.B,mp r M] F](k:G c K E (kK b S::F)):G c K E L:=λa w V X=>by
 have h1:Sat c.w0 w (pt b (.cells #[ptr p 0, .map (some r)] 231 (0,0))::ml p S.B::mp r M::F):=J.sat X;refine k a w V (Sat.hx_mk (A:=UV b S) (p,r) ?_);have r2:Rem (pt b (.cells #[ptr p 0, .map (some r)] 231 (0,0))::ml p S.B::mp r M::F) (mp r M) (pt b (.cells #[ptr p 0, .map (some r)] 231 (0,0))::ml p S.B::F):=inferInstance;obtain ⟨⟨es,clk⟩,O⟩:=(r2.sat h1).ex;have R:Sat c.w0 w (mp r (tb cl 24 S.N)::pt b (.cells #[ptr p 0, .map (some r)] 231 (0,0))::ml p S.B::F):=Sat.ex_mk (A:=λp:Array MapEntry×Nat=>λm=>MOk p.1 p.2 (tb cl 24 S.N)/\m r=some (.map p.1 p.2,false)) (es,clk) (O.weak λm hm=>⟨hm.1.perm_ h,hm.2⟩);have Y:Sl.Sub (mp r (tb cl 24 S.N)::pt b (.cells #[ptr p 0, .map (some r)] 231 (0,0))::ml p S.B::F) (pt b (.cells #[ptr p 0, .map (some r)] 231 (0,0))::ml p S.B::mp r (tb cl 24 S.N)::F):=inferInstance;exact Y.sat R
end
def LY {N:fU}(h:l9 24 N)(q:Int):(lk (tb cl 24 N) q).getD (cl yN)=cl (gN N q):=by
 simp_all[Gj,gN]
def gz (n:Nd):∀i,i<4->(fQ n)[i]? =some (I (bU n i))
 | 0,_=>rfl
 | 1,_=>rfl
 | 2,_=>rfl
 | 3,_=>rfl
 | i+4,h=>absurd h (by omega)
theorem O7 (n:Nd)(x:Int):∀i,i<4->(fQ n).set i (I x)=fQ (JY n i x)
 | 0,_=>rfl
 | 1,_=>rfl
 | 2,_=>rfl
 | 3,_=>rfl
 | i+4,h=>absurd h (by omega)
def HY (n:Nd)(w:World):(Instr.build 187 #[(0, .agg (fQ n).toArray),(1,I 1)]).run Tryz.prog w= .ok (cl (rf n 1)) w:=by
 simp[Instr.build,Wa,XY,Vw,Vb,Instr.fill,bB,show (I 1).cells=#[I 1] from rfl,rf]
def QB (a b:Nd)(w:World):(Op.equal 185 (.agg (fQ a).toArray) (.agg (fQ b).toArray)).run Tryz.prog w= .ok (decide (a.k0=b.k0/\a.k1=b.k1/\a.k2=b.k2/\a.k3=b.k3)) w:=by
 have h:=λx y:Int=>sO (P:=Tryz.prog) (w:=w) (a:=x) (b:=y) 9998 Vf;show (Op.equalIn (9999+1) _ _ _).run _ _=_;unfold Op.equalIn;simp[underlying,program,Sem.run,VH,Vb,List.range',Std.Legacy.Range.forIn_eq_forIn_range',Std.Legacy.Range.size,Go.part,Vc,h]
 grind
def QC (w:World):(Instr.build 185 #[]).run Tryz.prog w= .ok (.agg (fQ yN).toArray) w:=by
 simp[Instr.build,Xp,runUnderlying185,Instr.fill,bB,yN]
def vj {n:Nd}{r:Int}{T:TypeId}{f:Nat×Nat}:∀i v,(fQ n)[i]? =some v->bG (.cells (km (rf n r)).toArray T f) (0+0+i)=some v:=λi v h=>by
 grind[bG,rf]
def Tu {m:Int}{S:SI}(h:gJ m S){f k:Nat}(R:d9 24 S.N=some f)(hk:1<=k/\k<=f):0<(gN S.N k).refs ↔ k<f:=by
 have h1:=iJ R;constructor
 ·grind[gN,yN]
 ·intro J;have O:=h1.2.2 k hk.1 J;cases e:S.N k with
  | none=>rw[e] at O;cases O
  | some n=>have:=h.2.2.2 k n e;grind[gN]
def tG (F:List ag):Ct Tryz.prog 118 [] (F) (λv L'=>∃b,v=ptr b 0/\L'=kK b ⟨λ_=>none,λ_=>none⟩::F):=by
 refine Ct.of func118 rR 5 ntmps118 (by simp) λw0=>?_;refine gS (gQ (gS (gI (uA call191 (wl)) ?_)));rintro _ _ ⟨p,rfl,rfl⟩;refine gI (fw) ?_;rintro _ _ ⟨O,rfl,rfl⟩;refine gV (aR (xJ _ rR _ rR)) (gI (di #[ptr p 0, .map (some O)]) ?_);rintro _ _ ⟨J,rfl,rfl⟩;refine gQ ?_;refine ct p O J ⟨λ_=>none,λ_=>none⟩ (by rw[ma]) ?_;exact λa w R S=>wp_ret (bX (aW (vs:=[ptr J 0]) rfl R S ⟨J,rfl,rfl⟩))
def mq (b:Nat)(S:SI)(q m:Int)(hok:gJ m S)(hm:0<=m/\m<=1000000)(hq:1<=q/\q<=24)(F:List ag):Ct Tryz.prog 249 [ptr b 0,I q] (kK b S::F) (R1 (.tuple #[]) (kK b ⟨S.B,rB S.N q⟩::F)):=by
 refine Ct.of func249 rR 21 ntmps249 (by simp) λw0=>?_;refine fd b (S) ?_;intro p r;refine gS (gM (gV aa (gF 1 VA rR VU (gL (.map (some r)) VY (gM (gV (cI (v:=cl (gN S.N (q))) VZ Vf Wa (LY hok.2.2.1 _)) (gI (aO #[I 0,I 0,I 0,I 0,I 0] Wa) ?_)))))));rintro _ _ ⟨J,rfl,rfl⟩;refine gU (ax (cs:=#[I 0,I 0,I 0,I 0,I 0]) (vs:=km (gN S.N q)) (km (gN S.N q)).toArray VD (by simp) (hcs:=by exact aJ)) (ab (gS (gF 4 Vy rR Vb (gL (I (gN S.N q).refs) Vc (gV (bO (da (by have:=m9 hok hm.1 q;omega))) (gF 4 Vy rR Vb (gU (aK (km (rf (gN S.N q) ((gN S.N q).refs+1))).toArray Vb (by simp)) (ab ?_))))))));refine cO (Lf:=[pt b (.cells #[ptr p 0, .map (some r)] 231 (0,0)),pt J (.cells (km (rf (gN S.N q) ((gN S.N q).refs+1))).toArray 187 (0,0))]) jA ?_;refine dM rR (dV rR aa (dF rR 1 VA rR VU (dL rR (.map (some r)) VY (dM rR (dV rR (aU (vs:=km (rf (gN S.N q) ((gN S.N q).refs+1))) XA VD bp) (rc rR (cn VZ Vf) ?_))))));rintro _ _ rfl;refine aP ?_;refine ct p r b (⟨S.B,rB S.N q⟩) (nq cl (x:=rf (gN S.N q) ((gN S.N q).refs+1)) hq) ?_;exact fY rfl rfl rfl
def lq (b:Nat)(S:SI)(q m:Int)(hok:gJ m S)(hm:0<=m/\m<=1000000)(F:List ag):Ct Tryz.prog 232 [ptr b 0,I q,Bo true] (kK b S::F) (R1 (.tuple #[]) (kK b (k9 S q)::F)):=by
 refine Ct.of func232 rR 55 ntmps232 (by simp) λw0=>?_;refine ac (gS (gM (gV bT (ab ?_))));apply ah<;>intro J
 ·simp at J;rw[show kK b S=kK b (k9 S q) by unfold k9 vh;rw[YB J]];exact ao rfl rfl rfl
 ·simp at J;refine ai (ac ?_);refine fd b (S) ?_;intro p r;refine am (gM (gV aa (gF 1 VA rR VU (gL (.map (some r)) VY (gM (gV (cI (v:=cl (gN S.N (q))) VZ Vf Wa (LY hok.2.2.1 _)) (gI (aO #[I 0,I 0,I 0,I 0,I 0] Wa) ?_)))))));rintro _ _ ⟨b6,rfl,rfl⟩;refine gU (ax (cs:=#[I 0,I 0,I 0,I 0,I 0]) (vs:=km (gN S.N q)) (km (gN S.N q)).toArray VD (by simp) (hcs:=by exact aJ)) (ab (gS (gF 4 Vy rR Vb (gL (I (gN S.N q).refs) Vc (gV (fe (da (by have:=m9 hok hm.1 q;omega))) (gF 4 Vy rR Vb (gU (aK (km (rf (gN S.N q) ((gN S.N q).refs - 1))).toArray Vb (by simp)) (ab (ac ?_)))))))));refine cO (Lf:=[pt b (.cells #[ptr p 0, .map (some r)] 231 (0,0)),pt b6 (.cells (km (rf (gN S.N q) ((gN S.N q).refs - 1))).toArray 187 (0,0))]) jA ?_;refine dM rR (dV rR aa (dF rR 1 VA rR VU (dL rR (.map (some r)) VY (dM rR (dV rR (aU (vs:=km (rf (gN S.N q) ((gN S.N q).refs - 1))) XA VD bp) (rc rR (cn VZ Vf) ?_))))));rintro _ _ rfl;refine aP ?_;refine ac (gS (gF 4 Vy rR Vb (gL (I ((gN S.N q).refs - 1)) Vc (gV aT (ab ?_)))));apply ah<;>intro O
  ·simp at O;have hp:S.N q≠none:=λe=>(by unfold gN at O;rw[e] at O;simp[yN] at O);obtain ⟨n,hn⟩:=kaF.1 hp;refine ct p r b (⟨S.B,aB S.N q (some (rf (gN S.N q) ((gN S.N q).refs - 1)))⟩) (nq cl (x:=rf (gN S.N q) ((gN S.N q).refs - 1)) (hok.2.2.1 q n hn)) ?_;rw[show (⟨S.B,aB S.N q (some (rf (gN S.N q) ((gN S.N q).refs - 1)))⟩:SI)=k9 S q by unfold k9 vh;rw[YC J,YB (by omega)]];exact ao rfl rfl rfl
  ·simp at O;refine ai (gS (gM (gV aa (gF 1 VA rR VU (gL (.map (some r)) VY (gM (ir (iv VZ Vf) ?_)))))));rintro _ _ ⟨rfl,rfl⟩;refine ab (ac ?_);refine ct p r b (⟨S.B,aB S.N q none⟩) (AL cl (v:=cl (rf (gN S.N q) ((gN S.N q).refs - 1)))) ?_;show G _ _ _ (kK b (part eO ⟨S.B,aB S.N q none⟩ (gN S.N q) 0)::_);refine am (gF 0 Vy rR Vw (gV (aU (vs:=fQ (gN S.N q)) V7 Vw vj) (gM (ab (al ?_)))));refine aM (α:=Nat) (λi=>i<=4) (λi=>U [(0,ptr b 0),(2,Bo true),(36, .agg (fQ (gN S.N q)).toArray),(37,I i)]) (λi=>kK b (part eO ⟨S.B,aB S.N q none⟩ (gN S.N q) i)::F) (λi=>4 - i) 0 (by omega) [0,2,36,37] rfl ?_;intro i hi;have Z:=xl (f:=eO) (λS k h=>vi h k) (la hok (q:=q) (x:=none) (λe=>by cases e) (λn e=>by cases e)) (gN S.N q) i;refine gS (gV aI (ab (ac ?_)));apply ah<;>intro X
   ·simp at X;have V:i<4:=(by omega);refine ai (ac (al (gS (gV (kO (v:=I (bU (gN S.N q) i)) i VH Vb Vc V (by simpa using gz (gN S.N q) i V)) (gQ (al (gS (gM (gV bT (gQ ?_))))))))));apply ah<;>intro R
    ·simp at R;refine ai (aG (aG (am (gP (gM (ab ?_))))));rw[show part eO ⟨S.B,aB S.N q none⟩ (gN S.N q) i=part eO ⟨S.B,aB S.N q none⟩ (gN S.N q) (i+1) by rw[iX _ _ _ i V];unfold eO;rw[YB R]];exact ap (i+1) (by omega) (by omega) [0,2,36,37] rfl
    ·simp at R;refine gS (gM (gQ ?_));apply ah<;>intro Y
     ·refine fd b (part eO ⟨S.B,aB S.N q none⟩ (gN S.N q) i) ?_;intro p2 r2;refine am (gM (gV aa (gF 0 VA rR Wy (gL (ptr p2 0) WC (gM (gR (vB call231 (mm p2 (part eO ⟨S.B,aB S.N q none⟩ (gN S.N q) i).B (bU (gN S.N q) i) (tD Z (by omega)))) (ab (aG (aG (am (gP (gM (ab ?_)))))))))))));refine ct p2 r2 b (⟨fo (part eO ⟨S.B,aB S.N q none⟩ (gN S.N q) i).B (bU (gN S.N q) i) (-1),(part eO ⟨S.B,aB S.N q none⟩ (gN S.N q) i).N⟩) (.refl _) ?_;rw[show (⟨fo (part eO ⟨S.B,aB S.N q none⟩ (gN S.N q) i).B (bU (gN S.N q) i) (-1),(part eO ⟨S.B,aB S.N q none⟩ (gN S.N q) i).N⟩:SI)=part eO ⟨S.B,aB S.N q none⟩ (gN S.N q) (i+1) by rw[iX _ _ _ i V];unfold eO;rw[YC R]];exact ap (i+1) (by omega) (by omega) [0,2,36,37] rfl
     ·simp at Y
   ·simp at X;obtain rfl:i=4:=(by omega);refine aF ?_;rw[show part eO ⟨S.B,aB S.N q none⟩ (gN S.N q) 4=k9 S q by unfold k9 vh;rw[YC J,YC (by omega)];rfl];exact fY rfl rfl rfl
def wC (b:Nat)(S:SI)(q m:Int)(hok:gJ m S)(hm:0<=m/\m<=1000000)(F:List ag):Ct Tryz.prog 232 [ptr b 0,I q,Bo false] (kK b S::F) (R1 (.tuple #[]) (kK b (rh S q)::F)):=by
 refine Ct.of func232 rR 55 ntmps232 (by simp) λw0=>?_;refine ac (gS (gM (gV bT (ab ?_))));apply ah<;>intro J
 ·simp at J;rw[show kK b S=kK b (rh S q) by unfold rh vh;rw[YB J]];exact ao rfl rfl rfl
 ·simp at J;refine ai (ac ?_);refine fd b (S) ?_;intro p r;refine am (gM (gV aa (gF 1 VA rR VU (gL (.map (some r)) VY (gM (gV (cI (v:=cl (gN S.N (q))) VZ Vf Wa (LY hok.2.2.1 _)) (gI (aO #[I 0,I 0,I 0,I 0,I 0] Wa) ?_)))))));rintro _ _ ⟨b6,rfl,rfl⟩;refine gU (ax (cs:=#[I 0,I 0,I 0,I 0,I 0]) (vs:=km (gN S.N q)) (km (gN S.N q)).toArray VD (by simp) (hcs:=by exact aJ)) (ab (gS (gF 4 Vy rR Vb (gL (I (gN S.N q).refs) Vc (gV (fe (da (by have:=m9 hok hm.1 q;omega))) (gF 4 Vy rR Vb (gU (aK (km (rf (gN S.N q) ((gN S.N q).refs - 1))).toArray Vb (by simp)) (ab (ac ?_)))))))));refine cO (Lf:=[pt b (.cells #[ptr p 0, .map (some r)] 231 (0,0)),pt b6 (.cells (km (rf (gN S.N q) ((gN S.N q).refs - 1))).toArray 187 (0,0))]) jA ?_;refine dM rR (dV rR aa (dF rR 1 VA rR VU (dL rR (.map (some r)) VY (dM rR (dV rR (aU (vs:=km (rf (gN S.N q) ((gN S.N q).refs - 1))) XA VD bp) (rc rR (cn VZ Vf) ?_))))));rintro _ _ rfl;refine aP ?_;refine ac (gS (gF 4 Vy rR Vb (gL (I ((gN S.N q).refs - 1)) Vc (gV aT (ab ?_)))));apply ah<;>intro O
  ·simp at O;have hp:S.N q≠none:=λe=>(by unfold gN at O;rw[e] at O;simp[yN] at O);obtain ⟨n,hn⟩:=kaF.1 hp;refine ct p r b (⟨S.B,aB S.N q (some (rf (gN S.N q) ((gN S.N q).refs - 1)))⟩) (nq cl (x:=rf (gN S.N q) ((gN S.N q).refs - 1)) (hok.2.2.1 q n hn)) ?_;rw[show (⟨S.B,aB S.N q (some (rf (gN S.N q) ((gN S.N q).refs - 1)))⟩:SI)=rh S q by unfold rh vh;rw[YC J,YB (by omega)]];exact ao rfl rfl rfl
  ·simp at O;refine ai (gS (gM (gV aa (gF 1 VA rR VU (gL (.map (some r)) VY (gM (ir (iv VZ Vf) ?_)))))));rintro _ _ ⟨rfl,rfl⟩;refine ab (ac ?_);refine ct p r b (⟨S.B,aB S.N q none⟩) (AL cl (v:=cl (rf (gN S.N q) ((gN S.N q).refs - 1)))) ?_;show G _ _ _ (kK b (part k9 ⟨S.B,aB S.N q none⟩ (gN S.N q) 0)::_);refine am (gF 0 Vy rR Vw (gV (aU (vs:=fQ (gN S.N q)) V7 Vw vj) (gM (ab (al ?_)))));refine aM (α:=Nat) (λi=>i<=4) (λi=>U [(0,ptr b 0),(2,Bo false),(36, .agg (fQ (gN S.N q)).toArray),(37,I i)]) (λi=>kK b (part k9 ⟨S.B,aB S.N q none⟩ (gN S.N q) i)::F) (λi=>4 - i) 0 (by omega) [0,2,36,37] rfl ?_;intro i hi;have Z:=xl (f:=k9) (λS k h=>HW h k) (la hok (q:=q) (x:=none) (λe=>by cases e) (λn e=>by cases e)) (gN S.N q) i;refine gS (gV aI (ab (ac ?_)));apply ah<;>intro X
   ·simp at X;have R:i<4:=(by omega);refine ai (ac (al (gS (gV (kO (v:=I (bU (gN S.N q) i)) i VH Vb Vc R (by simpa using gz (gN S.N q) i R)) (gQ (al (gS (gM (gV bT (gQ ?_))))))))));apply ah<;>intro V
    ·simp at V;refine ai (aG (aG (am (gP (gM (ab ?_))))));rw[show part k9 ⟨S.B,aB S.N q none⟩ (gN S.N q) i=part k9 ⟨S.B,aB S.N q none⟩ (gN S.N q) (i+1) by rw[iX _ _ _ i R];unfold k9 vh;rw[YB V]];exact ap (i+1) (by omega) (by omega) [0,2,36,37] rfl
    ·simp at V;refine gS (gM (gQ ?_));apply ah<;>intro Y
     ·simp at Y
     ·refine am (gM (gM (gR (vB call232 (lq b (part k9 ⟨S.B,aB S.N q none⟩ (gN S.N q) i) (bU (gN S.N q) i) m Z hm)) (ab (aG (aG (am (gP (gM (ab ?_))))))))));rw[show k9 (part k9 ⟨S.B,aB S.N q none⟩ (gN S.N q) i) (bU (gN S.N q) i)=part k9 ⟨S.B,aB S.N q none⟩ (gN S.N q) (i+1) from (iX _ _ _ i R).symm];exact ap (i+1) (by omega) (by omega) [0,2,36,37] rfl
   ·simp at X;obtain rfl:i=4:=(by omega);refine aF ?_;rw[show part k9 ⟨S.B,aB S.N q none⟩ (gN S.N q) 4=rh S q by unfold rh vh;rw[YC J,YC (by omega)];rfl];exact fY rfl rfl rfl
def iY (b:Nat)(S:SI)(n:Nd)(lf:Bool)(m:Int)(hok:gJ m S)(hm:1<=m/\m<=900000)(hk:lf=false->∀i,i<4->0<=bU n i/\bU n i<=24)(F:List ag):Ct Tryz.prog 230 [ptr b 0, .agg (fQ n).toArray,Bo lf] (kK b S::F) (R1 (.tuple #[I (be S n).1,fv 117 (be S n).2]) (kK b (bf lf S n)::F)):=by
 refine Ct.of func230 rR 58 ntmps230 (by simp) λw0=>?_;refine gS (gI (di (fQ n).toArray) ?_);rintro _ _ ⟨b4,rfl,rfl⟩;refine gA (gQ (ac (gS (gV (aU (vs:=fQ (n)) V7 Vw bp) (gV (aR QC) (gV (KU eqGuardType185 rR rR (QB n yN)) (ab ?_)))))));apply ah<;>intro Z
 ·have O:fc n:=of_decide_eq_true Z;refine gS (gA (gQ ?_));rw[show be S n=(0,0) by unfold be;rw[YB O],show bf lf S n=S by unfold bf;rw[YB O]];exact ao rfl rfl rfl
 ·have O:¬fc n:=of_decide_eq_false Z;refine ai (ac (ac ?_));refine fd b (S) ?_;intro p r;refine am (gM (gV aa (gF 1 VA rR VU (gL (.map (some r)) VY (gV (lh VZ) (gV bT (ab ?_)))))));apply ah<;>intro X
  ·simp at X;rw[gw] at X;have J:=full_iff.1 (show (bZ 24 S.N).length=24 by omega);refine gS (gV (aZ Vn) (gA (gQ ?_)));rw[show be S n=(0,8) by unfold be;rw[YC O,J],show bf lf S n=S by unfold bf;rw[YC O,J]];refine ct p r b (S) (.refl _) ?_;exact ao rfl rfl rfl
  ·simp at X;rw[gw] at X;obtain ⟨j,J⟩:=vZ (n:=24) (B:=S.N) (by omega);have hjf:=iJ J;refine ai (gS (gQ (ac (al ?_))));refine aM (α:=Nat) (λk=>1<=k/\k<=j) (λk=>U [(0,ptr b 0),(2,Bo lf),(4,ptr b4 0),(8,I k)]) (λ_=>pt b (.cells #[ptr p 0, .map (some r)] 231 (0,0))::ml p S.B::mp r (tb cl 24 S.N)::pt b4 (.cells (fQ n).toArray 185 (0,0))::F) (λk=>j - k) 1 ⟨by omega,by omega⟩ [0,2,4,8] rfl ?_;intro k h0;have hnk:=Tu hok J h0;refine ac (gS (gM (gV aa (gF 1 VA rR VU (gL (.map (some r)) VY (gM (gV (cI (v:=cl (gN S.N (k))) VZ Vf Wa (LY hok.2.2.1 _)) (gV (Hq (v:=I (gN S.N k).refs) Vy rR Vc rR rR) (gV aT (ab ?_))))))))));apply ah<;>intro h28
   ·simp at h28;refine ai (al (am (gM (gP (gQ (aG ?_))))));exact ap (k+1) ⟨by omega,by omega⟩ (by omega) [0,2,4,8] rfl
   ·simp at h28;obtain rfl:k=j:=(by omega);refine aF ?_;refine ac ?_;refine cO (Lf:=[pt b (.cells #[ptr p 0, .map (some r)] 231 (0,0)),pt b4 (.cells (fQ n).toArray 185 (0,0))]) jQ ?_;refine dM rR (dV rR aa (dF rR 1 VA rR VU (dL rR (.map (some r)) VY (dM rR (dV rR (aU (vs:=fQ (n)) V7 Vw bp) (dV rR (aR (HY n)) (rc rR (cn VZ Vf) ?_)))))));rintro _ _ rfl;refine aP ?_;refine ct p r b (⟨S.B,aB S.N k (some (rf n 1))⟩) (nq cl (x:=rf n 1) (by omega)) ?_;show G _ _ _ (kK b (part (dg lf) ⟨S.B,aB S.N k (some (rf n 1))⟩ n 0)::_);refine ac (gS (gV (aU (vs:=fQ (n)) V7 Vw bp) (gM (ab (al ?_)))));refine aM (α:=Nat) (λi=>i<=4) (λi=>U [(0,ptr b 0),(2,Bo lf),(8,I k),(38, .agg (fQ n).toArray),(39,I i)]) (λi=>kK b (part (dg lf) ⟨S.B,aB S.N k (some (rf n 1))⟩ n i)::F) (λi=>4 - i) 0 (by omega) [0,2,8,38,39] rfl ?_;intro i hi;have hpi:=nU (tE (k:=k) hok hm.1 (by omega) n) (by omega) hk i hi;refine gS (gV aI (ab (ac ?_)));apply ah<;>intro h40
    ·simp at h40;have R:i<4:=(by omega);refine ai (ac (al (gS (gV (kO (v:=I (bU (n) i)) i VH Vb Vc R (by simpa using gz (n) i R)) (gQ (al (gS (gM (gV bT (gQ ?_))))))))));apply ah<;>intro V
     ·simp at V;refine ai (aG (aG (am (gP (gM (ab ?_))))));rw[show part (dg lf) ⟨S.B,aB S.N k (some (rf n 1))⟩ n i=part (dg lf) ⟨S.B,aB S.N k (some (rf n 1))⟩ n (i+1) by rw[iX _ _ _ i R];unfold dg;rw[YB V]];exact ap (i+1) (by omega) (by omega) [0,2,8,38,39] rfl
     ·simp at V;refine gS (gM (gQ ?_));apply ah<;>intro Y
      ·refine fd b (part (dg lf) ⟨S.B,aB S.N k (some (rf n 1))⟩ n i) ?_;intro p2 r2;refine am (gM (gV aa (gF 0 VA rR Wy (gL (ptr p2 0) WC (gM (gR (vB call265 (vf p2 (part (dg lf) ⟨S.B,aB S.N k (some (rf n 1))⟩ n i).B (bU n i) (tD hpi (by omega)))) (ab (aG (aG (am (gP (gM (ab ?_)))))))))))));refine ct p2 r2 b (⟨fo (part (dg lf) ⟨S.B,aB S.N k (some (rf n 1))⟩ n i).B (bU n i) 1,(part (dg lf) ⟨S.B,aB S.N k (some (rf n 1))⟩ n i).N⟩) (.refl _) ?_;rw[show (⟨fo (part (dg lf) ⟨S.B,aB S.N k (some (rf n 1))⟩ n i).B (bU n i) 1,(part (dg lf) ⟨S.B,aB S.N k (some (rf n 1))⟩ n i).N⟩:SI)=part (dg lf) ⟨S.B,aB S.N k (some (rf n 1))⟩ n (i+1) by rw[iX _ _ _ i R];unfold dg;rw[YC V,YB Y]];exact ap (i+1) (by omega) (by omega) [0,2,8,38,39] rfl
      ·refine am (gM (gM (gR (vB call249 (mq b (part (dg lf) ⟨S.B,aB S.N k (some (rf n 1))⟩ n i) (bU n i) (m+i) hpi (by omega) (by have:=hk (by simpa using Y) i R;omega))) (ab (aG (aG (am (gP (gM (ab ?_))))))))));rw[show (⟨(part (dg lf) ⟨S.B,aB S.N k (some (rf n 1))⟩ n i).B,rB (part (dg lf) ⟨S.B,aB S.N k (some (rf n 1))⟩ n i).N (bU n i)⟩:SI)=part (dg lf) ⟨S.B,aB S.N k (some (rf n 1))⟩ n (i+1) by rw[iX _ _ _ i R];unfold dg;rw[YC V,YC (by simpa using Y)]];exact ap (i+1) (by omega) (by omega) [0,2,8,38,39] rfl
    ·simp at h40;obtain rfl:i=4:=(by omega);refine aF ?_;refine gS (gM (gA (gQ ?_)));rw[show be S n=((k:Int),0) by unfold be;rw[YC O,J],show bf lf S n=part (dg lf) ⟨S.B,aB S.N k (some (rf n 1))⟩ n 4 by unfold bf;rw[YC O,J];rfl];exact ao rfl rfl rfl
def qa (b:Nat)(S:SI)(d:ak)(m:Int)(hok:gJ m S)(hm:m<=1000000)(hd:d.length<=9223372036854775807)(F:List ag):Ct Tryz.prog 229 [ptr b 0,aC d] (kK b S::F) (R1 (.tuple #[I (ar S d).1,fv 117 (ar S d).2]) (kK b (aj S d)::F)):=by
 refine Ct.of func229 rR 16 ntmps229 (by simp) λw0=>?_;refine gS (gA (gQ (ac (gS (gM (gV cj (ab ?_)))))));apply ah<;>intro J
 ·simp at J;refine gS (gA (gQ ?_));rw[show ar S d=(0,0) by unfold ar;rw[YB J],show aj S d=S by unfold aj;rw[YB J]];exact ao rfl rfl rfl
 ·simp at J;refine ai (ac ?_);refine fd b (S) ?_;intro p r;refine am (gM (gV aa (gF 0 VA rR Wy (gL (ptr p 0) WC (gM (gR (vB call264 (vg p S.B d (tD hok hm) hd)) (gX (I (ky S.B d).1) (gX (fv 117 (ky S.B d).2) (gA (gQ ?_))))))))));rw[show ar S d=ky S.B d by unfold ar;rw[YC J],show aj S d=⟨lL S.B d,S.N⟩ by unfold aj;rw[YC J]];refine ct p r b (⟨lL S.B d,S.N⟩) (.refl _) ?_;exact ao rfl rfl rfl
def lb (b:Nat)(S:SI)(q m:Int)(hok:gJ m S)(hm:0<=m/\m<=1000000)(hq:q<=24)(F:List ag):Ct Tryz.prog 196 [ptr b 0,I q] (kK b S::F) (R1 (I q) (kK b (eI S q)::F)):=by
 refine Ct.of func196 rR 11 ntmps196 (by simp) λw0=>?_;refine gS (gQ (ac (gS (gM (gV aT (ab ?_))))));apply ah<;>intro J
 ·simp at J;refine am (gM (gM (gR (vB call249 (mq b S q m hok hm (by omega))) (ab (gS (gM (gQ ?_)))))));rw[show (⟨S.B,rB S.N q⟩:SI)=eI S q by unfold eI;rw[YB J]];exact ao rfl rfl rfl
 ·simp at J;refine ai (gS (gM (gQ ?_)));rw[show kK b S=kK b (eI S q) by unfold eI;rw[YC (by omega)]];exact ao rfl rfl rfl
def iZ (b:Nat)(S:SI)(q m:Int)(hok:gJ m S)(hm:0<=m/\m<=1000000)(F:List ag):Ct Tryz.prog 170 [ptr b 0,I q] (kK b S::F) (R1 (.tuple #[]) (kK b (rh S q)::F)):=by
 refine Ct.of func170 rR 7 ntmps170 (by simp) λw0=>?_;refine am (gM (gM (gR (vB call232 (wC b S q m hok hm)) (ab ?_))));exact fY rfl rfl rfl
def EP (a:Nat)(h:a<16):IntKind.i64.wrap ((a:Int).tdiv 4)=((a / 4:Nat):Int):=by
 grind[da]
def O8 (a:Nat):(a:Int).tmod 4=((a % 4:Nat):Int):=rfl
def tH (n:Nd):(km n).toArray.extract 0 (0+4)=(fQ n).toArray:=by simp
def yO (S:SI)(n:Nd):0<=(be S n).1/\(be S n).1<=24:=by
 grind[be,Go.Sl.d9]
def yP (n:Nd)(x:Int):∀i j,i<4->j<4->bU (JY n i x) j=if j=i then x else bU n j:=by
 intro i j hi hj
 match i,j,hi,hj with
 | 0,0,_,_ | 0,1,_,_ | 0,2,_,_ | 0,3,_,_ | 1,0,_,_ | 1,1,_,_ | 1,2,_,_ | 1,3,_,_ | 2,0,_,_ | 2,1,_,_ | 2,2,_,_ | 2,3,_,_ | 3,0,_,_ | 3,1,_,_ | 3,2,_,_ | 3,3,_,_=>rfl
 | i+4,j,h,_=>omega
 | 0,j+4,_,h | 1,j+4,_,h | 2,j+4,_,h | 3,j+4,_,h=>omega
def vk {n:Nd}{x:Int}{o i:Nat}(hi:i<4)(ho:o=i):(fQ n).toArray.setIfInBounds o (I x)=(fQ (JY n i x)).toArray:=by
 grind[O7]
def jo (b:Nat)(S:SI)(root:Int)(at_:Nat)(m:Int)(hok:gJ m S)(hm:m<=1000000)(J:at_<16)(F:List ag):Ct Tryz.prog 98 [ptr b 0,I root,I at_] (kK b S::F) (R1 (aC (jn S root at_)) (kK b S::F)):=by
 refine Ct.of func98 rR 39 ntmps98 (by simp) λw0=>?_;refine fd b (S) ?_;intro p r;refine gS (gQ (gS (gM (gV aa (gF 1 VA rR VU (gL (.map (some r)) VY (gM (gV (cI (v:=cl (gN S.N (root))) VZ Vf Wa (LY hok.2.2.1 _)) (gV (td (fQ (gN S.N root)) Vy rR V7 Vw (tH _)) (gM (gV (pO (EP at_ J)) (gV (kO (v:=I (bU (gN S.N root) (at_ / 4))) (at_ / 4) VH Vb Vc (by omega) (by simpa using gz (gN S.N root) (at_ / 4) (by omega))) (gQ (ac (gD (Lf:=[pt b (.cells #[ptr p 0, .map (some r)] 231 (0,0)),mp r (tb cl 24 S.N)]) [(0,false),(1,false),(2,false),(3,false),(4,false),(5,false),(6,false),(7,false),(8,false),(9,false),(10,false),(11,false),(12,false),(13,false),(14,true),(15,false),(16,false),(17,false),(18,false),(19,false)] (dM rR (dV rR aa (dF rR 0 VA rR Wy (dL rR (ptr p 0) WC (dM rR (dV rR aa (dF rR 1 VA rR VU (dL rR (.map (some r)) VY (dM rR (dV rR (cI (v:=cl (gN S.N (bU (gN S.N root) (at_ / 4)))) VZ Vf Wa (LY hok.2.2.1 _)) (dV rR (td (fQ (gN S.N (bU (gN S.N root) (at_ / 4)))) Vy rR V7 Vw (tH _)) (dM rR (dV rR (vT (by exact O8 at_)) (dV rR (kO (v:=I (bU (gN S.N (bU (gN S.N root) (at_ / 4))) (at_ % 4))) (at_ % 4) VH Vb Vc (Zl _ (by decide)) (by simpa using gz (gN S.N (bU (gN S.N root) (at_ / 4))) (at_ % 4) (Zl _ (by decide)))) (d7 rR (uB call173 (ve p S.B (bU (gN S.N (bU (gN S.N root) (at_ / 4))) (at_ % 4)) (tD hok hm))) ?_))))))))))))))))))))))))))))));rintro _ _ ⟨rfl,rfl⟩;refine dM rR (dV rR (aH (v:=aC (jn S root at_))) (dV rR (aH (v:=fv 117 (yL S.B (bU (gN S.N (bU (gN S.N root) (at_ / 4))) (at_ % 4))).2)) (dV rR aD (dV rR aD ?_))));refine aP ?_;refine gS (gM (gQ ?_));refine ct p r b (S) (.refl _) ?_;exact ao rfl rfl rfl
def mr (b:Nat)(S:SI)(root:Int)(at_:Nat)(d:ak)(m:Int)(hok:gJ m S)(hm:1<=m/\m<=800000)(hat:at_<16)(hd:d.length<=9223372036854775807)(hk:∀i,i<4->0<=bU (gN S.N root) i/\bU (gN S.N root) i<=24)(F:List ag):Ct Tryz.prog 169 [ptr b 0,I root,I at_,aC d] (kK b S::F) (R1 (.tuple #[I (dH S root at_ d).1,fv 117 (dH S root at_ d).2]) (kK b (iW S root at_ d)::F)):=by
 have O:=Be hok hm.1 d;have hN1:(aj S d).N=S.N:=(by unfold aj;split <;> rfl);have Y:gJ (m+4) (bf true (aj S d) (br (aj S d) root at_ (ar S d).1)):=tF O hm.1 (λh=>by cases h);have R:gJ (m+4) (jY (bf true (aj S d) (br (aj S d) root at_ (ar S d).1)) (ar S d).1):=HX Y _;have hk3:∀i,i<4->0<=bU (ef (aj S d) root at_ (be (aj S d) (br (aj S d) root at_ (ar S d).1)).1) i/\bU (ef (aj S d) root at_ (be (aj S d) (br (aj S d) root at_ (ar S d).1)).1) i<=24:=λi hi=>by
  unfold ef;rw[yP _ _ _ _ (by omega) hi,hN1];split
  ·exact yO _ _
  ·exact hk i hi
 have Z:gJ (m+4+4) (bf false (jY (bf true (aj S d) (br (aj S d) root at_ (ar S d).1)) (ar S d).1) (ef (aj S d) root at_ (be (aj S d) (br (aj S d) root at_ (ar S d).1)).1)):=tF R (by omega) (λ_=>hk3);refine Ct.of func169 rR 80 ntmps169 (by simp) λw0=>?_;refine gS (gA (gQ (gS (gM (gM (gR (vB call229 (qa b S d m hok (by omega) hd)) (gM (gX (I (ar S d).1) (gX (fv 117 (ar S d).2) (gA (gQ (ac (gS (gM (gV (ck Vl) (ab ?_))))))))))))))));apply ah<;>intro V
 ·simp at V;refine gS (gM (gA (gQ ?_)));rw[show dH S root at_ d=(0,(ar S d).2) by unfold dH;simp only;rw[YB V],show iW S root at_ d=(aj S d) by unfold iW;simp only;rw[YB V]];exact ao rfl rfl rfl
 ·simp at V;refine ai (ac ?_);refine fd b ((aj S d)) ?_;intro p r;refine am (gM (gV aa (gF 1 VA rR VU (gL (.map (some r)) VY (gM (gV (cI (v:=cl (gN (aj S d).N (root))) VZ Vf Wa (LY O.2.2.1 _)) (gV (td (fQ (gN (aj S d).N root)) Vy rR V7 Vw (tH _)) (gI (aO #[I 0,I 0,I 0,I 0] Xp) ?_))))))));rintro _ _ ⟨b12,rfl,rfl⟩;refine gU (ax (cs:=#[I 0,I 0,I 0,I 0]) (vs:=fQ (gN (aj S d).N root)) (fQ (gN (aj S d).N root)).toArray Vw (by simp) (hcs:=by exact aJ)) (ab (ac ?_));refine cO (Lf:=[pt b (.cells #[ptr p 0, .map (some r)] 231 (0,0)),mp r (tb cl 24 (aj S d).N),pt b12 (.cells (fQ (gN (aj S d).N root)).toArray 185 (0,0))]) jL ?_;refine dM rR (dV rR aa (dF rR 1 VA rR VU (dL rR (.map (some r)) VY (dM rR (dV rR (pO (EP at_ hat)) (dV rR (ba (at_ / 4) VH Vb (by omega)) (dV rR (az (v:=I (bU (gN (aj S d).N root) (at_ / 4))) Vc (hv:=⟨by simpa [bG] using gz (gN (aj S d).N root) (at_ / 4) (by omega)⟩)) (dV rR (cI (v:=cl (gN (aj S d).N (bU (gN (aj S d).N root) (at_ / 4)))) VZ Vf Wa (LY O.2.2.1 _)) (dV rR (td (fQ (gN (aj S d).N (bU (gN (aj S d).N root) (at_ / 4)))) Vy rR V7 Vw (tH _)) (d7 rR (aO #[I 0,I 0,I 0,I 0] Xp) ?_))))))))));rintro _ _ ⟨b13,rfl,rfl⟩;refine rc rR (ax (cs:=#[I 0,I 0,I 0,I 0]) (vs:=fQ (gN (aj S d).N (bU (gN (aj S d).N root) (at_ / 4)))) (fQ (gN (aj S d).N (bU (gN (aj S d).N root) (at_ / 4)))).toArray Vw (by simp) (hcs:=by exact aJ)) ?_;rintro _ _ rfl;refine aP ?_;refine gS (gM (gV (vT (by exact O8 at_)) (gM (gV (ba (at_ % 4) VH Vb (Zl _ (by decide))) (gU (aK (fQ (br (aj S d) root at_ (ar S d).1)).toArray Vb (by simp;omega) (hcs:=by exact vk (Zl _ (by decide)) (by omega))) (ab (ac ?_)))))));refine ct p r b ((aj S d)) (.refl _) ?_;refine am (gM (gV (aU (vs:=fQ (br (aj S d) root at_ (ar S d).1)) V7 Vw bp) (gR (vB call230 (iY b (aj S d) (br (aj S d) root at_ (ar S d).1) true m O (by omega) (λh=>by cases h))) (gM (gX (I (be (aj S d) (br (aj S d) root at_ (ar S d).1)).1) (gX (fv 117 (be (aj S d) (br (aj S d) root at_ (ar S d).1)).2) (gA (gQ (ac (gS (gM (gV (ck Vl) (ab ?_)))))))))))));apply ah<;>intro X
  ·simp at X;refine gS (gM (gA (gQ ?_)));rw[show dH S root at_ d=(0,(be (aj S d) (br (aj S d) root at_ (ar S d).1)).2) by unfold dH;simp only;rw[YC (by omega),YB X],show iW S root at_ d=(bf true (aj S d) (br (aj S d) root at_ (ar S d).1)) by unfold iW;simp only;rw[YC (by omega),YB X]];exact ao rfl rfl rfl
  ·simp at X;refine ai (ac (gS (gM (gV aT (ab ?_)))));apply ah<;>intro h56
   ·simp at h56;refine fd b ((bf true (aj S d) (br (aj S d) root at_ (ar S d).1))) ?_;intro p2 r2;refine am (gM (gV aa (gF 0 VA rR Wy (gL (ptr p2 0) WC (gM (gR (vB call231 (mm p2 (bf true (aj S d) (br (aj S d) root at_ (ar S d).1)).B (ar S d).1 (tD Y (by omega)))) (ab ?_)))))));refine ct p2 r2 b (⟨fo (bf true (aj S d) (br (aj S d) root at_ (ar S d).1)).B (ar S d).1 (-1),(bf true (aj S d) (br (aj S d) root at_ (ar S d).1)).N⟩) (.refl _) ?_;rw[show (⟨fo (bf true (aj S d) (br (aj S d) root at_ (ar S d).1)).B (ar S d).1 (-1),(bf true (aj S d) (br (aj S d) root at_ (ar S d).1)).N⟩:SI)=(jY (bf true (aj S d) (br (aj S d) root at_ (ar S d).1)) (ar S d).1) by unfold jY;rw[YB h56]];refine gS (gM (gV (pO (EP at_ hat)) (gM (gV (ba (at_ / 4) VH Vb (by omega)) (gU (aK (fQ (ef (aj S d) root at_ (be (aj S d) (br (aj S d) root at_ (ar S d).1)).1)).toArray Vb (by simp;omega) (hcs:=by exact vk (by omega) (by omega))) (ab (gS (gM (gV (aU (vs:=fQ (ef (aj S d) root at_ (be (aj S d) (br (aj S d) root at_ (ar S d).1)).1)) V7 Vw bp) (gR (vB call230 (iY b (jY (bf true (aj S d) (br (aj S d) root at_ (ar S d).1)) (ar S d).1) (ef (aj S d) root at_ (be (aj S d) (br (aj S d) root at_ (ar S d).1)).1) false (m+4) R (by omega) (λ_=>hk3))) (gM (gX (I (be (jY (bf true (aj S d) (br (aj S d) root at_ (ar S d).1)) (ar S d).1) (ef (aj S d) root at_ (be (aj S d) (br (aj S d) root at_ (ar S d).1)).1)).1) (gX (fv 117 (be (jY (bf true (aj S d) (br (aj S d) root at_ (ar S d).1)) (ar S d).1) (ef (aj S d) root at_ (be (aj S d) (br (aj S d) root at_ (ar S d).1)).1)).2) (gA (gQ (ac (gS (gM (gV (ck Vl) (ab ?_))))))))))))))))))));apply ah<;>intro J
    ·simp at J;refine gS (gM (gA (gQ ?_)));rw[show dH S root at_ d=(0,(be (jY (bf true (aj S d) (br (aj S d) root at_ (ar S d).1)) (ar S d).1) (ef (aj S d) root at_ (be (aj S d) (br (aj S d) root at_ (ar S d).1)).1)).2) by unfold dH;simp only;rw[YC (by omega),YC (by omega),YB J],show iW S root at_ d=(bf false (jY (bf true (aj S d) (br (aj S d) root at_ (ar S d).1)) (ar S d).1) (ef (aj S d) root at_ (be (aj S d) (br (aj S d) root at_ (ar S d).1)).1)) by unfold iW;simp only;rw[YC (by omega),YC (by omega),YB J]];exact ao rfl rfl rfl
    ·simp at J;refine ai (gS (gM (gM (gR (vB call232 (lq b (bf false (jY (bf true (aj S d) (br (aj S d) root at_ (ar S d).1)) (ar S d).1) (ef (aj S d) root at_ (be (aj S d) (br (aj S d) root at_ (ar S d).1)).1)) (be (aj S d) (br (aj S d) root at_ (ar S d).1)).1 (m+4+4) Z (by omega))) (ab (gS (gM (gA (gQ ?_)))))))));rw[show dH S root at_ d=((be (jY (bf true (aj S d) (br (aj S d) root at_ (ar S d).1)) (ar S d).1) (ef (aj S d) root at_ (be (aj S d) (br (aj S d) root at_ (ar S d).1)).1)).1,0) by unfold dH;simp only;rw[YC (by omega),YC (by omega),YC (by omega)],show iW S root at_ d=k9 (bf false (jY (bf true (aj S d) (br (aj S d) root at_ (ar S d).1)) (ar S d).1) (ef (aj S d) root at_ (be (aj S d) (br (aj S d) root at_ (ar S d).1)).1)) (be (aj S d) (br (aj S d) root at_ (ar S d).1)).1 by unfold iW;simp only;rw[YC (by omega),YC (by omega),YC (by omega)]];exact ao rfl rfl rfl
   ·simp at h56;rw[show kK b (bf true (aj S d) (br (aj S d) root at_ (ar S d).1))=kK b (jY (bf true (aj S d) (br (aj S d) root at_ (ar S d).1)) (ar S d).1) by unfold jY;rw[YC (by omega)]];refine ai (gS (gM (gV (pO (EP at_ hat)) (gM (gV (ba (at_ / 4) VH Vb (by omega)) (gU (aK (fQ (ef (aj S d) root at_ (be (aj S d) (br (aj S d) root at_ (ar S d).1)).1)).toArray Vb (by simp;omega) (hcs:=by exact vk (by omega) (by omega))) (ab (gS (gM (gV (aU (vs:=fQ (ef (aj S d) root at_ (be (aj S d) (br (aj S d) root at_ (ar S d).1)).1)) V7 Vw bp) (gR (vB call230 (iY b (jY (bf true (aj S d) (br (aj S d) root at_ (ar S d).1)) (ar S d).1) (ef (aj S d) root at_ (be (aj S d) (br (aj S d) root at_ (ar S d).1)).1) false (m+4) R (by omega) (λ_=>hk3))) (gM (gX (I (be (jY (bf true (aj S d) (br (aj S d) root at_ (ar S d).1)) (ar S d).1) (ef (aj S d) root at_ (be (aj S d) (br (aj S d) root at_ (ar S d).1)).1)).1) (gX (fv 117 (be (jY (bf true (aj S d) (br (aj S d) root at_ (ar S d).1)) (ar S d).1) (ef (aj S d) root at_ (be (aj S d) (br (aj S d) root at_ (ar S d).1)).1)).2) (gA (gQ (ac (gS (gM (gV (ck Vl) (ab ?_)))))))))))))))))))));apply ah<;>intro J
    ·simp at J;refine gS (gM (gA (gQ ?_)));rw[show dH S root at_ d=(0,(be (jY (bf true (aj S d) (br (aj S d) root at_ (ar S d).1)) (ar S d).1) (ef (aj S d) root at_ (be (aj S d) (br (aj S d) root at_ (ar S d).1)).1)).2) by unfold dH;simp only;rw[YC (by omega),YC (by omega),YB J],show iW S root at_ d=(bf false (jY (bf true (aj S d) (br (aj S d) root at_ (ar S d).1)) (ar S d).1) (ef (aj S d) root at_ (be (aj S d) (br (aj S d) root at_ (ar S d).1)).1)) by unfold iW;simp only;rw[YC (by omega),YC (by omega),YB J]];exact ao rfl rfl rfl
    ·simp at J;refine ai (gS (gM (gM (gR (vB call232 (lq b (bf false (jY (bf true (aj S d) (br (aj S d) root at_ (ar S d).1)) (ar S d).1) (ef (aj S d) root at_ (be (aj S d) (br (aj S d) root at_ (ar S d).1)).1)) (be (aj S d) (br (aj S d) root at_ (ar S d).1)).1 (m+4+4) Z (by omega))) (ab (gS (gM (gA (gQ ?_)))))))));rw[show dH S root at_ d=((be (jY (bf true (aj S d) (br (aj S d) root at_ (ar S d).1)) (ar S d).1) (ef (aj S d) root at_ (be (aj S d) (br (aj S d) root at_ (ar S d).1)).1)).1,0) by unfold dH;simp only;rw[YC (by omega),YC (by omega),YC (by omega)],show iW S root at_ d=k9 (bf false (jY (bf true (aj S d) (br (aj S d) root at_ (ar S d).1)) (ar S d).1) (ef (aj S d) root at_ (be (aj S d) (br (aj S d) root at_ (ar S d).1)).1)) (be (aj S d) (br (aj S d) root at_ (ar S d).1)).1 by unfold iW;simp only;rw[YC (by omega),YC (by omega),YC (by omega)]];exact ao rfl rfl rfl
def ri (b:Nat)(S:SI)(F:List ag):Ct Tryz.prog 139 [ptr b 0] (kK b S::F) (λv L'=>∃q,v=ptr q 0/\L'=kK q S::kK b S::F):=by
 refine Ct.of func139 rR 31 ntmps139 (by simp) λw0=>?_;refine fd b (S) ?_;intro p r;refine gS (gQ (gS (gM (gV aa (gF 0 VA rR Wy (gL (ptr p 0) WC (gI (uB call209 (tC p S.B)) ?_)))))));rintro _ _ ⟨Z,rfl,rfl⟩;refine gI (fw) ?_;rintro _ _ ⟨O,rfl,rfl⟩;refine gV (aR (xJ _ rR _ rR)) (gI (di #[ptr Z 0, .map (some O)]) ?_);rintro _ _ ⟨J,rfl,rfl⟩;refine gQ ?_;refine fj r ?_;intro es clk;refine ac (gS (gM (gV aa (gF 1 VA rR VU (gL (.map (some r)) VY (gI (ii VZ) ?_))))));rintro _ _ ⟨X,rfl,rfl⟩;refine ab (al ?_);refine aM (α:=MM×MM×Option (Int×Value)) (λz=>(z.2.1++z.1).Perm (tb cl 24 S.N)) (λ_=>U [(0,ptr b 0),(3,ptr J 0),(18,ptr X 0)]) (λz=>x9 X r es clk z.1 z.2.2::sH r es clk (tb cl 24 S.N)::pt b (.cells #[ptr p 0, .map (some r)] 231 (0,0))::ml p S.B::pt J (.cells #[ptr Z 0, .map (some O)] 231 (0,0))::ml Z S.B::mp O z.2.1::F) (λz=>z.1.length) (tb cl 24 S.N,[],none) (.refl _) [0,3,18] rfl ?_;rintro ⟨rest,V,cur⟩ hp;simp only at hp;refine gS (gI j9 ?_);rintro _ _ (⟨hr,rfl,rfl⟩ | ⟨⟨k,v⟩,R,hq,rfl,rfl⟩)
 ·subst hr;have hg:V.Perm (tb cl 24 S.N):=(by simpa using hp);refine gV aH (ab (ac ?_));refine dW ?_;refine aF ?_;refine gS (gM (gQ ?_));refine ct Z O J S hg ?_;refine bQ r ?_;refine ct p r b S (.refl _) ?_;refine iR (L2:=kK J S::kK b S::F) ?_;exact λa w hE hS=>wp_ret (bX (aW (vs:=[ptr J 0]) rfl hE hS ⟨J,rfl,rfl⟩))
 ·obtain ⟨x,hx,hv,hk⟩:=uU (hp.mem_iff.1 (kaD _ (hq.mem_iff.2 (Z2 ..))));simp only at hv hk hx;subst hv;have Y:(V++(k,cl x)::R).Perm (tb cl 24 S.N):=(hq.append_left V).symm.trans hp;have hl:=yM Y (nH cl 24 S.N);refine gV aH (ab (ac ?_));refine eH ?_;refine ai (al (gS (gV ij (gX (I k) (gX (cl x) (gI (aO #[I 0,I 0,I 0,I 0,I 0] Wa) ?_))))));rintro _ _ ⟨b5,rfl,rfl⟩;refine gA (gU (ax (cs:=#[I 0,I 0,I 0,I 0,I 0]) (vs:=km x) (km x).toArray VD (by simp) (hcs:=by exact aJ)) (ab ?_));refine cO (Lf:=[pt J (.cells #[ptr Z 0, .map (some O)] 231 (0,0)),pt b5 (.cells (km x).toArray 187 (0,0))]) jA ?_;refine dM rR (dV rR aa (dF rR 1 VA rR VU (dL rR (.map (some O)) VY (dM rR (dV rR (aU (vs:=km (x)) XA VD bp) (rc rR (cn VZ Vf) ?_))))));rintro _ _ rfl;refine aP ?_;refine aG ?_;refine ap (R,l6 V k (cl x),some (k,cl x)) ((EM hl).trans Y) (by have:=hq.length_eq;simp at this;simp;omega) [0,3,18] rfl
def nV (b:Nat)(S:SI)(F:List ag):Ct Tryz.prog 138 [ptr b 0] (kK b S::F) (ww 3 1 (bZ 24 S.N).length (bz (bZ 24 S.N)) (kK b S::F)):=by
 refine Ct.of func138 rR 21 ntmps138 (by simp) λw0=>?_;refine fd b (S) ?_;intro p r;refine fj r ?_;intro es clk;refine bH 3 1 (bz []) ?_;refine gS (gQ (gS (gQ (ac (gS (gM (gV aa (gF 1 VA rR VU (gL (.map (some r)) VY (gI (ii VZ) ?_))))))))));rintro _ _ ⟨Y,rfl,rfl⟩;refine ab (al ?_);refine aM (α:=MM×List Int×Option (Int×Value)×Option Addr×Nat) (λz=>(z.2.1++z.1.map (·.1)).Perm (bZ 24 S.N)) (λz=>U [(0,ptr b 0),(9,ptr Y 0),(3,sl z.2.2.2.1 z.2.1.length z.2.2.2.2)]) (λz=>x9 Y r es clk z.1 z.2.2.1::sH r es clk (tb cl 24 S.N)::pt b (.cells #[ptr p 0, .map (some r)] 231 (0,0))::ml p S.B::bi 3 1 z.2.2.2.1 z.2.2.2.2 (bz z.2.1)::F) (λz=>z.1.length) (tb cl 24 S.N,[],none,none,0) (by rw[Zg,mW]) [0,9,3] rfl ?_;rintro ⟨rest,O,cur,s,c⟩ hp;simp only[] at hp ⊢;have hzl:O.length<=24:=(by have h1:=hp.length_eq;have h2:=ea 24 S.N;simp at h1;omega);refine gS (gI j9 ?_);rintro _ _ (⟨hr,rfl,rfl⟩ | ⟨⟨k,v⟩,J,hq,rfl,rfl⟩)
 ·subst hr;simp only[Yx,kaE] at hp;refine gV aH (ab (ac ?_));refine dW ?_;refine aF ?_;refine gS (gM (gR (vB call208 (ki O s O.length c rR (by omega))) ?_));rw[tc hp];refine ab (gS (gM (gQ ?_)));refine bQ r ?_;refine ct p r b S (.refl _) ?_;exact df rfl rfl rfl (by rw[hp.length_eq])
 ·have V:(O++k::J.map (·.1)).Perm (bZ 24 S.N):=by
   have h1:=((hq.map (·.1)).append_left O).symm.trans hp;simpa using h1
  refine gV aH (ab (ac ?_));refine eH ?_;refine ai (al (gS (gV ij (gX (I k) (gQ (am (gM (gM (gI (av [[I k]] Vi Vb VL (by simp)) ?_)))))))));rintro _ _ ⟨Z,rfl,rfl⟩;refine gI (bo Vi Vb VL Tryz.typeInfo3 (hn:=by exact bW _) (by simp) (by intro r hr;simp at hr;subst hr;rfl) ⟨by omega,by decide,by decide⟩) ?_;rintro _ _ ⟨X,R,rfl,rfl⟩;refine gQ (aG ?_);rw[show bz O++ [[I k]]=bz (O++ [k]) by simp[bz]];refine ap (J,O++ [k],some (k,v),X,R) (by simpa using V) (by have:=hq.length_eq;simp at this;simp;omega) [0,9,3] rfl (he:=by simp[U])
def na (n:Option Nd)(q:Int):Int:=match n with
 | none=>0
 | some n=>(if n.k0=q then 1 else 0)+(if n.k1=q then 1 else 0)+(if n.k2=q then 1 else 0)+(if n.k3=q then 1 else 0)
def mu (N:fU)(q:Int):List Nat->Int
 | []=>0
 | k::l=>na (N (k:Int)) q+mu N q l
def ie (N:fU)(q:Int):Int:=mu N q (List.range' 1 24)
def yQ (n:Option Nd)(q:Int):0<=na n q:=by
 cases n with
 | none=>simp[na]
 | some n=>grind[na]
def RK (n:Option Nd)(q:Int):na n q<=4:=by
 cases n with
 | none=>simp[na]
 | some n=>grind[na]
def Cz (N:fU)(q:Int):∀l,0<=mu N q l
 | []=>by simp[mu]
 | k::l=>by have:=Cz N q l;have:=yQ (N (k:Int)) q;simp only[mu];omega
def HZ (N:fU)(q:Int):∀l,mu N q l<=4*l.length
 | []=>by simp[mu]
 | k::l=>by have:=HZ N q l;have:=RK (N (k:Int)) q;grind[mu]
def mv (N:fU)(q:Int):0<=ie N q:=Cz _ _ _
def CA (N:fU)(q:Int):ie N q<=96:=by have:=HZ N q (List.range' 1 24);simp at this;exact this
def H0 {N:fU}{q:Int}{k:Nat}:∀{l:List Nat},k∈l->na (N (k:Int)) q<=mu N q l
 | [],h=>by simp at h
 | j::l,h=>by
  have h1:=Cz N q l;have J:=yQ (N (j:Int)) q;simp only[mu];rcases Y5.1 h with rfl | h
  ·omega
  ·have:=H0 (N:=N) (q:=q) h;omega
theorem rC {N:fU}{q p:Int}{x:Option Nd}:∀{l:List Nat},(∀k∈l,(k:Int)≠p)->mu (aB N p x) q l=mu N q l
 | [],_=>rfl
 | j::l,h=>by
  simp only[mu];rw[rC (λk hk=>h k (kac _ hk))]
  grind[aB]
def Bf {N:fU}{q:Int}{p:Nat}{x:Option Nd}:∀{l:List Nat},l.Nodup->p∈l->mu (aB N (p:Int) x) q l=mu N q l - na (N (p:Int)) q+na x q
 | [],_,h=>by simp at h
 | j::l,hn,h=>by
  rw[ZL] at hn;simp only[mu];by_cases hj:j=p
  ·grind[rC,aB]
  ·rcases Y5.1 h with rfl | h
   ·exact absurd rfl hj
   ·rw[Bf hn.2 h]
    grind[aB]
theorem tI {N:fU}{p:Int}(hp:1<=p/\p<=24)(x:Option Nd)(q:Int):ie (aB N p x) q=ie N q - na (N p) q+na x q:=by
 obtain ⟨k,rfl⟩:∃k:Nat,p=k:=⟨p.toNat,by omega⟩;exact Bf (ZT (step:=1)) (by grind)
def CB {N:fU}{p:Int}(hp:1<=p/\p<=24)(q:Int):na (N p) q<=ie N q:=by
 obtain ⟨k,rfl⟩:∃k:Nat,p=k:=⟨p.toNat,by omega⟩;exact H0 (by grind)
def xm (n:Nd):∀i,i<4->1<=na (some n) (bU n i)
 | 0,_=>by grind[na,bU]
 | 1,_=>by grind[na,bU]
 | 2,_=>by grind[na,bU]
 | 3,_=>by grind[na,bU]
 | i+4,h=>absurd h (by omega)
theorem CC {n:Nd}{q:Int}(h:0<na (some n) q):∃i,i<4/\bU n i=q:=by
 simp only[na] at h;by_cases h0:n.k0=q
 ·exact ⟨0,by omega,h0⟩
 ·by_cases h1:n.k1=q
  ·exact ⟨1,by omega,h1⟩
  ·by_cases J:n.k2=q
   ·exact ⟨2,by omega,J⟩
   ·by_cases O:n.k3=q
    ·exact ⟨3,by omega,O⟩
    grind
def vl {N:fU}{q:Int}:∀{l:List Nat},(∀k∈l,na (N (k:Int)) q=0)->mu N q l=0
 | [],_=>rfl
 | k::l,h=>by simp only[mu];rw[h k (by simp),vl λj hj=>h j (kac _ hj)];rfl
theorem ER (q:Int):ie (λ_=>none) q=0:=vl λ_ _=>rfl
structure Gh where
 R:fU
 L:fU
 D:Int->Option ak
 eR:Int->Int
 eL:Int->Int
 eB:Int->Int
def Ac (G:Gh):fU:=λq=>match G.R q with
 | some n=>some (rf n (G.eR q))
 | none=>(G.L q).map λn=>rf n (G.eL q+ie G.R q)
def O9 (G:Gh):pN:=λq=>(G.D q).map λd=>(d,G.eB q+ie G.L q)
def bu (G:Gh):SI:=⟨O9 G,Ac G⟩
structure Val (G:Gh):Prop where
 sR:l9 24 G.R
 sL:l9 24 G.L
 sD:l9 40 G.D
 dj:∀q,G.R q=none\/G.L q=none
 nR:∀q,0<=G.eR q
 nL:∀q,0<=G.eL q
 nB:∀q,0<=G.eB q
 pR:∀q,q≠0->((G.R q).isSome=true ↔ 0<G.eR q)
 pL:∀q,q≠0->((G.L q).isSome=true ↔ 0<G.eL q+ie G.R q)
 pD:∀q,q≠0->((G.D q).isSome=true ↔ 0<G.eB q+ie G.L q)
def del (f:Int->Int)(q:Int)(d:Int):Int->Int:=λp=>if p=q then f p+d else f p
theorem nW (f:Int->Int)(q d:Int):del f q d q=f q+d:=by simp[del]
theorem CD (f:Int->Int){q p:Int}(d:Int)(h:p≠q):del f q d p=f p:=by simp[del,h]
def RL {ρ:Type}{n:Nat}{B:Int->Option ρ}(h:l9 n B):B 0=none:=by
 cases e:B 0 with
 | none=>rfl
 | some x=>have:=h 0 x e;omega
def kL {ρ:Type}{n:Nat}{B:Int->Option ρ}(h:l9 n B){q:Int}{x:ρ}(e:B q=some x):q≠0:=by have:=h q x e;omega
theorem Val.kidR {G:Gh}(V:Val G){q:Int}{n:Nd}(h:G.R q=some n){i:Nat}(hi:i<4):bU n i=0\/∃m,G.L (bU n i)=some m:=by
 by_cases h0:bU n i=0
 ·exact .inl h0
 ·right;have h1:=CB (N:=G.R) (V.sR q n h) (bU n i);rw[h] at h1;have O:=xm n i hi;have J:=(V.pL _ h0).2 (by have:=V.nL (bU n i);omega);exact kaG.1 J
theorem Val.kidL {G:Gh}(V:Val G){q:Int}{n:Nd}(h:G.L q=some n){i:Nat}(hi:i<4):bU n i=0\/∃d,G.D (bU n i)=some d:=by
 by_cases h0:bU n i=0
 ·exact .inl h0
 ·right;have h1:=CB (N:=G.L) (V.sL q n h) (bU n i);rw[h] at h1;have O:=xm n i hi;have J:=(V.pD _ h0).2 (by have:=V.nB (bU n i);omega);exact kaG.1 J
theorem qb {G:Gh}{q:Int}{n:Nd}(h:G.R q=some n):(bu G).N q=some (rf n (G.eR q)):=by simp[bu,Ac,h]
def rD {G:Gh}(V:Val G){q:Int}{n:Nd}(h:G.L q=some n):(bu G).N q=some (rf n (G.eL q+ie G.R q)):=by
 have:G.R q=none:=(V.dj q).resolve_right (by rw[h];simp);simp[bu,Ac,h,this]
theorem mw {G:Gh}{q:Int}(h:G.R q=none)(J:G.L q=none):(bu G).N q=none:=by simp[bu,Ac,h,J]
def CE {G:Gh}{q:Int}(h:(bu G).N q=none):G.R q=none/\G.L q=none:=by
 simp only[bu,Ac] at h;cases e:G.R q with
 | some n=>rw[e] at h;cases h
 | none=>simp_all
def kn {G:Gh}{q:Int}{d:ak}(h:G.D q=some d):(bu G).B q=some (d,G.eB q+ie G.L q):=by simp[bu,O9,h]
theorem qc {G:Gh}{q:Int}(h:G.D q=none):(bu G).B q=none:=by simp[bu,O9,h]
def Tv {G:Gh}(V:Val G){m:Int}(Y:∀q,G.eR q<=m)(X:∀q,G.eL q<=m)(S:∀q,G.eB q<=m):gJ (m+96) (bu G):=by
 refine ⟨λq x e=>?_,λq x e=>?_,λq n e=>?_,λq n e=>?_⟩
 ·cases h:G.D q with
  | none=>grind[qc]
  | some d=>exact V.sD q d h
 ·cases h:G.D q with
  | none=>grind[qc]
  | some d=>
   rw[kn h] at e;injection e with e;subst e;have:=(V.pD q (kL V.sD h)).1 (by rw[h];rfl);have:=CA G.L q
   grind
 ·cases h:G.R q with
  | some n=>exact V.sR q n h
  | none=>cases J:G.L q with
   | some n=>exact V.sL q n J
   | none=>grind[mw]
 ·cases h:G.R q with
  | some O=>
   rw[qb h] at e;injection e with e;subst e;have:=(V.pR q (kL V.sR h)).1 (by rw[h];rfl)
   grind[rf]
  | none=>cases J:G.L q with
   | some O=>
    rw[rD V J] at e;injection e with e;subst e;have:=(V.pL q (kL V.sL J)).1 (by rw[J];rfl);have:=CA G.R q
    grind[rf]
   | none=>grind[mw]
def mx {S T:SI}(h1:S.B=T.B)(J:S.N=T.N):S=T:=by cases S;cases T;simp_all
def ndSub (A B:fU):Prop:=∀q n,A q=some n->B q=some n
def dSub (A B:Int->Option ak):Prop:=∀q n,A q=some n->B q=some n
def cutD (G:Gh)(b:Int):Gh:={G with eB:=del G.eB b (-1),D:=if G.eB b+ie G.L b=1 then aB G.D b none else G.D}
theorem Val.cutD {G:Gh}(V:Val G){b:Int}(O:b≠0)(he:1<=G.eB b):Val (cutD G b):=by
 have ht:=mv G.L b;refine ⟨V.sR,V.sL,?_,V.dj,V.nR,V.nL,λq=>?_,V.pR,V.pL,λq hq=>?_⟩
 ·show l9 40 (if G.eB b+ie G.L b=1 then aB G.D b none else G.D);split
  ·exact ka V.sD λe=>by cases e
  ·exact V.sD
 ·show 0<=del G.eB b (-1) q;unfold del;split
  ·grind
  ·exact V.nB q
 ·show ((if G.eB b+ie G.L b=1 then aB G.D b none else G.D) q).isSome=true ↔ 0<del G.eB b (-1) q+ie G.L q;by_cases J:q=b
  ·subst J;rw[nW];split
   ·simp[aB];omega
   ·rw[V.pD q hq];omega
  ·rw[CD _ _ J];have:(if G.eB b+ie G.L b=1 then aB G.D b none else G.D) q=G.D q:=(by grind[aB]);rw[this,V.pD q hq]
theorem ES {G:Gh}(V:Val G){b:Int}(J:b≠0)(he:1<=G.eB b):(⟨fo (bu G).B b (-1),(bu G).N⟩:SI)=bu (cutD G b):=by
 have ht:=mv G.L b;obtain ⟨d,hd⟩:=kaG.1 ((V.pD b J).2 (by omega));refine mx (funext λq=>?_) rfl;show fo (bu G).B b (-1) q=O9 (cutD G b) q;unfold fo;rw[kn hd];simp only;by_cases hq:q=b
 ·subst hq;show (aB _ _ _) q=((if G.eB q+ie G.L q=1 then aB G.D q none else G.D) q).map λd=>(d,del G.eB q (-1) q+ie G.L q)
  grind[nW,aB]
 ·show (aB _ _ _) q=((if G.eB b+ie G.L b=1 then aB G.D b none else G.D) q).map λd=>(d,del G.eB b (-1) q+ie G.L q);rw[CD _ _ hq];have:(if G.eB b+ie G.L b=1 then aB G.D b none else G.D) q=G.D q:=by split <;> simp[aB,hq]
  simp_all[aB,bu,O9]
def LZ (G:Gh)(b:Int):dSub (cutD G b).D G.D:=λq n h=>by
 change (if G.eB b+ie G.L b=1 then aB G.D b none else G.D) q=some n at h
 grind[aB]
def jc (l:List Int)(q:Int):Int:=if q=0 then 0 else (l.count q:Int)
theorem eF (k:Int)(l:List Int)(q:Int):jc (k::l) q=jc l q+if k=q/\q≠0 then 1 else 0:=by
 grind[jc]
def se (l:List Int)(q:Int):0<=jc l q:=by grind[jc]
theorem vm (n:Nd){q:Int}(hq:q≠0):jc (kd n) q=na (some n) q:=by
 grind[kd,na,jc]
structure LessD (G G':Gh):Prop where
 R:G'.R=G.R
 L:G'.L=G.L
 eR:G'.eR=G.eR
 eL:G'.eL=G.eL
 D:dSub G'.D G.D
def sf:∀(l:List Int) {G:Gh},Val G->(∀q,jc l q<=G.eB q)->∃J,Val J/\l.foldl eO (bu G)=bu J/\LessD G J/\∀q,J.eB q=G.eB q - jc l q
 | [],G,V,_=>⟨G,V,rfl,⟨rfl,rfl,rfl,rfl,λq n h=>h⟩,λq=>by simp[jc]⟩
 | k::l,G,V,h=>by
  by_cases hk:k=0
  ·subst hk;obtain ⟨J,O,e,s,hq⟩:=sf l V λq=>by grind[eF]
   grind[eO,eF]
  ·have he:1<=G.eB k:=(by have:=h k;rw[eF,YB ⟨rfl,hk⟩] at this;have:=se l k;omega);obtain ⟨J,O,e,s,hq⟩:=sf l (V.cutD hk he) λq=>by
    have:=h q;rw[eF] at this;show jc l q<=del G.eB k (-1) q
    grind[del]
   refine ⟨J,O,?_,⟨s.R,s.L,s.eR,s.eL,λq n hn=>LZ G k q n (s.D q n hn)⟩,λq=>?_⟩
   ·grind[eO,ES]
   ·rw[hq,eF];show del G.eB k (-1) q - jc l q=_
    grind[del]
structure LessL (G G':Gh):Prop where
 R:G'.R=G.R
 eR:G'.eR=G.eR
 eB:G'.eB=G.eB
 L:ndSub G'.L G.L
 D:dSub G'.D G.D
def Pa (i:Nat):bU yN i=0:=by unfold bU;split <;> rfl
def L3 (n:Nd)(r:Int)(i:Nat):bU (rf n r) i=bU n i:=by unfold bU;split <;> rfl
theorem oW {N:fU}{q:Int}{n:Nd}(h:N q=some n):gN N q=n:=by unfold gN;rw[h];rfl
theorem Val.keepL {G:Gh}(V:Val G){q:Int}(hq:q≠0)(he:1<=G.eL q)(J:2<=G.eL q+ie G.R q):Val {G with eL:=del G.eL q (-1)}:=by
 refine ⟨V.sR,V.sL,V.sD,V.dj,V.nR,λp=>?_,V.nB,V.pR,λp hp=>?_,V.pD⟩
 ·show 0<=del G.eL q (-1) p;unfold del;split
  ·grind
  ·exact V.nL p
 ·show (G.L p).isSome=true ↔ 0<del G.eL q (-1) p+ie G.R p;rw[V.pL p hp]
  grind[del]
def ET {G:Gh}(V:Val G){q:Int}(hq:q≠0)(he:1<=G.eL q)(O:2<=G.eL q+ie G.R q):k9 (bu G) q=bu {G with eL:=del G.eL q (-1)}:=by
 obtain ⟨n,hn⟩:=kaG.1 ((V.pL q hq).2 (by omega));have J:=oW (rD V hn);unfold k9 vh;rw[YC hq,J,YB (by simp only[rf];omega)];refine mx rR (funext λp=>?_);show aB (bu G).N q _ p=Ac _ p;by_cases hp:p=q
 ·subst hp;have hr:G.R p=none:=(V.dj p).resolve_right (by rw[hn];simp)
  grind[aB,Ac,rf,del]
 simp_all[aB,bu,Ac,del]
def goL (G:Gh)(q:Int)(n:Nd):Gh:={G with L:=aB G.L q none,eL:=del G.eL q (-1),eB:=λp=>G.eB p+jc (kd n) p}
def H1 {G:Gh}(V:Val G){q:Int}{n:Nd}(hn:G.L q=some n){p:Int}(hp:p≠0):G.eB p+jc (kd n) p+ie (aB G.L q none) p=G.eB p+ie G.L p:=by
 rw[tI (V.sL q n hn),hn,vm n hp];simp only[na];omega
theorem Val.goL {G:Gh}(V:Val G){q:Int}{n:Nd}(hn:G.L q=some n)(he:1<=G.eL q)(h1:G.eL q+ie G.R q=1):Val (goL G q n):=by
 have ht:=mv G.R q;refine ⟨V.sR,ka V.sL (λe=>by cases e),V.sD,λp=>?_,V.nR,λp=>?_,λp=>?_,V.pR,λp hp=>?_,λp hp=>?_⟩
 ·show G.R p=none\/aB G.L q none p=none;unfold aB;split
  ·exact .inr rfl
  ·exact V.dj p
 ·show 0<=del G.eL q (-1) p;unfold del;split
  ·grind
  ·exact V.nL p
 ·show 0<=G.eB p+jc (kd n) p;have:=V.nB p;have:=se (kd n) p;omega
 ·show (aB G.L q none p).isSome=true ↔ 0<del G.eL q (-1) p+ie G.R p;unfold aB del;split
  ·grind
  ·exact V.pL p hp
 ·show (G.D p).isSome=true ↔ 0<G.eB p+jc (kd n) p+ie (aB G.L q none) p;rw[H1 V hn hp];exact V.pD p hp
def RM {G:Gh}(V:Val G){q:Int}{n:Nd}(hn:G.L q=some n):(⟨(bu G).B,aB (bu G).N q none⟩:SI)=bu (goL G q n):=by
 refine mx (funext λp=>?_) (funext λp=>?_)
 ·show (G.D p).map _=(G.D p).map _;cases h:G.D p with
  | none=>rfl
  | some d=>
   have:=H1 V hn (kL V.sD h)
   grind[goL]
 ·show aB (bu G).N q none p=Ac (goL G q n) p;by_cases hp:p=q
  ·subst hp;have hr:G.R p=none:=(V.dj p).resolve_right (by rw[hn];simp);simp[aB,Ac,goL,hr]
  simp_all[aB,bu,Ac,goL,del]
def RN {G:Gh}(V:Val G){q:Int}(hq:q≠0)(he:1<=G.eL q):∃J,Val J/\k9 (bu G) q=bu J/\LessL G J/\J.eL=del G.eL q (-1):=by
 obtain ⟨n,hn⟩:=kaG.1 ((V.pL q hq).2 (by have:=mv G.R q;omega));by_cases O:2<=G.eL q+ie G.R q
 ·exact ⟨_,V.keepL hq he O,ET V hq he O,⟨rfl,rfl,rfl,λq n h=>h,λq n h=>h⟩,rfl⟩
 ·have h1:G.eL q+ie G.R q=1:=(by have:=mv G.R q;omega);have Y:=oW (rD V hn);obtain ⟨J,S,e,s,X⟩:=sf (kd n) (V.goL hn he h1) λp=>by
   show jc (kd n) p<=G.eB p+jc (kd n) p;have:=V.nB p;omega
  refine ⟨J,S,?_,⟨s.R,s.eR,funext λp=>?_,λp m hp=>?_,s.D⟩,s.eL⟩
  ·unfold k9 vh;rw[YC hq,Y,YC (by simp only[rf];omega),RM V hn];exact e
  ·rw[X p];show G.eB p+jc (kd n) p - jc (kd n) p=G.eB p;omega
  ·rw[s.L] at hp;change aB G.L q none p=some m at hp
   grind[aB]
def yR:∀(l:List Int) {G:Gh},Val G->(∀q,jc l q<=G.eL q)->∃J,Val J/\l.foldl k9 (bu G)=bu J/\LessL G J/\∀q,J.eL q=G.eL q - jc l q
 | [],G,V,_=>⟨G,V,rfl,⟨rfl,rfl,rfl,λq n h=>h,λq n h=>h⟩,λq=>by simp[jc]⟩
 | k::l,G,V,h=>by
  by_cases hk:k=0
  ·subst hk;obtain ⟨J,X,e,s,hq⟩:=yR l V λq=>by grind[eF]
   refine ⟨J,X,?_,s,λq=>?_⟩
   ·simp_all[k9,vh]
   grind[eF]
  ·have he:1<=G.eL k:=(by have:=h k;rw[eF,YB ⟨rfl,hk⟩] at this;have:=se l k;omega);obtain ⟨Z,Y,e1,S,O⟩:=RN V hk he;obtain ⟨J,X,e,s,hq⟩:=yR l Y λq=>by
    have:=h q;rw[eF] at this;rw[O]
    grind[del]
   refine ⟨J,X,?_,⟨s.R.trans S.R,s.eR.trans S.eR,s.eB.trans S.eB,λq n hn=>S.L q n (s.L q n hn),λq n hn=>S.D q n (s.D q n hn)⟩,λq=>?_⟩
   ·grind
   ·rw[hq,eF,O]
    grind[del]
structure LessR (G G':Gh):Prop where
 eL:G'.eL=G.eL
 eB:G'.eB=G.eB
 R:ndSub G'.R G.R
 L:ndSub G'.L G.L
 D:dSub G'.D G.D
def goR (G:Gh)(q:Int)(n:Nd):Gh:={G with R:=aB G.R q none,eR:=del G.eR q (-1),eL:=λp=>G.eL p+jc (kd n) p}
def H2 {G:Gh}(V:Val G){q:Int}{n:Nd}(hn:G.R q=some n){p:Int}(hp:p≠0):G.eL p+jc (kd n) p+ie (aB G.R q none) p=G.eL p+ie G.R p:=by
 rw[tI (V.sR q n hn),hn,vm n hp];simp only[na];omega
theorem Val.goR {G:Gh}(V:Val G){q:Int}{n:Nd}(hn:G.R q=some n)(h1:G.eR q=1):Val (goR G q n):=by
 refine ⟨ka V.sR (λe=>by cases e),V.sL,V.sD,λp=>?_,λp=>?_,λp=>?_,V.nB,λp hp=>?_,λp hp=>?_,V.pD⟩
 ·show aB G.R q none p=none\/G.L p=none;unfold aB;split
  ·exact .inl rfl
  ·exact V.dj p
 ·show 0<=del G.eR q (-1) p;unfold del;split
  ·grind
  ·exact V.nR p
 ·show 0<=G.eL p+jc (kd n) p;have:=V.nL p;have:=se (kd n) p;omega
 ·show (aB G.R q none p).isSome=true ↔ 0<del G.eR q (-1) p;unfold aB del;split
  ·grind
  ·exact V.pR p hp
 ·show (G.L p).isSome=true ↔ 0<G.eL p+jc (kd n) p+ie (aB G.R q none) p;rw[H2 V hn hp];exact V.pL p hp
def RO {G:Gh}(V:Val G){q:Int}{n:Nd}(hn:G.R q=some n):(⟨(bu G).B,aB (bu G).N q none⟩:SI)=bu (goR G q n):=by
 refine mx rR (funext λp=>?_);show aB (bu G).N q none p=Ac (goR G q n) p;by_cases hp:p=q
 ·subst hp;have hr:G.L p=none:=(V.dj p).resolve_left (by rw[hn];simp);simp[aB,Ac,goR,hr]
 ·have J:aB G.R q none p=G.R p:=(by simp[aB,hp]);have O:del G.eR q (-1) p=G.eR p:=(by simp[del,hp]);show aB (bu G).N q none p=match aB G.R q none p with
   | some n=>some (rf n (del G.eR q (-1) p))
   | none=>(G.L p).map λm=>rf m (G.eL p+jc (kd n) p+ie (aB G.R q none) p)
  rw[J,O];simp only[aB,YC hp,bu,Ac];cases hr:G.R p with
  | some m=>rfl
  | none=>cases hl:G.L p with
   | none=>rfl
   | some m=>
    have:=H2 V hn (kL V.sL hl)
    grind
def RP {G:Gh}(V:Val G){q:Int}(he:q≠0->1<=G.eR q):∃J,Val J/\rh (bu G) q=bu J/\LessR G J/\∀p,J.eR p=G.eR p - if p=q/\q≠0 then 1 else 0:=by
 by_cases hq:q=0
 ·subst hq;exact ⟨G,V,by simp[rh,vh],⟨rfl,rfl,λq n h=>h,λq n h=>h,λq n h=>h⟩,λp=>by simp⟩
 have he:=he hq;obtain ⟨n,hn⟩:=kaG.1 ((V.pR q hq).2 (by omega));have O:=oW (qb hn);by_cases Y:2<=G.eR q
 ·refine ⟨{G with eR:=del G.eR q (-1)},⟨V.sR,V.sL,V.sD,V.dj,λp=>?_,V.nL,V.nB,λp hp=>?_,V.pL,V.pD⟩,?_,⟨rfl,rfl,λq n h=>h,λq n h=>h,λq n h=>h⟩,λp=>?_⟩
  ·show 0<=del G.eR q (-1) p;unfold del;split
   ·grind
   ·exact V.nR p
  ·show (G.R p).isSome=true ↔ 0<del G.eR q (-1) p;rw[V.pR p hp]
   grind[del]
  ·unfold rh vh;rw[YC hq,O,YB (by simp only[rf];omega)];refine mx rR (funext λp=>?_);show aB (bu G).N q _ p=Ac _ p;by_cases hp:p=q
   ·grind[aB,Ac,rf,del]
   simp_all[aB,bu,Ac,del]
  grind[del]
 ·have h1:G.eR q=1:=(by omega);obtain ⟨J,S,e,s,X⟩:=yR (kd n) (V.goR hn h1) λp=>by
   show jc (kd n) p<=G.eL p+jc (kd n) p;have:=V.nL p;omega
  refine ⟨J,S,?_,⟨funext λp=>?_,s.eB,λp m hp=>?_,s.L,s.D⟩,λp=>?_⟩
  ·unfold rh vh;rw[YC hq,O,YC (by simp only[rf];omega),RO V hn];exact e
  ·rw[X p];show G.eL p+jc (kd n) p - jc (kd n) p=G.eL p;omega
  ·rw[s.R] at hp;change aB G.R q none p=some m at hp
   grind[aB]
  ·rw[s.eR];show del G.eR q (-1) p=_
   grind[del]
theorem ndSub.rfl {A:fU}:ndSub A A:=λq n h=>h
theorem ndSub.trans {A B C:fU}(h:ndSub A B)(J:ndSub B C):ndSub A C:=λq n e=>J q n (h q n e)
theorem dSub.rfl {A:Int->Option ak}:dSub A A:=λq n h=>h
theorem dSub.trans {A B C:Int->Option ak}(h:dSub A B)(J:dSub B C):dSub A C:=λq n e=>J q n (h q n e)
def Bg {A:fU}{k:Int}{n:Nd}(h:A k=none):ndSub A (aB A k (some n)):=λq m e=>by
 grind[aB]
def L4 {A:Int->Option ak}{k:Int}{n:ak}(h:A k=none):dSub A (aB A k (some n)):=λq m e=>by
 grind[aB]
def CF {G:Gh}{q:Int}{n:Nd}(h:G.R q=some n)(i:Nat):bU (gN (bu G).N q) i=bU n i:=by rw[oW (qb h),L3]
theorem yS {G:Gh}(V:Val G){q:Int}{n:Nd}(h:G.L q=some n)(i:Nat):bU (gN (bu G).N q) i=bU n i:=by rw[oW (rD V h),L3]
theorem my {G:Gh}(V:Val G)(i:Nat):bU (gN (bu G).N 0) i=0:=by
 unfold gN;rw[mw (RL V.sR) (RL V.sL)];exact Pa i
def dv (S:SI)(q:Int):ak:=(yL S.B q).1
def CG {G:Gh}{q:Int}{d:ak}(h:G.D q=some d):dv (bu G) q=d:=by unfold dv yL;rw[kn h]
def Pb {G:Gh}{q:Int}(h:G.D q=none):dv (bu G) q=[]:=by grind[dv,yL,qc]
def Pc {G:Gh}(V:Val G):dv (bu G) 0=[]:=Pb (RL V.sD)
def rt (G:Gh)(q:Int):Prop:=q=0\/∃n,G.R q=some n
def lf (G:Gh)(q:Int):Prop:=q=0\/∃n,G.L q=some n
def bl (G:Gh)(q:Int):Prop:=q=0\/∃n,G.D q=some n
theorem qd {G:Gh}(V:Val G){q:Int}(h:rt G q){i:Nat}(hi:i<4):lf G (bU (gN (bu G).N q) i):=by
 rcases h with rfl | ⟨n,h⟩
 ·exact .inl (my V i)
 ·rw[CF h];exact V.kidR h hi
theorem CH {G:Gh}(V:Val G){q:Int}(h:lf G q){i:Nat}(hi:i<4):bl G (bU (gN (bu G).N q) i):=by
 rcases h with rfl | ⟨n,h⟩
 ·exact .inl (my V i)
 ·rw[yS V h];exact V.kidL h hi
theorem H3 {G J:Gh}(V:Val G)(O:Val J)(s:ndSub G.R J.R){q:Int}(h:rt G q)(i:Nat):bU (gN (bu J).N q) i=bU (gN (bu G).N q) i:=by
 rcases h with rfl | ⟨n,h⟩
 ·rw[my V,my O]
 ·rw[CF h,CF (s q n h)]
theorem CI {G J:Gh}(V:Val G)(O:Val J)(s:ndSub G.L J.L){q:Int}(h:lf G q)(i:Nat):bU (gN (bu J).N q) i=bU (gN (bu G).N q) i:=by
 rcases h with rfl | ⟨n,h⟩
 ·rw[my V,my O]
 ·rw[yS V h,yS O (s q n h)]
theorem CJ {G J:Gh}(V:Val G)(O:Val J)(s:dSub G.D J.D){q:Int}(h:bl G q):dv (bu J) q=dv (bu G) q:=by
 rcases h with rfl | ⟨n,h⟩
 ·rw[Pc V,Pc O]
 ·rw[CG h,CG (s q n h)]
theorem xn (S:SI)(root:Int)(i:Nat):jn S root i=dv S (bU (gN S.N (bU (gN S.N root) (i / 4))) (i % 4)):=rfl
theorem nX {G J:Gh}(V:Val G)(O:Val J)(sR:ndSub G.R J.R)(sL:ndSub G.L J.L)(sD:dSub G.D J.D){root:Int}(h:rt G root){i:Nat}(hi:i<16):jn (bu J) root i=jn (bu G) root i:=by
 grind[xn,H3,qd,CI,CJ,CH]
def H4 {G J:Gh}(s:ndSub G.R J.R){q:Int}(h:rt G q):rt J q:=h.imp id λ⟨n,e⟩=>⟨n,s q n e⟩
theorem H5 {G J:Gh}(s:ndSub G.L J.L){q:Int}(h:lf G q):lf J q:=h.imp id λ⟨n,e⟩=>⟨n,s q n e⟩
def qe {G:Gh}(V:Val G){q:Int}(h:rt G q):0<=q/\q<=24:=by
 rcases h with rfl | ⟨n,h⟩
 ·omega
 ·have:=V.sR q n h;omega
def L5 {G:Gh}(V:Val G){q:Int}(h:lf G q):0<=q/\q<=24:=by
 rcases h with rfl | ⟨n,h⟩
 ·omega
 ·have:=V.sL q n h;omega
def yT {p q:Nat->Bool}(a:Nat):∀(l:List Nat),l.Nodup->(∀k∈l,k≠a->p k=true->q k=true)->(l.filter p).length<=(l.filter q).length+1
 | [],_,_=>by simp
 | k::l,hn,h=>by
  rw[ZL] at hn;by_cases hk:k=a
  ·subst hk;have h0:(l.filter p).length<=(l.filter q).length:=by
    rw[<-ZW,<-ZW];exact List.countP_mono_left λj hj hp=>h j (kac _ hj) (λe=>hn.1 (e ▸ hj)) hp
   grind
  ·have h0:=yT a l hn.2 λj hj=>h j (kac _ hj)
   grind
def CK {ρ σ:Type}{n:Nat}{A:Int->Option ρ}{B:Int->Option σ}(a:Int)(h:∀q,q≠a->(A q).isSome=true->(B q).isSome=true):(bZ n A).length<=(bZ n B).length+1:=by
 unfold bZ;rw[ZU,ZU];exact yT a.toNat _ (ZT (step:=1)) λk hk J=>h k (by grind)
theorem yU (G:Gh)(q:Int):((bu G).B q).isSome=(G.D q).isSome:=by simp[bu,O9]
theorem yV (G:Gh)(q:Int):((bu G).N q).isSome=((G.R q).isSome || (G.L q).isSome):=by
 simp only[bu,Ac];cases G.R q <;> simp
structure Blk (G G1:Gh) (d:ak) (b:Int):Prop where
 V:Val G1
 R:G1.R=G.R
 L:G1.L=G.L
 eR:G1.eR=G.eR
 eL:G1.eL=G.eL
 eB:G1.eB=if b=0 then G.eB else del G.eB b 1
 D:dSub G.D G1.D
 b0:b=0->d=[]
 b1:b≠0->G1.D b=some d
 ne:∀q,q≠b->G1.D q=G.D q
def L6 {G:Gh}(V:Val G){d:ak}{b:Int}(h:ar (bu G) d=(b,0)):∃S,aj (bu G) d=bu S/\Blk G S d b:=by
 unfold ar at h;by_cases hd:d=[]
 ·rw[YB hd] at h;injection h with h;subst h;exact ⟨G,by grind[aj],V,rfl,rfl,rfl,rfl,rfl,λq n h=>h,λ_=>hd,λh=>absurd rfl h,λq _=>rfl⟩
 ·rw[YC hd] at h;unfold ky at h;by_cases X:6<d.length\/d=[]
  ·grind
  ·rw[YC X] at h;cases R:d9 40 (bu G).B with
   | none=>grind
   | some k=>
    rw[R] at h;injection h with h;subst h;have hk:=iJ R;have O:(k:Int)≠0:=(by omega);have J:G.D k=none:=by
     have:=hk.2.1;cases e:G.D k with
     | none=>rfl
     | some x=>simp_all[kn]
    have hz:G.eB k=0/\ie G.L k=0:=by
     have h1:=V.pD k O;rw[J] at h1;have Y:=V.nB k;have Z:=mv G.L k
     grind
    refine ⟨{G with D:=aB G.D k (some d),eB:=del G.eB k 1},?_,⟨V.sR,V.sL,ka V.sD (λ_=>by omega),V.dj,V.nR,V.nL,λq=>?_,V.pR,V.pL,λq hq=>?_⟩,rfl,rfl,rfl,rfl,?_,L4 J,λh=>absurd h O,λ_=>by simp[aB],λq hq=>by simp[aB,hq]⟩
    ·unfold aj lL;rw[YC hd,YC X,R];refine mx (funext λq=>?_) rfl;show aB (bu G).B k _ q=(aB G.D k (some d) q).map λd=>(d,del G.eB k 1 q+ie G.L q);by_cases hq:q=k
     ·grind[aB,del]
     ·simp[aB,hq,del,bu,O9]
    ·show 0<=del G.eB k 1 q;unfold del;have:=V.nB q;split <;> omega
    ·show (aB G.D k (some d) q).isSome=true ↔ 0<del G.eB k 1 q+ie G.L q;unfold aB del;split
     ·grind
     ·exact V.pD q hq
    grind
theorem L7 {B:pN}{q:Int}{x:Bk}(h:B q=some x)(hx:0<x.2):fo B q 1=aB B q (some (x.1,x.2+1)):=by
 grind[fo]
def sg:∀(l:List Int) (S:SI),(∀q x,S.B q=some x->0<x.2)->(∀k∈l,k=0\/∃x,S.B k=some x)->l.foldl (dg true) S=⟨λq=>(S.B q).map λx=>(x.1,x.2+jc l q),S.N⟩
 | [],S,_,_=>mx (funext λq=>by simp_all[jc]) rfl
 | k::l,S,hp,h=>by
  rw[kao];by_cases hk:k=0
  ·subst hk;rw[show dg true S 0=S by simp[dg],sg l S hp λj hj=>h j (kac _ hj)]
   grind[eF]
  ·obtain ⟨x,hx⟩:=(h k (by simp)).resolve_left hk;have J:dg true S k=⟨aB S.B k (some (x.1,x.2+1)),S.N⟩:=(by grind[dg,L7]);rw[J,sg l _ (λq y hy=>?_) λj hj=>?_]
   ·grind[aB,eF]
   ·grind[aB]
   grind[aB]
def oX:∀(l:List Int) (S:SI),(∀k∈l,k=0\/∃x,S.N k=some x)->l.foldl (dg false) S=⟨S.B,λq=>(S.N q).map λn=>rf n (n.refs+jc l q)⟩
 | [],S,_=>mx rfl (funext λq=>by simp_all[jc,rf])
 | k::l,S,h=>by
  rw[kao];by_cases hk:k=0
  ·subst hk;rw[show dg false S 0=S by simp[dg],oX l S λj hj=>h j (kac _ hj)]
   grind[eF]
  ·obtain ⟨x,hx⟩:=(h k (by simp)).resolve_left hk;have J:dg false S k=⟨S.B,aB S.N k (some (rf x (x.refs+1)))⟩:=(by grind[dg,rB,oW]);rw[J,oX l _ λj hj=>?_]
   ·grind[aB,rf,eF]
   grind[aB]
def yW {n:Nd}{k:Int}(h:k∈kd n):∃i,i<4/\bU n i=k:=by
 simp only[kd,Y5,kaf,or_false] at h;rcases h with rfl | rfl | rfl | rfl
 ·exact ⟨0,by omega,rfl⟩
 ·exact ⟨1,by omega,rfl⟩
 ·exact ⟨2,by omega,rfl⟩
 ·exact ⟨3,by omega,rfl⟩
theorem si {n:Nd}(h:fc n)(i:Nat):bU n i=0:=by
 unfold bU;split
 ·exact h.1
 ·exact h.2.1
 ·exact h.2.2.1
 ·exact h.2.2.2
def nY {S:SI}{n:Nd}{k:Int}(h:be S n=(k,0)):(k=0/\fc n/\∀leaf,bf leaf S n=S)\/∃j:Nat,k=j/\(1<=j/\j<=24)/\S.N k=none/\¬fc n/\∀leaf,bf leaf S n=(kd n).foldl (dg leaf) ⟨S.B,aB S.N k (some (rf n 1))⟩:=by
 grind[be,bf,Go.Sl.d9,iJ]
theorem EU (S:SI)(n:Nd):(be S n).2=0\/(be S n).2=8:=by
 grind[be]
def QD {G:Gh}(V:Val G){k:Int}(hk:k≠0)(h:(bu G).N k=none):G.R k=none/\G.L k=none/\G.eR k=0/\G.eL k=0/\ie G.R k=0:=by
 have h1:=CE h;have J:=V.pR k hk;have O:=V.pL k hk;rw[h1.1] at J;rw[h1.2] at O;have S:¬(0<G.eR k):=λh=>(by simpa using J.2 h);have X:¬(0<G.eL k+ie G.R k):=λh=>(by simpa using O.2 h);have:=V.nR k;have:=V.nL k;have:=mv G.R k
 grind
def Pd {G:Gh}(V:Val G){n:Nd}{k:Int}(hk:∀i,i<4->bl G (bU n i))(h:be (bu G) n=(k,0)):(k=0/\fc n/\bf true (bu G) n=bu G)\/(k≠0/\(bu G).N k=none/\bf true (bu G) n=bu {G with L:=aB G.L k (some n),eL:=del G.eL k 1}/\Val {G with L:=aB G.L k (some n),eL:=del G.eL k 1}):=by
 rcases nY h with ⟨h1,X,O⟩ | ⟨j,h1,X,O,h4,Z⟩
 ·exact .inl ⟨h1,X,O true⟩
 ·right;have J:k≠0:=(by omega);obtain ⟨z1,z2,z3,z4,z5⟩:=QD V J O;have S:1<=k/\k<=24:=(by omega);have ht:∀q,q≠0->ie (aB G.L k (some n)) q=ie G.L q+jc (kd n) q:=λq hq=>(by grind[tI,vm,na]);refine ⟨J,O,?_,⟨V.sR,ka V.sL (λ_=>S),V.sD,λq=>?_,V.nR,λq=>?_,V.nB,V.pR,λq hq=>?_,λq hq=>?_⟩⟩
  ·rw[Z true,sg]
   ·refine mx (funext λq=>?_) (funext λq=>?_)
    ·show (O9 G q).map _=(G.D q).map _;unfold O9;cases e:G.D q with
     | none=>rfl
     | some d=>simp only[Option.map_some,ht q (kL V.sD e)];congr 2;omega
    ·show aB (bu G).N k (some (rf n 1)) q=match G.R q with
      | some n=>some (rf n (G.eR q))
      | none=>(aB G.L k (some n) q).map λm=>rf m (del G.eL k 1 q+ie G.R q)
     unfold aB del;by_cases hq:q=k
     ·grind
     ·simp only[YC hq];rfl
   ·intro q x hx;cases e:G.D q with
    | none=>grind[qc]
    | some d=>
     change (bu G).B q=some x at hx;rw[kn e] at hx;injection hx with hx;subst hx;exact (V.pD q (kL V.sD e)).1 (by rw[e];rfl)
   ·intro q hq;obtain ⟨i,hi,rfl⟩:=yW hq;exact (hk i hi).imp id λ⟨d,e⟩=>⟨_,kn e⟩
  ·show G.R q=none\/aB G.L k (some n) q=none;unfold aB;split
   ·grind
   ·exact V.dj q
  ·show 0<=del G.eL k 1 q;have:=V.nL q
   grind[del]
  ·show (aB G.L k (some n) q).isSome=true ↔ 0<del G.eL k 1 q+ie G.R q;unfold aB del;split
   ·grind
   ·exact V.pL q hq
  ·show (G.D q).isSome=true ↔ 0<G.eB q+ie (aB G.L k (some n)) q;rw[ht q hq,V.pD q hq];have h6:=se (kd n) q;have h7:=V.nB q;have h8:=mv G.L q;constructor
   ·intro h;omega
   ·intro h;by_cases Y:0<jc (kd n) q
    ·rw[vm n hq] at Y;obtain ⟨i,hi,e⟩:=CC Y;obtain ⟨d,hd⟩:=(hk i hi).resolve_left (by rw[e];exact hq);rw[e] at hd;exact (V.pD q hq).1 (by rw[hd];rfl)
    ·omega
def Pe {G:Gh}(V:Val G){n:Nd}{k:Int}(hk:∀i,i<4->lf G (bU n i))(h:be (bu G) n=(k,0)):(k=0/\fc n/\bf false (bu G) n=bu G)\/(k≠0/\(bu G).N k=none/\bf false (bu G) n=bu {G with R:=aB G.R k (some n),eR:=del G.eR k 1}/\Val {G with R:=aB G.R k (some n),eR:=del G.eR k 1}):=by
 rcases nY h with ⟨h1,Z,S⟩ | ⟨j,h1,Z,S,h4,h5⟩
 ·exact .inl ⟨h1,Z,S false⟩
 ·right;have O:k≠0:=(by omega);obtain ⟨z1,z2,z3,z4,z5⟩:=QD V O S;have Y:1<=k/\k<=24:=(by omega);have ht:∀q,q≠0->ie (aB G.R k (some n)) q=ie G.R q+jc (kd n) q:=λq hq=>(by grind[tI,vm,na]);have hc:∀q,(∀m,G.L q≠some m)->jc (kd n) q=0:=λq hq=>by
   by_cases J:q=0
   ·subst J;rfl
   ·have h6:=se (kd n) q;by_cases X:0<jc (kd n) q
    ·rw[vm n J] at X;obtain ⟨i,hi,e⟩:=CC X;obtain ⟨m,hm⟩:=(hk i hi).resolve_left (by rw[e];exact J)
     grind
    ·omega
  refine ⟨O,S,?_,⟨ka V.sR (λ_=>Y),V.sL,V.sD,λq=>?_,λq=>?_,V.nL,V.nB,λq hq=>?_,λq hq=>?_,V.pD⟩⟩
  ·rw[h5 false,oX]
   ·refine mx rR (funext λq=>?_);show (aB (bu G).N k (some (rf n 1)) q).map _=match aB G.R k (some n) q with
      | some m=>some (rf m (del G.eR k 1 q))
      | none=>(G.L q).map λm=>rf m (G.eL q+ie (aB G.R k (some n)) q)
    by_cases hq:q=k
    ·grind[aB,del,rf]
    ·have e1:aB G.R k (some n) q=G.R q:=(by simp[aB,hq]);have e2:aB (bu G).N k (some (rf n 1)) q=(bu G).N q:=(by simp[aB,hq]);have e3:del G.eR k 1 q=G.eR q:=(by simp[del,hq]);rw[e1,e2,e3];cases hr:G.R q with
     | some m=>
      have hl:G.L q=none:=(V.dj q).resolve_left (by rw[hr];simp)
      grind[qb,rf]
     | none=>cases hl:G.L q with
      | none=>rw[mw hr hl];rfl
      | some m=>
       rw[rD V hl];simp only[Option.map_some,ht q (kL V.sL hl),rf]
       grind
   ·intro q hq;obtain ⟨i,hi,rfl⟩:=yW hq;refine (hk i hi).imp id λ⟨m,e⟩=>?_;have:bU n i≠k:=λh=>(by rw[h,z2] at e;cases e);exact ⟨_,by show aB (bu G).N k _ (bU n i)=_;unfold aB;rw[YC this];exact rD V e⟩
  ·show aB G.R k (some n) q=none\/G.L q=none;unfold aB;split
   ·grind
   ·exact V.dj q
  ·show 0<=del G.eR k 1 q;have:=V.nR q
   grind[del]
  ·show (aB G.R k (some n) q).isSome=true ↔ 0<del G.eR k 1 q;unfold aB del;split
   ·grind
   ·exact V.pR q hq
  ·show (G.L q).isSome=true ↔ 0<G.eL q+ie (aB G.R k (some n)) q;rw[ht q hq,V.pL q hq];have h6:=se (kd n) q;have h7:=V.nL q;have h8:=mv G.R q;constructor
   ·intro h;omega
   ·intro h;by_cases X:0<jc (kd n) q
    ·cases hl:G.L q with
     | none=>grind
     | some m=>exact (V.pL q hq).1 (by rw[hl];rfl)
    ·omega
def gZ:Gh:=⟨λ_=>none,λ_=>none,λ_=>none,λ_=>0,λ_=>0,λ_=>0⟩
def Tw:bu gZ=⟨λ_=>none,λ_=>none⟩:=rfl
def RQ:Val gZ:=⟨pU _,pU _,pU _,λ_=> .inl rfl,λ_=>kaH _,λ_=>kaH _,λ_=>kaH _,
 λq _=>by simp[gZ],λq _=>by grind[ER,gZ],λq _=>by grind[ER,gZ]⟩
def L8 {G:Gh}(V:Val G){q:Int}(hq:rt G q):∃J,Val J/\eI (bu G) q=bu J/\J.R=G.R/\J.L=G.L/\J.D=G.D/\J.eL=G.eL/\J.eB=G.eB/\∀p,J.eR p=G.eR p+if p=q/\q≠0 then 1 else 0:=by
 by_cases h0:q=0
 ·grind[eI]
 ·obtain ⟨n,hn⟩:=hq.resolve_left h0;have hr:=V.sR q n hn;have he:=(V.pR q h0).1 (by rw[hn];rfl);refine ⟨{G with eR:=del G.eR q 1},⟨V.sR,V.sL,V.sD,V.dj,λp=>?_,V.nL,V.nB,λp hp=>?_,V.pL,V.pD⟩,?_,rfl,rfl,rfl,rfl,rfl,λp=>?_⟩
  ·show 0<=del G.eR q 1 p;have:=V.nR p
   grind[del]
  ·show (G.R p).isSome=true ↔ 0<del G.eR q 1 p;rw[V.pR p hp]
   grind[del]
  ·unfold eI rB;rw[YB (by omega),oW (qb hn)];refine mx rR (funext λp=>?_);show aB (bu G).N q _ p=Ac _ p;by_cases hp:p=q
   ·grind[aB,Ac,rf,del]
   simp_all[aB,bu,Ac,del]
  grind[del]
theorem tJ (n:Nd)(x:Int):∀i j,i<4->j<4->bU (JY n i x) j=if j=i then x else bU n j
 | 0,0,_,_=>rfl
 | 0,1,_,_=>rfl
 | 0,2,_,_=>rfl
 | 0,3,_,_=>rfl
 | 1,0,_,_=>rfl
 | 1,1,_,_=>rfl
 | 1,2,_,_=>rfl
 | 1,3,_,_=>rfl
 | 2,0,_,_=>rfl
 | 2,1,_,_=>rfl
 | 2,2,_,_=>rfl
 | 2,3,_,_=>rfl
 | 3,0,_,_=>rfl
 | 3,1,_,_=>rfl
 | 3,2,_,_=>rfl
 | 3,3,_,_=>rfl
 | i+4,_,h,_=>absurd h (by omega)
 | 0,j+4,_,h=>absurd h (by omega)
 | 1,j+4,_,h=>absurd h (by omega)
 | 2,j+4,_,h=>absurd h (by omega)
 | 3,j+4,_,h=>absurd h (by omega)
theorem H6 (f:Int->Int)(q:Int):del (del f q 1) q (-1)=f:=funext λp=>by grind[del]
structure SetOk (G G':Gh) (root:Int) (at_:Nat) (d:ak) (out:Int):Prop where
 V:Val G'
 eR:∀p,G'.eR p=G.eR p+if p=out/\out≠0 then 1 else 0
 eL:G'.eL=G.eL
 eB:G'.eB=G.eB
 R:ndSub G.R G'.R
 L:ndSub G.L G'.L
 D:dSub G.D G'.D
 o:rt G' out
 get:∀i,i<16->jn (bu G') out i=if i=at_ then d else jn (bu G) root i
 nB:(bZ 40 (bu G').B).length<=(bZ 40 (bu G).B).length+1
 nN:(bZ 24 (bu G').N).length<=(bZ 24 (bu G).N).length+2
def RR {G:Gh}{b:Int}(V:Val G)(h0:0<=b)(h:b≠0->1<=G.eB b/\1<=ie G.L b):∃J,jY (bu G) b=bu J/\Val J/\J.R=G.R/\J.L=G.L/\J.D=G.D/\J.eR=G.eR/\J.eL=G.eL/\J.eB=if b=0 then G.eB else del G.eB b (-1):=by
 unfold jY;by_cases O:b=0
 ·grind
 ·have h1:=h O;refine ⟨cutD G b,?_,V.cutD O h1.1,rfl,rfl,?_,rfl,rfl,?_⟩
  ·grind[ES]
  ·show (if G.eB b+ie G.L b=1 then aB G.D b none else G.D)=G.D;rw[YC (by omega)]
  ·rw[YC O];rfl
def EW {S:SI}{root:Int}{at_:Nat}{d:ak}{out:Int}(h:dH S root at_ d=(out,0)):∃b k,ar S d=(b,0)/\be (aj S d) (br (aj S d) root at_ b)=(k,0)/\be (jY (bf true (aj S d) (br (aj S d) root at_ b)) b) (ef (aj S d) root at_ k)=(out,0)/\iW S root at_ d=k9 (bf false (jY (bf true (aj S d) (br (aj S d) root at_ b)) b) (ef (aj S d) root at_ k)) k:=by
 grind[dH,iW]
def RS {G:Gh}(V:Val G){root:Int}{at_:Nat}{d:ak}{out:Int}(hr:rt G root)(ha:at_<16)(h:dH (bu G) root at_ d=(out,0)):∃G',iW (bu G) root at_ d=bu G'/\SetOk G G' root at_ d out:=by
 obtain ⟨b,k,hb,hl,ho,hS⟩:=EW h;obtain ⟨S,e1,J⟩:=L6 V hb;have V1:=J.V;rw[e1] at hl ho hS;have hb0:0<=b:=by
  by_cases hb:b=0
  ·omega
  ·have:=V1.sD b d (J.b1 hb);omega
 have hbl:bl S b:=by
  by_cases hb:b=0
  ·exact .inl hb
  ·exact .inr ⟨d,J.b1 hb⟩
 have hr1:rt S root:=H4 (by rw[J.R];exact ndSub.rfl) hr;have hli:at_ / 4<4:=(by omega);have hlj:at_ % 4<4:=(by omega);have hol:=qd V1 hr1 hli;have hkL:∀i,i<4->bl S (bU (br (bu S) root at_ b) i):=λi hi=>by
  grind[br,tJ,CH]
 obtain ⟨nl,hnl⟩:∃n,n=br (bu S) root at_ b:=⟨_,rfl⟩;have hnlk:∀i,i<4->bU nl i=if i=at_ % 4 then b else bU (gN (bu S).N (bU (gN (bu S).N root) (at_ / 4))) i:=λi hi=>by rw[hnl];exact tJ _ _ _ _ hlj hi
 rw[<-hnl] at hl ho hS hkL;obtain ⟨nr,hnr⟩:∃n,n=ef (bu S) root at_ k:=⟨_,rfl⟩;have hnrk:∀i,i<4->bU nr i=if i=at_ / 4 then k else bU (gN (bu S).N root) i:=λi hi=>by rw[hnr];exact tJ _ _ _ _ hli hi
 rw[<-hnr] at ho hS
 -- the leaf
 obtain ⟨Y,V2,e2,r2,d2,er2,eb2,el2,l2,k2,lk2,nn2⟩:∃Y,Val Y/\bf true (bu S) nl=bu Y/\Y.R=G.R/\Y.D=S.D/\Y.eR=G.eR/\Y.eB=S.eB/\Y.eL=(if k=0 then G.eL else del G.eL k 1)/\ndSub G.L Y.L/\lf Y k/\(∀i,i<4->bU (gN (bu Y).N k) i=bU nl i)/\(∀q,q≠k->(Y.L q).isSome=true->(G.L q).isSome=true):=by
  rcases Pd V1 hkL hl with ⟨rfl,h2,h3⟩ | ⟨h1,h2,h3,h4⟩
  ·exact ⟨S,V1,h3,J.R,rfl,J.eR,rfl,by rw[YB rfl,J.eL],by rw[J.L];exact ndSub.rfl, .inl rfl,λi _=>by rw[si h2,my V1],λq _ h=>by rw[J.L] at h;exact h⟩
  ·refine ⟨_,h4,h3,J.R,rfl,J.eR,rfl,by rw[YC h1,<-J.eL],by rw[<-J.L];exact Bg (CE h2).2, .inr ⟨nl,by simp[aB]⟩,λi _=>yS h4 (by simp[aB]) i,λq hq h=>?_⟩;change (aB S.L k (some nl) q).isSome=true at h;simpa [aB,hq,J.L] using h
 have l12:ndSub S.L Y.L:=(by rw[J.L];exact l2);rw[e2] at ho hS
 -- the block's own
 have ht2:b≠0->1<=Y.eB b/\1<=ie Y.L b:=λhb=>by
  constructor
  ·rw[eb2,J.eB,YC hb,nW];have:=V.nB b;omega
  ·have hkb:=hnlk (at_ % 4) hlj;rw[YB rfl] at hkb;have hk0:k≠0:=λhk=>by
    grind[my]
   obtain ⟨m,hm⟩:=k2.resolve_left hk0;have h5:=CB (N:=Y.L) (V2.sL k m hm) b;have h6:=xm m (at_ % 4) hlj
   grind[yS]
 obtain ⟨Z,e3,V3,r3,l3,d3,er3,el3,eb3⟩:=RR V2 hb0 ht2;rw[e3] at ho hS;have eb3':Z.eB=G.eB:=by
  rw[eb3,eb2,J.eB]
  grind[H6]
 -- the root
 have k3:lf Z k:=H5 (by rw[l3];exact ndSub.rfl) k2;have hkR:∀i,i<4->lf Z (bU nr i):=λi hi=>by
  grind[H5,qd]
 obtain ⟨O,V4,e4,d4,l4,eb4,el4,r4,er4,o4,ok4,nn4,t4⟩:∃O,Val O/\bf false (bu Z) nr=bu O/\O.D=Z.D/\O.L=Z.L/\O.eB=Z.eB/\O.eL=Z.eL/\ndSub Z.R O.R/\(∀p,O.eR p=Z.eR p+if p=out/\out≠0 then 1 else 0)/\rt O out/\(∀i,i<4->bU (gN (bu O).N out) i=bU nr i)/\(∀q,q≠out->(O.R q).isSome=true->(Z.R q).isSome=true)/\(k≠0->1<=ie O.R k):=by
  rcases Pe V3 hkR ho with ⟨rfl,h2,h3⟩ | ⟨h1,h2,h3,h4⟩
  ·refine ⟨Z,V3,h3,rfl,rfl,rfl,rfl,ndSub.rfl,λp=>by simp, .inl rfl,λi _=>by rw[si h2,my V3],λq _ h=>h,λhk=>?_⟩
   grind[si]
  ·refine ⟨_,h4,h3,rfl,rfl,rfl,rfl,Bg (CE h2).1,λp=>?_, .inr ⟨nr,by simp[aB]⟩,λi _=>CF (by simp[aB]) i,λq hq h=>?_,λhk=>?_⟩
   ·grind[del]
   ·grind[aB]
   ·have h5:=CB (N:=aB Z.R out (some nr)) (h4.sR out nr (by simp[aB])) k;have h6:=xm nr (at_ / 4) hli
    grind[aB]
 rw[e4] at hS
 -- the leaf's own
 obtain ⟨X,e5,V5,r5,d5,l5,er5,el5,eb5⟩:∃X,k9 (bu O) k=bu X/\Val X/\X.R=O.R/\X.D=O.D/\X.L=O.L/\X.eR=O.eR/\X.eL=G.eL/\X.eB=O.eB:=by
  by_cases hk:k=0
  ·subst hk;exact ⟨O,by simp[k9,vh],V4,rfl,rfl,rfl,rfl,by grind,rfl⟩
  ·have h1:O.eL k=G.eL k+1:=(by simp_all[nW]);have h2:=V.nL k;have h3:=t4 hk;refine ⟨_,ET V4 hk (by omega) (by omega),V4.keepL hk (by omega) (by omega),rfl,rfl,rfl,rfl,?_,rfl⟩
   grind[H6]
 have sR:ndSub G.R X.R:=(by grind);have sL1:ndSub S.L X.L:=(by grind);have sL:ndSub G.L X.L:=(by rw[l5,l4,l3];exact l2);have sD:dSub G.D X.D:=(by rw[d5,d4,d3,d2];exact J.D);have sD1:dSub S.D X.D:=(by grind[dSub.rfl]);have sR1:ndSub S.R X.R:=(by rw[J.R];exact sR);refine ⟨X,hS.trans e5,⟨V5,λp=>by rw[er5,er4,er3,er2],el5,by rw[eb5,eb4,eb3'],sR,sL,sD,H4 (by rw[r5];exact ndSub.rfl) o4,λi hi=>?_,?_,?_⟩⟩
 ·-- what the new root has
  have ho5:∀i,i<4->bU (gN (bu X).N out) i=bU nr i:=λi hi=>(by grind[H3,ndSub.rfl]);rw[xn,ho5 (i / 4) (by omega),hnrk (i / 4) (by omega)];by_cases h4:i / 4=at_ / 4
  ·rw[YB h4,CI V2 V5 (by grind[ndSub.rfl]) k2,lk2 _ (by omega),hnlk _ (by omega)];by_cases h5:i % 4=at_ % 4
   ·rw[YB h5,YB (by omega)];by_cases hb:b=0
    ·rw[hb,Pc V5,J.b0 hb]
    ·exact CG (sD1 b d (J.b1 hb))
   grind[CJ,xn,nX]
  ·rw[YC h4,YC (by omega)];have h6:=qd V1 hr1 (i:=i / 4) (by omega);rw[CI V1 V5 sL1 h6,CJ V1 V5 sD1 (CH V1 h6 (by omega))];exact nX V V1 (by rw[J.R];exact ndSub.rfl) (by rw[J.L];exact ndSub.rfl) J.D hr hi
 ·refine CK b λq hq h=>?_;rw[yU,d5,d4,d3,d2,J.ne q hq] at h
  grind[yU]
 ·refine Yj (CK (B:=(bu Z).N) out λq hq h=>?_) (Nat.add_le_add_right (CK k λq hq h=>?_) 1)
  ·grind[yV]
  grind[yV]
theorem CL (l:List Int)(x q:Int):jc (l++ [x]) q=jc l q+if q=x/\x≠0 then 1 else 0:=by
 grind[jc]
def RT (l:List Int)(q:Int):jc l q<=l.length:=by
 grind[jc]
def H7 {l:List Int}{q:Int}(h:q∈l)(h0:q≠0):1<=jc l q:=by
 grind[jc]
structure Rt (G:Gh) (roots:List Int):Prop where
 V:Val G
 eL:∀q,G.eL q=0
 eB:∀q,G.eB q=0
 eR:∀q,G.eR q=jc roots q
def mK {G:Gh}{J:List Int}(h:Rt G J){q:Int}(hq:q∈J):rt G q:=by
 by_cases h0:q=0
 ·exact .inl h0
 ·refine .inr (kaG.1 ((h.V.pR q h0).2 ?_));have:=H7 hq h0;rw[h.eR];omega
def J0 {G:Gh}{J:List Int}(h:Rt G J){m:Int}(hm:(J.length:Int)+96<=m):gJ m (bu G):=mo (Tv h.V (m:=J.length) (λq=>by rw[h.eR];exact RT _ _) (λq=>by rw[h.eL];omega) (λq=>by rw[h.eB];omega)) hm
def xo {G:Gh}(V:Val G){q:Int}(h:rt G q):∀i,i<4->0<=bU (gN (bu G).N q) i/\bU (gN (bu G).N q) i<=24:=λi hi=>L5 V (qd V h hi)
def Tx {G O:Gh}{J:List Int}{root out:Int}{at_:Nat}{d:ak}(h:Rt G J)(o:SetOk G O root at_ d out):Rt O (J++ [out]):=
 ⟨o.V,λq=>by rw[o.eL];exact h.eL q,λq=>by rw[o.eB];exact h.eB q,λq=>by rw[o.eR,h.eR,CL]⟩
def U8:Rt gZ [0]:=⟨RQ,λ_=>rfl,λ_=>rfl,λq=>by
 show (0:Int)=jc [0] q
 grind[jc]⟩
def RU {l:List ActM}{m:Int}(h:kJ l m=true):(l.length:Int)<=m:=by
 grind[kJ]
def xp (S:SI)(root:Int)(at_:Nat)(d:ak):0<=(dH S root at_ d).2:=by
 grind[ar,ky,EU,dH]
structure Pt where
 id:Int
 disk:Int
 size:Int
 root:Int
deriving DecidableEq
abbrev aY (p:Pt):List Value:=[I p.id,I p.disk,I p.size,I p.root]
def fE (l:List Pt):List (List Value):=l.map aY
def cQ (l:List Pt):(fE l).length=l.length:=by simp[fE]
def gC {l:List Pt}{k:Nat}{c:Pt}(h:l[k]? =some c):(fE l)[k]? =some (aY c):=by simp[fE,h]
def i6:Pt:=⟨0,0,0,0⟩
def bg (l:List Pt)(id:Int):Option Pt:=l.find? λp=>decide (p.id=id)
def GG (l:List Pt)(id:Int):Nat:=l.findIdx λp=>decide (p.id=id)
def GH (l:List Pt)(id:Int):Int:=if GG l id<l.length then (GG l id:Int) else -1
def xq {l:List Pt}{id:Int}{k:Nat}{s:Pt}(J:∀j,j<k->∀t,l[j]? =some t->t.id≠id)(hs:l[k]? =some s)(he:s.id=id):GH l id=k:=by
 grind[GG,List.findIdx_eq,GH]
def tL {l:List Pt}{id:Int}(J:∀j,j<l.length->∀t,l[j]? =some t->t.id≠id):GH l id= -1:=by
 unfold GH;rw[YC];intro h;have:=kaJ (w:=h);simp at this;exact J _ h _ (Zu h) this
def CM {l:List Pt}{id:Int}(h:¬GH l id<0):∃i s,GH l id=((i:Nat):Int)/\l[i]? =some s/\s.id=id/\i<l.length/\bg l id=some s/\∀j,j<i->∀t,l[j]? =some t->t.id≠id:=by
 unfold GH at h ⊢;split at h
 ·rename_i hl;have J:l[GG l id].id=id:=of_decide_eq_true (kaJ (p:=λp:Pt=>decide (p.id=id)) (w:=hl));have O:∀j,j<GG l id->∀t,l[j]? =some t->t.id≠id:=λj hj t ht=>by
   have h1:=kaK hj
   grind
  refine ⟨GG l id,l[GG l id],by rw[YB hl],Zu hl,J,hl,?_,O⟩
  grind[bg,List.find?_eq_some_iff_getElem]
 ·omega
def yX {l:List Pt}{id:Int}(h:GH l id<0):bg l id=none:=by
 unfold bg;rw[ZX];intro x hx;unfold GH at h;split at h
 ·omega
 ·rename_i hl;intro he;exact hl (kaM ⟨x,hx,he⟩)
theorem dS {l:List Pt}{id:Int}{p:Pt}(h:bg l id=some p):p∈l/\p.id=id:=by
 grind[bg]
def put1 (z:SI×Int)(at_:Nat)(d:ak):Except Int (SI×Int):=if (dH z.1 z.2 at_ d).2=0 then .ok (rh (iW z.1 z.2 at_ d) z.2,(dH z.1 z.2 at_ d).1) else .error (dH z.1 z.2 at_ d).2
def nt:SI×Int->List Nat->Except Int (SI×Int)
 | z,[]=> .ok z
 | z,a::l=>match put1 z a [] with
  | .ok z'=>nt z' l
  | .error e=> .error e
def eV (size:Int):SI×Int->List PutM->Except Int (SI×Int)
 | z,[]=> .ok z
 | z,p::l=>if p.at_<0\/size<=p.at_ then .error 1 else if jn z.1 z.2 p.at_.toNat=p.data then eV size z l else match put1 z p.at_.toNat p.data with
  | .ok z'=>eV size z' l
  | .error e=> .error e
def iC (S:SI)(L:List Pt)(base disk size:Int):Except Int (SI×Int):=if base=0 then .ok (S,0) else match bg L base with
 | none=> .error 5
 | some p=>if p.disk≠disk then .error 3 else nt (eI S p.root,p.root) (List.range' size.toNat (p.size.toNat - size.toNat))
def fg (L:List Pt)(n:Int):Int:=if L.length=6\/999<n then 8 else 0
abbrev VR:=Except Int (SI×List Pt×Int×Int)
def ig (S:SI)(L:List Pt)(n base disk size:Int)(puts:List PutM):VR:=if disk<1\/999<disk\/size<1\/16<size then .error 1 else match iC S L base disk size with
 | .error e=> .error e
 | .ok z=>match eV size z puts with
  | .error e=> .error e
  | .ok z=>if fg L n≠0 then .error (fg L n) else .ok (z.1,L++ [⟨n,disk,size,z.2⟩],n+1,n)
def lM (S:SI)(L:List Pt)(n id:Int):VR:=match bg L id with
 | none=> .error 5
 | some p=>if fg L n≠0 then .error (fg L n) else .ok (eI S p.root,L++ [⟨n,p.disk,p.size,p.root⟩],n+1,n)
def mz (S:SI)(L:List Pt)(n id:Int):VR:=match bg L id with
 | none=> .error 5
 | some p=> .ok (rh S p.root,L.filter (λx=>!decide (x.id=id)),n,0)
def py (S:SI)(L:List Pt)(id at_:Int):ak×Int:=match bg L id with
 | none=>([],5)
 | some p=>if at_<0\/p.size<=at_ then ([],1) else (jn S p.root at_.toNat,0)
def eP (L:List Pt)(disk keep:Int):List Int:=let l:=(L.filter λp=>decide (p.disk=disk)).map (·.id);l.take (l.length - keep.toNat)
structure Vok (S:SI) (L:List Pt) (n:Int) (G:Gh):Prop where
 e:S=bu G
 rt:Rt G (L.map (·.root))
 len:L.length<=6
 n1:1<=n/\n<=1000
 pts:∀p∈L,(1<=p.id/\p.id<n)/\(1<=p.disk/\p.disk<=999)/\(1<=p.size/\p.size<=16)
 srt:L.Pairwise λa b=>a.id<b.id
def L9 {G:Gh}{l l':List Int}(h:Rt G l)(e:∀q,jc l q=jc l' q):Rt G l':=⟨h.V,h.eL,h.eB,λq=>by rw[h.eR,e]⟩
def H8 {G:Gh}{l:List Int}(h:Rt G l):Rt G (0::l):=L9 h λq=>by
 grind[eF]
def J1 {G:Gh}{l:List Int}(h:Rt G (0::l)):Rt G l:=L9 h λq=>by
 grind[eF]
theorem RV {G:Gh}{l:List Int}{x:Int}(h:Rt G (x::l)):Rt G (l++ [x]):=L9 h λq=>by
 grind[eF,CL]
theorem qV (x:Int)(l:List Int)(q:Int):jc (x::l) q=jc l q+if q=x/\x≠0 then 1 else 0:=by
 grind[eF]
def qf {G:Gh}{l:List Int}{q:Int}(h:Rt G l)(hq:q∈l):∃J,eI (bu G) q=bu J/\Rt J (q::l)/\J.R=G.R/\J.L=G.L/\J.D=G.D:=by
 obtain ⟨J,O,e,S,X,Y,Z,e5,e6⟩:=L8 h.V (mK h hq);exact ⟨J,e,⟨O,λp=>by rw[Z];exact h.eL p,λp=>by rw[e5];exact h.eB p,λp=>by rw[e6,h.eR,qV]⟩,S,X,Y⟩
def Ma {G:Gh}{l l':List Int}{q:Int}(h:Rt G l)(hq:q∈l)(S:∀p,jc l p=jc l' p+if p=q/\q≠0 then 1 else 0):∃J,rh (bu G) q=bu J/\Rt J l'/\LessR G J:=by
 obtain ⟨J,O,e,s,R⟩:=RP h.V (q:=q) λh0=>by rw[h.eR];exact H7 hq h0
 exact ⟨J,e,⟨O,λp=>by rw[s.eL];exact h.eL p,λp=>by rw[s.eB];exact h.eB p,λp=>by rw[R,h.eR,S];omega⟩,s⟩
def tM (G G':Gh)(rs:List Int):Prop:=∀r∈rs,∀i,i<16->jn (bu G') r i=jn (bu G) r i
def yY {G J:Gh}{l l':List Int}(h:Rt G l)(S:Rt J l')(s:LessR G J)(rs:List Int)(hr:∀r∈rs,r∈l'):tM G J rs:=λr O i hi=>(nX S.V h.V s.R s.L s.D (mK S (hr r O)) hi).symm
theorem nb {G:Gh}{root:Int}{rs:List Int}{at_:Nat}{d:ak}(h:Rt G (root::rs))(hl:rs.length<=8)(ha:at_<16)(Z:(dH (bu G) root at_ d).2=0):
  ∃J O,iW (bu G) root at_ d=bu J/\gJ 200 (bu J)/\rt J root/\Val J/\rh (bu J) root=bu O/\Rt O ((dH (bu G) root at_ d).1::rs)/\
   (∀i,i<16->jn (bu O) (dH (bu G) root at_ d).1 i=if i=at_ then d else jn (bu G) root i)/\tM G O rs:=by
 obtain ⟨J,X,o⟩:=RS h.V (mK h (Z2 ..)) ha (Prod.ext rfl Z:dH (bu G) root at_ d=((dH (bu G) root at_ d).1,0));have h1:=Tx h o;obtain ⟨O,Y,S,s⟩:=Ma (l':=(dH (bu G) root at_ d).1::rs) h1 (q:=root) (by simp) λp=>by
  simp_all[CL,qV]
 have k2:=yY h1 S s ((dH (bu G) root at_ d).1::rs) λr hr=>hr;refine ⟨J,O,X,J0 h1 (by simp;omega),mK h1 (by simp),h1.V,Y,S,λi hi=>?_,λr hr i hi=>?_⟩
 ·rw[k2 _ (Z2 ..) i hi];exact o.get i hi
 ·rw[k2 _ (kac _ hr) i hi];exact nX h.V o.V o.R o.L o.D (mK h (kac _ hr)) hi
def EX {z:SI×Int}{at_:Nat}{d:ak}{e:Int}(h:put1 z at_ d= .error e):0<e:=by
 unfold put1 at h;split at h
 ·cases h
 ·injection h with h;have:=xp z.1 z.2 at_ d;omega
def EY:∀(l:List Nat) {z:SI×Int} {e:Int},nt z l= .error e->0<e
 | [],z,e,h=>by simp[nt] at h
 | a::l,z,e,h=>by
  unfold nt at h;cases hp:put1 z a [] with
  | ok J=>rw[hp] at h;exact EY l h
  | error e'=>rw[hp] at h;injection h with h;subst h;exact EX hp
def vn {size:Int}:∀(l:List PutM) {z:SI×Int} {e:Int},eV size z l= .error e->0<e
 | [],z,e,h=>by simp[eV] at h
 | p::l,z,e,h=>by
  unfold eV at h;split at h
  ·injection h with h;omega
  ·split at h
   ·exact vn l h
   ·cases hp:put1 z p.at_.toNat p.data with
    | ok J=>rw[hp] at h;exact vn l h
    | error e'=>rw[hp] at h;injection h with h;subst h;exact EX hp
def Bh {S:SI}{L:List Pt}{base disk size e:Int}(h:iC S L base disk size= .error e):0<e:=by
 unfold iC at h;split at h
 ·cases h
 ·split at h
  ·injection h with h;omega
  ·split at h
   ·injection h with h;omega
   ·exact EY _ h
theorem H9 (L:List Pt)(n:Int):fg L n=0\/fg L n=8:=by grind[fg]
def qg {S:SI}{L:List Pt}{n base disk size e:Int}{puts:List PutM}(h:ig S L n base disk size puts= .error e):0<e:=by
 unfold ig at h;split at h
 ·injection h with h;omega
 ·cases J:iC S L base disk size with
  | error e'=>rw[J] at h;injection h with h;subst h;exact Bh J
  | ok z=>
   rw[J] at h;simp only at h;cases hp:eV size z puts with
   | error e'=>rw[hp] at h;injection h with h;subst h;exact vn _ hp
   | ok O=>
    grind[H9]
def Ia {rs:List Int}(hl:rs.length<=8):∀(l:List Nat) {G:Gh} {root:Int} {z:SI×Int},Rt G (root::rs)->(∀a∈l,a<16)->nt (bu G,root) l= .ok z->
  ∃J,z.1=bu J/\Rt J (z.2::rs)/\(∀i,i<16->jn (bu J) z.2 i=if i∈l then [] else jn (bu G) root i)/\tM G J rs
 | [],G,root,z,h,_,e=>by
  simp only[nt] at e;injection e with e;subst e;exact ⟨G,rfl,h,λi _=>by simp,λr _ i _=>rfl⟩
 | a::l,G,root,z,h,R,e=>by
  unfold nt at e;cases hp:put1 (bu G,root) a [] with
  | error e'=>rw[hp] at e;cases e
  | ok z'=>
   rw[hp] at e;simp only at e;unfold put1 at hp;split at hp
   ·rename_i Y;injection hp with hp;obtain ⟨G1,G2,O,o1,r1,v1,S,X,g2,k2⟩:=nb h hl (R a (by simp)) Y;simp only at hp O;rw[O,S] at hp;subst hp;obtain ⟨J,hz,V,g',k'⟩:=Ia hl l X (λb Z=>R b (kac _ Z)) e;refine ⟨J,hz,V,λi hi=>?_,λr hr i hi=>by rw[k' r hr i hi,k2 r hr i hi]⟩
    grind
   ·cases hp
def lz (l:List PutM)(i:Nat)(d:ak):ak:=l.foldl (λd p=>if p.at_=(i:Int) then p.data else d) d
def yZ {size:Int}(hs:size<=16){rs:List Int}(hl:rs.length<=8):∀(l:List PutM) {G:Gh} {root:Int} {z:SI×Int},Rt G (root::rs)->eV size (bu G,root) l= .ok z->
  ∃J,z.1=bu J/\Rt J (z.2::rs)/\(∀i,i<16->jn (bu J) z.2 i=lz l i (jn (bu G) root i))/\tM G J rs/\∀p∈l,0<=p.at_/\p.at_<size
 | [],G,root,z,h,e=>by
  simp only[eV] at e;injection e with e;subst e;exact ⟨G,rfl,h,λi _=>rfl,(λr _ i _=>rfl),λp hp=>by simp at hp⟩
 | p::l,G,root,z,h,e=>by
  unfold eV at e;split at e
  ·cases e
  ·rename_i hb;have hb2:0<=p.at_/\p.at_<size:=(by omega);have O:∀i:Nat,i=p.at_.toNat ↔ p.at_=(i:Int):=λi=>(by omega);split at e
   ·rename_i hg;obtain ⟨J,V,S,g',X,Y⟩:=yZ hs hl l h e
    grind[lz]
   ·cases hp:put1 (bu G,root) p.at_.toNat p.data with
    | error e'=>rw[hp] at e;cases e
    | ok z'=>
     rw[hp] at e;simp only at e;unfold put1 at hp;split at hp
     ·rename_i hE;injection hp with hp;obtain ⟨G1,G2,R,o1,r1,v1,Z,h2,g2,k2⟩:=nb h hl (by omega) hE;simp only at hp R;rw[R,Z] at hp;subst hp;obtain ⟨J,V,S,g',X,Y⟩:=yZ hs hl l h2 e;refine ⟨J,V,S,λi hi=>?_,λr hr i hi=>by rw[X r hr i hi,k2 r hr i hi],λq hq=>?_⟩
      ·grind[lz]
      grind
     ·cases hp
def eJ {L:List Pt}{id:Int}{p:Pt}(h:bg L id=some p):p.root∈L.map (·.root):=Zz.2 ⟨p,(dS h).1,rfl⟩
def y0 {S:SI}{L:List Pt}{n base disk size:Int}{G:Gh}{z:SI×Int}(h:Vok S L n G)(hs:1<=size/\size<=16)(e:iC S L base disk size= .ok z):
  ∃J,z.1=bu J/\Rt J (z.2::L.map (·.root))/\tM G J (L.map (·.root))/\
   ∀i:Nat,i<16->jn (bu J) z.2 i=match (if base=0 then none else bg L base) with | none=>[] | some p=>if size<=(i:Int)/\(i:Int)<p.size then [] else jn S p.root i:=by
 have O:(L.map (·.root)).length<=8:=(by have:=h.len;simp;omega);have hS:=h.e;subst hS;unfold iC at e;by_cases X:base=0
 ·rw[YB X] at e;injection e with e;subst e;refine ⟨G,rfl,H8 h.rt,(λr _ i _=>rfl),λi _=>?_⟩;rw[YB X,xn,my h.rt.V,my h.rt.V,Pc h.rt.V]
 ·rw[YC X] at e ⊢;cases R:bg L base with
  | none=>rw[R] at e;cases e
  | some p=>
   rw[R] at e;simp only at e ⊢;split at e
   ·cases e
   ·obtain ⟨Y,hpi⟩:=dS R;have hps:=(h.pts p Y).2.2;obtain ⟨Z,e1,h1,q1,q2,q3⟩:=qf h.rt (eJ R);rw[e1] at e;obtain ⟨J,hz,h',g',k'⟩:=Ia O _ h1 (λa ha=>by grind) e;have same:∀r∈L.map (·.root),∀i,i<16->jn (bu Z) r i=jn (bu G) r i:=λr hr i hi=>nX h.rt.V h1.V (by rw[q1];exact ndSub.rfl) (by rw[q2];exact ndSub.rfl) (by rw[q3];exact dSub.rfl) (mK h.rt hr) hi;refine ⟨J,hz,h',λr hr i hi=>by rw[k' r hr i hi,same r hr i hi],λi hi=>?_⟩
    grind
def Ib {S:SI}{L:List Pt}{n disk size root:Int}{G O:Gh}(h:Vok S L n G)(V:Rt O (root::L.map (·.root)))(J:fg L n=0)(hd:1<=disk/\disk<=999)(hs:1<=size/\size<=16):Vok (bu O) (L++ [⟨n,disk,size,root⟩]) (n+1) O:=by
 unfold fg at J;have J:¬(L.length=6\/999<n):=λhh=>(by grind);have hl:=h.len;have hn:=h.n1;refine ⟨rfl,?_,by simp;omega,by omega,λp hp=>?_,?_⟩
 ·grind[RV]
 ·rcases Zn.1 hp with hp | hp
  ·have:=h.pts p hp;omega
  grind
 ·rw[kan];refine ⟨h.srt,kaN _ _,λa J b R=>?_⟩;rw[kad] at R;subst R;exact (h.pts a J).1.2
theorem CN {S:SI}{L:List Pt}{n base disk size:Int}{puts:List PutM}{G:Gh}{O:SI}{L':List Pt}{V r:Int}(h:Vok S L n G)(e:ig S L n base disk size puts= .ok (O,L',V,r)):
  ∃X root,Vok O L' V X/\tM G X (L.map (·.root))/\L'=L++ [⟨n,disk,size,root⟩]/\V=n+1/\r=n/\(1<=disk/\disk<=999)/\(1<=size/\size<=16)/\(∀p∈puts,0<=p.at_/\p.at_<size)/\
   ∀i:Nat,i<16->jn O root i=lz puts i (match (if base=0 then none else bg L base) with | none=>[] | some p=>if size<=(i:Int)/\(i:Int)<p.size then [] else jn S p.root i):=by
 unfold ig at e;split at e
 ·cases e
 ·rename_i hbd;have J:(L.map (·.root)).length<=8:=(by have:=h.len;simp;omega);cases R:iC S L base disk size with
  | error e'=>rw[R] at e;cases e
  | ok z=>
   rw[R] at e;simp only at e;obtain ⟨z1,z2⟩:=z;obtain ⟨Z,Y,h1,k1,g1⟩:=y0 h (by omega) R;simp only at Y;subst Y;cases hp:eV size (bu Z,z2) puts with
   | error e'=>rw[hp] at e;cases e
   | ok z'=>
    rw[hp] at e;simp only at e;obtain ⟨y1,y2⟩:=z';obtain ⟨G2,hy,h2,g2,k2,b2⟩:=yZ (by omega) J puts h1 hp;simp only at hy;subst hy;split at e
    ·cases e
    ·rename_i ha;injection e with e;injection e with e1 e;injection e with e2 e;injection e with e3 e4;subst e1 e2 e3 e4;refine ⟨G2,y2,Ib h h2 (Decidable.not_not.1 ha) (by omega) (by omega),λr hr i hi=>by rw[k2 r hr i hi,k1 r hr i hi],rfl,rfl,rfl,by omega,by omega,b2,λi hi=>?_⟩
     grind
theorem CO {S:SI}{L:List Pt}{n id:Int}{G:Gh}{S':SI}{L':List Pt}{Y r:Int}(h:Vok S L n G)(e:lM S L n id= .ok (S',L',Y,r)):
  ∃Z p,Vok S' L' Y Z/\bg L id=some p/\tM G Z (L.map (·.root))/\L'=L++ [⟨n,p.disk,p.size,p.root⟩]/\Y=n+1/\r=n:=by
 unfold lM at e;cases O:bg L id with
 | none=>rw[O] at e;cases e
 | some p=>
  rw[O] at e;simp only at e;split at e
  ·cases e
  ·rename_i ha;injection e with e;injection e with R e;injection e with e2 e;injection e with e3 e4;subst R e2 e3 e4;obtain ⟨X,hpi⟩:=dS O;have J:=h.pts p X;have hS:=h.e;subst hS;obtain ⟨G1,R,h1,q1,q2,q3⟩:=qf h.rt (eJ O);rw[R];exact ⟨G1,p,Ib h h1 (Decidable.not_not.1 ha) J.2.1 J.2.2,rfl,λr hr i hi=>nX h.rt.V h1.V (by rw[q1];exact ndSub.rfl) (by rw[q2];exact ndSub.rfl) (by rw[q3];exact dSub.rfl) (mK h.rt hr) hi,rfl,rfl,rfl⟩
def GI {L:List Pt}{p:Pt}(hs:L.Pairwise λa b=>a.id<b.id)(hp:p∈L)(q:Int):jc (L.map (·.root)) q=jc ((L.filter λx=>!decide (x.id=p.id)).map (·.root)) q+if q=p.root/\p.root≠0 then 1 else 0:=by
 induction L with
 | nil=>simp at hp
 | cons a L R=>
  rw[kaj] at hs;rw[Yw,qV];rcases Y5.1 hp with rfl | hp
  ·have J:L.filter (λx=>!decide (x.id=p.id))=L:=ZM.2 λb O=>by grind
   grind
  grind[qV]
def Ic {S:SI}{L:List Pt}{n id:Int}{G:Gh}{Z:SI}{L':List Pt}{X r:Int}(h:Vok S L n G)(e:mz S L n id= .ok (Z,L',X,r)):
  ∃Y p,Vok Z L' X Y/\bg L id=some p/\tM G Y (L'.map (·.root))/\L'=L.filter (λx=>!decide (x.id=id))/\X=n/\r=0:=by
 unfold mz at e;cases J:bg L id with
 | none=>rw[J] at e;cases e
 | some p=>
  rw[J] at e;simp only at e;injection e with e;injection e with O e;injection e with e2 e;injection e with e3 e4;subst O e2 e3 e4;obtain ⟨V,R⟩:=dS J;have hS:=h.e;subst hS;subst R;obtain ⟨G1,O,h1,s1⟩:=Ma (l':=(L.filter λx=>!decide (x.id=p.id)).map (·.root)) h.rt (eJ J) (GI h.srt V);rw[O];refine ⟨G1,p,⟨rfl,h1,Yj (kam _ _) h.len,h.n1,λx hx=>h.pts x (ZV.1 hx).1,List.Pairwise.sublist ZE h.srt⟩,rfl,yY h.rt h1 s1 _ λr hr=>hr,rfl,rfl,rfl⟩
def Ty:Vok (bu gZ) [] 1 gZ:=⟨rfl,J1 U8,by simp,by omega,(λp hp=>by simp at hp),List.Pairwise.nil⟩
def kM {S:SI}{L:List Pt}{n:Int}{G:Gh}(h:Vok S L n G):gJ 200 S:=by rw[h.e];exact J0 h.rt (by have:=h.len;simp;omega)
def FS (S:SI)(L:List Pt):Prop:=∀p∈L,∀i:Nat,p.size<=(i:Int)->i<16->jn S p.root i=[]
def J2 {puts:List PutM}{size:Int}(h:∀p∈puts,0<=p.at_/\p.at_<size){i:Nat}(hi:size<=(i:Int)):∀d:ak,lz puts i d=d:=by
 unfold lz
 induction puts with
 | nil=>intro d;rfl
 | cons p l J=>
  intro d;have:=h p (by simp);rw[kao,YC (by omega)]
  simp_all
def qW {G J:Gh}{L:List Pt}(h:FS (bu G) L)(k:tM G J (L.map (·.root))):FS (bu J) L:=λp hp i h1 O=>by
 rw[k _ (Zz.2 ⟨p,hp,rfl⟩) i O];exact h p hp i h1 O
def Mb {S:SI}{L:List Pt}{n base disk size:Int}{puts:List PutM}{G:Gh}{X:SI}{L':List Pt}{n' r:Int}(h:Vok S L n G)(t:FS S L)(e:ig S L n base disk size puts= .ok (X,L',n',r)):FS X L':=by
 obtain ⟨G',root,Z,k',Y,_,_,_,hs,hp,g⟩:=CN h e;have hS:=h.e;subst hS;have R:=Z.e;subst R;rw[Y];intro p J i h1 O;rcases Zn.1 J with J | J
 ·exact qW t k' p J i h1 O
 ·rw[kad] at J;subst J;simp only at h1 ⊢;rw[g i O,J2 hp h1];split
  ·rfl
  ·rename_i q hq;split
   ·rfl
   ·rename_i hn;have V:q∈L:=by
     grind[dS]
    exact t q V i (by omega) O
def Mc {S:SI}{L:List Pt}{n id:Int}{G:Gh}{R:SI}{L':List Pt}{n' r:Int}(h:Vok S L n G)(t:FS S L)(e:lM S L n id= .ok (R,L',n',r)):FS R L':=by
 obtain ⟨G',q,Z,hf,X,Y,_⟩:=CO h e;have hS:=h.e;subst hS;have O:=Z.e;subst O;rw[Y];intro p J i h1 V;rcases Zn.1 J with J | J
 ·exact qW t X p J i h1 V
 ·rw[kad] at J;subst J;exact qW t X q (dS hf).1 i h1 V
def Md {S:SI}{L:List Pt}{n id:Int}{G:Gh}{O:SI}{L':List Pt}{Z r:Int}(h:Vok S L n G)(t:FS S L)(e:mz S L n id= .ok (O,L',Z,r)):FS O L':=by
 obtain ⟨G',q,R,hf,Y,e1,_⟩:=Ic h e;have X:=h.e;subst X;have J:=R.e;subst J;refine qW (λp hp i h1 V=>t p ?_ i h1 V) Y
 grind
def Tz:FS (bu gZ) []:=λp hp=>by simp at hp
def vR (b:Nat->SI->List Pt->Int->ag)(Ev:Int->Value)(p:Nat)(F:List ag)(R:VR):Value->List ag->Prop:=λv L'=>match R with
 | .ok (S,L,n,r)=>v= .tuple #[I r,Ev 0]/\L'=b p S L n::F
 | .error e=>v= .tuple #[I 0,Ev e]/\L'=F
def S0 (b:Nat->SI->List Pt->Int->ag)(Ev:Int->Value)(p:Nat)(F:List ag)(R:VR):Value->List ag->Prop:=λv L'=>match R with
 | .ok (S,L,n,_)=>v=Ev 0/\L'=b p S L n::F
 | .error e=>v=Ev e/\L'=F
def y5 (S:SI)(L:List Pt)(n base disk size:Int):VR:=match iC S L base disk size with
 | .ok z=> .ok (z.1,L,n,z.2)
 | .error e=> .error e
def jw (L:List Pt)(n disk size root:Int):List Pt:=if fg L n=0 then L++ [⟨n,disk,size,root⟩] else L
def nZ (L:List Pt)(n:Int):Int:=if fg L n=0 then n+1 else n
def jp (L:List Pt)(n:Int):Int:=if fg L n=0 then n else 0
def UW (b:Nat)(S:SI)(L:List Pt)(n:Int)(z:Nat×Option Addr×Nat):List ag:=[pt b (.cells #[ptr z.1 0,sl z.2.1 L.length z.2.2,I n] 123 (0,0)),kK z.1 S,bi 162 4 z.2.1 z.2.2 (fE L)]
def gO (b:Nat)(S:SI)(L:List Pt)(n:Int):ag:=hx (UW b S L n)
section
variable {c:Cx}{E:dr}{L:List ag}{K:List KI}
def ik {F:List ag}(b:Nat)(S:SI)(P:List Pt)(n:Int)[R:Rem L (gO b S P n) F](k:∀x s J,G c K E (pt b (.cells #[ptr x 0,sl s P.length J,I n] 123 (0,0))::kK x S::bi 162 4 s J (fE P)::F)):G c K E L:=jl (gO b S P n) rfl λz=>k z.1 z.2.1 z.2.2
def cC {F:List ag}(b x:Nat)(s:Option Addr)(J:Nat)(S:SI)(P:List Pt)(n:Int)[O:Split L [pt b (.cells #[ptr x 0,sl s P.length J,I n] 123 (0,0)),kK x S,bi 162 4 s J (fE P)] F](k:G c K E (gO b S P n::F)):G c K E L:=
 ic (A:=UW b S P n) [pt b (.cells #[ptr x 0,sl s P.length J,I n] 123 (0,0)),kK x S,bi 162 4 s J (fE P)] (gO b S P n) (x,s,J) k
def ey {F:List ag}{R:VR}{vs:List Value}{b:Nat->SI->List Pt->Int->ag}{J:Int->Value}{p:Nat}{e:Int}(V:c.R=vR b J p F R)(he:R= .error e)(hr:gm E c.fn.results.toList=some vs)(hv:rN vs= .tuple #[I 0,J e])[S:Sub L F](hds:c.n.ds=[]:=by rfl):G c (.code .ret::K) E L:=
 λa w O X=>wp_ret (bX (aW (hds:=hds) hr O (S.sat X) (by rw[V,he];exact ⟨hv,rfl⟩)))
def nc {F:List ag}{R:VR}{vs:List Value}{b:Nat->SI->List Pt->Int->ag}{J:Int->Value}{p:Nat}{S:SI}{P:List Pt}{n r:Int}(X:c.R=vR b J p F R)(he:R= .ok (S,P,n,r))(hr:gm E c.fn.results.toList=some vs)(hv:rN vs= .tuple #[I r,J 0])[O:Sub L (b p S P n::F)](hds:c.n.ds=[]:=by rfl):G c (.code .ret::K) E L:=
 λa w V Y=>wp_ret (bX (aW (hds:=hds) hr V (O.sat Y) (by rw[X,he];exact ⟨hv,rfl⟩)))
def EZ {F:List ag}{R:VR}{vs:List Value}{b:Nat->SI->List Pt->Int->ag}{J:Int->Value}{p:Nat}{e:Int}(V:c.R=S0 b J p F R)(he:R= .error e)(hr:gm E c.fn.results.toList=some vs)(hv:rN vs=J e)[S:Sub L F](hds:c.n.ds=[]:=by rfl):G c (.code .ret::K) E L:=
 λa w O X=>wp_ret (bX (aW (hds:=hds) hr O (S.sat X) (by rw[V,he];exact ⟨hv,rfl⟩)))
def E0 {F:List ag}{R:VR}{vs:List Value}{b:Nat->SI->List Pt->Int->ag}{J:Int->Value}{p:Nat}{S:SI}{P:List Pt}{n r:Int}(X:c.R=S0 b J p F R)(he:R= .ok (S,P,n,r))(hr:gm E c.fn.results.toList=some vs)(hv:rN vs=J 0)[O:Sub L (b p S P n::F)](hds:c.n.ds=[]:=by rfl):G c (.code .ret::K) E L:=
 λa w V Y=>wp_ret (bX (aW (hds:=hds) hr V (O.sat Y) (by rw[X,he];exact ⟨hv,rfl⟩)))
def n0 {T sz cap:Nat}{rows:List (List Value)}{F:List ag}(s:Option Addr)(n:Nat)[R:OwR L s T sz cap rows F](k:G c K E (bi T sz s cap (rows.take n)::F)):G c K E L:=λa w S V=>k a w S ((R.sat V).weak λm hm=>by
 rcases hm with ⟨rfl,rfl,rfl⟩ | ⟨b,cs,hs,hm,h1,Y,J,O⟩
 ·exact .inl ⟨rfl,by simp,rfl⟩
 ·refine .inr ⟨b,cs,hs,hm,h1,by simp;omega,λr hr=>J r (Zc hr),λj row hj f v X=>O j row ?_ f v X⟩
  grind)
end
open Go.Sl Go.Proofs Go.Sort
def bh (e:Bool):ag:=λm=>
 (∃g cs t f,Tryz.prog.globalNamed "internal/strconv.uint64pow10" =some g/\m g=some (.cells cs t f,true)/\cs=(Lib.pow10Tab.map λz=>Value.int .u64 z).toArray)/\
 (e=true->∃g t f tp p,Tryz.prog.globalNamed "strconv.ErrSyntax" =some g/\m g=some (.cells #[.iface tp p] t f,true))
abbrev tabs:ag:=bh true
def vo {w0 w w':World}{L:List ag}(h:Sat w0 w L)(b:RowKit.Below w.heap.size w w'):Sat w0 w' L:=by
 obtain ⟨f,J,O⟩:=h.parts;refine ⟨b.os.trans h.os,b.tape.trans h.tape,b.output.trans h.output,Yj h.size b.size,f,λi A hA=>⟨(J i A hA).1,λk x hx=>?_⟩,O⟩;have:=(J i A hA).2 k x hx;rw[b.block k (Yk.1 this).1];exact this
def E2 {w0 w:World}{A:ag}{L:List ag}(h:Sat w0 w (A::L)):∃m:Res,m.fits w/\A m:=by
 obtain ⟨f,J,_⟩:=h.parts;exact ⟨f 0,(J 0 A rfl).2,(J 0 A rfl).1⟩
def Me {e:Bool}{w0 w:World}{L:List ag}(h:Sat w0 w (bh e::L)):Lib.TabIs Tryz.prog w "internal/strconv.uint64pow10" .u64 Lib.pow10Tab:=by
 obtain ⟨m,hm,⟨g,cs,t,f,h1,h2,rfl⟩,_⟩:=E2 h;have:=hm _ _ h2
 grind[Lib.TabIs,World.var?]
def Mf {w0 w:World}{L:List ag}(h:Sat w0 w (tabs::L)):∃tp p,w.var? Tryz.prog "strconv.ErrSyntax" =some #[.iface tp p]:=by
 obtain ⟨m,hm,_,h6⟩:=E2 h;obtain ⟨g,t,f,tp,p,h1,h2⟩:=h6 rfl;have:=hm _ _ h2
 grind[World.var?]
def Mg {e:Bool}{W w0 w:World}{L:List ag}(h:Sat w0 w (old W::L))(h1:Lib.TabIs Tryz.prog W "internal/strconv.uint64pow10" .u64 Lib.pow10Tab)(h2:e=true->∃tp p,W.var? Tryz.prog "strconv.ErrSyntax" =some #[.iface tp p]):Sat w0 w (bh e::old W::L):=by
 refine (h.dup (Pers.old W)).weak λm hm=>⟨?_,λhe=>?_⟩
 ·unfold Lib.TabIs World.var? at h1;cases hg:Tryz.prog.globalNamed "internal/strconv.uint64pow10" with
  | none=>rw[hg] at h1;cases h1
  | some g=>
   rw[hg] at h1;simp only[kaO] at h1;split at h1
   ·rename_i cs t f he;injection h1 with h1;exact ⟨g,cs,t,f,rfl,hm g _ he,h1⟩
   ·cases h1
 ·obtain ⟨tp,p,h2⟩:=h2 he;unfold World.var? at h2;cases hg:Tryz.prog.globalNamed "strconv.ErrSyntax" with
  | none=>rw[hg] at h2;cases h2
  | some g=>
   rw[hg] at h2;simp only[kaO] at h2;split at h2
   ·rename_i cs t f he;injection h2 with h2;subst h2;exact ⟨g,t,f,tp,p,rfl,hm g _ he⟩
   ·cases h2
def old_tabs {W w0 w:World}{L:List ag}(h:Sat w0 w (old W::L))(h1:Lib.TabIs Tryz.prog W "internal/strconv.uint64pow10" .u64 Lib.pow10Tab)(h2:∃tp p,W.var? Tryz.prog "strconv.ErrSyntax" =some #[.iface tp p]):Sat w0 w (tabs::old W::L):=Mg h h1 λ_=>h2
def Pf {ee:Bool}(n:Int)(h0: -9223372036854775808<=n)(h1:n<=9223372036854775807)(F:List ag):
  Ct Tryz.prog 217 [I n] (bh ee::F) (R1 (aC (Lib.itoa n)) (bh ee::F)):=λw0 w J=>by
 refine (Tryz.strconv_Itoa n h0 h1 w (Me J)).mono ?_;rintro e w' ⟨rfl,k,os,rfl⟩;exact ⟨_,qU os.toList (J.drew (w.drawn+k)),rfl,rfl⟩
def J3 (c:Nat)(R:c<=3)(F:List ag):
  Ct Tryz.prog 244 [aC [48],I c] F (R1 (aC (Lib.repeatL [48] c)) F):=λw0 w J=>by
 refine (Tryz.strings_Repeat ⟨⟨[48]⟩⟩ c w (by omega) (by show 1*c<=_;omega)).mono ?_;rintro e w' ⟨rfl,O⟩;exact ⟨_,vo J O,rfl,rfl⟩
theorem E3:∀(l:List UInt8) (J:Nat),(J+1)*10 ^ l.length<=100000->Lib.parseUint10 J l≠ .range/\∀u,Lib.parseUint10 J l= .ok u->u<(J+1)*10 ^ l.length
 | [],J,h=>by
  grind[Lib.parseUint10]
 | c::r,J,h=>by
  simp only[YF,Nat.pow_succ] at h ⊢;have hp:1<=10 ^ r.length:=Nat.one_le_pow _ _ (by decide);have h1:J+1<=(J+1)*(10 ^ r.length*10):=Nat.le_mul_of_pos_right _ (by omega);simp only[Lib.parseUint10];split
  ·rename_i hd;have O:(J*10+(c.toNat - 48)+1)*10 ^ r.length<=(J+1)*(10 ^ r.length*10):=by
    rw[show (J+1)*(10 ^ r.length*10)=((J+1)*10)*10 ^ r.length by grind];exact YQ _ (by omega)
   rw[YC (by omega),YC (by omega)];have R:=E3 r (J*10+(c.toNat - 48)) (by omega)
   grind
  grind
theorem J4 {l:List UInt8}(h:l.length<=3):Lib.parseMag l≠ .range/\∀u,Lib.parseMag l= .ok u->u<10 ^ l.length:=by
 unfold Lib.parseMag;split
 ·grind
 ·have hp:10 ^ l.length<=10 ^ 3:=Ze (by decide) h
  grind[E3]
theorem Bi {s:List UInt8}(hs:s.length=3):Lib.atoiAll s≠ .range/\∀v,Lib.atoiAll s= .ok v-> -99<=v/\v<=999:=by
 cases s with
 | nil=>simp at hs
 | cons c r=>
  grind[Lib.atoiAll,J4]
def y6 (s:List UInt8):Option Int:=match Lib.atoiAll s with | .ok v=>some v | _=>none
def Pg (s:List UInt8)(hs:s.length=3)(F:List ag):
  Ct Tryz.prog 219 [aC s] (tabs::F) (λv L'=>L'=tabs::F/\((∃n,y6 s=some n/\v= .tuple #[I n, .nilIface])\/(y6 s=none/\∃t p,v= .tuple #[I 0, .iface t (ptr p 0)]))):=λw0 w O=>by
 cases J:Lib.atoiAll s with
 | ok v=>
  refine (Tryz.strconv_Atoi_ok ⟨⟨s⟩⟩ (by show s.length<=_;omega) v J w).mono ?_;rintro e w' ⟨rfl,hw⟩;rcases hw with rfl | ⟨t,rfl⟩
  ·exact ⟨_,O,rfl, .inl ⟨v,by unfold y6;rw[J],rfl⟩⟩
  ·refine ⟨tabs::F,?_,rfl, .inl ⟨v,by unfold y6;rw[J],rfl⟩⟩;exact vo O ((Lib.bytesWorld_below w _ t))
 | range=>exact absurd J (Bi hs).1
 | _=>
  obtain ⟨S,p,hv⟩:=Mf O;refine (Tryz.strconv_Atoi_syntax_var ⟨⟨s⟩⟩ (by show s.length<=_;omega) J S p w hv).mono ?_;rintro e w' ⟨N,rfl,_,_,R⟩;exact ⟨_,vo O R,rfl, .inr ⟨by unfold y6;rw[J],_,N,rfl⟩⟩
def jd (n:Int):List UInt8:=Lib.repeatL [48] (3 - (Lib.itoa n).length)++Lib.itoa n
def mL (n:Nat):UInt8:=UInt8.ofNat (48+n)
theorem ko {n:Nat}(h:n<10):(mL n).toNat=48+n:=by
 grind[mL,UInt8.toNat_ofNat']
theorem y7 {u:Nat}(h:u<10):Lib.decDigits u=[mL u]:=by rw[Lib.decDigits,dif_pos h];rfl
theorem fF {u:Nat}(h:¬u<10):Lib.decDigits u=Lib.decDigits (u / 10)++ [mL (u % 10)]:=by rw[Lib.decDigits,dif_neg h];rfl
def tN (u:Nat):Lib.itoa (u:Int)=Lib.decDigits u:=by grind[Lib.itoa]
def y8 {u:Nat}(h:u<1000):jd (u:Int)=[mL (u / 100),mL (u / 10 % 10),mL (u % 10)]:=by
 unfold jd;rw[tN];by_cases h1:u<10
 ·rw[y7 h1,show u / 100=0 by omega,show u / 10 % 10=0 by omega,show u % 10=u by omega];rfl
 ·rw[fF h1];by_cases J:u<100
  ·rw[y7 (by omega),show u / 100=0 by omega,show u / 10 % 10=u / 10 by omega];rfl
  ·rw[fF (by omega),y7 (by omega),show u / 10 / 10=u / 100 by omega];rfl
theorem Mh:jd 1000=[49,48,48,48]:=by
 unfold jd;rw[show (1000:Int)=((1000:Nat):Int) from rfl,tN,fF (by omega),fF (by omega),fF (by omega),y7 (by omega)]
 rfl
theorem iN {n:Int}(h:0<=n/\n<=999):(jd n).length=3:=by
 obtain ⟨u,rfl⟩:∃u:Nat,n=u:=⟨n.toNat,by omega⟩;rw[y8 (by omega)];rfl
theorem E4 {n:Int}(h: -999<=n/\n<=1000):(Lib.itoa n).length<=4:=by
 by_cases h0:n<0
 ·grind[Lib.itoa,y7,fF]
 ·obtain ⟨u,rfl⟩:∃u:Nat,n=u:=⟨n.toNat,by omega⟩;rw[tN]
  grind[y7,fF]
theorem bY {n:Int}(h: -999<=n/\n<=1000):(jd n).length<=4:=by
 grind[E4,jd,Lib.repeatL_length]
def TA {c:Nat}(h:c<10)(J:Nat)(r:List UInt8)(O:J<1000):Lib.parseUint10 J (mL c::r)=Lib.parseUint10 (J*10+c) r:=by
 grind[Lib.parseUint10,ko]
theorem Ph {n:Int}(h:0<=n/\n<=999):y6 (jd n)=some n:=by
 obtain ⟨u,rfl⟩:∃u:Nat,n=u:=⟨n.toNat,by omega⟩;rw[y8 (by omega)]
 grind[y6,Lib.atoiAll,ko,Lib.parseMag,Lib.parseUint10,Option.some.injEq]
def Ie {s:List UInt8}(hs:s.length=3){v:Int}(h:y6 s=some v): -99<=v/\v<=999:=by
 grind[y6,Bi]
def y9 (s:List UInt8):Option Int:=match y6 s with | some v=>if jd v=s then some v else none | none=>none
def Mi {n:Int}(h:0<=n/\n<=999):y9 (jd n)=some n:=by grind[y9,Ph]
def J5 {s:List UInt8}(hs:s.length=3){v:Int}(h:y9 s=some v):jd v=s/\ -99<=v/\v<=999:=by
 unfold y9 at h;cases J:y6 s with
 | none=>rw[J] at h;cases h
 | some u=>
  rw[J] at h;simp only at h;split at h
  ·injection h with h;subst h;exact ⟨‹_›,Ie hs J⟩
  ·cases h
def im:Nat->List UInt8->Option (List Int)
 | 0,_=>some []
 | k+1,s=>match y9 (s.take 3) with
  | none=>none
  | some v=>(im k (s.drop 3)).map (v::·)
theorem qX:∀{k:Nat} {s:List UInt8} {l:List Int},im k s=some l->l.length=k
 | 0,s,l,h=>by grind[im]
 | k+1,s,l,h=>by
  simp only[im] at h;split at h
  ·cases h
  ·obtain ⟨l',h1,rfl⟩:=Ym.1 h;simp[qX h1]
theorem zc:∀{k:Nat} {s:List UInt8} {l:List Int},3*k<=s.length->im k s=some l->s=l.flatMap jd++s.drop (3*k)/\∀v∈l, -99<=v/\v<=999
 | 0,s,l,_,h=>by grind[im]
 | k+1,s,l,hk,h=>by
  simp only[im] at h;split at h
  ·cases h
  ·rename_i v hv;obtain ⟨l',h1,rfl⟩:=Ym.1 h;have hl:(s.take 3).length=3:=(by simp;omega);obtain ⟨J,O⟩:=J5 hl hv;obtain ⟨R,S⟩:=zc (by simp;omega) h1;refine ⟨?_,λx hx=>?_⟩
   ·grind[List.take_append_drop,List.drop_drop]
   grind
def tO:∀{l:List Int} {k:Nat} (t:List UInt8),l.length=k->(∀v∈l,0<=v/\v<=999)->im k (l.flatMap jd++t)=some l
 | [],k,t,hk,_=>by subst hk;rfl
 | v::l,k,t,hk,h=>by
  obtain ⟨k,rfl⟩:∃j,k=j+1:=⟨l.length,by simpa using hk.symm⟩;have hv:=h v (by simp);have J:=iN hv;simp only[im,Z4,Zf];rw[Zq (by omega),kaq (by omega),Mi hv,kaR (by omega),Z9 (by omega),Zg];simp only;rw[tO t (by simpa using hk) λx hx=>h x (by simp[hx])]
  rfl
def vp (k:Nat):∀(j:Nat) (s:List UInt8),im (j+k) s=(im j s).bind λl=>(im k (s.drop (3*j))).map (l++·)
 | 0,s=>by simp[im]
 | j+1,s=>by
  rw[show j+1+k=(j+k)+1 by omega];simp only[im];cases y9 (s.take 3) with
  | none=>rfl
  | some v=>
   simp only;rw[vp k j];cases im j (s.drop 3) with
   | none=>rfl
   | some l=>
    simp only[kaO,Option.map_some,kaQ,Option.map_map];rw[show 3+3*j=3*(j+1) by omega]
    rfl
def sj {j:Nat}{s:List UInt8}{l:List Int}(h:im j s=some l):im (j+1) s=(y9 ((s.drop (3*j)).take 3)).map λv=>l++ [v]:=by
 rw[vp,h];simp only[kaO,im];cases y9 ((s.drop (3*j)).take 3) <;> rfl
def zd {j k:Nat}{s:List UInt8}(h:im j s=none):im (j+k) s=none:=by rw[vp,h];rfl
end Go.Proofs.YthdjckbjjfiopabGreatDoor
namespace Go.Proofs.YthdjckbjjfiopabGreatDoor
open Go.Sl Go.Proofs
def gB (B:pN)(q:Int):Bk:=(B q).getD ([],0)
def J6 (id:Int)(x:Bk):ChangeM:=⟨98::jd id,jd x.2++x.1,false⟩
def wD (n:Nd):ak:=jd n.refs++(kd n).flatMap jd
def J7 (id:Int)(n:Nd):ChangeM:=⟨110::jd id,wD n,false⟩
def mM (p:Pt):ChangeM:=⟨112::jd p.id,jd p.disk++jd p.size++jd p.root,false⟩
def vq (n:Int):ChangeM:=⟨[120],jd n,false⟩
def dI (m:Nat)(B:pN):List ChangeM:=(bZ m B).map λq=>J6 q (gB B q)
def d6 (m:Nat)(N:fU):List ChangeM:=(bZ m N).map λq=>J7 q (gN N q)
def bD (S:SI)(L:List Pt)(n:Int):List ChangeM:=dI 40 S.B++d6 24 S.N++L.map mM++ [vq n]
structure Sm (S:SI) (L:List Pt) (n:Int):Prop where
 ok:gJ 999 S
 dat:∀q x,S.B q=some x->x.1.length<=6
 kid:∀q m,S.N q=some m->∀k∈kd m,0<=k/\k<=999
 pts:∀p∈L,(0<=p.id/\p.id<=999)/\(0<=p.disk/\p.disk<=999)/\(0<=p.size/\p.size<=999)/\(0<=p.root/\p.root<=999)
 len:L.length<=6
 n1:0<=n/\n<=1000
theorem qY (S:SI)(L:List Pt)(n:Int):(bD S L n).length=(bZ 40 S.B).length+(bZ 24 S.N).length+L.length+1:=by
 grind[bD,dI,d6]
def n4 {S:SI}{L:List Pt}{n:Int}(h:L.length<=6):(bD S L n).length<=71:=by
 grind[qY,ea]
structure PS where
 B:pN
 N:fU
 L:List Pt
 n:Int
def ps0:PS:=⟨λ_=>none,λ_=>none,[],0⟩
def eh (k:Nat)(s:ak):Option (List Int):=if s.length<3*k then none else im k s
def UX (c:ChangeM):Prop:=c.key=[120]
instance (c:ChangeM):Decidable (UX c):=by unfold UX;infer_instance
def xF (st:PS)(c:ChangeM):Option PS:=if c.val=[49,48,48,48] then some {st with n:=1000} else match eh 1 c.val with
 | some [v]=>if c.val.length=3 then some {st with n:=v} else none
 | _=>none
def bF (st:PS)(id:Int)(c:ChangeM):Option PS:=match eh 1 c.val with
 | some [r]=>if 0<r/\3<c.val.length/\c.val.length<=9 then some {st with B:=aB st.B id (some (c.val.drop 3,r))} else none
 | _=>none
def nF (st:PS)(id:Int)(c:ChangeM):Option PS:=match eh 5 c.val with
 | some [r,k0,k1,k2,k3]=>if 0<r/\c.val.length=15 then some {st with N:=aB st.N id (some ⟨k0,k1,k2,k3,r⟩)} else none
 | _=>none
def pF (st:PS)(id:Int)(c:ChangeM):Option PS:=match eh 3 c.val with
 | some [d,s,r]=>if c.val.length=9/\0<d/\0<s/\s<=16 then some {st with L:=st.L++ [⟨id,d,s,r⟩]} else none
 | _=>none
def KE (st:PS)(id:Int)(c:ChangeM):Option PS:=if c.key.head? =some 98 then bF st id c else if c.key.head? =some 110 then nF st id c else if c.key.head? =some 112 then pF st id c else none
def je (st:PS)(c:ChangeM):Option PS:=if c.key=[120] then xF st c else if c.key.length≠4\/c.gone=true then none else match eh 1 (c.key.drop 1) with
 | some [id]=>if id<1 then none else KE st id c
 | _=>none
def Pi (pv:Option ak)(c:ChangeM):Bool:=match pv with
 | none=>false
 | some p=>Op.bytesLess c.key p || decide (c.key=p)
def io:Option ak->PS->List ChangeM->Option PS
 | _,st,[]=>some st
 | pv,st,c::l=>if Pi pv c=true\/c.gone=true then none else match je st c with
  | none=>none
  | some st'=>io (some c.key) st' l
def mN (L:List Pt)(q:Int):Prop:=q≠0/\∃p∈L,p.root=q
def KF (N:fU)(L:List Pt)(q:Int):Prop:=q≠0/\∃r m,mN L r/\N r=some m/\q∈kd m
instance (L:List Pt)(q:Int):Decidable (mN L q):=by unfold mN;infer_instance
structure KindsP (N:fU) (L:List Pt):Prop where
 r:∀q,mN L q->(N q).isSome=true
 l:∀q,KF N L q->(N q).isSome=true
 dj:∀q,mN L q->¬KF N L q
 all:∀q,(N q).isSome=true->mN L q\/KF N L q
def Og (N:fU)(L:List Pt):fU:=λq=>if mN L q then N q else none
def Ig (N:fU)(L:List Pt):fU:=λq=>if mN L q then none else N q
def cN (N:fU)(L:List Pt)(q:Int):Int:=jc (L.map (·.root)) q+ie (Og N L) q
structure CountP (B:pN) (N:fU) (L:List Pt):Prop where
 nz:∀q m,N q=some m->¬fc m
 n:∀q m,N q=some m->cN N L q=m.refs
 b:∀q x,B q=some x->ie (Ig N L) q=x.2
 all:∀q,q≠0->ie (Ig N L) q≠0->(B q).isSome=true
structure WholeP (st:PS):Prop where
 len:st.L.length<=6
 n1:1<=st.n
 last:∀p,st.L.getLast? =some p->p.id<st.n
 sN:l9 24 st.N
 sB:l9 40 st.B
 kinds:KindsP st.N st.L
 counted:CountP st.B st.N st.L
 within:FS ⟨st.B,st.N⟩ st.L
structure Pok (st:PS):Prop where
 sB:l9 999 st.B
 sN:l9 999 st.N
 b:∀q x,st.B q=some x->(0<x.2/\x.2<=999)/\x.1≠ []/\x.1.length<=6
 n:∀q m,st.N q=some m->(0<m.refs/\m.refs<=999)/\∀k∈kd m, -99<=k/\k<=999
 p:∀p∈st.L,(1<=p.id/\p.id<=999)/\(0<p.disk/\p.disk<=999)/\(0<p.size/\p.size<=16)/\(-99<=p.root/\p.root<=999)
 n1:st.n<=1000/\ -99<=st.n
def TB:Pok ps0:=⟨pU _,pU _,(λq x h=>by cases h),(λq x h=>by cases h),(λp h=>by simp[ps0] at h),by simp[ps0]⟩
def hJ {k:Nat}{s:ak}{l:List Int}(h:eh k s=some l):l.length=k/\3*k<=s.length:=by
 grind[eh,qX]
def fm {k:Nat}{s:ak}{l:List Int}(h:eh k s=some l):s=l.flatMap jd++s.drop (3*k)/\∀v∈l, -99<=v/\v<=999:=by
 grind[eh,zc]
def RW {l:List Int}(h:l.length=1):∃a,l=[a]:=by
 match l,h with
 | [a],_=>exact ⟨a,rfl⟩
def UF {l:List Int}(h:l.length=3):∃a b c,l=[a,b,c]:=by
 match l,h with
 | [a,b,c],_=>exact ⟨a,b,c,rfl⟩
def UG {l:List Int}(h:l.length=5):∃a b c d e,l=[a,b,c,d,e]:=by
 match l,h with
 | [a,b,c,d,e],_=>exact ⟨a,b,c,d,e,rfl⟩
def Ih {ρ:Type}{B:Int->Option ρ}{P:ρ->Prop}(h:∀q x,B q=some x->P x){id:Int}{y:ρ}(hy:P y):∀q x,aB B id (some y) q=some x->P x:=λq x e=>by
 grind[aB]
def Pj {st O:PS}{c:ChangeM}(h:Pok st)(e:je st c=some O):Pok O:=by
 unfold je at e;split at e
 ·unfold xF at e;split at e
  ·injection e with e;subst e;exact ⟨h.sB,h.sN,h.b,h.n,h.p,by simp⟩
  ·split at e
   ·rename_i v hv;split at e
    ·injection e with e;subst e;have:=(fm hv).2 v (by simp);exact ⟨h.sB,h.sN,h.b,h.n,h.p,by simp only;omega⟩
    ·cases e
   ·cases e
 ·split at e
  ·cases e
  ·split at e
   ·rename_i id R;have hr:=(fm R).2 id (by simp);split at e
    ·cases e
    ·have J:1<=id/\id<=((999:Nat):Int):=(by omega);unfold KE at e;split at e
     ·unfold bF at e;split at e
      ·rename_i r hv;have:=(fm hv).2 r (by simp);split at e
       ·injection e with e;subst e;exact ⟨ka h.sB λ_=>J,h.sN,Ih (P:=λx:Bk=>(0<x.2/\x.2<=999)/\x.1≠ []/\x.1.length<=6) h.b ⟨by simp only;omega,by simp_all,by simp;omega⟩,h.n,h.p,h.n1⟩
       ·cases e
      ·cases e
     ·split at e
      ·unfold nF at e;split at e
       ·rename_i r k0 k1 k2 k3 hv;have hv:=(fm hv).2;split at e
        ·injection e with e;subst e;refine ⟨h.sB,ka h.sN λ_=>J,h.b,Ih (P:=λm:Nd=>(0<m.refs/\m.refs<=999)/\∀k∈kd m, -99<=k/\k<=999) h.n ⟨?_,?_⟩,h.p,h.n1⟩
         ·simp_all
         grind[kd]
        ·cases e
       ·cases e
      ·split at e
       ·unfold pF at e;split at e
        ·rename_i d s r hv;have hv:=(fm hv).2;split at e
         ·injection e with e;subst e;refine ⟨h.sB,h.sN,h.b,h.n,λp hp=>?_,h.n1⟩;rcases Zn.1 hp with hp | hp
          ·exact h.p p hp
          simp_all
         ·cases e
        ·cases e
       ·cases e
   ·cases e
def Ii {st:PS}{id:Int}{c:ChangeM}(h:c.key.head? =some 98):KE st id c=bF st id c:=by unfold KE;rw[YB h]
def CP {st:PS}{id:Int}{c:ChangeM}(h:c.key.head? =some 110):KE st id c=nF st id c:=by grind[KE]
def CQ {st:PS}{id:Int}{c:ChangeM}(h:c.key.head? =some 112):KE st id c=pF st id c:=by grind[KE]
theorem ze {n:Nd}:∀{i:Nat},i<4->bU n i∈kd n
 | 0,_=>by simp[kd,bU]
 | 1,_=>by simp[kd,bU]
 | 2,_=>by simp[kd,bU]
 | 3,_=>by simp[kd,bU]
 | i+4,h=>absurd h (by omega)
end Go.Proofs.YthdjckbjjfiopabGreatDoor