/- Several texts in one: walks and rules used by them. No condition. -/
import Derived.Test.YthdjckbjjfiopabGreatDoorCnsA
import Derived.Test.YthdjckbjjfiopabGreatDoorCnsC
import Derived.Test.YthdjckbjjfiopabGreatDoorShelf
import Derived.Test.YthdjckbjjfiopabGreatDoorCnsB
set_option linter.unusedSimpArgs false
set_option linter.unusedVariables false
set_option synthInstance.maxSize 9999
set_option synthInstance.maxHeartbeats 0
set_option linter.defProp false
set_option maxHeartbeats 800000
namespace Go.Proofs.YthdjckbjjfiopabGreatDoor
open Go.Sl Go.Proofs Go.Sort
def rg {w0 L}:∀(l:List Obj) {w:World},Sat w0 w L->Sat w0 {w with heap:=w.heap++l.toArray} L
 | [],w,h=>by simpa using h
 | o::l,w,h=>by
  have:=rg l (h.alloc o).tail;have e:w.heap++(o::l).toArray=w.heap.push o++l.toArray:=(by apply Array.ext';simp);rw[e];exact this
def E3 (J:List Int)cs k(h:k<J.length)(O:J.length<=cs.size):(putCells (Value.int .i64) 0 J.toArray cs)[k]? =some (I J[k]):=by
 have:k<cs.size:=(by omega);simp[putCells,this,h,I]
def kG J s n cap(hn:n=J.length)(S:J.length<4611686018427387904)F:
  cqq 208 [sl s n cap] (be 3 1 s cap (bc J)::F) (R1 (.tuple #[]) (be 3 1 s cap (bc (J.mergeSort λx y=>decide (x<=y)))::F)):=λw0 w hS=>by
 subst hn;rcases dA hS with ⟨rfl,hr,rfl,R⟩ | ⟨b,cs,rfl,h1,Z,h3,h4,R⟩
 ·have hz:J=[]:=(by simpa [bc] using hr);subst hz;refine (Tryz.slices_Sort_int_none none 0 w).mono ?_;rintro e w' ⟨rfl,rfl⟩;exact ⟨_,hS,rfl,by simp[List.mergeSort]⟩
 ·have V:=R.at_;have X:J.length<=cs.size:=(by simp[bc] at Z;omega);have hH:Holds (Value.int .i64) w b 0 J.toArray:=λj hj=>by
   have O:j<J.length:=(by simpa using hj);have hc:=h4 j [I J[j]] (by simp[bc,O]) 0 (I J[j]) rfl;have:=iu V hc;refine ⟨?_,by simp[World.frozen?,V]⟩;simpa [O,I] using this
  refine (Tryz.slices_Sort_int b 0 cap J w hH (kaC.1 V).1 S).mono ?_;rintro e w' ⟨rfl,m,os,rfl⟩;have hml:(J.mergeSort λx y=>decide (x<=y)).length=J.length:=(by simp);have e1:putRow (Value.int .i64) (Sort.ahead w m) b 0 (J.mergeSort λx y=>decide (x<=y)).toArray={(Sort.ahead w m) with heap:=(Sort.ahead w m).heap.setIfInBounds b (.cells (putCells (Value.int .i64) 0 (J.mergeSort λx y=>decide (x<=y)).toArray cs) 3 (0,0))}:=by
   unfold putRow mapBlock;congr 1;apply kbg;intro i;rw[kbY,kcT];have S:=(kaC.1 V).1;show (if b=i then _ else _)=_;by_cases hk:b=i
   ·subst hk;have he:(Sort.ahead w m).heap[b]? =some (.cells cs 3 (0,0)):=V;rw[kaT rfl,kaT rfl,he,kaT (by exact S)]
    rfl
   ·rw[kaU hk,kaU hk]
  rw[e1];have hS2:=(R.drew (w.drawn+m)).set (w':={(Sort.ahead w m) with heap:=(Sort.ahead w m).heap.setIfInBounds b (.cells (putCells (Value.int .i64) 0 (J.mergeSort λx y=>decide (x<=y)).toArray cs) 3 (0,0))}) rfl;have hS3:=rg os.toList hS2;refine ⟨_,fu (cap:=cap) (sz:=1) (rows:=bc (J.mergeSort λx y=>decide (x<=y))) hS3 (by simp[putCells,h1]) (by simp[bc] at Z ⊢;exact Z) (by simp[bc]) ?_,rfl,rfl⟩;intro j row hj f v hf;have O:j<(J.mergeSort λx y=>decide (x<=y)).length:=by
   have:=(kaz.1 hj).1;simpa [bc] using this
  have Y:row=[I (J.mergeSort λx y=>decide (x<=y))[j]]:=by
   simp only[bc,kbL,kbN O,Option.map_some] at hj;injection hj with hj;exact hj.symm
  subst Y;have hf0:f=0:=by
   have:=(kaz.1 hf).1;simp at this;exact this
  subst hf0;simp at hf;simp only[bK,ka9,Nat.mul_one,kbE];rw[E3 _ _ _ O (by rw[hml];exact X),<-hf]
end Go.Proofs.YthdjckbjjfiopabGreatDoor
namespace Go.Proofs.YthdjckbjjfiopabGreatDoor
open _root_.Go.Proofs.Tryz
open Go.Sl Go.Proofs
abbrev Bk:=List UInt8×Int
abbrev qc:=Int->Option Bk
abbrev cP (x:Bk):Value:= .agg [ay x.1,I x.2].toArray
def Xf (b:Nat)(B:qc)(r:Nat):List ag:=[pcc b #[.map (some r)] 234,mp r (tb cP 40 B)]
def nj (b:Nat)(B:qc):ag:=hx (Xf b B)
def VC (B:qc):Prop:=mE 40 B/\∀q x,B q=some x->0<x.2/\x.2<9223372036854775807
def kH (B:qc)(d:Bytes):Int×Int:=if 6<d.length\/d=[] then (0,3) else match ef 40 B with | none=>(0,8) | some k=>(k,0)
def mj (B:qc)(d:Bytes):qc:=if 6<d.length\/d=[] then B else match ef 40 B with | none=>B | some k=>aD B k (some (d,1))
def wQ (B:qc)(q:Int):Bytes×Int:=match B q with | none=>([],5) | some x=>(x.1,0)
def rG (B:qc)(q:Int):Int:=if (B q).isSome then 0 else 5
def fB (B:qc)(q n:Int):qc:=match B q with | none=>B | some x=>aD B q (if x.2+n=0 then none else some (x.1,x.2+n))
variable {ρ:Type}
theorem vw B k(x y:Option ρ):aD (aD B k x) k y=aD B k y:=funext λq=>by grind[aD]
variable {c:Cx}{E:di}{F L:List ag}{K:List KI}
def kI b B[R:Rem L (nj b B) F](k:∀r,G c K E (pcc b #[.map (some r)] 234::mp r (tb cP 40 B)::F)):G c K E L:=ji (nj b B) rfl λz=>k z
def dZ {bq}r b B(h:bq.Perm (tb cP 40 B))[S:Split L [pcc b #[.map (some r)] 234,mp r bq] F](k:G c K E (nj b B::F)):G c K E L:=λa w R V=>by
 have h1:Sat c.w0 w (pcc b #[.map (some r)] 234::mp r bq::F):=S.sat V;have Y:Split (mp r bq::F) [] (mp r bq::F):=inferInstance;refine k a w R<|Sat.hx_mk (cB:=Xf b B) r ?_;have r2:Rem (pcc b #[.map (some r)] 234::mp r bq::F) (mp r bq) (pcc b #[.map (some r)] 234::F):=inferInstance;have J:=(r2.sat h1).ex;obtain ⟨⟨es,clk⟩,J⟩:=J;have O:Sat c.w0 w (mp r (tb cP 40 B)::pcc b #[.map (some r)] 234::F):=Sat.ex_mk (cB:=λp:Array MapEntry×Nat=>λm=>MOk p.1 p.2 (tb cP 40 B)/\m r=some (.map p.1 p.2,false)) (es,clk) (J.weak λm hm=>⟨hm.1.perm_ h,hm.2⟩);have X:Rem (mp r (tb cP 40 B)::pcc b #[.map (some r)] 234::F) (pcc b #[.map (some r)] 234) (mp r (tb cP 40 B)::F):=inferInstance;exact X.sat O
def Hc {B:qc}(h:mE 40 B)q:lk (tb cP 40 B) q=(B q).map cP:=GK cP h q
variable {k:Int}
def E4 {J rest v}(h:lk J k=none):(mD J k v++rest).Perm (J++(k,v)::rest):=by
 simp_all[mD]
theorem yM {J rest bq:MM}{v}(hp:(J++(k,v)::rest).Perm bq)(hn:(bq.map (·.1)).Nodup):lk J k=none:=by
 grind[lk_none]
def wD F:cqq 191 [] (F) (λv L'=>∃b,v=ptr b 0/\L'=nj b (λ_=>none)::F):=by
 refine Ct.of func191 W 4 ntmps191 (by simp) λw0=>?_;refine A<|T<|A<|gI (fH) ?_;rintro _ _ ⟨b1,rfl,rfl⟩;refine M (aS (L4 _ W))<|gI (dw #[.map (some b1)]) ?_;rintro _ _ ⟨J,rfl,rfl⟩;refine T ?_;refine dZ b1 J (λ_=>none) (by rw[mF]) ?_;exact λa w O R=>wp_ret (cb (bf (vs:=[ptr J 0]) rfl O R ⟨J,rfl,rfl⟩))
def vx b B id(R:VC B)F:cqq 173 [ptr b 0,I id] (nj b B::F) (R1 (.tuple #[ay (wQ B id).1,fA 117 (wQ B id).2]) (nj b B::F)):=by
 refine Ct.of func173 W 22 ntmps173 (by simp) λw0=>?_;refine kI b (B) ?_;intro r;refine A<|gA<|T<|A<|C<|M aa<|gF 0 YN W YH<|M (aA YO)<|C ?_;rcases hB0:B id with _ | ⟨d,n⟩
 ·have J:(lk (tb cP 40 B) id).getD (.agg #[ay [],I 0])= .agg #[ay [],I 0]:=(by rw[Hc R.1,hB0];rfl);have O:(lk (tb cP 40 B) id).isSome=false:=(by rw[Hc R.1,hB0];rfl);refine M (ed (bq:=tb cP 40 B) (q:=id) Yz XA YL J O)<|C<|M aB<|M aB<|gI (aO #[ay [],I 0] YL) ?_;rintro _ _ ⟨S,rfl,rfl⟩;refine gU (az _ Yn (by decide))<|T<|ac<|A<|C<|M cS<|ab ?_;refine d6 ?_;refine A<|M (ba XG)<|gA<|T ?_;refine dZ r b (B) (.refl _) ?_;exact am rfl rfl (by unfold wQ;rw[hB0];rfl)
 ·have J:(lk (tb cP 40 B) id).getD (.agg #[ay [],I 0])= .agg #[ay d,I n]:=(by rw[Hc R.1,hB0];rfl);have O:(lk (tb cP 40 B) id).isSome=true:=(by rw[Hc R.1,hB0];rfl);have hn:=R.2 id _ hB0;have hq:=R.1 id _ hB0;simp only at hn;refine M (ed (bq:=tb cP 40 B) (q:=id) Yz XA YL J O)<|C<|M aB<|M aB<|gI (aO #[ay [],I 0] YL) ?_;rintro _ _ ⟨S,rfl,rfl⟩;refine gU (az _ Yn (by decide))<|T<|ac<|A<|C<|M cS<|ab ?_;refine dY ?_;refine ai<|A<|gF 0 YF W Xx<|gL (ay d) XD<|gA<|T ?_;refine dZ r b (B) (.refl _) ?_;exact am rfl rfl (by unfold wQ;rw[hB0];rfl)
def vy b B id(R:VC B)F:cqq 265 [ptr b 0,I id] (nj b B::F) (R1 (fA 117 (rG B id)) (nj b (fB B id 1)::F)):=by
 refine Ct.of func265 W 29 ntmps265 (by simp) λw0=>?_;refine kI b (B) ?_;intro r;refine A<|T<|A<|C<|M aa<|gF 0 YN W YH<|M (aA YO)<|C ?_;rcases hB0:B id with _ | ⟨d,n⟩
 ·have J:(lk (tb cP 40 B) id).getD (.agg #[ay [],I 0])= .agg #[ay [],I 0]:=(by rw[Hc R.1,hB0];rfl);have O:(lk (tb cP 40 B) id).isSome=false:=(by rw[Hc R.1,hB0];rfl);refine M (ed (bq:=tb cP 40 B) (q:=id) Yz XA YL J O)<|C<|M aB<|M aB<|gI (aO #[ay [],I 0] YL) ?_;rintro _ _ ⟨S,rfl,rfl⟩;refine gU (az _ Yn (by decide))<|T<|ac<|A<|C<|M cS<|ab ?_;refine d6 ?_;refine A<|M (ba XG)<|T ?_;refine dZ r b (B) (.refl _) ?_;have e:nj b B=nj b (fB B id 1):=(by unfold fB;rw[hB0]);rw[e];exact am rfl rfl (by unfold rG;rw[hB0];rfl)
 ·have J:(lk (tb cP 40 B) id).getD (.agg #[ay [],I 0])= .agg #[ay d,I n]:=(by rw[Hc R.1,hB0];rfl);have O:(lk (tb cP 40 B) id).isSome=true:=(by rw[Hc R.1,hB0];rfl);have hn:=R.2 id _ hB0;have hq:=R.1 id _ hB0;simp only at hn;refine M (ed (bq:=tb cP 40 B) (q:=id) Yz XA YL J O)<|C<|M aB<|M aB<|gI (aO #[ay [],I 0] YL) ?_;rintro _ _ ⟨S,rfl,rfl⟩;refine gU (az #[ay d,I n] Yn (by decide))<|T<|ac<|A<|C<|M cS<|ab ?_;refine dY ?_;refine ai<|A<|gF 1 YF W Xu<|M (aA Xv)<|gP<|gF 1 YF W Xu<|gU (aJ #[ay d,I (n+1)] Xu (by simp))<|ab<|ac ?_;refine cn (Lf:=[pcc b #[.map (some r)] 234,pcc S #[ay d,I (n+1)] 183]) jA ?_;refine dM W<|dV W aa<|dF W 0 YN W YH<|dV W (aA YO)<|dM W<|dV W (bj (vs:=[ay d,I (n+1)]) isAgg183 Yn bM)<|rE W (cq Yz XA) ?_;rintro _ _ rfl;refine aN ?_;refine A<|T ?_;refine dZ r b (aD B id (some (d,n+1))) (oc cP (x:=(d,n+1)) hq) ?_;have e:fB B id 1=aD B id (some (d,n+1)):=(by unfold fB;rw[hB0];simp only;rw[iOm]);rw[<-e];exact am rfl rfl (by unfold rG;rw[hB0];rfl)
def mO b B id(R:VC B)F:cqq 231 [ptr b 0,I id] (nj b B::F) (R1 (fA 117 (rG B id)) (nj b (fB B id (-1))::F)):=by
 refine Ct.of func231 W 37 ntmps231 (by simp) λw0=>?_;refine kI b (B) ?_;intro r;refine A<|T<|A<|C<|M aa<|gF 0 YN W YH<|M (aA YO)<|C ?_;rcases hB0:B id with _ | ⟨d,n⟩
 ·have J:(lk (tb cP 40 B) id).getD (.agg #[ay [],I 0])= .agg #[ay [],I 0]:=(by rw[Hc R.1,hB0];rfl);have O:(lk (tb cP 40 B) id).isSome=false:=(by rw[Hc R.1,hB0];rfl);refine M (ed (bq:=tb cP 40 B) (q:=id) Yz XA YL J O)<|C<|M aB<|M aB<|gI (aO #[ay [],I 0] YL) ?_;rintro _ _ ⟨V,rfl,rfl⟩;refine gU (az _ Yn (by decide))<|T<|ac<|A<|C<|M cS<|ab ?_;refine d6 ?_;refine A<|M (ba XG)<|T ?_;refine dZ r b (B) (.refl _) ?_;have e:nj b B=nj b (fB B id (-1)):=(by unfold fB;rw[hB0]);rw[e];exact am rfl rfl (by unfold rG;rw[hB0];rfl)
 ·have J:(lk (tb cP 40 B) id).getD (.agg #[ay [],I 0])= .agg #[ay d,I n]:=(by rw[Hc R.1,hB0];rfl);have O:(lk (tb cP 40 B) id).isSome=true:=(by rw[Hc R.1,hB0];rfl);have hn:=R.2 id _ hB0;have hq:=R.1 id _ hB0;simp only at hn;refine M (ed (bq:=tb cP 40 B) (q:=id) Yz XA YL J O)<|C<|M aB<|M aB<|gI (aO #[ay [],I 0] YL) ?_;rintro _ _ ⟨V,rfl,rfl⟩;refine gU (az #[ay d,I n] Yn (by decide))<|T<|ac<|A<|C<|M cS<|ab ?_;refine dY ?_;refine ai<|A<|gF 1 YF W Xu<|M (aA Xv)<|M (eG (cK (by omega)))<|gF 1 YF W Xu<|gU (aJ #[ay d,I (n - 1)] Xu (by simp))<|ab<|ac ?_;refine cn (Lf:=[pcc b #[.map (some r)] 234,pcc V #[ay d,I (n - 1)] 183]) jA ?_;refine dM W<|dV W aa<|dF W 0 YN W YH<|dV W (aA YO)<|dM W<|dV W (bj (vs:=[ay d,I (n - 1)]) isAgg183 Yn bM)<|rE W (cq Yz XA) ?_;rintro _ _ rfl;refine aN ?_;refine ac<|A<|gF 1 YF W Xu<|M (aA Xv)<|M bE<|ab<|ah ?_ ?_<;>intro S
  ·simp at S;refine nG r (tb cP 40 (aD B id (some (d,n - 1)))) (oc cP (x:=(d,n - 1)) hq) ?_;refine al<|C<|M aa<|gF 0 YN W YH<|M (aA YO)<|C<|io (iI Yz XA) ?_;rintro _ _ ⟨rfl,rfl⟩;refine ab<|A<|T ?_;refine nG r (tb cP 40 (aD B id none)) (by rw[<-vw B id (some (d,n - 1)) none];exact Tk cP) ?_;refine dZ r b (aD B id none) (.refl _) ?_;have e:fB B id (-1)=aD B id none:=(by unfold fB;rw[hB0];simp only;rw[kaT (by omega)]);rw[<-e];exact am rfl rfl (by unfold rG;rw[hB0];rfl)
  ·simp at S;refine ai<|A<|T ?_;refine dZ r b (aD B id (some (d,n - 1))) (oc cP (x:=(d,n - 1)) hq) ?_;have e:fB B id (-1)=aD B id (some (d,n - 1)):=(by unfold fB;rw[hB0];simp only;rw[iOm];rfl);rw[<-e];exact am rfl rfl (by unfold rG;rw[hB0];rfl)
def tW b B F:cqq 209 [ptr b 0] (nj b B::F) (λv L'=>∃q,v=ptr q 0/\L'=nj q (B)::nj b B::F):=by
 refine Ct.of func209 W 24 ntmps209 (by simp) λw0=>?_;refine kI b (B) ?_;intro r;refine A<|T<|A<|gI (uA call191 wD) ?_;rintro _ _ ⟨q,rfl,rfl⟩;refine T ?_;refine kI q (λ_=>none) ?_;intro r2;refine nG r2 [] (by rw[mF]) ?_;refine ft r ?_;intro es clk;refine ac<|A<|C<|M aa<|gF 0 YN W YH<|M (aA YO)<|gI (iv Yz) ?_;rintro _ _ ⟨R,rfl,rfl⟩;refine ab<|ak ?_;refine aL (α:=MM×MM×Option (Int×Value)) (λz=>(z.2.1++z.1).Perm (tb cP 40 B)) (λ_=>U [(0,ptr b 0),(3,ptr q 0),(11,ptr R 0)]) (λz=>yc R r es clk z.1 z.2.2::tj r es clk (tb cP 40 B)::pcc b #[.map (some r)] 234::pcc q #[.map (some r2)] 234::mp r2 z.2.1::F) (λz=>z.1.length) (tb cP 40 B,[],none) (.refl _) [0,3,11] rfl ?_;rintro ⟨rest,O,cur⟩ hp;simp only at hp;refine A<|gI kz ?_;rintro _ _ (⟨hr,rfl,rfl⟩ | ⟨⟨k,v⟩,J,hq,rfl,rfl⟩)
 ·subst hr;have Z:O.Perm (tb cP 40 B):=(by simpa using hp);refine M aB<|ab<|ac ?_;refine dY ?_;refine aF ?_;refine A<|C<|T ?_;refine dZ r2 q (B) (Z) ?_;refine bT r ?_;refine dZ r b (B) (.refl _) ?_;refine jf (L2:=nj q B::nj b B::F) ?_;exact λa w X Y=>wp_ret (cb (bf (vs:=[ptr q 0]) rfl X Y ⟨q,rfl,rfl⟩))
 ·obtain ⟨x,hx,hv,hk⟩:=vg (hp.mem_iff.1 (kcU _ (hq.mem_iff.2 (kcq ..))));simp only at hv hk hx;subst hv;have S:(O++(k,cP x)::J).Perm (tb cP 40 B):=(hq.append_left O).symm.trans hp;have hl:=yM S (oy cP 40 B);refine M aB<|ab<|ac ?_;refine d6 ?_;refine ai<|ak<|A<|M iw<|gX (I k)<|gX (cP x)<|gI (aO #[ay [],I 0] YL) ?_;rintro _ _ ⟨V,rfl,rfl⟩;refine gA<|gU (az (vs:=[ay x.1,I x.2]) #[ay x.1,I x.2] Yn (by decide))<|ab ?_;refine cn (Lf:=[pcc q #[.map (some r2)] 234,pcc V #[ay x.1,I x.2] 183]) jA ?_;refine dM W<|dV W aa<|dF W 0 YN W YH<|dV W (aA YO)<|dM W<|dV W (bj (vs:=[ay x.1,I x.2]) isAgg183 Yn bM)<|rE W (cq Yz XA) ?_;rintro _ _ rfl;refine aN ?_;refine aE ?_;refine an (J,mD O k (cP x),some (k,cP x)) ((E4 hl).trans S) (by have:=hq.length_eq;simp at this;simp;omega) [0,3,11] rfl
def wR b B F:cqq 137 [ptr b 0] (nj b B::F) (uX 3 1 (ck 40 B).length (bc (ck 40 B)) (nj b B::F)):=by
 refine Ct.of func137 W 21 ntmps137 (by simp) λw0=>?_;refine kI b (B) ?_;intro r;refine ft r ?_;intro es clk;refine aY 3 1 (bc []) ?_;refine A<|T<|A<|T<|ac<|A<|C<|M aa<|gF 0 YN W YH<|M (aA YO)<|gI (iv Yz) ?_;rintro _ _ ⟨X,rfl,rfl⟩;refine ab<|ak ?_;refine aL (α:=MM×List Int×Option (Int×Value)×Option Addr×Nat) (λz=>(z.2.1++z.1.map (·.1)).Perm (ck 40 B)) (λz=>U [(0,ptr b 0),(9,ptr X 0),(3,sl z.2.2.2.1 z.2.1.length z.2.2.2.2)]) (λz=>yc X r es clk z.1 z.2.2.1::tj r es clk (tb cP 40 B)::pcc b #[.map (some r)] 234::be 3 1 z.2.2.2.1 z.2.2.2.2 (bc z.2.1)::F) (λz=>z.1.length) (tb cP 40 B,[],none,none,0) (by rw[kby,nH]) [0,9,3] rfl ?_;rintro ⟨rest,O,cur,s,c⟩ hp;simp only[] at hp ⊢;have Z:O.length<=40:=(by have h1:=hp.length_eq;have h2:=eM 40 B;simp at h1;omega);refine A<|gI kz ?_;rintro _ _ (⟨hr,rfl,rfl⟩ | ⟨⟨k,v⟩,J,hq,rfl,rfl⟩)
 ·subst hr;simp only[kaP,kcV] at hp;refine M aB<|ab<|ac ?_;refine dY ?_;refine aF ?_;refine A<|C<|gR (vB call208 (kG O s O.length c W (by omega))) ?_;rw[tD hp];refine ab<|A<|C<|T ?_;refine bT r ?_;refine dZ r b (B) (.refl _) ?_;exact cU rfl rfl rfl (by rw[hp.length_eq])
 ·have S:(O++k::J.map (·.1)).Perm (ck 40 B):=by
   have h1:=((hq.map (·.1)).append_left O).symm.trans hp;simpa using h1
  refine M aB<|ab<|ac ?_;refine d6 ?_;refine ai<|ak<|A<|M iw<|gX (I k)<|T<|al<|C<|C<|gI (ap [[I k]] XB Xu X5 (by simp)) ?_;rintro _ _ ⟨Y,rfl,rfl⟩;refine gI (aR XB Xu X5 Tryz.typeInfo3 (hn:=by exact cw _) (by simp) (by intro r hr;simp at hr;subst hr;rfl) ⟨by omega,by decide,by decide⟩) ?_;rintro _ _ ⟨V,R,rfl,rfl⟩;refine T<|aE ?_;rw[show bc O++ [[I k]]=bc (O++ [k]) by simp[bc]];refine an (J,O++ [k],some (k,v),V,R) (by simpa using S) (by have:=hq.length_eq;simp at this;simp;omega) [0,9,3] rfl (he:=by simp[U])
def vz b B(d:Bytes)(Z:VC B)(hd:d.length<=9223372036854775807)F:cqq 264 [ptr b 0,ay d] (nj b B::F) (R1 (.tuple #[I (kH B d).1,fA 117 (kH B d).2]) (nj b (mj B d)::F)):=by
 refine Ct.of func264 W 40 ntmps264 (by simp) λw0=>?_;refine A<|gA<|T<|ac<|A<|C<|M (cD Xz)<|M aQ<|C<|gK ao<|gK bV<|M cv<|ab<|ah ?_ ?_<;>intro O
 ·simp at O;have J:6<d.length\/d=[]:=O.imp (λh=>by omega) id;refine A<|M (ba XG)<|gA<|T ?_;have S:kH B d=(0,3):=(by unfold kH;rw[kaT J]);have V:mj B d=B:=(by unfold mj;rw[kaT J]);rw[S,V];exact am rfl rfl rfl
 ·simp at O;have J:¬(6<d.length\/d=[]):=λh=>h.elim (λh=>by omega) O.2;refine ai<|ac<|ac ?_;refine kI b (B) ?_;intro r;refine al<|C<|M aa<|gF 0 YN W YH<|gL (.map (some r)) YO<|M (ky Yz)<|M bE<|ab<|ah ?_ ?_<;>intro R
  ·simp at R;rw[fF] at R;have Y:=full_iff.1 (show (ck 40 B).length=40 by omega);refine A<|M (ba XG)<|gA<|T ?_;have S:kH B d=(0,8):=(by unfold kH;rw[kaU J,Y]);have V:mj B d=B:=(by unfold mj;rw[kaU J,Y]);rw[S,V];refine dZ r b (B) (.refl _) ?_;exact am rfl rfl rfl
  ·simp at R;rw[fF] at R;obtain ⟨m,hm⟩:=wq (n:=40) (B:=B) (by omega);have hf:=iV hm;refine ai<|A<|T<|ac<|ak ?_;refine aL (α:=Nat) (λk=>1<=k/\k<=m) (λk=>U [(0,ptr b 0),(1,ay d),(6,I k)]) (λ_=>pcc b #[.map (some r)] 234::mp r (tb cP 40 B)::F) (λk=>m - k) 1 ⟨by omega,by omega⟩ [0,1,6] rfl ?_;intro k h0;obtain ⟨e,n,hlk,hnk⟩:∃e n,(lk (tb cP 40 B) (k:Int)).getD (.agg #[ay [],I 0])= .agg [ay e,I n].toArray/\(0<n ↔ k<m):=by
    rcases hB0:B (k:Int) with _ | ⟨e,n⟩
    ·exact ⟨[],0,by rw[Hc Z.1,hB0];rfl,by simp;exact (ka3 k m).elim (λh=>by have:=hf.2.2 k h0.1 h;rw[hB0] at this;cases this) id⟩
    ·exact ⟨e,n,by rw[Hc Z.1,hB0];rfl,by
      have h1:=Z.2 k _ hB0;simp only at h1;have h2:k≠m:=λe=>(by rw[e,hf.2.1] at hB0;cases hB0);omega⟩
   refine ac<|A<|C<|M aa<|gF 0 YN W YH<|M (aA YO)<|C<|M (cW (v:= .agg [ay e,I n].toArray) Yz XA YL hlk)<|M (H5 (v:=I n) YF W Xv W W)<|M aQ<|ab<|ah ?_ ?_<;>intro X
   ·simp at X;refine ai<|ak<|al<|C<|gP<|T<|aE ?_;exact an (k+1) ⟨by omega,by omega⟩ (by omega) [0,1,6] rfl
   ·simp at X;obtain rfl:k=m:=(by omega);refine aF ?_;refine A<|C<|M aa<|gF 0 YN W YH<|M (aA YO)<|C<|C<|M (aS (sy _ W _ W))<|io (cq Yz XA) ?_;rintro _ _ rfl;refine ab<|A<|C<|gA<|T ?_;have S:kH B d=((k:Int),0):=(by unfold kH;rw[kaU J,hm]);have V:mj B d=aD B k (some (d,1)):=(by unfold mj;rw[kaU J,hm]);rw[S,V];refine dZ r b (aD B k (some (d,1))) (oc cP (x:=(d,1)) (by omega)) ?_;exact am rfl rfl rfl
structure Nd where
 k0:Int
 k1:Int
 k2:Int
 k3:Int
 refs:Int
deriving DecidableEq
abbrev fZ:=Int->Option Nd
structure SI where
 B:qc
 N:fZ
abbrev kV (n:Nd):List Value:=[I n.k0,I n.k1,I n.k2,I n.k3,I n.refs]
abbrev cl (n:Nd):Value:= .agg (kV n).toArray
def kd (n:Nd):List Int:=[n.k0,n.k1,n.k2,n.k3]
abbrev ga (n:Nd):List Value:=[I n.k0,I n.k1,I n.k2,I n.k3]
def bZ (n:Nd)(i:Nat):Int:=match i with | 0=>n.k0 | 1=>n.k1 | 2=>n.k2 | _=>n.k3
def KR (n:Nd)(i:Nat)(x:Int):Nd:=match i with | 0=>{n with k0:=x} | 1=>{n with k1:=x} | 2=>{n with k2:=x} | _=>{n with k3:=x}
def yN:Nd:=⟨0,0,0,0,0⟩
def gN (N:fZ)(q:Int):Nd:=(N q).getD yN
def rf (n:Nd)(r:Int):Nd:=⟨n.k0,n.k1,n.k2,n.k3,r⟩
def r6 (N:fZ)(q:Int):fZ:=aD N q (some (rf (gN N q) ((gN N q).refs+1)))
def db (leaf:Bool)(S:SI)(k:Int):SI:=if k=0 then S else if leaf=true then ⟨fB S.B k 1,S.N⟩ else ⟨S.B,r6 S.N k⟩
def eZ (S:SI)(k:Int):SI:=if k=0 then S else ⟨fB S.B k (-1),S.N⟩
def vI (f:SI->Int->SI)(S:SI)(q:Int):SI:=if q=0 then S else if 0<(gN S.N q).refs - 1 then ⟨S.B,aD S.N q (some (rf (gN S.N q) ((gN S.N q).refs - 1)))⟩ else (kd (gN S.N q)).foldl f ⟨S.B,aD S.N q none⟩
def lE:SI->Int->SI:=vI eZ
def rH:SI->Int->SI:=vI lE
def fk (n:Nd):Prop:=n.k0=0/\n.k1=0/\n.k2=0/\n.k3=0
instance (n:Nd):Decidable (fk n):=by unfold fk;infer_instance
def br (S:SI)(n:Nd):Int×Int:=if fk n then (0,0) else match ef 24 S.N with | none=>(0,8) | some k=>(k,0)
def bu (leaf:Bool)(S:SI)(n:Nd):SI:=if fk n then S else match ef 24 S.N with | none=>S | some k=>(kd n).foldl (db leaf) ⟨S.B,aD S.N k (some (rf n 1))⟩
def jj (S:SI)(root:Int)(at_:Nat):Bytes:=(wQ S.B (bZ (gN S.N (bZ (gN S.N root) (at_ / 4))) (at_ % 4))).1
def eP (S:SI)(q:Int):SI:=if 0<q then ⟨S.B,r6 S.N q⟩ else S
def aq (S:SI)(d:Bytes):Int×Int:=if d=[] then (0,0) else kH S.B d
def aj (S:SI)(d:Bytes):SI:=if d=[] then S else ⟨mj S.B d,S.N⟩
def bD (S:SI)(root:Int)(at_:Nat)(b:Int):Nd:=KR (gN S.N (bZ (gN S.N root) (at_ / 4))) (at_ % 4) b
def ei (S:SI)(root:Int)(at_:Nat)(leaf:Int):Nd:=KR (gN S.N root) (at_ / 4) leaf
def kj (S:SI)(b:Int):SI:=if 0<b then ⟨fB S.B b (-1),S.N⟩ else S
def dH (S:SI)(root:Int)(at_:Nat)(d:Bytes):Int×Int:=
 let b:=aq S d;let S1:=aj S d
 if b.2≠0 then (0,b.2) else
 let l:=br S1 (bD S1 root at_ b.1);let S2:=bu true S1 (bD S1 root at_ b.1)
 if l.2≠0 then (0,l.2) else
 let S3:=kj S2 b.1
 let o:=br S3 (ei S1 root at_ l.1)
 if o.2≠0 then (0,o.2) else (o.1,0)
def jk (S:SI)(root:Int)(at_:Nat)(d:Bytes):SI:=
 let b:=aq S d;let S1:=aj S d
 if b.2≠0 then S1 else
 let l:=br S1 (bD S1 root at_ b.1);let S2:=bu true S1 (bD S1 root at_ b.1)
 if l.2≠0 then S2 else
 let S3:=kj S2 b.1
 let o:=br S3 (ei S1 root at_ l.1);let S4:=bu false S3 (ei S1 root at_ l.1)
 if o.2≠0 then S4 else lE S4 l.1
def ii (m:Int)(S:SI):Prop:=mE 40 S.B/\(∀q x,S.B q=some x->0<x.2/\x.2<=m)/\mE 24 S.N/\∀q n,S.N q=some n->0<n.refs/\n.refs<=m
variable {m:Int}{S:SI}
def tX (h:ii m S)(hm:m<=1000000):VC S.B:=⟨h.1,λq x e=>by have:=h.2.1 q x e;omega⟩
theorem mP {m'}(h:ii m S)(hm:m<=m'):ii m' S:=⟨h.1,λq x e=>by have:=h.2.1 q x e;omega,h.2.2.1,λq n e=>by have:=h.2.2.2 q n e;omega⟩
def nQ (h:ii m S)(h0:0<=m)q:0<=(gN S.N q).refs/\(gN S.N q).refs<=m:=by
 unfold gN;cases e:S.N q with
 | none=>simp[yN];exact h0
 | some n=>have:=h.2.2.2 q n e;simp;omega
variable {q:Int}
def lF (h:ii m S){x}(hq:x.isSome=true->1<=q/\q<=24)(hx:∀n,x=some n->0<n.refs/\n.refs<=m):ii m ⟨S.B,aD S.N q x⟩:=
 ⟨h.1,h.2.1,kA h.2.2.1 hq,λp n e=>by
  change aD S.N q x p=some n at e;unfold aD at e;split at e
  ·exact hx n e
  ·exact h.2.2.2 p n e⟩
variable {n:Int}
theorem E5 (h:ii m S)q(hn:n=1\/n= -1):ii (m+1) ⟨fB S.B q n,S.N⟩:=by
 refine ⟨?_,?_,h.2.2.1,λp x e=>by have:=h.2.2.2 p x e;omega⟩
 ·show mE 40 (fB S.B q n);unfold fB;cases e:S.B q with
  | none=>exact h.1
  | some x=>exact kA h.1 λ_=>h.1 q x e
 ·intro p x e;change fB S.B q n p=some x at e;unfold fB at e;cases J:S.B q with
  | none=>rw[J] at e;have:=h.2.1 p x e;omega
  | some y=>
   rw[J] at e;unfold aD at e;simp only at e;split at e
   ·split at e
    ·cases e
    ·rename_i h1 O;injection e with e;subst e;have:=h.2.1 q y J;simp only;omega
   ·have:=h.2.1 p x e;omega
theorem E6 (h:ii m S)q:ii m ⟨fB S.B q (-1),S.N⟩:=by
 have h1:=E5 h q (n:= -1) (.inr rfl);refine ⟨h1.1,λp x e=>?_,h.2.2.1,h.2.2.2⟩;have O:=h1.2.1 p x e;refine ⟨O.1,?_⟩;change fB S.B q (-1) p=some x at e;unfold fB at e;cases J:S.B q with
 | none=>rw[J] at e;exact (h.2.1 p x e).2
 | some y=>
  rw[J] at e;unfold aD at e;simp only at e;split at e
  ·split at e
   ·cases e
   ·injection e with e;subst e;have:=h.2.1 q y J;simp only;omega
  ·exact (h.2.1 p x e).2
theorem KS (h:ii m S)(h0:0<=m)(hq:1<=q/\q<=24):ii (m+1) ⟨S.B,r6 S.N q⟩:=
 lF (mP h (by omega)) (λ_=>hq) λn e=>by
  injection e with e;subst e;have:=nQ h h0 q;simp only[rf];omega
theorem MW (h:ii m S)(h0:0<=m){leaf}(hk:leaf=false->0<=k/\k<=24):ii (m+1) (db leaf S k):=by
 grind[db,mP,E5,KS]
theorem vJ (h:ii m S)k:ii m (eZ S k):=by
 grind[eZ,E6]
def qu {α β:Type}{P:α->Prop}{f}(J:∀a b,P a->P (f a b)):∀(l:List β) (a:α),P a->P (l.foldl f a)
 | [],a,h=>h
 | b::l,a,h=>qu J l (f a b) (J a b h)
variable {f:SI->Int->SI}
theorem QJ (J:∀S k,ii m S->ii m (f S k))(h:ii m S)q:ii m (vI f S q):=by
 unfold vI;split
 ·exact h
 ·split
  ·rename_i hq hr;have hp:S.N q≠none:=λe=>(by grind[gN,yN]);obtain ⟨n,hn⟩:=kcW.1 hp;refine lF h (λ_=>h.2.2.1 q n hn) λO e=>?_;injection e with e;subst e;have:=h.2.2.2 q n hn
   grind[gN,rf]
  ·exact qu (P:=ii m) J _ _ (lF h (λe=>by cases e) λn e=>by cases e)
def IE (h:ii m S)q:ii m (lE S q):=QJ (λS k h=>vJ h k) h q
def part (f:SI->Int->SI)(S:SI)(n:Nd)(i:Nat):SI:=((kd n).take i).foldl f S
def jl f S n:∀i,i<4->part f S n (i+1)=f (part f S n i) (bZ n i)
 | 0,_=>rfl
 | 1,_=>rfl
 | 2,_=>rfl
 | 3,_=>rfl
 | i+4,h=>absurd h (by omega)
theorem oI {m S}(h:ii m S)(h0:0<=m){leaf n}(hk:leaf=false->∀i,i<4->0<=bZ n i/\bZ n i<=24):∀i:Nat,i<=4->ii (m+i) (part (db leaf) S n i)
 | 0,_=>mP h (by omega)
 | i+1,hi=>by
  rw[jl _ _ _ i (by omega)];have:=MW (oI h h0 hk i (by omega)) (by omega) (leaf:=leaf) (k:=bZ n i) λhl=>hk hl i (by omega)
  grind
def xA (J:∀S k,ii m S->ii m (f S k))(h:ii m S)n i:ii m (part f S n i):=qu (P:=ii m) J _ _ h
variable {k:Nat}
theorem tY (h:ii m S)(hm:1<=m)(hk:1<=k/\k<=24)n:ii m ⟨S.B,aD S.N k (some (rf n 1))⟩:=lF h (λ_=>by omega) λJ e=>by
 grind[rf]
variable {n:Nd}
def tZ (h:ii m S)(hm:1<=m){leaf}(hk:leaf=false->∀i,i<4->0<=bZ n i/\bZ n i<=24):ii (m+4) (bu leaf S n):=by
 unfold bu;split
 ·exact mP h (by omega)
 ·split
  ·exact mP h (by omega)
  ·rename_i k J;exact oI (tY h hm (iV J).1 n) (by omega) hk 4 (by omega)
theorem Bp (h:ii m S)(hm:1<=m)d:ii m (aj S d):=by
 unfold aj;split
 ·exact h
 ·refine ⟨?_,?_,h.2.2.1,h.2.2.2⟩
  ·show mE 40 (mj S.B d);unfold mj;split
   ·exact h.1
   ·split
    ·exact h.1
    ·rename_i k J;have:=(iV J).1;exact kA h.1 λ_=>by omega
  ·intro q x e;change mj S.B d q=some x at e;unfold mj at e;split at e
   ·exact h.2.1 q x e
   ·cases J:ef 40 S.B with
    | none=>rw[J] at e;exact h.2.1 q x e
    | some k=>
     rw[J] at e;simp only at e;unfold aD at e;split at e
     ·grind
     ·exact h.2.1 q x e
theorem IF (h:ii m S)b:ii m (kj S b):=by
 grind[kj,E6]
def Xg (b:Nat)(S:SI)(z:Nat×Nat):List ag:=[pcc b #[ptr z.1 0, .map (some z.2)] 231,nj z.1 S.B,mp z.2 (tb cl 24 S.N)]
def lM (b:Nat)(S:SI):ag:=hx (Xg b S)
def fl b S[R:Rem L (lM b S) F](k:∀p r,G c K E (pcc b #[ptr p 0, .map (some r)] 231::nj p S.B::mp r (tb cl 24 S.N)::F)):G c K E L:=ji (lM b S) rfl λz=>k z.1 z.2
def cC {bq}p r b S(h:bq.Perm (tb cl 24 S.N))[J:Split L [pcc b #[ptr p 0, .map (some r)] 231,nj p S.B,mp r bq] F](k:G c K E (lM b S::F)):G c K E L:=λa w V X=>by
 have h1:Sat c.w0 w (pcc b #[ptr p 0, .map (some r)] 231::nj p S.B::mp r bq::F):=J.sat X;refine k a w V<|Sat.hx_mk (cB:=Xg b S) (p,r) ?_;have r2:Rem (pcc b #[ptr p 0, .map (some r)] 231::nj p S.B::mp r bq::F) (mp r bq) (pcc b #[ptr p 0, .map (some r)] 231::nj p S.B::F):=inferInstance;obtain ⟨⟨es,clk⟩,O⟩:=(r2.sat h1).ex;have R:Sat c.w0 w (mp r (tb cl 24 S.N)::pcc b #[ptr p 0, .map (some r)] 231::nj p S.B::F):=Sat.ex_mk (cB:=λp:Array MapEntry×Nat=>λm=>MOk p.1 p.2 (tb cl 24 S.N)/\m r=some (.map p.1 p.2,false)) (es,clk) (O.weak λm hm=>⟨hm.1.perm_ h,hm.2⟩);have Y:Sl.Sub (mp r (tb cl 24 S.N)::pcc b #[ptr p 0, .map (some r)] 231::nj p S.B::F) (pcc b #[ptr p 0, .map (some r)] 231::nj p S.B::mp r (tb cl 24 S.N)::F):=inferInstance;exact Y.sat R
variable {N:fZ}
def PX (h:mE 24 N)q:(lk (tb cl 24 N) q).getD (cl yN)=cl (gN N q):=by
 simp_all[GK,gN]
def g7 n:∀i,i<4->(ga n)[i]? =some (I (bZ n i))
 | 0,_=>rfl
 | 1,_=>rfl
 | 2,_=>rfl
 | 3,_=>rfl
 | i+4,h=>absurd h (by omega)
theorem QK n x:∀i,i<4->(ga n).set i (I x)=ga (KR n i x)
 | 0,_=>rfl
 | 1,_=>rfl
 | 2,_=>rfl
 | 3,_=>rfl
 | i+4,h=>absurd h (by omega)
def IG n w:(Instr.build 187 #[(0, .agg (ga n).toArray),(1,I 1)]).run Tryz.prog w= .ok (cl (rf n 1)) w:=by
 simp[Instr.build,Yx,kai,XR,Xu,Instr.fill,bB,show (I 1).cells=#[I 1] from rfl,rf]
theorem Sw a b w:(Op.equal 185 (.agg (ga a).toArray) (.agg (ga b).toArray)).run Tryz.prog w= .ok (decide (a.k0=b.k0/\a.k1=b.k1/\a.k2=b.k2/\a.k3=b.k3)) w:=by
 have h:=λx y:Int=>P1 (P:=Tryz.prog) (w:=w) (a:=x) (b:=y) 9998 XA;show (Op.equalIn (9999+1) _ _ _).run _ _=_;unfold Op.equalIn;simp[underlying,program,Sem.run,X6,Xu,List.range',Std.Legacy.Range.forIn_eq_forIn_range',Std.Legacy.Range.size,Go.part,Xv,h]
 grind
def Sx w:(Instr.build 185 #[]).run Tryz.prog w= .ok (.agg (ga yN).toArray) w:=by
 simp[Instr.build,ZK,runUnderlying185,Instr.fill,bB,yN]
variable {r:Int}
theorem vK {ec f}:∀i v,(ga n)[i]? =some v->bK (.cells (kV (rf n r)).toArray ec f) (0+0+i)=some v:=λi v h=>by
 grind[bK,rf]
theorem VD (h:ii m S){f}(R:ef 24 S.N=some f)(hk:1<=k/\k<=f):0<(gN S.N k).refs ↔ k<f:=by
 have h1:=iV R;constructor
 ·grind[gN,yN]
 ·intro J;have O:=h1.2.2 k hk.1 J;cases e:S.N k with
  | none=>rw[e] at O;cases O
  | some n=>have:=h.2.2.2 k n e;grind[gN]
def t1 F:cqq 118 [] (F) (λv L'=>∃b,v=ptr b 0/\L'=lM b ⟨λ_=>none,λ_=>none⟩::F):=by
 refine Ct.of func118 W 5 ntmps118 (by simp) λw0=>?_;refine A<|T<|A<|gI (uA call191 (wD)) ?_;rintro _ _ ⟨p,rfl,rfl⟩;refine gI (fH) ?_;rintro _ _ ⟨O,rfl,rfl⟩;refine M (aS (xX _ W _ W))<|gI (dw #[ptr p 0, .map (some O)]) ?_;rintro _ _ ⟨J,rfl,rfl⟩;refine T ?_;refine cC p O J ⟨λ_=>none,λ_=>none⟩ (by rw[mF]) ?_;exact λa w R S=>wp_ret (cb (bf (vs:=[ptr J 0]) rfl R S ⟨J,rfl,rfl⟩))
def mQ b S q m(hok:ii m S)(hm:0<=m/\m<=1000000)(hq:1<=q/\q<=24)F:cqq 249 [ptr b 0,I q] (lM b S::F) (R1 (.tuple #[]) (lM b ⟨S.B,r6 S.N q⟩::F)):=by
 refine Ct.of func249 W 21 ntmps249 (by simp) λw0=>?_;refine fl b (S) ?_;intro p r;refine A<|C<|M aa<|gF 1 XX W Yf<|gL (.map (some r)) Yk<|C<|M (cW (v:=cl (gN S.N (q))) Yl XA Yx (PX hok.2.2.1 _))<|gI (aO #[I 0,I 0,I 0,I 0,I 0] Yx) ?_;rintro _ _ ⟨J,rfl,rfl⟩;refine gU (az (cs:=#[I 0,I 0,I 0,I 0,I 0]) (vs:=kV (gN S.N q)) (kV (gN S.N q)).toArray X0 (by simp) (hcs:=by exact aH))<|ab<|A<|gF 4 XV W Xu<|gL (I (gN S.N q).refs) Xv<|M (bx (cK (by have:=nQ hok hm.1 q;omega)))<|gF 4 XV W Xu<|gU (aJ (kV (rf (gN S.N q) ((gN S.N q).refs+1))).toArray Xu (by simp))<|ab ?_;refine cn (Lf:=[pcc b #[ptr p 0, .map (some r)] 231,pcc J (kV (rf (gN S.N q) ((gN S.N q).refs+1))).toArray 187]) jA ?_;refine dM W<|dV W aa<|dF W 1 XX W Yf<|dL W (.map (some r)) Yk<|dM W<|dV W (bj (vs:=kV (rf (gN S.N q) ((gN S.N q).refs+1))) Z3 X0 bM)<|rE W (cq Yl XA) ?_;rintro _ _ rfl;refine aN ?_;refine cC p r b (⟨S.B,r6 S.N q⟩) (oc cl (x:=rf (gN S.N q) ((gN S.N q).refs+1)) hq) ?_;exact gh rfl rfl rfl
def lS b S q m(hok:ii m S)(hm:0<=m/\m<=1000000)F:cqq 232 [ptr b 0,I q,Bo true] (lM b S::F) (R1 (.tuple #[]) (lM b (lE S q)::F)):=by
 refine Ct.of func232 W 55 ntmps232 (by simp) λw0=>?_;refine ac<|A<|C<|M bE<|ab<|ah ?_ ?_<;>intro J
 ·simp at J;rw[show lM b S=lM b (lE S q) by unfold lE vI;rw[kaT J]];exact am rfl rfl rfl
 ·simp at J;refine ai<|ac ?_;refine fl b (S) ?_;intro p r;refine al<|C<|M aa<|gF 1 XX W Yf<|gL (.map (some r)) Yk<|C<|M (cW (v:=cl (gN S.N (q))) Yl XA Yx (PX hok.2.2.1 _))<|gI (aO #[I 0,I 0,I 0,I 0,I 0] Yx) ?_;rintro _ _ ⟨b6,rfl,rfl⟩;refine gU (az (cs:=#[I 0,I 0,I 0,I 0,I 0]) (vs:=kV (gN S.N q)) (kV (gN S.N q)).toArray X0 (by simp) (hcs:=by exact aH))<|ab<|A<|gF 4 XV W Xu<|gL (I (gN S.N q).refs) Xv<|M (eG (cK (by have:=nQ hok hm.1 q;omega)))<|gF 4 XV W Xu<|gU (aJ (kV (rf (gN S.N q) ((gN S.N q).refs - 1))).toArray Xu (by simp))<|ab<|ac ?_;refine cn (Lf:=[pcc b #[ptr p 0, .map (some r)] 231,pcc b6 (kV (rf (gN S.N q) ((gN S.N q).refs - 1))).toArray 187]) jA ?_;refine dM W<|dV W aa<|dF W 1 XX W Yf<|dL W (.map (some r)) Yk<|dM W<|dV W (bj (vs:=kV (rf (gN S.N q) ((gN S.N q).refs - 1))) Z3 X0 bM)<|rE W (cq Yl XA) ?_;rintro _ _ rfl;refine aN ?_;refine ac<|A<|gF 4 XV W Xu<|gL (I ((gN S.N q).refs - 1)) Xv<|M aQ<|ab<|ah ?_ ?_<;>intro O
  ·simp at O;have hp:S.N q≠none:=λe=>(by unfold gN at O;rw[e] at O;simp[yN] at O);obtain ⟨n,hn⟩:=kcW.1 hp;refine cC p r b (⟨S.B,aD S.N q (some (rf (gN S.N q) ((gN S.N q).refs - 1)))⟩) (oc cl (x:=rf (gN S.N q) ((gN S.N q).refs - 1)) (hok.2.2.1 q n hn)) ?_;rw[show (⟨S.B,aD S.N q (some (rf (gN S.N q) ((gN S.N q).refs - 1)))⟩:SI)=lE S q by unfold lE vI;rw[kaU J,kaT (by omega)]];exact am rfl rfl rfl
  ·simp at O;refine ai<|A<|C<|M aa<|gF 1 XX W Yf<|gL (.map (some r)) Yk<|C<|io (iI Yl XA) ?_;rintro _ _ ⟨rfl,rfl⟩;refine ab<|ac ?_;refine cC p r b (⟨S.B,aD S.N q none⟩) (AW cl (v:=cl (rf (gN S.N q) ((gN S.N q).refs - 1)))) ?_;show G _ _ _ (lM b (part eZ ⟨S.B,aD S.N q none⟩ (gN S.N q) 0)::_);refine al<|gF 0 XV W XR<|M (bj (vs:=ga (gN S.N q)) Yu XR vK)<|C<|ab<|ak ?_;refine aL (α:=Nat) (λi=>i<=4) (λi=>U [(0,ptr b 0),(2,Bo true),(36, .agg (ga (gN S.N q)).toArray),(37,I i)]) (λi=>lM b (part eZ ⟨S.B,aD S.N q none⟩ (gN S.N q) i)::F) (λi=>4 - i) 0 (by omega) [0,2,36,37] rfl ?_;intro i hi;have Z:=xA (f:=eZ) (λS k h=>vJ h k) (lF hok (q:=q) (x:=none) (λe=>by cases e) (λn e=>by cases e)) (gN S.N q) i;refine A<|M aG<|ab<|ac<|ah ?_ ?_<;>intro X
   ·simp at X;have V:i<4:=(by omega);refine ai<|ac<|ak<|A<|M (ln (v:=I (bZ (gN S.N q) i)) i X6 Xu Xv V (by simpa using g7 (gN S.N q) i V))<|T<|ak<|A<|C<|M bE<|T<|ah ?_ ?_<;>intro R
    ·simp at R;refine ai<|aE<|aE<|al<|gP<|C<|ab ?_;rw[show part eZ ⟨S.B,aD S.N q none⟩ (gN S.N q) i=part eZ ⟨S.B,aD S.N q none⟩ (gN S.N q) (i+1) by rw[jl _ _ _ i V];unfold eZ;rw[kaT R]];exact an (i+1) (by omega) (by omega) [0,2,36,37] rfl
    ·simp at R;refine A<|C<|T<|ah ?_ ?_<;>intro Y
     ·refine fl b (part eZ ⟨S.B,aD S.N q none⟩ (gN S.N q) i) ?_;intro p2 r2;refine al<|C<|M aa<|gF 0 XX W YY<|gL (ptr p2 0) Y3<|C<|gR (vB call231 (mO p2 (part eZ ⟨S.B,aD S.N q none⟩ (gN S.N q) i).B (bZ (gN S.N q) i) (tX Z (by omega))))<|ab<|aE<|aE<|al<|gP<|C<|ab ?_;refine cC p2 r2 b (⟨fB (part eZ ⟨S.B,aD S.N q none⟩ (gN S.N q) i).B (bZ (gN S.N q) i) (-1),(part eZ ⟨S.B,aD S.N q none⟩ (gN S.N q) i).N⟩) (.refl _) ?_;rw[show (⟨fB (part eZ ⟨S.B,aD S.N q none⟩ (gN S.N q) i).B (bZ (gN S.N q) i) (-1),(part eZ ⟨S.B,aD S.N q none⟩ (gN S.N q) i).N⟩:SI)=part eZ ⟨S.B,aD S.N q none⟩ (gN S.N q) (i+1) by rw[jl _ _ _ i V];unfold eZ;rw[kaU R]];exact an (i+1) (by omega) (by omega) [0,2,36,37] rfl
     ·simp at Y
   ·simp at X;obtain rfl:i=4:=(by omega);refine aF ?_;rw[show part eZ ⟨S.B,aD S.N q none⟩ (gN S.N q) 4=lE S q by unfold lE vI;rw[kaU J,iOm];rfl];exact gh rfl rfl rfl
def wS b S q m(hok:ii m S)(hm:0<=m/\m<=1000000)F:cqq 232 [ptr b 0,I q,Bo false] (lM b S::F) (R1 (.tuple #[]) (lM b (rH S q)::F)):=by
 refine Ct.of func232 W 55 ntmps232 (by simp) λw0=>?_;refine ac<|A<|C<|M bE<|ab<|ah ?_ ?_<;>intro J
 ·simp at J;rw[show lM b S=lM b (rH S q) by unfold rH vI;rw[kaT J]];exact am rfl rfl rfl
 ·simp at J;refine ai<|ac ?_;refine fl b (S) ?_;intro p r;refine al<|C<|M aa<|gF 1 XX W Yf<|gL (.map (some r)) Yk<|C<|M (cW (v:=cl (gN S.N (q))) Yl XA Yx (PX hok.2.2.1 _))<|gI (aO #[I 0,I 0,I 0,I 0,I 0] Yx) ?_;rintro _ _ ⟨b6,rfl,rfl⟩;refine gU (az (cs:=#[I 0,I 0,I 0,I 0,I 0]) (vs:=kV (gN S.N q)) (kV (gN S.N q)).toArray X0 (by simp) (hcs:=by exact aH))<|ab<|A<|gF 4 XV W Xu<|gL (I (gN S.N q).refs) Xv<|M (eG (cK (by have:=nQ hok hm.1 q;omega)))<|gF 4 XV W Xu<|gU (aJ (kV (rf (gN S.N q) ((gN S.N q).refs - 1))).toArray Xu (by simp))<|ab<|ac ?_;refine cn (Lf:=[pcc b #[ptr p 0, .map (some r)] 231,pcc b6 (kV (rf (gN S.N q) ((gN S.N q).refs - 1))).toArray 187]) jA ?_;refine dM W<|dV W aa<|dF W 1 XX W Yf<|dL W (.map (some r)) Yk<|dM W<|dV W (bj (vs:=kV (rf (gN S.N q) ((gN S.N q).refs - 1))) Z3 X0 bM)<|rE W (cq Yl XA) ?_;rintro _ _ rfl;refine aN ?_;refine ac<|A<|gF 4 XV W Xu<|gL (I ((gN S.N q).refs - 1)) Xv<|M aQ<|ab<|ah ?_ ?_<;>intro O
  ·simp at O;have hp:S.N q≠none:=λe=>(by unfold gN at O;rw[e] at O;simp[yN] at O);obtain ⟨n,hn⟩:=kcW.1 hp;refine cC p r b (⟨S.B,aD S.N q (some (rf (gN S.N q) ((gN S.N q).refs - 1)))⟩) (oc cl (x:=rf (gN S.N q) ((gN S.N q).refs - 1)) (hok.2.2.1 q n hn)) ?_;rw[show (⟨S.B,aD S.N q (some (rf (gN S.N q) ((gN S.N q).refs - 1)))⟩:SI)=rH S q by unfold rH vI;rw[kaU J,kaT (by omega)]];exact am rfl rfl rfl
  ·simp at O;refine ai<|A<|C<|M aa<|gF 1 XX W Yf<|gL (.map (some r)) Yk<|C<|io (iI Yl XA) ?_;rintro _ _ ⟨rfl,rfl⟩;refine ab<|ac ?_;refine cC p r b (⟨S.B,aD S.N q none⟩) (AW cl (v:=cl (rf (gN S.N q) ((gN S.N q).refs - 1)))) ?_;show G _ _ _ (lM b (part lE ⟨S.B,aD S.N q none⟩ (gN S.N q) 0)::_);refine al<|gF 0 XV W XR<|M (bj (vs:=ga (gN S.N q)) Yu XR vK)<|C<|ab<|ak ?_;refine aL (α:=Nat) (λi=>i<=4) (λi=>U [(0,ptr b 0),(2,Bo false),(36, .agg (ga (gN S.N q)).toArray),(37,I i)]) (λi=>lM b (part lE ⟨S.B,aD S.N q none⟩ (gN S.N q) i)::F) (λi=>4 - i) 0 (by omega) [0,2,36,37] rfl ?_;intro i hi;have Z:=xA (f:=lE) (λS k h=>IE h k) (lF hok (q:=q) (x:=none) (λe=>by cases e) (λn e=>by cases e)) (gN S.N q) i;refine A<|M aG<|ab<|ac<|ah ?_ ?_<;>intro X
   ·simp at X;have R:i<4:=(by omega);refine ai<|ac<|ak<|A<|M (ln (v:=I (bZ (gN S.N q) i)) i X6 Xu Xv R (by simpa using g7 (gN S.N q) i R))<|T<|ak<|A<|C<|M bE<|T<|ah ?_ ?_<;>intro V
    ·simp at V;refine ai<|aE<|aE<|al<|gP<|C<|ab ?_;rw[show part lE ⟨S.B,aD S.N q none⟩ (gN S.N q) i=part lE ⟨S.B,aD S.N q none⟩ (gN S.N q) (i+1) by rw[jl _ _ _ i R];unfold lE vI;rw[kaT V]];exact an (i+1) (by omega) (by omega) [0,2,36,37] rfl
    ·simp at V;refine A<|C<|T<|ah ?_ ?_<;>intro Y
     ·simp at Y
     ·refine al<|C<|C<|gR (vB call232 (lS b (part lE ⟨S.B,aD S.N q none⟩ (gN S.N q) i) (bZ (gN S.N q) i) m Z hm))<|ab<|aE<|aE<|al<|gP<|C<|ab ?_;rw[show lE (part lE ⟨S.B,aD S.N q none⟩ (gN S.N q) i) (bZ (gN S.N q) i)=part lE ⟨S.B,aD S.N q none⟩ (gN S.N q) (i+1) from (jl _ _ _ i R).symm];exact an (i+1) (by omega) (by omega) [0,2,36,37] rfl
   ·simp at X;obtain rfl:i=4:=(by omega);refine aF ?_;rw[show part lE ⟨S.B,aD S.N q none⟩ (gN S.N q) 4=rH S q by unfold rH vI;rw[kaU J,iOm];rfl];exact gh rfl rfl rfl
def jm b S n lf m(hok:ii m S)(hm:1<=m/\m<=900000)(hk:lf=false->∀i,i<4->0<=bZ n i/\bZ n i<=24)F:cqq 230 [ptr b 0, .agg (ga n).toArray,Bo lf] (lM b S::F) (R1 (.tuple #[I (br S n).1,fA 117 (br S n).2]) (lM b (bu lf S n)::F)):=by
 refine Ct.of func230 W 58 ntmps230 (by simp) λw0=>?_;refine A<|gI (dw (ga n).toArray) ?_;rintro _ _ ⟨b4,rfl,rfl⟩;refine gA<|T<|ac<|A<|M (bj (vs:=ga (n)) Yu XR bM)<|M (aS Sx)<|M (LW eqGuardType185 W W (Sw n yN))<|ab<|ah ?_ ?_<;>intro Z
 ·have O:fk n:=kd0 Z;refine A<|gA<|T ?_;rw[show br S n=(0,0) by unfold br;rw[kaT O],show bu lf S n=S by unfold bu;rw[kaT O]];exact am rfl rfl rfl
 ·have O:¬fk n:=kd1 Z;refine ai<|ac<|ac ?_;refine fl b (S) ?_;intro p r;refine al<|C<|M aa<|gF 1 XX W Yf<|gL (.map (some r)) Yk<|M (ky Yl)<|M bE<|ab<|ah ?_ ?_<;>intro X
  ·simp at X;rw[fF] at X;have J:=full_iff.1 (show (ck 24 S.N).length=24 by omega);refine A<|M (ba XG)<|gA<|T ?_;rw[show br S n=(0,8) by unfold br;rw[kaU O,J],show bu lf S n=S by unfold bu;rw[kaU O,J]];refine cC p r b (S) (.refl _) ?_;exact am rfl rfl rfl
  ·simp at X;rw[fF] at X;obtain ⟨j,J⟩:=wq (n:=24) (B:=S.N) (by omega);have hjf:=iV J;refine ai<|A<|T<|ac<|ak ?_;refine aL (α:=Nat) (λk=>1<=k/\k<=j) (λk=>U [(0,ptr b 0),(2,Bo lf),(4,ptr b4 0),(8,I k)]) (λ_=>pcc b #[ptr p 0, .map (some r)] 231::nj p S.B::mp r (tb cl 24 S.N)::pcc b4 (ga n).toArray 185::F) (λk=>j - k) 1 ⟨by omega,by omega⟩ [0,2,4,8] rfl ?_;intro k h0;have hnk:=VD hok J h0;refine ac<|A<|C<|M aa<|gF 1 XX W Yf<|gL (.map (some r)) Yk<|C<|M (cW (v:=cl (gN S.N (k))) Yl XA Yx (PX hok.2.2.1 _))<|M (H5 (v:=I (gN S.N k).refs) XV W Xv W W)<|M aQ<|ab<|ah ?_ ?_<;>intro h28
   ·simp at h28;refine ai<|ak<|al<|C<|gP<|T<|aE ?_;exact an (k+1) ⟨by omega,by omega⟩ (by omega) [0,2,4,8] rfl
   ·simp at h28;obtain rfl:k=j:=(by omega);refine aF ?_;refine ac ?_;refine cn (Lf:=[pcc b #[ptr p 0, .map (some r)] 231,pcc b4 (ga n).toArray 185]) jR ?_;refine dM W<|dV W aa<|dF W 1 XX W Yf<|dL W (.map (some r)) Yk<|dM W<|dV W (bj (vs:=ga (n)) Yu XR bM)<|dV W (aS (IG n))<|rE W (cq Yl XA) ?_;rintro _ _ rfl;refine aN ?_;refine cC p r b (⟨S.B,aD S.N k (some (rf n 1))⟩) (oc cl (x:=rf n 1) (by omega)) ?_;show G _ _ _ (lM b (part (db lf) ⟨S.B,aD S.N k (some (rf n 1))⟩ n 0)::_);refine ac<|A<|M (bj (vs:=ga (n)) Yu XR bM)<|C<|ab<|ak ?_;refine aL (α:=Nat) (λi=>i<=4) (λi=>U [(0,ptr b 0),(2,Bo lf),(8,I k),(38, .agg (ga n).toArray),(39,I i)]) (λi=>lM b (part (db lf) ⟨S.B,aD S.N k (some (rf n 1))⟩ n i)::F) (λi=>4 - i) 0 (by omega) [0,2,8,38,39] rfl ?_;intro i hi;have hpi:=oI (tY (k:=k) hok hm.1 (by omega) n) (by omega) hk i hi;refine A<|M aG<|ab<|ac<|ah ?_ ?_<;>intro h40
    ·simp at h40;have R:i<4:=(by omega);refine ai<|ac<|ak<|A<|M (ln (v:=I (bZ (n) i)) i X6 Xu Xv R (by simpa using g7 (n) i R))<|T<|ak<|A<|C<|M bE<|T<|ah ?_ ?_<;>intro V
     ·simp at V;refine ai<|aE<|aE<|al<|gP<|C<|ab ?_;rw[show part (db lf) ⟨S.B,aD S.N k (some (rf n 1))⟩ n i=part (db lf) ⟨S.B,aD S.N k (some (rf n 1))⟩ n (i+1) by rw[jl _ _ _ i R];unfold db;rw[kaT V]];exact an (i+1) (by omega) (by omega) [0,2,8,38,39] rfl
     ·simp at V;refine A<|C<|T<|ah ?_ ?_<;>intro Y
      ·refine fl b (part (db lf) ⟨S.B,aD S.N k (some (rf n 1))⟩ n i) ?_;intro p2 r2;refine al<|C<|M aa<|gF 0 XX W YY<|gL (ptr p2 0) Y3<|C<|gR (vB call265 (vy p2 (part (db lf) ⟨S.B,aD S.N k (some (rf n 1))⟩ n i).B (bZ n i) (tX hpi (by omega))))<|ab<|aE<|aE<|al<|gP<|C<|ab ?_;refine cC p2 r2 b (⟨fB (part (db lf) ⟨S.B,aD S.N k (some (rf n 1))⟩ n i).B (bZ n i) 1,(part (db lf) ⟨S.B,aD S.N k (some (rf n 1))⟩ n i).N⟩) (.refl _) ?_;rw[show (⟨fB (part (db lf) ⟨S.B,aD S.N k (some (rf n 1))⟩ n i).B (bZ n i) 1,(part (db lf) ⟨S.B,aD S.N k (some (rf n 1))⟩ n i).N⟩:SI)=part (db lf) ⟨S.B,aD S.N k (some (rf n 1))⟩ n (i+1) by rw[jl _ _ _ i R];unfold db;rw[kaU V,kaT Y]];exact an (i+1) (by omega) (by omega) [0,2,8,38,39] rfl
      ·refine al<|C<|C<|gR (vB call249 (mQ b (part (db lf) ⟨S.B,aD S.N k (some (rf n 1))⟩ n i) (bZ n i) (m+i) hpi (by omega) (by have:=hk (by simpa using Y) i R;omega)))<|ab<|aE<|aE<|al<|gP<|C<|ab ?_;rw[show (⟨(part (db lf) ⟨S.B,aD S.N k (some (rf n 1))⟩ n i).B,r6 (part (db lf) ⟨S.B,aD S.N k (some (rf n 1))⟩ n i).N (bZ n i)⟩:SI)=part (db lf) ⟨S.B,aD S.N k (some (rf n 1))⟩ n (i+1) by rw[jl _ _ _ i R];unfold db;rw[kaU V,kaU (by simpa using Y)]];exact an (i+1) (by omega) (by omega) [0,2,8,38,39] rfl
    ·simp at h40;obtain rfl:i=4:=(by omega);refine aF ?_;refine A<|C<|gA<|T ?_;rw[show br S n=((k:Int),0) by unfold br;rw[kaU O,J],show bu lf S n=part (db lf) ⟨S.B,aD S.N k (some (rf n 1))⟩ n 4 by unfold bu;rw[kaU O,J];rfl];exact am rfl rfl rfl
def qv b S(d:Bytes)m(hok:ii m S)(hm:m<=1000000)(hd:d.length<=9223372036854775807)F:cqq 229 [ptr b 0,ay d] (lM b S::F) (R1 (.tuple #[I (aq S d).1,fA 117 (aq S d).2]) (lM b (aj S d)::F)):=by
 refine Ct.of func229 W 16 ntmps229 (by simp) λw0=>?_;refine A<|gA<|T<|ac<|A<|C<|M bV<|ab<|ah ?_ ?_<;>intro J
 ·simp at J;refine A<|gA<|T ?_;rw[show aq S d=(0,0) by unfold aq;rw[kaT J],show aj S d=S by unfold aj;rw[kaT J]];exact am rfl rfl rfl
 ·simp at J;refine ai<|ac ?_;refine fl b (S) ?_;intro p r;refine al<|C<|M aa<|gF 0 XX W YY<|gL (ptr p 0) Y3<|C<|gR (vB call264 (vz p S.B d (tX hok hm) hd))<|gX (I (kH S.B d).1)<|gX (fA 117 (kH S.B d).2)<|gA<|T ?_;rw[show aq S d=kH S.B d by unfold aq;rw[kaU J],show aj S d=⟨mj S.B d,S.N⟩ by unfold aj;rw[kaU J]];refine cC p r b (⟨mj S.B d,S.N⟩) (.refl _) ?_;exact am rfl rfl rfl
def lG b S q m(hok:ii m S)(hm:0<=m/\m<=1000000)(hq:q<=24)F:cqq 196 [ptr b 0,I q] (lM b S::F) (R1 (I q) (lM b (eP S q)::F)):=by
 refine Ct.of func196 W 11 ntmps196 (by simp) λw0=>?_;refine A<|T<|ac<|A<|C<|M aQ<|ab<|ah ?_ ?_<;>intro J
 ·simp at J;refine al<|C<|C<|gR (vB call249 (mQ b S q m hok hm (by omega)))<|ab<|A<|C<|T ?_;rw[show (⟨S.B,r6 S.N q⟩:SI)=eP S q by unfold eP;rw[kaT J]];exact am rfl rfl rfl
 ·simp at J;refine ai<|A<|C<|T ?_;rw[show lM b S=lM b (eP S q) by unfold eP;rw[iOm]];exact am rfl rfl rfl
def jn b S q m(hok:ii m S)(hm:0<=m/\m<=1000000)F:cqq 170 [ptr b 0,I q] (lM b S::F) (R1 (.tuple #[]) (lM b (rH S q)::F)):=by
 refine Ct.of func170 W 7 ntmps170 (by simp) λw0=>?_;refine al<|C<|C<|gR (vB call232 (wS b S q m hok hm))<|ab ?_;exact gh rfl rfl rfl
theorem E7 (a:Nat)(h:a<16):IntKind.i64.wrap ((a:Int).tdiv 4)=((a / 4:Nat):Int):=by
 grind[cK]
def QL (a:Nat):(a:Int).tmod 4=((a % 4:Nat):Int):=rfl
def t6 n:(kV n).toArray.extract 0 (0+4)=(ga n).toArray:=by simp
theorem yO S n:0<=(br S n).1/\(br S n).1<=24:=by
 grind[br,ef]
def yP n x:∀i j,i<4->j<4->bZ (KR n i x) j=if j=i then x else bZ n j:=by
 intro i j hi hj
 match i,j,hi,hj with
 | 0,0,_,_ | 0,1,_,_ | 0,2,_,_ | 0,3,_,_ | 1,0,_,_ | 1,1,_,_ | 1,2,_,_ | 1,3,_,_ | 2,0,_,_ | 2,1,_,_ | 2,2,_,_ | 2,3,_,_ | 3,0,_,_ | 3,1,_,_ | 3,2,_,_ | 3,3,_,_=>rfl
 | i+4,j,h,_=>omega
 | 0,j+4,_,h | 1,j+4,_,h | 2,j+4,_,h | 3,j+4,_,h=>omega
variable {i:Nat}
theorem vL {x o}(hi:i<4)(ho:o=i):(ga n).toArray.setIfInBounds o (I x)=(ga (KR n i x)).toArray:=by
 grind[QK]
def j4 b S root(at_:Nat)m(hok:ii m S)(hm:m<=1000000)(J:at_<16)F:cqq 98 [ptr b 0,I root,I at_] (lM b S::F) (R1 (ay (jj S root at_)) (lM b S::F)):=by
 refine Ct.of func98 W 39 ntmps98 (by simp) λw0=>?_;refine fl b (S) ?_;intro p r;refine A<|T<|A<|C<|M aa<|gF 1 XX W Yf<|gL (.map (some r)) Yk<|C<|M (cW (v:=cl (gN S.N (root))) Yl XA Yx (PX hok.2.2.1 _))<|M (tE (ga (gN S.N root)) XV W Yu XR (t6 _))<|C<|M (qd (E7 at_ J))<|M (ln (v:=I (bZ (gN S.N root) (at_ / 4))) (at_ / 4) X6 Xu Xv (by omega) (by simpa using g7 (gN S.N root) (at_ / 4) (by omega)))<|T<|ac<|gD (Lf:=[pcc b #[ptr p 0, .map (some r)] 231,mp r (tb cl 24 S.N)]) [(0,false),(1,false),(2,false),(3,false),(4,false),(5,false),(6,false),(7,false),(8,false),(9,false),(10,false),(11,false),(12,false),(13,false),(14,true),(15,false),(16,false),(17,false),(18,false),(19,false)]<|dM W<|dV W aa<|dF W 0 XX W YY<|dL W (ptr p 0) Y3<|dM W<|dV W aa<|dF W 1 XX W Yf<|dL W (.map (some r)) Yk<|dM W<|dV W (cW (v:=cl (gN S.N (bZ (gN S.N root) (at_ / 4)))) Yl XA Yx (PX hok.2.2.1 _))<|dV W (tE (ga (gN S.N (bZ (gN S.N root) (at_ / 4)))) XV W Yu XR (t6 _))<|dM W<|dV W (tq (by exact QL at_))<|dV W (ln (v:=I (bZ (gN S.N (bZ (gN S.N root) (at_ / 4))) (at_ % 4))) (at_ % 4) X6 Xu Xv (kbD _ (by decide)) (by simpa using g7 (gN S.N (bZ (gN S.N root) (at_ / 4))) (at_ % 4) (kbD _ (by decide))))<|cQ W (uB call173 (vx p S.B (bZ (gN S.N (bZ (gN S.N root) (at_ / 4))) (at_ % 4)) (tX hok hm))) ?_;rintro _ _ ⟨rfl,rfl⟩;refine dM W<|dV W (aB (v:=ay (jj S root at_)))<|dV W (aB (v:=fA 117 (wQ S.B (bZ (gN S.N (bZ (gN S.N root) (at_ / 4))) (at_ % 4))).2))<|dV W ax<|dV W ax ?_;refine aN ?_;refine A<|C<|T ?_;refine cC p r b (S) (.refl _) ?_;exact am rfl rfl rfl
def mR b S root(at_:Nat)(d:Bytes)m(hok:ii m S)(hm:1<=m/\m<=800000)(hat:at_<16)(hd:d.length<=9223372036854775807)(hk:∀i,i<4->0<=bZ (gN S.N root) i/\bZ (gN S.N root) i<=24)F:cqq 169 [ptr b 0,I root,I at_,ay d] (lM b S::F) (R1 (.tuple #[I (dH S root at_ d).1,fA 117 (dH S root at_ d).2]) (lM b (jk S root at_ d)::F)):=by
 have O:=Bp hok hm.1 d;have hN1:(aj S d).N=S.N:=(by unfold aj;split <;> rfl);have Y:ii (m+4) (bu true (aj S d) (bD (aj S d) root at_ (aq S d).1)):=tZ O hm.1 (λh=>by cases h);have R:ii (m+4) (kj (bu true (aj S d) (bD (aj S d) root at_ (aq S d).1)) (aq S d).1):=IF Y _;have hk3:∀i,i<4->0<=bZ (ei (aj S d) root at_ (br (aj S d) (bD (aj S d) root at_ (aq S d).1)).1) i/\bZ (ei (aj S d) root at_ (br (aj S d) (bD (aj S d) root at_ (aq S d).1)).1) i<=24:=λi hi=>by
  unfold ei;rw[yP _ _ _ _ (by omega) hi,hN1];split
  ·exact yO _ _
  ·exact hk i hi
 have Z:ii (m+4+4) (bu false (kj (bu true (aj S d) (bD (aj S d) root at_ (aq S d).1)) (aq S d).1) (ei (aj S d) root at_ (br (aj S d) (bD (aj S d) root at_ (aq S d).1)).1)):=tZ R (by omega) (λ_=>hk3);refine Ct.of func169 W 80 ntmps169 (by simp) λw0=>?_;refine A<|gA<|T<|A<|C<|C<|gR (vB call229 (qv b S d m hok (by omega) hd))<|C<|gX (I (aq S d).1)<|gX (fA 117 (aq S d).2)<|gA<|T<|ac<|A<|C<|M (bX XF)<|ab<|ah ?_ ?_<;>intro V
 ·simp at V;refine A<|C<|gA<|T ?_;rw[show dH S root at_ d=(0,(aq S d).2) by unfold dH;simp only;rw[kaT V],show jk S root at_ d=(aj S d) by unfold jk;simp only;rw[kaT V]];exact am rfl rfl rfl
 ·simp at V;refine ai<|ac ?_;refine fl b ((aj S d)) ?_;intro p r;refine al<|C<|M aa<|gF 1 XX W Yf<|gL (.map (some r)) Yk<|C<|M (cW (v:=cl (gN (aj S d).N (root))) Yl XA Yx (PX O.2.2.1 _))<|M (tE (ga (gN (aj S d).N root)) XV W Yu XR (t6 _))<|gI (aO #[I 0,I 0,I 0,I 0] ZK) ?_;rintro _ _ ⟨b12,rfl,rfl⟩;refine gU (az (cs:=#[I 0,I 0,I 0,I 0]) (vs:=ga (gN (aj S d).N root)) (ga (gN (aj S d).N root)).toArray XR (by simp) (hcs:=by exact aH))<|ab<|ac ?_;refine cn (Lf:=[pcc b #[ptr p 0, .map (some r)] 231,mp r (tb cl 24 (aj S d).N),pcc b12 (ga (gN (aj S d).N root)).toArray 185]) jK ?_;refine dM W<|dV W aa<|dF W 1 XX W Yf<|dL W (.map (some r)) Yk<|dM W<|dV W (qd (E7 at_ hat))<|dV W (bp (at_ / 4) X6 Xu (by omega))<|dV W (aA (v:=I (bZ (gN (aj S d).N root) (at_ / 4))) Xv (hv:=⟨by simpa [bK] using g7 (gN (aj S d).N root) (at_ / 4) (by omega)⟩))<|dV W (cW (v:=cl (gN (aj S d).N (bZ (gN (aj S d).N root) (at_ / 4)))) Yl XA Yx (PX O.2.2.1 _))<|dV W (tE (ga (gN (aj S d).N (bZ (gN (aj S d).N root) (at_ / 4)))) XV W Yu XR (t6 _))<|cQ W (aO #[I 0,I 0,I 0,I 0] ZK) ?_;rintro _ _ ⟨b13,rfl,rfl⟩;refine rE W (az (cs:=#[I 0,I 0,I 0,I 0]) (vs:=ga (gN (aj S d).N (bZ (gN (aj S d).N root) (at_ / 4)))) (ga (gN (aj S d).N (bZ (gN (aj S d).N root) (at_ / 4)))).toArray XR (by simp) (hcs:=by exact aH)) ?_;rintro _ _ rfl;refine aN ?_;refine A<|C<|M (tq (by exact QL at_))<|C<|M (bp (at_ % 4) X6 Xu (kbD _ (by decide)))<|gU (aJ (ga (bD (aj S d) root at_ (aq S d).1)).toArray Xu (by simp;omega) (hcs:=by exact vL (kbD _ (by decide)) (by omega)))<|ab<|ac ?_;refine cC p r b ((aj S d)) (.refl _) ?_;refine al<|C<|M (bj (vs:=ga (bD (aj S d) root at_ (aq S d).1)) Yu XR bM)<|gR (vB call230 (jm b (aj S d) (bD (aj S d) root at_ (aq S d).1) true m O (by omega) (λh=>by cases h)))<|C<|gX (I (br (aj S d) (bD (aj S d) root at_ (aq S d).1)).1)<|gX (fA 117 (br (aj S d) (bD (aj S d) root at_ (aq S d).1)).2)<|gA<|T<|ac<|A<|C<|M (bX XF)<|ab<|ah ?_ ?_<;>intro X
  ·simp at X;refine A<|C<|gA<|T ?_;rw[show dH S root at_ d=(0,(br (aj S d) (bD (aj S d) root at_ (aq S d).1)).2) by unfold dH;simp only;rw[iOm,kaT X],show jk S root at_ d=(bu true (aj S d) (bD (aj S d) root at_ (aq S d).1)) by unfold jk;simp only;rw[iOm,kaT X]];exact am rfl rfl rfl
  ·simp at X;refine ai<|ac<|A<|C<|M aQ<|ab<|ah ?_ ?_<;>intro h56
   ·simp at h56;refine fl b ((bu true (aj S d) (bD (aj S d) root at_ (aq S d).1))) ?_;intro p2 r2;refine al<|C<|M aa<|gF 0 XX W YY<|gL (ptr p2 0) Y3<|C<|gR (vB call231 (mO p2 (bu true (aj S d) (bD (aj S d) root at_ (aq S d).1)).B (aq S d).1 (tX Y (by omega))))<|ab ?_;refine cC p2 r2 b (⟨fB (bu true (aj S d) (bD (aj S d) root at_ (aq S d).1)).B (aq S d).1 (-1),(bu true (aj S d) (bD (aj S d) root at_ (aq S d).1)).N⟩) (.refl _) ?_;rw[show (⟨fB (bu true (aj S d) (bD (aj S d) root at_ (aq S d).1)).B (aq S d).1 (-1),(bu true (aj S d) (bD (aj S d) root at_ (aq S d).1)).N⟩:SI)=(kj (bu true (aj S d) (bD (aj S d) root at_ (aq S d).1)) (aq S d).1) by unfold kj;rw[kaT h56]];refine A<|C<|M (qd (E7 at_ hat))<|C<|M (bp (at_ / 4) X6 Xu (by omega))<|gU (aJ (ga (ei (aj S d) root at_ (br (aj S d) (bD (aj S d) root at_ (aq S d).1)).1)).toArray Xu (by simp;omega) (hcs:=by exact vL (by omega) (by omega)))<|ab<|A<|C<|M (bj (vs:=ga (ei (aj S d) root at_ (br (aj S d) (bD (aj S d) root at_ (aq S d).1)).1)) Yu XR bM)<|gR (vB call230 (jm b (kj (bu true (aj S d) (bD (aj S d) root at_ (aq S d).1)) (aq S d).1) (ei (aj S d) root at_ (br (aj S d) (bD (aj S d) root at_ (aq S d).1)).1) false (m+4) R (by omega) (λ_=>hk3)))<|C<|gX (I (br (kj (bu true (aj S d) (bD (aj S d) root at_ (aq S d).1)) (aq S d).1) (ei (aj S d) root at_ (br (aj S d) (bD (aj S d) root at_ (aq S d).1)).1)).1)<|gX (fA 117 (br (kj (bu true (aj S d) (bD (aj S d) root at_ (aq S d).1)) (aq S d).1) (ei (aj S d) root at_ (br (aj S d) (bD (aj S d) root at_ (aq S d).1)).1)).2)<|gA<|T<|ac<|A<|C<|M (bX XF)<|ab ?_;apply ah<;>intro J
    ·simp at J;refine A<|C<|gA<|T ?_;rw[show dH S root at_ d=(0,(br (kj (bu true (aj S d) (bD (aj S d) root at_ (aq S d).1)) (aq S d).1) (ei (aj S d) root at_ (br (aj S d) (bD (aj S d) root at_ (aq S d).1)).1)).2) by unfold dH;simp only;rw[iOm,iOm,kaT J],show jk S root at_ d=(bu false (kj (bu true (aj S d) (bD (aj S d) root at_ (aq S d).1)) (aq S d).1) (ei (aj S d) root at_ (br (aj S d) (bD (aj S d) root at_ (aq S d).1)).1)) by unfold jk;simp only;rw[iOm,iOm,kaT J]];exact am rfl rfl rfl
    ·simp at J;refine ai<|A<|C<|C<|gR (vB call232 (lS b (bu false (kj (bu true (aj S d) (bD (aj S d) root at_ (aq S d).1)) (aq S d).1) (ei (aj S d) root at_ (br (aj S d) (bD (aj S d) root at_ (aq S d).1)).1)) (br (aj S d) (bD (aj S d) root at_ (aq S d).1)).1 (m+4+4) Z (by omega)))<|ab<|A<|C<|gA<|T ?_;rw[show dH S root at_ d=((br (kj (bu true (aj S d) (bD (aj S d) root at_ (aq S d).1)) (aq S d).1) (ei (aj S d) root at_ (br (aj S d) (bD (aj S d) root at_ (aq S d).1)).1)).1,0) by unfold dH;simp only;rw[iOm,iOm,iOm],show jk S root at_ d=lE (bu false (kj (bu true (aj S d) (bD (aj S d) root at_ (aq S d).1)) (aq S d).1) (ei (aj S d) root at_ (br (aj S d) (bD (aj S d) root at_ (aq S d).1)).1)) (br (aj S d) (bD (aj S d) root at_ (aq S d).1)).1 by unfold jk;simp only;rw[iOm,iOm,iOm]];exact am rfl rfl rfl
   ·simp at h56;rw[show lM b (bu true (aj S d) (bD (aj S d) root at_ (aq S d).1))=lM b (kj (bu true (aj S d) (bD (aj S d) root at_ (aq S d).1)) (aq S d).1) by unfold kj;rw[iOm]];refine ai<|A<|C<|M (qd (E7 at_ hat))<|C<|M (bp (at_ / 4) X6 Xu (by omega))<|gU (aJ (ga (ei (aj S d) root at_ (br (aj S d) (bD (aj S d) root at_ (aq S d).1)).1)).toArray Xu (by simp;omega) (hcs:=by exact vL (by omega) (by omega)))<|ab<|A<|C<|M (bj (vs:=ga (ei (aj S d) root at_ (br (aj S d) (bD (aj S d) root at_ (aq S d).1)).1)) Yu XR bM)<|gR (vB call230 (jm b (kj (bu true (aj S d) (bD (aj S d) root at_ (aq S d).1)) (aq S d).1) (ei (aj S d) root at_ (br (aj S d) (bD (aj S d) root at_ (aq S d).1)).1) false (m+4) R (by omega) (λ_=>hk3)))<|C<|gX (I (br (kj (bu true (aj S d) (bD (aj S d) root at_ (aq S d).1)) (aq S d).1) (ei (aj S d) root at_ (br (aj S d) (bD (aj S d) root at_ (aq S d).1)).1)).1)<|gX (fA 117 (br (kj (bu true (aj S d) (bD (aj S d) root at_ (aq S d).1)) (aq S d).1) (ei (aj S d) root at_ (br (aj S d) (bD (aj S d) root at_ (aq S d).1)).1)).2)<|gA<|T<|ac<|A<|C<|M (bX XF)<|ab ?_;apply ah<;>intro J
    ·simp at J;refine A<|C<|gA<|T ?_;rw[show dH S root at_ d=(0,(br (kj (bu true (aj S d) (bD (aj S d) root at_ (aq S d).1)) (aq S d).1) (ei (aj S d) root at_ (br (aj S d) (bD (aj S d) root at_ (aq S d).1)).1)).2) by unfold dH;simp only;rw[iOm,iOm,kaT J],show jk S root at_ d=(bu false (kj (bu true (aj S d) (bD (aj S d) root at_ (aq S d).1)) (aq S d).1) (ei (aj S d) root at_ (br (aj S d) (bD (aj S d) root at_ (aq S d).1)).1)) by unfold jk;simp only;rw[iOm,iOm,kaT J]];exact am rfl rfl rfl
    ·simp at J;refine ai<|A<|C<|C<|gR (vB call232 (lS b (bu false (kj (bu true (aj S d) (bD (aj S d) root at_ (aq S d).1)) (aq S d).1) (ei (aj S d) root at_ (br (aj S d) (bD (aj S d) root at_ (aq S d).1)).1)) (br (aj S d) (bD (aj S d) root at_ (aq S d).1)).1 (m+4+4) Z (by omega)))<|ab<|A<|C<|gA<|T ?_;rw[show dH S root at_ d=((br (kj (bu true (aj S d) (bD (aj S d) root at_ (aq S d).1)) (aq S d).1) (ei (aj S d) root at_ (br (aj S d) (bD (aj S d) root at_ (aq S d).1)).1)).1,0) by unfold dH;simp only;rw[iOm,iOm,iOm],show jk S root at_ d=lE (bu false (kj (bu true (aj S d) (bD (aj S d) root at_ (aq S d).1)) (aq S d).1) (ei (aj S d) root at_ (br (aj S d) (bD (aj S d) root at_ (aq S d).1)).1)) (br (aj S d) (bD (aj S d) root at_ (aq S d).1)).1 by unfold jk;simp only;rw[iOm,iOm,iOm]];exact am rfl rfl rfl
def rI b S F:cqq 139 [ptr b 0] (lM b S::F) (λv L'=>∃q,v=ptr q 0/\L'=lM q S::lM b S::F):=by
 refine Ct.of func139 W 31 ntmps139 (by simp) λw0=>?_;refine fl b (S) ?_;intro p r;refine A<|T<|A<|C<|M aa<|gF 0 XX W YY<|gL (ptr p 0) Y3<|gI (uB call209 (tW p S.B)) ?_;rintro _ _ ⟨Z,rfl,rfl⟩;refine gI (fH) ?_;rintro _ _ ⟨O,rfl,rfl⟩;refine M (aS (xX _ W _ W))<|gI (dw #[ptr Z 0, .map (some O)]) ?_;rintro _ _ ⟨J,rfl,rfl⟩;refine T ?_;refine ft r ?_;intro es clk;refine ac<|A<|C<|M aa<|gF 1 XX W Yf<|gL (.map (some r)) Yk<|gI (iv Yl) ?_;rintro _ _ ⟨X,rfl,rfl⟩;refine ab<|ak ?_;refine aL (α:=MM×MM×Option (Int×Value)) (λz=>(z.2.1++z.1).Perm (tb cl 24 S.N)) (λ_=>U [(0,ptr b 0),(3,ptr J 0),(18,ptr X 0)]) (λz=>yc X r es clk z.1 z.2.2::tj r es clk (tb cl 24 S.N)::pcc b #[ptr p 0, .map (some r)] 231::nj p S.B::pcc J #[ptr Z 0, .map (some O)] 231::nj Z S.B::mp O z.2.1::F) (λz=>z.1.length) (tb cl 24 S.N,[],none) (.refl _) [0,3,18] rfl ?_;rintro ⟨rest,V,cur⟩ hp;simp only at hp;refine A<|gI kz ?_;rintro _ _ (⟨hr,rfl,rfl⟩ | ⟨⟨k,v⟩,R,hq,rfl,rfl⟩)
 ·subst hr;have hg:V.Perm (tb cl 24 S.N):=(by simpa using hp);refine M aB<|ab<|ac ?_;refine dY ?_;refine aF ?_;refine A<|C<|T ?_;refine cC Z O J S hg ?_;refine bT r ?_;refine cC p r b S (.refl _) ?_;refine jf (L2:=lM J S::lM b S::F) ?_;exact λa w hE hS=>wp_ret (cb (bf (vs:=[ptr J 0]) rfl hE hS ⟨J,rfl,rfl⟩))
 ·obtain ⟨x,hx,hv,hk⟩:=vg (hp.mem_iff.1 (kcU _ (hq.mem_iff.2 (kcq ..))));simp only at hv hk hx;subst hv;have Y:(V++(k,cl x)::R).Perm (tb cl 24 S.N):=(hq.append_left V).symm.trans hp;have hl:=yM Y (oy cl 24 S.N);refine M aB<|ab<|ac ?_;refine d6 ?_;refine ai<|ak<|A<|M iw<|gX (I k)<|gX (cl x)<|gI (aO #[I 0,I 0,I 0,I 0,I 0] Yx) ?_;rintro _ _ ⟨b5,rfl,rfl⟩;refine gA<|gU (az (cs:=#[I 0,I 0,I 0,I 0,I 0]) (vs:=kV x) (kV x).toArray X0 (by simp) (hcs:=by exact aH))<|ab ?_;refine cn (Lf:=[pcc J #[ptr Z 0, .map (some O)] 231,pcc b5 (kV x).toArray 187]) jA ?_;refine dM W<|dV W aa<|dF W 1 XX W Yf<|dL W (.map (some O)) Yk<|dM W<|dV W (bj (vs:=kV (x)) Z3 X0 bM)<|rE W (cq Yl XA) ?_;rintro _ _ rfl;refine aN ?_;refine aE ?_;refine an (R,mD V k (cl x),some (k,cl x)) ((E4 hl).trans Y) (by have:=hq.length_eq;simp at this;simp;omega) [0,3,18] rfl
def vM b S F:cqq 138 [ptr b 0] (lM b S::F) (uX 3 1 (ck 24 S.N).length (bc (ck 24 S.N)) (lM b S::F)):=by
 refine Ct.of func138 W 21 ntmps138 (by simp) λw0=>?_;refine fl b (S) ?_;intro p r;refine ft r ?_;intro es clk;refine aY 3 1 (bc []) ?_;refine A<|T<|A<|T<|ac<|A<|C<|M aa<|gF 1 XX W Yf<|gL (.map (some r)) Yk<|gI (iv Yl) ?_;rintro _ _ ⟨Y,rfl,rfl⟩;refine ab<|ak ?_;refine aL (α:=MM×List Int×Option (Int×Value)×Option Addr×Nat) (λz=>(z.2.1++z.1.map (·.1)).Perm (ck 24 S.N)) (λz=>U [(0,ptr b 0),(9,ptr Y 0),(3,sl z.2.2.2.1 z.2.1.length z.2.2.2.2)]) (λz=>yc Y r es clk z.1 z.2.2.1::tj r es clk (tb cl 24 S.N)::pcc b #[ptr p 0, .map (some r)] 231::nj p S.B::be 3 1 z.2.2.2.1 z.2.2.2.2 (bc z.2.1)::F) (λz=>z.1.length) (tb cl 24 S.N,[],none,none,0) (by rw[kby,nH]) [0,9,3] rfl ?_;rintro ⟨rest,O,cur,s,c⟩ hp;simp only[] at hp ⊢;have hzl:O.length<=24:=(by have h1:=hp.length_eq;have h2:=eM 24 S.N;simp at h1;omega);refine A<|gI kz ?_;rintro _ _ (⟨hr,rfl,rfl⟩ | ⟨⟨k,v⟩,J,hq,rfl,rfl⟩)
 ·subst hr;simp only[kaP,kcV] at hp;refine M aB<|ab<|ac ?_;refine dY ?_;refine aF ?_;refine A<|C<|gR (vB call208 (kG O s O.length c W (by omega))) ?_;rw[tD hp];refine ab<|A<|C<|T ?_;refine bT r ?_;refine cC p r b S (.refl _) ?_;exact cU rfl rfl rfl (by rw[hp.length_eq])
 ·have V:(O++k::J.map (·.1)).Perm (ck 24 S.N):=by
   have h1:=((hq.map (·.1)).append_left O).symm.trans hp;simpa using h1
  refine M aB<|ab<|ac ?_;refine d6 ?_;refine ai<|ak<|A<|M iw<|gX (I k)<|T<|al<|C<|C<|gI (ap [[I k]] XB Xu X5 (by simp)) ?_;rintro _ _ ⟨Z,rfl,rfl⟩;refine gI (aR XB Xu X5 Tryz.typeInfo3 (hn:=by exact cw _) (by simp) (by intro r hr;simp at hr;subst hr;rfl) ⟨by omega,by decide,by decide⟩) ?_;rintro _ _ ⟨X,R,rfl,rfl⟩;refine T<|aE ?_;rw[show bc O++ [[I k]]=bc (O++ [k]) by simp[bc]];refine an (J,O++ [k],some (k,v),X,R) (by simpa using V) (by have:=hq.length_eq;simp at this;simp;omega) [0,9,3] rfl (he:=by simp[U])
def nS (n:Option Nd)(q:Int):Int:=match n with
 | none=>0
 | some n=>(if n.k0=q then 1 else 0)+(if n.k1=q then 1 else 0)+(if n.k2=q then 1 else 0)+(if n.k3=q then 1 else 0)
def mT (N:fZ)(q:Int):List Nat->Int
 | []=>0
 | k::l=>nS (N (k:Int)) q+mT N q l
def ip (N:fZ)(q:Int):Int:=mT N q (List.range' 1 24)
theorem yQ n q:0<=nS n q:=by
 cases n with
 | none=>simp[nS]
 | some n=>grind[nS]
theorem TU n q:nS n q<=4:=by
 cases n with
 | none=>simp[nS]
 | some n=>grind[nS]
def CP N q:∀l,0<=mT N q l
 | []=>by simp[mT]
 | k::l=>by have:=CP N q l;have:=yQ (N (k:Int)) q;simp only[mT];omega
theorem IH N q:∀l,mT N q l<=4*l.length
 | []=>by simp[mT]
 | k::l=>by have:=IH N q l;have:=TU (N (k:Int)) q;grind[mT]
def mU N q:0<=ip N q:=CP _ _ _
def CQ N q:ip N q<=96:=by have:=IH N q (List.range' 1 24);simp at this;exact this
def II {N q k}:∀{l:List Nat},k∈l->nS (N (k:Int)) q<=mT N q l
 | [],h=>by simp at h
 | j::l,h=>by
  have h1:=CP N q l;have J:=yQ (N (j:Int)) q;simp only[mT];rcases kbn.1 h with rfl | h
  ·omega
  ·have:=II (N:=N) (q:=q) h;omega
theorem r7 {N:fZ}{q p x}:∀{l:List Nat},(∀k∈l,(k:Int)≠p)->mT (aD N p x) q l=mT N q l
 | [],_=>rfl
 | j::l,h=>by
  simp only[mT];rw[r7 (λk hk=>h k (kcn _ hk))]
  grind[aD]
theorem Bq {N:fZ}{q p x}:∀{l:List Nat},l.Nodup->p∈l->mT (aD N (p:Int) x) q l=mT N q l - nS (N (p:Int)) q+nS x q
 | [],_,h=>by simp at h
 | j::l,hn,h=>by
  rw[kb3] at hn;simp only[mT];by_cases hj:j=p
  ·grind[r7,aD]
  ·rcases kbn.1 h with rfl | h
   ·exact absurd rfl hj
   ·rw[Bq hn.2 h]
    grind[aD]
variable {p:Int}
theorem t7 (hp:1<=p/\p<=24)x q:ip (aD N p x) q=ip N q - nS (N p) q+nS x q:=by
 obtain ⟨k,rfl⟩:∃k:Nat,p=k:=⟨p.toNat,by omega⟩;exact Bq (kcb (step:=1)) (by grind)
theorem CR (hp:1<=p/\p<=24)q:nS (N p) q<=ip N q:=by
 obtain ⟨k,rfl⟩:∃k:Nat,p=k:=⟨p.toNat,by omega⟩;exact II (by grind)
theorem xB n:∀i,i<4->1<=nS (some n) (bZ n i)
 | 0,_=>by grind[nS,bZ]
 | 1,_=>by grind[nS,bZ]
 | 2,_=>by grind[nS,bZ]
 | 3,_=>by grind[nS,bZ]
 | i+4,h=>absurd h (by omega)
theorem CS (h:0<nS (some n) q):∃i,i<4/\bZ n i=q:=by
 simp only[nS] at h;by_cases h0:n.k0=q
 ·exact ⟨0,by omega,h0⟩
 ·by_cases h1:n.k1=q
  ·exact ⟨1,by omega,h1⟩
  ·by_cases J:n.k2=q
   ·exact ⟨2,by omega,J⟩
   ·by_cases O:n.k3=q
    ·exact ⟨3,by omega,O⟩
    grind
def vN {N q}:∀{l:List Nat},(∀k∈l,nS (N (k:Int)) q=0)->mT N q l=0
 | [],_=>rfl
 | k::l,h=>by simp only[mT];rw[h k (by simp),vN λj hj=>h j (kcn _ hj)];rfl
theorem E8 q:ip (λ_=>none) q=0:=vN λ_ _=>rfl
structure Gh where
 R:fZ
 L:fZ
 D:Int->Option Bytes
 eR:Int->Int
 eL:Int->Int
 eB:Int->Int
def Al (G:Gh):fZ:=λq=>match G.R q with
 | some n=>some (rf n (G.eR q))
 | none=>(G.L q).map λn=>rf n (G.eL q+ip G.R q)
def QM (G:Gh):qc:=λq=>(G.D q).map λd=>(d,G.eB q+ip G.L q)
def bH (G:Gh):SI:=⟨QM G,Al G⟩
structure Val (G:Gh):Prop where
 sR:mE 24 G.R
 sL:mE 24 G.L
 sD:mE 40 G.D
 dj:∀q,G.R q=none\/G.L q=none
 nR:∀q,0<=G.eR q
 nL:∀q,0<=G.eL q
 nB:∀q,0<=G.eB q
 pR:∀q,q≠0->((G.R q).isSome=true ↔ 0<G.eR q)
 pL:∀q,q≠0->((G.L q).isSome=true ↔ 0<G.eL q+ip G.R q)
 pD:∀q,q≠0->((G.D q).isSome=true ↔ 0<G.eB q+ip G.L q)
def del (f:Int->Int)(q:Int)(d:Int):Int->Int:=λp=>if p=q then f p+d else f p
theorem oJ f q d:del f q d q=f q+d:=by simp[del]
theorem CT f d(h:p≠q):del f q d p=f p:=by simp[del,h]
variable {n:Nat}
def TV {B:Int->Option ρ}(h:mE n B):B 0=none:=by
 cases e:B 0 with
 | none=>rfl
 | some x=>have:=h 0 x e;omega
def lg {B}(h:mE n B){x:ρ}(e:B q=some x):q≠0:=by have:=h q x e;omega
variable {n:Nd}
theorem Val.kidR {G}(V:Val G)(h:G.R q=some n)(hi:i<4):bZ n i=0\/∃m,G.L (bZ n i)=some m:=by
 by_cases h0:bZ n i=0
 ·exact .inl h0
 ·right;have h1:=CR (N:=G.R) (V.sR q n h) (bZ n i);rw[h] at h1;have O:=xB n i hi;have J:=(V.pL _ h0).2 (by have:=V.nL (bZ n i);omega);exact kcX.1 J
theorem Val.kidL {G}(V:Val G)(h:G.L q=some n)(hi:i<4):bZ n i=0\/∃d,G.D (bZ n i)=some d:=by
 by_cases h0:bZ n i=0
 ·exact .inl h0
 ·right;have h1:=CR (N:=G.L) (V.sL q n h) (bZ n i);rw[h] at h1;have O:=xB n i hi;have J:=(V.pD _ h0).2 (by have:=V.nB (bZ n i);omega);exact kcX.1 J
theorem qw {G}(h:G.R q=some n):(bH G).N q=some (rf n (G.eR q)):=by simp[bH,Al,h]
def r8 {G}(V:Val G)(h:G.L q=some n):(bH G).N q=some (rf n (G.eL q+ip G.R q)):=by
 have:G.R q=none:=(V.dj q).resolve_right (by rw[h];simp);simp[bH,Al,h,this]
theorem mV {G}(h:G.R q=none)(J:G.L q=none):(bH G).N q=none:=by simp[bH,Al,h,J]
def CU {G}(h:(bH G).N q=none):G.R q=none/\G.L q=none:=by
 simp only[bH,Al] at h;cases e:G.R q with
 | some n=>rw[e] at h;cases h
 | none=>simp_all
variable {d:Bytes}
def kJ {G}(h:G.D q=some d):(bH G).B q=some (d,G.eB q+ip G.L q):=by simp[bH,QM,h]
theorem qx {G}(h:G.D q=none):(bH G).B q=none:=by simp[bH,QM,h]
theorem VE {G}(V:Val G)(Y:∀q,G.eR q<=m)(X:∀q,G.eL q<=m)(S:∀q,G.eB q<=m):ii (m+96) (bH G):=by
 refine ⟨λq x e=>?_,λq x e=>?_,λq n e=>?_,λq n e=>?_⟩
 ·cases h:G.D q with
  | none=>grind[qx]
  | some d=>exact V.sD q d h
 ·cases h:G.D q with
  | none=>grind[qx]
  | some d=>
   rw[kJ h] at e;injection e with e;subst e;have:=(V.pD q (lg V.sD h)).1 (by rw[h];rfl);have:=CQ G.L q
   grind
 ·cases h:G.R q with
  | some n=>exact V.sR q n h
  | none=>cases J:G.L q with
   | some n=>exact V.sL q n J
   | none=>grind[mV]
 ·cases h:G.R q with
  | some O=>
   rw[qw h] at e;injection e with e;subst e;have:=(V.pR q (lg V.sR h)).1 (by rw[h];rfl)
   grind[rf]
  | none=>cases J:G.L q with
   | some O=>
    rw[r8 V J] at e;injection e with e;subst e;have:=(V.pL q (lg V.sL J)).1 (by rw[J];rfl);have:=CQ G.R q
    grind[rf]
   | none=>grind[mV]
def mW {ec}(h1:S.B=ec.B)(J:S.N=ec.N):S=ec:=by cases S;cases ec;simp_all
def ndSub (cB B:fZ):Prop:=∀q n,cB q=some n->B q=some n
def dSub (cB B:Int->Option Bytes):Prop:=∀q n,cB q=some n->B q=some n
def cutD (G:Gh)(b:Int):Gh:={G with eB:=del G.eB b (-1),D:=if G.eB b+ip G.L b=1 then aD G.D b none else G.D}
theorem Val.cutD {G}(V:Val G){b}(O:b≠0)(he:1<=G.eB b):Val (cutD G b):=by
 have ht:=mU G.L b;refine ⟨V.sR,V.sL,?_,V.dj,V.nR,V.nL,λq=>?_,V.pR,V.pL,λq hq=>?_⟩
 ·show mE 40 (if G.eB b+ip G.L b=1 then aD G.D b none else G.D);split
  ·exact kA V.sD λe=>by cases e
  ·exact V.sD
 ·show 0<=del G.eB b (-1) q;unfold del;split
  ·grind
  ·exact V.nB q
 ·show ((if G.eB b+ip G.L b=1 then aD G.D b none else G.D) q).isSome=true ↔ 0<del G.eB b (-1) q+ip G.L q;by_cases J:q=b
  ·subst J;rw[oJ];split
   ·simp[aD];omega
   ·rw[V.pD q hq];omega
  ·rw[CT _ _ J];have:(if G.eB b+ip G.L b=1 then aD G.D b none else G.D) q=G.D q:=(by grind[aD]);rw[this,V.pD q hq]
theorem Fa {G}(V:Val G){b}(J:b≠0)(he:1<=G.eB b):(⟨fB (bH G).B b (-1),(bH G).N⟩:SI)=bH (cutD G b):=by
 have ht:=mU G.L b;obtain ⟨d,hd⟩:=kcX.1 ((V.pD b J).2 (by omega));refine mW (funext λq=>?_) rfl;show fB (bH G).B b (-1) q=QM (cutD G b) q;unfold fB;rw[kJ hd];simp only;by_cases hq:q=b
 ·subst hq;show (aD _ _ _) q=((if G.eB q+ip G.L q=1 then aD G.D q none else G.D) q).map λd=>(d,del G.eB q (-1) q+ip G.L q)
  grind[oJ,aD]
 ·show (aD _ _ _) q=((if G.eB b+ip G.L b=1 then aD G.D b none else G.D) q).map λd=>(d,del G.eB b (-1) q+ip G.L q);rw[CT _ _ hq];have:(if G.eB b+ip G.L b=1 then aD G.D b none else G.D) q=G.D q:=by split <;> simp[aD,hq]
  simp_all[aD,bH,QM]
theorem MX G b:dSub (cutD G b).D G.D:=λq n h=>by
 change (if G.eB b+ip G.L b=1 then aD G.D b none else G.D) q=some n at h
 grind[aD]
def js (l:List Int)(q:Int):Int:=if q=0 then 0 else (l.count q:Int)
theorem eJ k l q:js (k::l) q=js l q+if k=q/\q≠0 then 1 else 0:=by
 grind[js]
theorem sM l q:0<=js l q:=by grind[js]
theorem vO n(hq:q≠0):js (kd n) q=nS (some n) q:=by
 grind[kd,nS,js]
structure LessD (G G':Gh):Prop where
 R:G'.R=G.R
 L:G'.L=G.L
 eR:G'.eR=G.eR
 eL:G'.eL=G.eL
 D:dSub G'.D G.D
theorem sO:∀(l:List Int) {G:Gh},Val G->(∀q,js l q<=G.eB q)->∃J,Val J/\l.foldl eZ (bH G)=bH J/\LessD G J/\∀q,J.eB q=G.eB q - js l q
 | [],G,V,_=>⟨G,V,rfl,⟨rfl,rfl,rfl,rfl,λq n h=>h⟩,λq=>by simp[js]⟩
 | k::l,G,V,h=>by
  by_cases hk:k=0
  ·subst hk;obtain ⟨J,O,e,s,hq⟩:=sO l V λq=>by grind[eJ]
   grind[eZ,eJ]
  ·have he:1<=G.eB k:=(by have:=h k;rw[eJ,kaT ⟨rfl,hk⟩] at this;have:=sM l k;omega);obtain ⟨J,O,e,s,hq⟩:=sO l (V.cutD hk he) λq=>by
    have:=h q;rw[eJ] at this;show js l q<=del G.eB k (-1) q
    grind[del]
   refine ⟨J,O,?_,⟨s.R,s.L,s.eR,s.eL,λq n hn=>MX G k q n (s.D q n hn)⟩,λq=>?_⟩
   ·grind[eZ,Fa]
   ·rw[hq,eJ];show del G.eB k (-1) q - js l q=_
    grind[del]
structure LessL (G G':Gh):Prop where
 R:G'.R=G.R
 eR:G'.eR=G.eR
 eB:G'.eB=G.eB
 L:ndSub G'.L G.L
 D:dSub G'.D G.D
def QN i:bZ yN i=0:=by unfold bZ;split <;> rfl
def MY n r i:bZ (rf n r) i=bZ n i:=by unfold bZ;split <;> rfl
theorem pC (h:N q=some n):gN N q=n:=by unfold gN;rw[h];rfl
theorem Val.keepL {G}(V:Val G)(hq:q≠0)(he:1<=G.eL q)(J:2<=G.eL q+ip G.R q):Val {G with eL:=del G.eL q (-1)}:=by
 refine ⟨V.sR,V.sL,V.sD,V.dj,V.nR,λp=>?_,V.nB,V.pR,λp hp=>?_,V.pD⟩
 ·show 0<=del G.eL q (-1) p;unfold del;split
  ·grind
  ·exact V.nL p
 ·show (G.L p).isSome=true ↔ 0<del G.eL q (-1) p+ip G.R p;rw[V.pL p hp]
  grind[del]
theorem Fb {G}(V:Val G)(hq:q≠0)(he:1<=G.eL q)(O:2<=G.eL q+ip G.R q):lE (bH G) q=bH {G with eL:=del G.eL q (-1)}:=by
 obtain ⟨n,hn⟩:=kcX.1 ((V.pL q hq).2 (by omega));have J:=pC (r8 V hn);unfold lE vI;rw[kaU hq,J,kaT (by simp only[rf];omega)];refine mW W<|funext λp=>?_;show aD (bH G).N q _ p=Al _ p;by_cases hp:p=q
 ·subst hp;have hr:G.R p=none:=(V.dj p).resolve_right (by rw[hn];simp)
  grind[aD,Al,rf,del]
 simp_all[aD,bH,Al,del]
def goL (G:Gh)(q:Int)(n:Nd):Gh:={G with L:=aD G.L q none,eL:=del G.eL q (-1),eB:=λp=>G.eB p+js (kd n) p}
def IJ {G}(V:Val G)(hn:G.L q=some n)(hp:p≠0):G.eB p+js (kd n) p+ip (aD G.L q none) p=G.eB p+ip G.L p:=by
 rw[t7 (V.sL q n hn),hn,vO n hp];simp only[nS];omega
theorem Val.goL {G}(V:Val G){q n}(hn:G.L q=some n)(he:1<=G.eL q)(h1:G.eL q+ip G.R q=1):Val (goL G q n):=by
 have ht:=mU G.R q;refine ⟨V.sR,kA V.sL (λe=>by cases e),V.sD,λp=>?_,V.nR,λp=>?_,λp=>?_,V.pR,λp hp=>?_,λp hp=>?_⟩
 ·show G.R p=none\/aD G.L q none p=none;unfold aD;split
  ·exact .inr rfl
  ·exact V.dj p
 ·show 0<=del G.eL q (-1) p;unfold del;split
  ·grind
  ·exact V.nL p
 ·show 0<=G.eB p+js (kd n) p;have:=V.nB p;have:=sM (kd n) p;omega
 ·show (aD G.L q none p).isSome=true ↔ 0<del G.eL q (-1) p+ip G.R p;unfold aD del;split
  ·grind
  ·exact V.pL p hp
 ·show (G.D p).isSome=true ↔ 0<G.eB p+js (kd n) p+ip (aD G.L q none) p;rw[IJ V hn hp];exact V.pD p hp
theorem TW {G}(V:Val G)(hn:G.L q=some n):(⟨(bH G).B,aD (bH G).N q none⟩:SI)=bH (goL G q n):=by
 refine mW (funext λp=>?_)<|funext λp=>?_
 ·show (G.D p).map _=(G.D p).map _;cases h:G.D p with
  | none=>rfl
  | some d=>
   have:=IJ V hn (lg V.sD h)
   grind[goL]
 ·show aD (bH G).N q none p=Al (goL G q n) p;by_cases hp:p=q
  ·subst hp;have hr:G.R p=none:=(V.dj p).resolve_right (by rw[hn];simp);simp[aD,Al,goL,hr]
  simp_all[aD,bH,Al,goL,del]
theorem TX {G}(V:Val G)(hq:q≠0)(he:1<=G.eL q):∃J,Val J/\lE (bH G) q=bH J/\LessL G J/\J.eL=del G.eL q (-1):=by
 obtain ⟨n,hn⟩:=kcX.1 ((V.pL q hq).2 (by have:=mU G.R q;omega));by_cases O:2<=G.eL q+ip G.R q
 ·exact ⟨_,V.keepL hq he O,Fb V hq he O,⟨rfl,rfl,rfl,λq n h=>h,λq n h=>h⟩,rfl⟩
 ·have h1:G.eL q+ip G.R q=1:=(by have:=mU G.R q;omega);have Y:=pC (r8 V hn);obtain ⟨J,S,e,s,X⟩:=sO (kd n) (V.goL hn he h1) λp=>by
   show js (kd n) p<=G.eB p+js (kd n) p;have:=V.nB p;omega
  refine ⟨J,S,?_,⟨s.R,s.eR,funext λp=>?_,λp m hp=>?_,s.D⟩,s.eL⟩
  ·unfold lE vI;rw[kaU hq,Y,kaU (by simp only[rf];omega),TW V hn];exact e
  ·rw[X p];show G.eB p+js (kd n) p - js (kd n) p=G.eB p;omega
  ·rw[s.L] at hp;change aD G.L q none p=some m at hp
   grind[aD]
theorem yR:∀(l:List Int) {G:Gh},Val G->(∀q,js l q<=G.eL q)->∃J,Val J/\l.foldl lE (bH G)=bH J/\LessL G J/\∀q,J.eL q=G.eL q - js l q
 | [],G,V,_=>⟨G,V,rfl,⟨rfl,rfl,rfl,λq n h=>h,λq n h=>h⟩,λq=>by simp[js]⟩
 | k::l,G,V,h=>by
  by_cases hk:k=0
  ·subst hk;obtain ⟨J,X,e,s,hq⟩:=yR l V λq=>by grind[eJ]
   refine ⟨J,X,?_,s,λq=>?_⟩
   ·simp_all[lE,vI]
   grind[eJ]
  ·have he:1<=G.eL k:=(by have:=h k;rw[eJ,kaT ⟨rfl,hk⟩] at this;have:=sM l k;omega);obtain ⟨Z,Y,e1,S,O⟩:=TX V hk he;obtain ⟨J,X,e,s,hq⟩:=yR l Y λq=>by
    have:=h q;rw[eJ] at this;rw[O]
    grind[del]
   refine ⟨J,X,?_,⟨s.R.trans S.R,s.eR.trans S.eR,s.eB.trans S.eB,λq n hn=>S.L q n (s.L q n hn),λq n hn=>S.D q n (s.D q n hn)⟩,λq=>?_⟩
   ·grind
   ·rw[hq,eJ,O]
    grind[del]
structure LessR (G G':Gh):Prop where
 eL:G'.eL=G.eL
 eB:G'.eB=G.eB
 R:ndSub G'.R G.R
 L:ndSub G'.L G.L
 D:dSub G'.D G.D
def goR (G:Gh)(q:Int)(n:Nd):Gh:={G with R:=aD G.R q none,eR:=del G.eR q (-1),eL:=λp=>G.eL p+js (kd n) p}
def IK {G}(V:Val G)(hn:G.R q=some n)(hp:p≠0):G.eL p+js (kd n) p+ip (aD G.R q none) p=G.eL p+ip G.R p:=by
 rw[t7 (V.sR q n hn),hn,vO n hp];simp only[nS];omega
theorem Val.goR {G}(V:Val G){q n}(hn:G.R q=some n)(h1:G.eR q=1):Val (goR G q n):=by
 refine ⟨kA V.sR (λe=>by cases e),V.sL,V.sD,λp=>?_,λp=>?_,λp=>?_,V.nB,λp hp=>?_,λp hp=>?_,V.pD⟩
 ·show aD G.R q none p=none\/G.L p=none;unfold aD;split
  ·exact .inl rfl
  ·exact V.dj p
 ·show 0<=del G.eR q (-1) p;unfold del;split
  ·grind
  ·exact V.nR p
 ·show 0<=G.eL p+js (kd n) p;have:=V.nL p;have:=sM (kd n) p;omega
 ·show (aD G.R q none p).isSome=true ↔ 0<del G.eR q (-1) p;unfold aD del;split
  ·grind
  ·exact V.pR p hp
 ·show (G.L p).isSome=true ↔ 0<G.eL p+js (kd n) p+ip (aD G.R q none) p;rw[IK V hn hp];exact V.pL p hp
theorem TY {G}(V:Val G)(hn:G.R q=some n):(⟨(bH G).B,aD (bH G).N q none⟩:SI)=bH (goR G q n):=by
 refine mW W<|funext λp=>?_;show aD (bH G).N q none p=Al (goR G q n) p;by_cases hp:p=q
 ·subst hp;have hr:G.L p=none:=(V.dj p).resolve_left (by rw[hn];simp);simp[aD,Al,goR,hr]
 ·have J:aD G.R q none p=G.R p:=(by simp[aD,hp]);have O:del G.eR q (-1) p=G.eR p:=(by simp[del,hp]);show aD (bH G).N q none p=match aD G.R q none p with
   | some n=>some (rf n (del G.eR q (-1) p))
   | none=>(G.L p).map λm=>rf m (G.eL p+js (kd n) p+ip (aD G.R q none) p)
  rw[J,O];simp only[aD,kaU hp,bH,Al];cases hr:G.R p with
  | some m=>rfl
  | none=>cases hl:G.L p with
   | none=>rfl
   | some m=>
    have:=IK V hn (lg V.sL hl)
    grind
theorem TZ {G}(V:Val G)(he:q≠0->1<=G.eR q):∃J,Val J/\rH (bH G) q=bH J/\LessR G J/\∀p,J.eR p=G.eR p - if p=q/\q≠0 then 1 else 0:=by
 by_cases hq:q=0
 ·subst hq;exact ⟨G,V,by simp[rH,vI],⟨rfl,rfl,λq n h=>h,λq n h=>h,λq n h=>h⟩,λp=>by simp⟩
 have he:=he hq;obtain ⟨n,hn⟩:=kcX.1 ((V.pR q hq).2 (by omega));have O:=pC (qw hn);by_cases Y:2<=G.eR q
 ·refine ⟨{G with eR:=del G.eR q (-1)},⟨V.sR,V.sL,V.sD,V.dj,λp=>?_,V.nL,V.nB,λp hp=>?_,V.pL,V.pD⟩,?_,⟨rfl,rfl,λq n h=>h,λq n h=>h,λq n h=>h⟩,λp=>?_⟩
  ·show 0<=del G.eR q (-1) p;unfold del;split
   ·grind
   ·exact V.nR p
  ·show (G.R p).isSome=true ↔ 0<del G.eR q (-1) p;rw[V.pR p hp]
   grind[del]
  ·unfold rH vI;rw[kaU hq,O,kaT (by simp only[rf];omega)];refine mW W<|funext λp=>?_;show aD (bH G).N q _ p=Al _ p;by_cases hp:p=q
   ·grind[aD,Al,rf,del]
   simp_all[aD,bH,Al,del]
  grind[del]
 ·have h1:G.eR q=1:=(by omega);obtain ⟨J,S,e,s,X⟩:=yR (kd n) (V.goR hn h1) λp=>by
   show js (kd n) p<=G.eL p+js (kd n) p;have:=V.nL p;omega
  refine ⟨J,S,?_,⟨funext λp=>?_,s.eB,λp m hp=>?_,s.L,s.D⟩,λp=>?_⟩
  ·unfold rH vI;rw[kaU hq,O,kaU (by simp only[rf];omega),TY V hn];exact e
  ·rw[X p];show G.eL p+js (kd n) p - js (kd n) p=G.eL p;omega
  ·rw[s.R] at hp;change aD G.R q none p=some m at hp
   grind[aD]
  ·rw[s.eR];show del G.eR q (-1) p=_
   grind[del]
theorem ndSub.rfl {cB}:ndSub cB cB:=λq n h=>h
theorem ndSub.trans {cB B bn}(h:ndSub cB B)(J:ndSub B bn):ndSub cB bn:=λq n e=>J q n (h q n e)
variable {cB:Int->Option Bytes}
theorem dSub.rfl:dSub cB cB:=λq n h=>h
theorem dSub.trans {B bn}(h:dSub cB B)(J:dSub B bn):dSub cB bn:=λq n e=>J q n (h q n e)
variable {k:Int}
theorem Br {cB}(h:cB k=none):ndSub cB (aD cB k (some n)):=λq m e=>by
 grind[aD]
theorem MZ {n}(h:cB k=none):dSub cB (aD cB k (some n)):=λq m e=>by
 grind[aD]
def CV {G}(h:G.R q=some n)i:bZ (gN (bH G).N q) i=bZ n i:=by rw[pC (qw h),MY]
theorem yS {G}(V:Val G)(h:G.L q=some n)i:bZ (gN (bH G).N q) i=bZ n i:=by rw[pC (r8 V h),MY]
theorem mX {G}(V:Val G)i:bZ (gN (bH G).N 0) i=0:=by
 unfold gN;rw[mV (TV V.sR) (TV V.sL)];exact QN i
def dv (S:SI)(q:Int):Bytes:=(wQ S.B q).1
def CW {G}(h:G.D q=some d):dv (bH G) q=d:=by unfold dv wQ;rw[kJ h]
theorem QO {G}(h:G.D q=none):dv (bH G) q=[]:=by grind[dv,wQ,qx]
def QP {G}(V:Val G):dv (bH G) 0=[]:=QO (TV V.sD)
def rt (G:Gh)(q:Int):Prop:=q=0\/∃n,G.R q=some n
def lf (G:Gh)(q:Int):Prop:=q=0\/∃n,G.L q=some n
def bl (G:Gh)(q:Int):Prop:=q=0\/∃n,G.D q=some n
theorem qy {G}(V:Val G)(h:rt G q)(hi:i<4):lf G (bZ (gN (bH G).N q) i):=by
 rcases h with rfl | ⟨n,h⟩
 ·exact .inl<|mX V i
 ·rw[CV h];exact V.kidR h hi
theorem CX {G}(V:Val G)(h:lf G q)(hi:i<4):bl G (bZ (gN (bH G).N q) i):=by
 rcases h with rfl | ⟨n,h⟩
 ·exact .inl<|mX V i
 ·rw[yS V h];exact V.kidL h hi
variable {J:Gh}
theorem IL {G}(V:Val G)(O:Val J)(s:ndSub G.R J.R)(h:rt G q)i:bZ (gN (bH J).N q) i=bZ (gN (bH G).N q) i:=by
 rcases h with rfl | ⟨n,h⟩
 ·rw[mX V,mX O]
 ·rw[CV h,CV (s q n h)]
theorem CY {G}(V:Val G)(O:Val J)(s:ndSub G.L J.L)(h:lf G q)i:bZ (gN (bH J).N q) i=bZ (gN (bH G).N q) i:=by
 rcases h with rfl | ⟨n,h⟩
 ·rw[mX V,mX O]
 ·rw[yS V h,yS O (s q n h)]
theorem CZ {G}(V:Val G)(O:Val J)(s:dSub G.D J.D)(h:bl G q):dv (bH J) q=dv (bH G) q:=by
 rcases h with rfl | ⟨n,h⟩
 ·rw[QP V,QP O]
 ·rw[CW h,CW (s q n h)]
theorem xD S root i:jj S root i=dv S (bZ (gN S.N (bZ (gN S.N root) (i / 4))) (i % 4)):=rfl
variable {root:Int}
theorem oK {G}(V:Val G)(O:Val J)(sR:ndSub G.R J.R)(sL:ndSub G.L J.L)(sD:dSub G.D J.D)(h:rt G root)(hi:i<16):jj (bH J) root i=jj (bH G) root i:=by
 grind[xD,IL,qy,CY,CZ,CX]
def IP {G}(s:ndSub G.R J.R)(h:rt G q):rt J q:=h.imp id λ⟨n,e⟩=>⟨n,s q n e⟩
theorem IQ {G}(s:ndSub G.L J.L)(h:lf G q):lf J q:=h.imp id λ⟨n,e⟩=>⟨n,s q n e⟩
def qz {G}(V:Val G)(h:rt G q):0<=q/\q<=24:=by
 rcases h with rfl | ⟨n,h⟩
 ·omega
 ·have:=V.sR q n h;omega
def M0 {G}(V:Val G)(h:lf G q):0<=q/\q<=24:=by
 rcases h with rfl | ⟨n,h⟩
 ·omega
 ·have:=V.sL q n h;omega
theorem yT {p q}a:∀(l:List Nat),l.Nodup->(∀k∈l,k≠a->p k=true->q k=true)->(l.filter p).length<=(l.filter q).length+1
 | [],_,_=>by simp
 | k::l,hn,h=>by
  rw[kb3] at hn;by_cases hk:k=a
  ·subst hk;have h0:(l.filter p).length<=(l.filter q).length:=by
    rw[<-kce,<-kce];exact List.countP_mono_left λj hj hp=>h j (kcn _ hj) (λe=>hn.1 (e ▸ hj)) hp
   grind
  ·have h0:=yT a l hn.2 λj hj=>h j (kcn _ hj)
   grind
theorem C0 {σ n}{cB:Int->Option ρ}{B:Int->Option σ}a(h:∀q,q≠a->(cB q).isSome=true->(B q).isSome=true):(ck n cB).length<=(ck n B).length+1:=by
 unfold ck;rw[kcc,kcc];exact yT a.toNat _ (kcb (step:=1)) λk hk J=>h k (by grind)
theorem yU G q:((bH G).B q).isSome=(G.D q).isSome:=by simp[bH,QM]
theorem yV G q:((bH G).N q).isSome=((G.R q).isSome || (G.L q).isSome):=by
 simp only[bH,Al];cases G.R q <;> simp
structure Blk (G G1:Gh) (d:Bytes) (b:Int):Prop where
 V:Val G1
 R:G1.R=G.R
 L:G1.L=G.L
 eR:G1.eR=G.eR
 eL:G1.eL=G.eL
 eB:G1.eB=if b=0 then G.eB else del G.eB b 1
 D:dSub G.D G1.D
 b0:b=0->d=[]
 b1:b≠0->G1.D b=some d
 ne:∀q,q≠b->G1.D q=G.D q
theorem M1 {G}(V:Val G){b}(h:aq (bH G) d=(b,0)):∃S,aj (bH G) d=bH S/\Blk G S d b:=by
 unfold aq at h;by_cases hd:d=[]
 ·rw[kaT hd] at h;injection h with h;subst h;exact ⟨G,by grind[aj],V,rfl,rfl,rfl,rfl,rfl,λq n h=>h,λ_=>hd,λh=>absurd rfl h,λq _=>rfl⟩
 ·rw[kaU hd] at h;unfold kH at h;by_cases X:6<d.length\/d=[]
  ·grind
  ·rw[kaU X] at h;cases R:ef 40 (bH G).B with
   | none=>grind
   | some k=>
    rw[R] at h;injection h with h;subst h;have hk:=iV R;have O:(k:Int)≠0:=(by omega);have J:G.D k=none:=by
     have:=hk.2.1;cases e:G.D k with
     | none=>rfl
     | some x=>simp_all[kJ]
    have hz:G.eB k=0/\ip G.L k=0:=by
     have h1:=V.pD k O;rw[J] at h1;have Y:=V.nB k;have Z:=mU G.L k
     grind
    refine ⟨{G with D:=aD G.D k (some d),eB:=del G.eB k 1},?_,⟨V.sR,V.sL,kA V.sD (λ_=>by omega),V.dj,V.nR,V.nL,λq=>?_,V.pR,V.pL,λq hq=>?_⟩,rfl,rfl,rfl,rfl,?_,MZ J,λh=>absurd h O,λ_=>by simp[aD],λq hq=>by simp[aD,hq]⟩
    ·unfold aj mj;rw[kaU hd,kaU X,R];refine mW (funext λq=>?_) rfl;show aD (bH G).B k _ q=(aD G.D k (some d) q).map λd=>(d,del G.eB k 1 q+ip G.L q);by_cases hq:q=k
     ·grind[aD,del]
     ·simp[aD,hq,del,bH,QM]
    ·show 0<=del G.eB k 1 q;unfold del;have:=V.nB q;split <;> omega
    ·show (aD G.D k (some d) q).isSome=true ↔ 0<del G.eB k 1 q+ip G.L q;unfold aD del;split
     ·grind
     ·exact V.pD q hq
    grind
theorem M2 {B x}(h:B q=some x)(hx:0<x.2):fB B q 1=aD B q (some (x.1,x.2+1)):=by
 grind[fB]
theorem sP:∀(l:List Int) (S:SI),(∀q x,S.B q=some x->0<x.2)->(∀k∈l,k=0\/∃x,S.B k=some x)->l.foldl (db true) S=⟨λq=>(S.B q).map λx=>(x.1,x.2+js l q),S.N⟩
 | [],S,_,_=>mW (funext λq=>by simp_all[js]) rfl
 | k::l,S,hp,h=>by
  rw[kcG];by_cases hk:k=0
  ·subst hk;rw[show db true S 0=S by simp[db],sP l S hp λj hj=>h j (kcn _ hj)]
   grind[eJ]
  ·obtain ⟨x,hx⟩:=(h k (by simp)).resolve_left hk;have J:db true S k=⟨aD S.B k (some (x.1,x.2+1)),S.N⟩:=(by grind[db,M2]);rw[J,sP l _ (λq y hy=>?_) λj hj=>?_]
   ·grind[aD,eJ]
   ·grind[aD]
   grind[aD]
theorem pE:∀(l:List Int) (S:SI),(∀k∈l,k=0\/∃x,S.N k=some x)->l.foldl (db false) S=⟨S.B,λq=>(S.N q).map λn=>rf n (n.refs+js l q)⟩
 | [],S,_=>mW rfl (funext λq=>by simp_all[js,rf])
 | k::l,S,h=>by
  rw[kcG];by_cases hk:k=0
  ·subst hk;rw[show db false S 0=S by simp[db],pE l S λj hj=>h j (kcn _ hj)]
   grind[eJ]
  ·obtain ⟨x,hx⟩:=(h k (by simp)).resolve_left hk;have J:db false S k=⟨S.B,aD S.N k (some (rf x (x.refs+1)))⟩:=(by grind[db,r6,pC]);rw[J,pE l _ λj hj=>?_]
   ·grind[aD,rf,eJ]
   grind[aD]
def yW (h:k∈kd n):∃i,i<4/\bZ n i=k:=by
 simp only[kd,kbn,kcx,or_false] at h;rcases h with rfl | rfl | rfl | rfl
 ·exact ⟨0,by omega,rfl⟩
 ·exact ⟨1,by omega,rfl⟩
 ·exact ⟨2,by omega,rfl⟩
 ·exact ⟨3,by omega,rfl⟩
theorem sQ (h:fk n)i:bZ n i=0:=by
 unfold bZ;split
 ·exact h.1
 ·exact h.2.1
 ·exact h.2.2.1
 ·exact h.2.2.2
theorem oL (h:br S n=(k,0)):(k=0/\fk n/\∀leaf,bu leaf S n=S)\/∃j:Nat,k=j/\(1<=j/\j<=24)/\S.N k=none/\¬fk n/\∀leaf,bu leaf S n=(kd n).foldl (db leaf) ⟨S.B,aD S.N k (some (rf n 1))⟩:=by
 grind[br,bu,ef,iV]
theorem Fc S n:(br S n).2=0\/(br S n).2=8:=by
 grind[br]
theorem Sy {G}(V:Val G)(hk:k≠0)(h:(bH G).N k=none):G.R k=none/\G.L k=none/\G.eR k=0/\G.eL k=0/\ip G.R k=0:=by
 have h1:=CU h;have J:=V.pR k hk;have O:=V.pL k hk;rw[h1.1] at J;rw[h1.2] at O;have S:¬(0<G.eR k):=λh=>(by simpa using J.2 h);have X:¬(0<G.eL k+ip G.R k):=λh=>(by simpa using O.2 h);have:=V.nR k;have:=V.nL k;have:=mU G.R k
 grind
theorem QQ {G}(V:Val G)(hk:∀i,i<4->bl G (bZ n i))(h:br (bH G) n=(k,0)):(k=0/\fk n/\bu true (bH G) n=bH G)\/(k≠0/\(bH G).N k=none/\bu true (bH G) n=bH {G with L:=aD G.L k (some n),eL:=del G.eL k 1}/\Val {G with L:=aD G.L k (some n),eL:=del G.eL k 1}):=by
 rcases oL h with ⟨h1,X,O⟩ | ⟨j,h1,X,O,h4,Z⟩
 ·exact .inl ⟨h1,X,O true⟩
 ·right;have J:k≠0:=(by omega);obtain ⟨z1,z2,z3,z4,z5⟩:=Sy V J O;have S:1<=k/\k<=24:=(by omega);have ht:∀q,q≠0->ip (aD G.L k (some n)) q=ip G.L q+js (kd n) q:=λq hq=>(by grind[t7,vO,nS]);refine ⟨J,O,?_,⟨V.sR,kA V.sL (λ_=>S),V.sD,λq=>?_,V.nR,λq=>?_,V.nB,V.pR,λq hq=>?_,λq hq=>?_⟩⟩
  ·rw[Z true,sP]
   ·refine mW (funext λq=>?_)<|funext λq=>?_
    ·show (QM G q).map _=(G.D q).map _;unfold QM;cases e:G.D q with
     | none=>rfl
     | some d=>simp only[Option.map_some,ht q (lg V.sD e)];congr 2;omega
    ·show aD (bH G).N k (some (rf n 1)) q=match G.R q with
      | some n=>some (rf n (G.eR q))
      | none=>(aD G.L k (some n) q).map λm=>rf m (del G.eL k 1 q+ip G.R q)
     unfold aD del;by_cases hq:q=k
     ·grind
     ·simp only[kaU hq];rfl
   ·intro q x hx;cases e:G.D q with
    | none=>grind[qx]
    | some d=>
     change (bH G).B q=some x at hx;rw[kJ e] at hx;injection hx with hx;subst hx;exact (V.pD q (lg V.sD e)).1 (by rw[e];rfl)
   ·intro q hq;obtain ⟨i,hi,rfl⟩:=yW hq;exact (hk i hi).imp id λ⟨d,e⟩=>⟨_,kJ e⟩
  ·show G.R q=none\/aD G.L k (some n) q=none;unfold aD;split
   ·grind
   ·exact V.dj q
  ·show 0<=del G.eL k 1 q;have:=V.nL q
   grind[del]
  ·show (aD G.L k (some n) q).isSome=true ↔ 0<del G.eL k 1 q+ip G.R q;unfold aD del;split
   ·grind
   ·exact V.pL q hq
  ·show (G.D q).isSome=true ↔ 0<G.eB q+ip (aD G.L k (some n)) q;rw[ht q hq,V.pD q hq];have h6:=sM (kd n) q;have h7:=V.nB q;have h8:=mU G.L q;constructor
   ·intro h;omega
   ·intro h;by_cases Y:0<js (kd n) q
    ·rw[vO n hq] at Y;obtain ⟨i,hi,e⟩:=CS Y;obtain ⟨d,hd⟩:=(hk i hi).resolve_left (by rw[e];exact hq);rw[e] at hd;exact (V.pD q hq).1 (by rw[hd];rfl)
    ·omega
theorem QR {G}(V:Val G)(hk:∀i,i<4->lf G (bZ n i))(h:br (bH G) n=(k,0)):(k=0/\fk n/\bu false (bH G) n=bH G)\/(k≠0/\(bH G).N k=none/\bu false (bH G) n=bH {G with R:=aD G.R k (some n),eR:=del G.eR k 1}/\Val {G with R:=aD G.R k (some n),eR:=del G.eR k 1}):=by
 rcases oL h with ⟨h1,Z,S⟩ | ⟨j,h1,Z,S,h4,h5⟩
 ·exact .inl ⟨h1,Z,S false⟩
 ·right;have O:k≠0:=(by omega);obtain ⟨z1,z2,z3,z4,z5⟩:=Sy V O S;have Y:1<=k/\k<=24:=(by omega);have ht:∀q,q≠0->ip (aD G.R k (some n)) q=ip G.R q+js (kd n) q:=λq hq=>(by grind[t7,vO,nS]);have hc:∀q,(∀m,G.L q≠some m)->js (kd n) q=0:=λq hq=>by
   by_cases J:q=0
   ·subst J;rfl
   ·have h6:=sM (kd n) q;by_cases X:0<js (kd n) q
    ·rw[vO n J] at X;obtain ⟨i,hi,e⟩:=CS X;obtain ⟨m,hm⟩:=(hk i hi).resolve_left (by rw[e];exact J)
     grind
    ·omega
  refine ⟨O,S,?_,⟨kA V.sR (λ_=>Y),V.sL,V.sD,λq=>?_,λq=>?_,V.nL,V.nB,λq hq=>?_,λq hq=>?_,V.pD⟩⟩
  ·rw[h5 false,pE]
   ·refine mW W<|funext λq=>?_;show (aD (bH G).N k (some (rf n 1)) q).map _=match aD G.R k (some n) q with
      | some m=>some (rf m (del G.eR k 1 q))
      | none=>(G.L q).map λm=>rf m (G.eL q+ip (aD G.R k (some n)) q)
    by_cases hq:q=k
    ·grind[aD,del,rf]
    ·have e1:aD G.R k (some n) q=G.R q:=(by simp[aD,hq]);have e2:aD (bH G).N k (some (rf n 1)) q=(bH G).N q:=(by simp[aD,hq]);have e3:del G.eR k 1 q=G.eR q:=(by simp[del,hq]);rw[e1,e2,e3];cases hr:G.R q with
     | some m=>
      have hl:G.L q=none:=(V.dj q).resolve_left (by rw[hr];simp)
      grind[qw,rf]
     | none=>cases hl:G.L q with
      | none=>rw[mV hr hl];rfl
      | some m=>
       rw[r8 V hl];simp only[Option.map_some,ht q (lg V.sL hl),rf]
       grind
   ·intro q hq;obtain ⟨i,hi,rfl⟩:=yW hq;refine (hk i hi).imp id λ⟨m,e⟩=>?_;have:bZ n i≠k:=λh=>(by rw[h,z2] at e;cases e);exact ⟨_,by show aD (bH G).N k _ (bZ n i)=_;unfold aD;rw[kaU this];exact r8 V e⟩
  ·show aD G.R k (some n) q=none\/G.L q=none;unfold aD;split
   ·grind
   ·exact V.dj q
  ·show 0<=del G.eR k 1 q;have:=V.nR q
   grind[del]
  ·show (aD G.R k (some n) q).isSome=true ↔ 0<del G.eR k 1 q;unfold aD del;split
   ·grind
   ·exact V.pR q hq
  ·show (G.L q).isSome=true ↔ 0<G.eL q+ip (aD G.R k (some n)) q;rw[ht q hq,V.pL q hq];have h6:=sM (kd n) q;have h7:=V.nL q;have h8:=mU G.R q;constructor
   ·intro h;omega
   ·intro h;by_cases X:0<js (kd n) q
    ·cases hl:G.L q with
     | none=>grind
     | some m=>exact (V.pL q hq).1 (by rw[hl];rfl)
    ·omega
def gZ:Gh:=⟨λ_=>none,λ_=>none,λ_=>none,λ_=>0,λ_=>0,λ_=>0⟩
def VF:bH gZ=⟨λ_=>none,λ_=>none⟩:=rfl
theorem T0:Val gZ:=⟨qk _,qk _,qk _,λ_=> .inl rfl,λ_=>kcY _,λ_=>kcY _,λ_=>kcY _,
 λq _=>by simp[gZ],λq _=>by grind[E8,gZ],λq _=>by grind[E8,gZ]⟩
theorem M3 {G}(V:Val G)(hq:rt G q):∃J,Val J/\eP (bH G) q=bH J/\J.R=G.R/\J.L=G.L/\J.D=G.D/\J.eL=G.eL/\J.eB=G.eB/\∀p,J.eR p=G.eR p+if p=q/\q≠0 then 1 else 0:=by
 by_cases h0:q=0
 ·grind[eP]
 ·obtain ⟨n,hn⟩:=hq.resolve_left h0;have hr:=V.sR q n hn;have he:=(V.pR q h0).1 (by rw[hn];rfl);refine ⟨{G with eR:=del G.eR q 1},⟨V.sR,V.sL,V.sD,V.dj,λp=>?_,V.nL,V.nB,λp hp=>?_,V.pL,V.pD⟩,?_,rfl,rfl,rfl,rfl,rfl,λp=>?_⟩
  ·show 0<=del G.eR q 1 p;have:=V.nR p
   grind[del]
  ·show (G.R p).isSome=true ↔ 0<del G.eR q 1 p;rw[V.pR p hp]
   grind[del]
  ·unfold eP r6;rw[kaT (by omega),pC (qw hn)];refine mW W<|funext λp=>?_;show aD (bH G).N q _ p=Al _ p;by_cases hp:p=q
   ·grind[aD,Al,rf,del]
   simp_all[aD,bH,Al,del]
  grind[del]
theorem t8 n x:∀i j,i<4->j<4->bZ (KR n i x) j=if j=i then x else bZ n j
 | 0,0,_,_=>rfl
 | 0,1,_,_=>rfl
 | 0,2,_,_=>rfl
 | 0,3,_,_=>rfl
 | 1,0,_,_=>rfl
 | 1,1,_,_=>rfl
 | 1,2,_,_=>rfl
 | 1,3,_,_=>rfl
 | 2,0,_,_=>rfl
 | 2,1,_,_=>rfl
 | 2,2,_,_=>rfl
 | 2,3,_,_=>rfl
 | 3,0,_,_=>rfl
 | 3,1,_,_=>rfl
 | 3,2,_,_=>rfl
 | 3,3,_,_=>rfl
 | i+4,_,h,_=>absurd h (by omega)
 | 0,j+4,_,h=>absurd h (by omega)
 | 1,j+4,_,h=>absurd h (by omega)
 | 2,j+4,_,h=>absurd h (by omega)
 | 3,j+4,_,h=>absurd h (by omega)
theorem IR f q:del (del f q 1) q (-1)=f:=funext λp=>by grind[del]
structure SetOk (G G':Gh) (root:Int) (at_:Nat) (d:Bytes) (out:Int):Prop where
 V:Val G'
 eR:∀p,G'.eR p=G.eR p+if p=out/\out≠0 then 1 else 0
 eL:G'.eL=G.eL
 eB:G'.eB=G.eB
 R:ndSub G.R G'.R
 L:ndSub G.L G'.L
 D:dSub G.D G'.D
 o:rt G' out
 get:∀i,i<16->jj (bH G') out i=if i=at_ then d else jj (bH G) root i
 nB:(ck 40 (bH G').B).length<=(ck 40 (bH G).B).length+1
 nN:(ck 24 (bH G').N).length<=(ck 24 (bH G).N).length+2
theorem T1 {G b}(V:Val G)(h0:0<=b)(h:b≠0->1<=G.eB b/\1<=ip G.L b):∃J,kj (bH G) b=bH J/\Val J/\J.R=G.R/\J.L=G.L/\J.D=G.D/\J.eR=G.eR/\J.eL=G.eL/\J.eB=if b=0 then G.eB else del G.eB b (-1):=by
 unfold kj;by_cases O:b=0
 ·grind
 ·have h1:=h O;refine ⟨cutD G b,?_,V.cutD O h1.1,rfl,rfl,?_,rfl,rfl,?_⟩
  ·grind[Fa]
  ·show (if G.eB b+ip G.L b=1 then aD G.D b none else G.D)=G.D;rw[iOm]
  ·rw[kaU O];rfl
variable {out:Int}
theorem Fe {at_}(h:dH S root at_ d=(out,0)):∃b k,aq S d=(b,0)/\br (aj S d) (bD (aj S d) root at_ b)=(k,0)/\br (kj (bu true (aj S d) (bD (aj S d) root at_ b)) b) (ei (aj S d) root at_ k)=(out,0)/\jk S root at_ d=lE (bu false (kj (bu true (aj S d) (bD (aj S d) root at_ b)) b) (ei (aj S d) root at_ k)) k:=by
 grind[dH,jk]
theorem T2 {G}(V:Val G){at_}(hr:rt G root)(ha:at_<16)(h:dH (bH G) root at_ d=(out,0)):∃G',jk (bH G) root at_ d=bH G'/\SetOk G G' root at_ d out:=by
 obtain ⟨b,k,hb,hl,ho,hS⟩:=Fe h;obtain ⟨S,e1,J⟩:=M1 V hb;have V1:=J.V;rw[e1] at hl ho hS;have hb0:0<=b:=by
  by_cases hb:b=0
  ·omega
  ·have:=V1.sD b d (J.b1 hb);omega
 have hbl:bl S b:=by
  by_cases hb:b=0
  ·exact .inl hb
  ·exact .inr ⟨d,J.b1 hb⟩
 have hr1:rt S root:=IP (by rw[J.R];exact ndSub.rfl) hr;have hli:at_ / 4<4:=(by omega);have hlj:at_ % 4<4:=(by omega);have hol:=qy V1 hr1 hli;have hkL:∀i,i<4->bl S (bZ (bD (bH S) root at_ b) i):=λi hi=>by
  grind[bD,t8,CX]
 obtain ⟨nl,hnl⟩:∃n,n=bD (bH S) root at_ b:=⟨_,rfl⟩;have hnlk:∀i,i<4->bZ nl i=if i=at_ % 4 then b else bZ (gN (bH S).N (bZ (gN (bH S).N root) (at_ / 4))) i:=λi hi=>by rw[hnl];exact t8 _ _ _ _ hlj hi
 rw[<-hnl] at hl ho hS hkL;obtain ⟨nr,hnr⟩:∃n,n=ei (bH S) root at_ k:=⟨_,rfl⟩;have hnrk:∀i,i<4->bZ nr i=if i=at_ / 4 then k else bZ (gN (bH S).N root) i:=λi hi=>by rw[hnr];exact t8 _ _ _ _ hli hi
 rw[<-hnr] at ho hS
 -- the leaf
 obtain ⟨Y,V2,e2,r2,d2,er2,eb2,el2,l2,k2,lk2,nn2⟩:∃Y,Val Y/\bu true (bH S) nl=bH Y/\Y.R=G.R/\Y.D=S.D/\Y.eR=G.eR/\Y.eB=S.eB/\Y.eL=(if k=0 then G.eL else del G.eL k 1)/\ndSub G.L Y.L/\lf Y k/\(∀i,i<4->bZ (gN (bH Y).N k) i=bZ nl i)/\(∀q,q≠k->(Y.L q).isSome=true->(G.L q).isSome=true):=by
  rcases QQ V1 hkL hl with ⟨rfl,h2,h3⟩ | ⟨h1,h2,h3,h4⟩
  ·exact ⟨S,V1,h3,J.R,rfl,J.eR,rfl,by rw[kaT rfl,J.eL],by rw[J.L];exact ndSub.rfl, .inl rfl,λi _=>by rw[sQ h2,mX V1],λq _ h=>by rw[J.L] at h;exact h⟩
  ·refine ⟨_,h4,h3,J.R,rfl,J.eR,rfl,by rw[kaU h1,<-J.eL],by rw[<-J.L];exact Br (CU h2).2, .inr ⟨nl,by simp[aD]⟩,λi _=>yS h4 (by simp[aD]) i,λq hq h=>?_⟩;change (aD S.L k (some nl) q).isSome=true at h;simpa [aD,hq,J.L] using h
 have l12:ndSub S.L Y.L:=(by rw[J.L];exact l2);rw[e2] at ho hS
 -- the block's own
 have ht2:b≠0->1<=Y.eB b/\1<=ip Y.L b:=λhb=>by
  constructor
  ·rw[eb2,J.eB,kaU hb,oJ];have:=V.nB b;omega
  ·have hkb:=hnlk (at_ % 4) hlj;rw[kaT rfl] at hkb;have hk0:k≠0:=λhk=>by
    grind[mX]
   obtain ⟨m,hm⟩:=k2.resolve_left hk0;have h5:=CR (N:=Y.L) (V2.sL k m hm) b;have h6:=xB m (at_ % 4) hlj
   grind[yS]
 obtain ⟨Z,e3,V3,r3,l3,d3,er3,el3,eb3⟩:=T1 V2 hb0 ht2;rw[e3] at ho hS;have eb3':Z.eB=G.eB:=by
  rw[eb3,eb2,J.eB]
  grind[IR]
 -- the root
 have k3:lf Z k:=IQ (by rw[l3];exact ndSub.rfl) k2;have hkR:∀i,i<4->lf Z (bZ nr i):=λi hi=>by
  grind[IQ,qy]
 obtain ⟨O,V4,e4,d4,l4,eb4,el4,r4,er4,o4,ok4,nn4,t4⟩:∃O,Val O/\bu false (bH Z) nr=bH O/\O.D=Z.D/\O.L=Z.L/\O.eB=Z.eB/\O.eL=Z.eL/\ndSub Z.R O.R/\(∀p,O.eR p=Z.eR p+if p=out/\out≠0 then 1 else 0)/\rt O out/\(∀i,i<4->bZ (gN (bH O).N out) i=bZ nr i)/\(∀q,q≠out->(O.R q).isSome=true->(Z.R q).isSome=true)/\(k≠0->1<=ip O.R k):=by
  rcases QR V3 hkR ho with ⟨rfl,h2,h3⟩ | ⟨h1,h2,h3,h4⟩
  ·refine ⟨Z,V3,h3,rfl,rfl,rfl,rfl,ndSub.rfl,λp=>by simp, .inl rfl,λi _=>by rw[sQ h2,mX V3],λq _ h=>h,λhk=>?_⟩
   grind[sQ]
  ·refine ⟨_,h4,h3,rfl,rfl,rfl,rfl,Br (CU h2).1,λp=>?_, .inr ⟨nr,by simp[aD]⟩,λi _=>CV (by simp[aD]) i,λq hq h=>?_,λhk=>?_⟩
   ·grind[del]
   ·grind[aD]
   ·have h5:=CR (N:=aD Z.R out (some nr)) (h4.sR out nr (by simp[aD])) k;have h6:=xB nr (at_ / 4) hli
    grind[aD]
 rw[e4] at hS
 -- the leaf's own
 obtain ⟨X,e5,V5,r5,d5,l5,er5,el5,eb5⟩:∃X,lE (bH O) k=bH X/\Val X/\X.R=O.R/\X.D=O.D/\X.L=O.L/\X.eR=O.eR/\X.eL=G.eL/\X.eB=O.eB:=by
  by_cases hk:k=0
  ·subst hk;exact ⟨O,by simp[lE,vI],V4,rfl,rfl,rfl,rfl,by grind,rfl⟩
  ·have h1:O.eL k=G.eL k+1:=(by simp_all[oJ]);have h2:=V.nL k;have h3:=t4 hk;refine ⟨_,Fb V4 hk (by omega) (by omega),V4.keepL hk (by omega) (by omega),rfl,rfl,rfl,rfl,?_,rfl⟩
   grind[IR]
 have sR:ndSub G.R X.R:=(by grind);have sL1:ndSub S.L X.L:=(by grind);have sL:ndSub G.L X.L:=(by rw[l5,l4,l3];exact l2);have sD:dSub G.D X.D:=(by rw[d5,d4,d3,d2];exact J.D);have sD1:dSub S.D X.D:=(by grind[dSub.rfl]);have sR1:ndSub S.R X.R:=(by rw[J.R];exact sR);refine ⟨X,hS.trans e5,⟨V5,λp=>by rw[er5,er4,er3,er2],el5,by rw[eb5,eb4,eb3'],sR,sL,sD,IP (by rw[r5];exact ndSub.rfl) o4,λi hi=>?_,?_,?_⟩⟩
 ·-- what the new root has
  have ho5:∀i,i<4->bZ (gN (bH X).N out) i=bZ nr i:=λi hi=>(by grind[IL,ndSub.rfl]);rw[xD,ho5 (i / 4) (by omega),hnrk (i / 4) (by omega)];by_cases h4:i / 4=at_ / 4
  ·rw[kaT h4,CY V2 V5 (by grind[ndSub.rfl]) k2,lk2 _ (by omega),hnlk _ (by omega)];by_cases h5:i % 4=at_ % 4
   ·rw[kaT h5,kaT (by omega)];by_cases hb:b=0
    ·rw[hb,QP V5,J.b0 hb]
    ·exact CW<|sD1 b d<|J.b1 hb
   grind[CZ,xD,oK]
  ·rw[kaU h4,iOm];have h6:=qy V1 hr1 (i:=i / 4) (by omega);rw[CY V1 V5 sL1 h6,CZ V1 V5 sD1 (CX V1 h6 (by omega))];exact oK V V1 (by rw[J.R];exact ndSub.rfl) (by rw[J.L];exact ndSub.rfl) J.D hr hi
 ·refine C0 b λq hq h=>?_;rw[yU,d5,d4,d3,d2,J.ne q hq] at h
  grind[yU]
 ·refine kaB (C0 (B:=(bH Z).N) out λq hq h=>?_)<|Nat.add_le_add_right (C0 k λq hq h=>?_) 1
  ·grind[yV]
  grind[yV]
theorem C4 l x q:js (l++ [x]) q=js l q+if q=x/\x≠0 then 1 else 0:=by
 grind[js]
theorem T3 l q:js l q<=l.length:=by
 grind[js]
variable {l:List Int}
theorem IU (h:q∈l)(h0:q≠0):1<=js l q:=by
 grind[js]
structure Rt (G:Gh) (roots:List Int):Prop where
 V:Val G
 eL:∀q,G.eL q=0
 eB:∀q,G.eB q=0
 eR:∀q,G.eR q=js roots q
variable {J:List Int}
def nq {G}(h:Rt G J)(hq:q∈J):rt G q:=by
 by_cases h0:q=0
 ·exact .inl h0
 ·refine .inr<|kcX.1<|(h.V.pR q h0).2 ?_;have:=IU hq h0;rw[h.eR];omega
def KU {G}(h:Rt G J)(hm:(J.length:Int)+96<=m):ii m (bH G):=mP (VE h.V (m:=J.length) (λq=>by rw[h.eR];exact T3 _ _) (λq=>by rw[h.eL];omega) (λq=>by rw[h.eB];omega)) hm
def xE {G}(V:Val G)(h:rt G q):∀i,i<4->0<=bZ (gN (bH G).N q) i/\bZ (gN (bH G).N q) i<=24:=λi hi=>M0 V (qy V h hi)
def VG {G O at_}(h:Rt G J)(o:SetOk G O root at_ d out):Rt O (J++ [out]):=
 ⟨o.V,λq=>by rw[o.eL];exact h.eL q,λq=>by rw[o.eB];exact h.eB q,λq=>by rw[o.eR,h.eR,C4]⟩
theorem Xs:Rt gZ [0]:=⟨T0,λ_=>rfl,λ_=>rfl,λq=>by
 show (0:Int)=js [0] q
 grind[js]⟩
theorem ua S root at_ d:0<=(dH S root at_ d).2:=by
 grind[aq,kH,Fc,dH]
structure Pt where
 id:Int
 disk:Int
 size:Int
 root:Int
deriving DecidableEq
abbrev aW (p:Pt):List Value:=[I p.id,I p.disk,I p.size,I p.root]
def gb (l:List Pt):List (List Value):=l.map aW
def cR l:(gb l).length=l.length:=by simp[gb]
variable {l:List Pt}
def g8 {k:Nat}{c}(h:l[k]? =some c):(gb l)[k]? =some (aW c):=by simp[gb,h]
def iB:Pt:=⟨0,0,0,0⟩
def aX (l:List Pt)(id:Int):Option Pt:=l.find? λp=>decide (p.id=id)
def Hd (l:List Pt)(id:Int):Nat:=l.findIdx λp=>decide (p.id=id)
def He (l:List Pt)(id:Int):Int:=if Hd l id<l.length then (Hd l id:Int) else -1
theorem xG {id}{k:Nat}{s}(J:∀j,j<k->∀t,l[j]? =some t->t.id≠id)(hs:l[k]? =some s)(he:s.id=id):He l id=k:=by
 grind[Hd,List.findIdx_eq,He]
def ub {id}(J:∀j,j<l.length->∀t,l[j]? =some t->t.id≠id):He l id= -1:=by
 unfold He;rw[kaU];intro h;have:=kc0 (w:=h);simp at this;exact J _ h _ (kbN h) this
theorem C5 {id}(h:¬He l id<0):∃i s,He l id=((i:Nat):Int)/\l[i]? =some s/\s.id=id/\i<l.length/\aX l id=some s/\∀j,j<i->∀t,l[j]? =some t->t.id≠id:=by
 unfold He at h ⊢;split at h
 ·rename_i hl;have J:l[Hd l id].id=id:=kd0 (kc0 (p:=λp:Pt=>decide (p.id=id)) (w:=hl));have O:∀j,j<Hd l id->∀t,l[j]? =some t->t.id≠id:=λj hj t ht=>by
   have h1:=kc1 hj
   grind
  refine ⟨Hd l id,l[Hd l id],by rw[kaT hl],kbN hl,J,hl,?_,O⟩
  grind[aX,List.find?_eq_some_iff_getElem]
 ·omega
def yX {id}(h:He l id<0):aX l id=none:=by
 unfold aX;rw[kcf];intro x hx;unfold He at h;split at h
 ·omega
 ·rename_i hl;intro he;exact hl<|kc3 ⟨x,hx,he⟩
theorem dq {id p}(h:aX l id=some p):p∈l/\p.id=id:=by
 grind[aX]
def put1 (z:SI×Int)(at_:Nat)(d:Bytes):Except Int (SI×Int):=if (dH z.1 z.2 at_ d).2=0 then .ok (rH (jk z.1 z.2 at_ d) z.2,(dH z.1 z.2 at_ d).1) else .error (dH z.1 z.2 at_ d).2
def ml:SI×Int->List Nat->Except Int (SI×Int)
 | z,[]=> .ok z
 | z,a::l=>match put1 z a [] with
  | .ok z'=>ml z' l
  | .error e=> .error e
def ey (size:Int):SI×Int->List PutM->Except Int (SI×Int)
 | z,[]=> .ok z
 | z,p::l=>if p.at_<0\/size<=p.at_ then .error 1 else if jj z.1 z.2 p.at_.toNat=p.data then ey size z l else match put1 z p.at_.toNat p.data with
  | .ok z'=>ey size z' l
  | .error e=> .error e
def gH (S:SI)(L:List Pt)(base disk size:Int):Except Int (SI×Int):=if base=0 then .ok (S,0) else match aX L base with
 | none=> .error 5
 | some p=>if p.disk≠disk then .error 3 else ml (eP S p.root,p.root) (List.range' size.toNat (p.size.toNat - size.toNat))
def fb (L:List Pt)(n:Int):Int:=if L.length=6\/999<n then 8 else 0
abbrev VR:=Except Int (SI×List Pt×Int×Int)
def gw (S:SI)(L:List Pt)(n base disk size:Int)(puts:List PutM):VR:=if disk<1\/999<disk\/size<1\/16<size then .error 1 else match gH S L base disk size with
 | .error e=> .error e
 | .ok z=>match ey size z puts with
  | .error e=> .error e
  | .ok z=>if fb L n≠0 then .error (fb L n) else .ok (z.1,L++ [⟨n,disk,size,z.2⟩],n+1,n)
def lT (S:SI)(L:List Pt)(n id:Int):VR:=match aX L id with
 | none=> .error 5
 | some p=>if fb L n≠0 then .error (fb L n) else .ok (eP S p.root,L++ [⟨n,p.disk,p.size,p.root⟩],n+1,n)
def mY (S:SI)(L:List Pt)(n id:Int):VR:=match aX L id with
 | none=> .error 5
 | some p=> .ok (rH S p.root,L.filter (λx=>!decide (x.id=id)),n,0)
def j5 (S:SI)(L:List Pt)(id at_:Int):Bytes×Int:=match aX L id with
 | none=>([],5)
 | some p=>if at_<0\/p.size<=at_ then ([],1) else (jj S p.root at_.toNat,0)
def eQ (L:List Pt)(disk keep:Int):List Int:=let l:=(L.filter λp=>decide (p.disk=disk)).map (·.id);l.take (l.length - keep.toNat)
structure Vok (S:SI) (L:List Pt) (n:Int) (G:Gh):Prop where
 e:S=bH G
 rt:Rt G (L.map (·.root))
 len:L.length<=6
 n1:1<=n/\n<=1000
 pts:∀p∈L,(1<=p.id/\p.id<n)/\(1<=p.disk/\p.disk<=999)/\(1<=p.size/\p.size<=16)
 srt:L.Pairwise λa b=>a.id<b.id
variable {l l':List Int}
def M4 {G}(h:Rt G l)(e:∀q,js l q=js l' q):Rt G l':=⟨h.V,h.eL,h.eB,λq=>by rw[h.eR,e]⟩
theorem IV {G}(h:Rt G l):Rt G (0::l):=M4 h λq=>by
 grind[eJ]
theorem KV {G}(h:Rt G (0::l)):Rt G l:=M4 h λq=>by
 grind[eJ]
theorem T4 {G x}(h:Rt G (x::l)):Rt G (l++ [x]):=M4 h λq=>by
 grind[eJ,C4]
theorem rh x l q:js (x::l) q=js l q+if q=x/\x≠0 then 1 else 0:=by
 grind[eJ]
def qA {G}(h:Rt G l)(hq:q∈l):∃J,eP (bH G) q=bH J/\Rt J (q::l)/\J.R=G.R/\J.L=G.L/\J.D=G.D:=by
 obtain ⟨J,O,e,S,X,Y,Z,e5,e6⟩:=M3 h.V (nq h hq);exact ⟨J,e,⟨O,λp=>by rw[Z];exact h.eL p,λp=>by rw[e5];exact h.eB p,λp=>by rw[e6,h.eR,rh]⟩,S,X,Y⟩
def M5 {G}(h:Rt G l)(hq:q∈l)(S:∀p,js l p=js l' p+if p=q/\q≠0 then 1 else 0):∃J,rH (bH G) q=bH J/\Rt J l'/\LessR G J:=by
 obtain ⟨J,O,e,s,R⟩:=TZ h.V (q:=q) λh0=>by rw[h.eR];exact IU hq h0
 exact ⟨J,e,⟨O,λp=>by rw[s.eL];exact h.eL p,λp=>by rw[s.eB];exact h.eB p,λp=>by rw[R,h.eR,S];omega⟩,s⟩
def uc (G G':Gh)(rs:List Int):Prop:=∀r∈rs,∀i,i<16->jj (bH G') r i=jj (bH G) r i
def yY {G J}(h:Rt G l)(S:Rt J l')(s:LessR G J)rs(hr:∀r∈rs,r∈l'):uc G J rs:=λr O i hi=>(oK S.V h.V s.R s.L s.D (nq S (hr r O)) hi).symm
theorem nT {G rs at_}(h:Rt G (root::rs))(hl:rs.length<=8)(ha:at_<16)(Z:(dH (bH G) root at_ d).2=0):
  ∃J O,jk (bH G) root at_ d=bH J/\ii 200 (bH J)/\rt J root/\Val J/\rH (bH J) root=bH O/\Rt O ((dH (bH G) root at_ d).1::rs)/\
   (∀i,i<16->jj (bH O) (dH (bH G) root at_ d).1 i=if i=at_ then d else jj (bH G) root i)/\uc G O rs:=by
 obtain ⟨J,X,o⟩:=T2 h.V (nq h (kcq ..)) ha (Prod.ext rfl Z:dH (bH G) root at_ d=((dH (bH G) root at_ d).1,0));have h1:=VG h o;obtain ⟨O,Y,S,s⟩:=M5 (l':=(dH (bH G) root at_ d).1::rs) h1 (q:=root) (by simp) λp=>by
  simp_all[C4,rh]
 have k2:=yY h1 S s ((dH (bH G) root at_ d).1::rs) λr hr=>hr;refine ⟨J,O,X,KU h1 (by simp;omega),nq h1 (by simp),h1.V,Y,S,λi hi=>?_,λr hr i hi=>?_⟩
 ·rw[k2 _ (kcq ..) i hi];exact o.get i hi
 ·rw[k2 _ (kcn _ hr) i hi];exact oK h.V o.V o.R o.L o.D (nq h (kcn _ hr)) hi
variable {e:Int}
def Ff {z at_}(h:put1 z at_ d= .error e):0<e:=by
 unfold put1 at h;split at h
 ·cases h
 ·injection h with h;have:=ua z.1 z.2 at_ d;omega
def Fg:∀(l:List Nat) {z:SI×Int} {e:Int},ml z l= .error e->0<e
 | [],z,e,h=>by simp[ml] at h
 | a::l,z,e,h=>by
  unfold ml at h;cases hp:put1 z a [] with
  | ok J=>rw[hp] at h;exact Fg l h
  | error e'=>rw[hp] at h;injection h with h;subst h;exact Ff hp
def vP {size}:∀(l:List PutM) {z:SI×Int} {e:Int},ey size z l= .error e->0<e
 | [],z,e,h=>by simp[ey] at h
 | p::l,z,e,h=>by
  unfold ey at h;split at h
  ·injection h with h;omega
  ·split at h
   ·exact vP l h
   ·cases hp:put1 z p.at_.toNat p.data with
    | ok J=>rw[hp] at h;exact vP l h
    | error e'=>rw[hp] at h;injection h with h;subst h;exact Ff hp
variable {L:List Pt}{base disk size:Int}
def Bs (h:gH S L base disk size= .error e):0<e:=by
 unfold gH at h;split at h
 ·cases h
 ·split at h
  ·injection h with h;omega
  ·split at h
   ·injection h with h;omega
   ·exact Fg _ h
theorem IW L n:fb L n=0\/fb L n=8:=by grind[fb]
variable {n:Int}{puts:List PutM}
theorem ud (h:gw S L n base disk size puts= .error e):0<e:=by
 unfold gw at h;split at h
 ·injection h with h;omega
 ·cases J:gH S L base disk size with
  | error e'=>rw[J] at h;injection h with h;subst h;exact Bs J
  | ok z=>
   rw[J] at h;simp only at h;cases hp:ey size z puts with
   | error e'=>rw[hp] at h;injection h with h;subst h;exact vP _ hp
   | ok O=>
    grind[IW]
theorem IX {rs}(hl:rs.length<=8):∀(l:List Nat) {G:Gh} {root:Int} {z:SI×Int},Rt G (root::rs)->(∀a∈l,a<16)->ml (bH G,root) l= .ok z->
  ∃J,z.1=bH J/\Rt J (z.2::rs)/\(∀i,i<16->jj (bH J) z.2 i=if i∈l then [] else jj (bH G) root i)/\uc G J rs
 | [],G,root,z,h,_,e=>by
  simp only[ml] at e;injection e with e;subst e;exact ⟨G,rfl,h,λi _=>by simp,λr _ i _=>rfl⟩
 | a::l,G,root,z,h,R,e=>by
  unfold ml at e;cases hp:put1 (bH G,root) a [] with
  | error e'=>rw[hp] at e;cases e
  | ok z'=>
   rw[hp] at e;simp only at e;unfold put1 at hp;split at hp
   ·rename_i Y;injection hp with hp;obtain ⟨G1,G2,O,o1,r1,v1,S,X,g2,k2⟩:=nT h hl (R a (by simp)) Y;simp only at hp O;rw[O,S] at hp;subst hp;obtain ⟨J,hz,V,g',k'⟩:=IX hl l X (λb Z=>R b (kcn _ Z)) e;refine ⟨J,hz,V,λi hi=>?_,λr hr i hi=>by rw[k' r hr i hi,k2 r hr i hi]⟩
    grind
   ·cases hp
def l7 (l:List PutM)(i:Nat)(d:Bytes):Bytes:=l.foldl (λd p=>if p.at_=(i:Int) then p.data else d) d
theorem yZ {size}(hs:size<=16){rs}(hl:rs.length<=8):∀(l:List PutM) {G:Gh} {root:Int} {z:SI×Int},Rt G (root::rs)->ey size (bH G,root) l= .ok z->
  ∃J,z.1=bH J/\Rt J (z.2::rs)/\(∀i,i<16->jj (bH J) z.2 i=l7 l i (jj (bH G) root i))/\uc G J rs/\∀p∈l,0<=p.at_/\p.at_<size
 | [],G,root,z,h,e=>by
  simp only[ey] at e;injection e with e;subst e;exact ⟨G,rfl,h,λi _=>rfl,(λr _ i _=>rfl),λp hp=>by simp at hp⟩
 | p::l,G,root,z,h,e=>by
  unfold ey at e;split at e
  ·cases e
  ·rename_i hb;have hb2:0<=p.at_/\p.at_<size:=(by omega);have O:∀i:Nat,i=p.at_.toNat ↔ p.at_=(i:Int):=λi=>(by omega);split at e
   ·rename_i hg;obtain ⟨J,V,S,g',X,Y⟩:=yZ hs hl l h e
    grind[l7]
   ·cases hp:put1 (bH G,root) p.at_.toNat p.data with
    | error e'=>rw[hp] at e;cases e
    | ok z'=>
     rw[hp] at e;simp only at e;unfold put1 at hp;split at hp
     ·rename_i hE;injection hp with hp;obtain ⟨G1,G2,R,o1,r1,v1,Z,h2,g2,k2⟩:=nT h hl (by omega) hE;simp only at hp R;rw[R,Z] at hp;subst hp;obtain ⟨J,V,S,g',X,Y⟩:=yZ hs hl l h2 e;refine ⟨J,V,S,λi hi=>?_,λr hr i hi=>by rw[X r hr i hi,k2 r hr i hi],λq hq=>?_⟩
      ·grind[l7]
      grind
     ·cases hp
def eS {id p}(h:aX L id=some p):p.root∈L.map (·.root):=kbV.2 ⟨p,(dq h).1,rfl⟩
theorem y0 {G z}(h:Vok S L n G)(hs:1<=size/\size<=16)(e:gH S L base disk size= .ok z):
  ∃J,z.1=bH J/\Rt J (z.2::L.map (·.root))/\uc G J (L.map (·.root))/\
   ∀i:Nat,i<16->jj (bH J) z.2 i=match (if base=0 then none else aX L base) with | none=>[] | some p=>if size<=(i:Int)/\(i:Int)<p.size then [] else jj S p.root i:=by
 have O:(L.map (·.root)).length<=8:=(by have:=h.len;simp;omega);have hS:=h.e;subst hS;unfold gH at e;by_cases X:base=0
 ·rw[kaT X] at e;injection e with e;subst e;refine ⟨G,rfl,IV h.rt,(λr _ i _=>rfl),λi _=>?_⟩;rw[kaT X,xD,mX h.rt.V,mX h.rt.V,QP h.rt.V]
 ·rw[kaU X] at e ⊢;cases R:aX L base with
  | none=>rw[R] at e;cases e
  | some p=>
   rw[R] at e;simp only at e ⊢;split at e
   ·cases e
   ·obtain ⟨Y,hpi⟩:=dq R;have hps:=(h.pts p Y).2.2;obtain ⟨Z,e1,h1,q1,q2,q3⟩:=qA h.rt (eS R);rw[e1] at e;obtain ⟨J,hz,h',g',k'⟩:=IX O _ h1 (λa ha=>by grind) e;have same:∀r∈L.map (·.root),∀i,i<16->jj (bH Z) r i=jj (bH G) r i:=λr hr i hi=>oK h.rt.V h1.V (by rw[q1];exact ndSub.rfl) (by rw[q2];exact ndSub.rfl) (by rw[q3];exact dSub.rfl) (nq h.rt hr) hi;refine ⟨J,hz,h',λr hr i hi=>by rw[k' r hr i hi,same r hr i hi],λi hi=>?_⟩
    grind
theorem IY {G O}(h:Vok S L n G)(V:Rt O (root::L.map (·.root)))(J:fb L n=0)(hd:1<=disk/\disk<=999)(hs:1<=size/\size<=16):Vok (bH O) (L++ [⟨n,disk,size,root⟩]) (n+1) O:=by
 unfold fb at J;have J:¬(L.length=6\/999<n):=λhh=>(by grind);have hl:=h.len;have hn:=h.n1;refine ⟨rfl,?_,by simp;omega,by omega,λp hp=>?_,?_⟩
 ·grind[T4]
 ·rcases kbF.1 hp with hp | hp
  ·have:=h.pts p hp;omega
  grind
 ·rw[kcF];refine ⟨h.srt,kc4 _ _,λa J b R=>?_⟩;rw[kcv] at R;subst R;exact (h.pts a J).1.2
variable {L':List Pt}
theorem C6 {G O V}(h:Vok S L n G)(e:gw S L n base disk size puts= .ok (O,L',V,r)):
  ∃X root,Vok O L' V X/\uc G X (L.map (·.root))/\L'=L++ [⟨n,disk,size,root⟩]/\V=n+1/\r=n/\(1<=disk/\disk<=999)/\(1<=size/\size<=16)/\(∀p∈puts,0<=p.at_/\p.at_<size)/\
   ∀i:Nat,i<16->jj O root i=l7 puts i (match (if base=0 then none else aX L base) with | none=>[] | some p=>if size<=(i:Int)/\(i:Int)<p.size then [] else jj S p.root i):=by
 unfold gw at e;split at e
 ·cases e
 ·rename_i hbd;have J:(L.map (·.root)).length<=8:=(by have:=h.len;simp;omega);cases R:gH S L base disk size with
  | error e'=>rw[R] at e;cases e
  | ok z=>
   rw[R] at e;simp only at e;obtain ⟨z1,z2⟩:=z;obtain ⟨Z,Y,h1,k1,g1⟩:=y0 h (by omega) R;simp only at Y;subst Y;cases hp:ey size (bH Z,z2) puts with
   | error e'=>rw[hp] at e;cases e
   | ok z'=>
    rw[hp] at e;simp only at e;obtain ⟨y1,y2⟩:=z';obtain ⟨G2,hy,h2,g2,k2,b2⟩:=yZ (by omega) J puts h1 hp;simp only at hy;subst hy;split at e
    ·cases e
    ·rename_i ha;injection e with e;injection e with e1 e;injection e with e2 e;injection e with e3 e4;subst e1 e2 e3 e4;refine ⟨G2,y2,IY h h2 (Decidable.not_not.1 ha) (by omega) (by omega),λr hr i hi=>by rw[k2 r hr i hi,k1 r hr i hi],rfl,rfl,rfl,by omega,by omega,b2,λi hi=>?_⟩
     grind
theorem C7 {id G S' Y}(h:Vok S L n G)(e:lT S L n id= .ok (S',L',Y,r)):
  ∃Z p,Vok S' L' Y Z/\aX L id=some p/\uc G Z (L.map (·.root))/\L'=L++ [⟨n,p.disk,p.size,p.root⟩]/\Y=n+1/\r=n:=by
 unfold lT at e;cases O:aX L id with
 | none=>rw[O] at e;cases e
 | some p=>
  rw[O] at e;simp only at e;split at e
  ·cases e
  ·rename_i ha;injection e with e;injection e with R e;injection e with e2 e;injection e with e3 e4;subst R e2 e3 e4;obtain ⟨X,hpi⟩:=dq O;have J:=h.pts p X;have hS:=h.e;subst hS;obtain ⟨G1,R,h1,q1,q2,q3⟩:=qA h.rt (eS O);rw[R];exact ⟨G1,p,IY h h1 (Decidable.not_not.1 ha) J.2.1 J.2.2,rfl,λr hr i hi=>oK h.rt.V h1.V (by rw[q1];exact ndSub.rfl) (by rw[q2];exact ndSub.rfl) (by rw[q3];exact dSub.rfl) (nq h.rt hr) hi,rfl,rfl,rfl⟩
theorem Hf {p}(hs:L.Pairwise λa b=>a.id<b.id)(hp:p∈L)q:js (L.map (·.root)) q=js ((L.filter λx=>!decide (x.id=p.id)).map (·.root)) q+if q=p.root/\p.root≠0 then 1 else 0:=by
 induction L with
 | nil=>simp at hp
 | cons a L R=>
  rw[kcB] at hs;rw[kaO,rh];rcases kbn.1 hp with rfl | hp
  ·have J:L.filter (λx=>!decide (x.id=p.id))=L:=kb4.2 λb O=>by grind
   grind
  grind[rh]
def IZ {id G Z X}(h:Vok S L n G)(e:mY S L n id= .ok (Z,L',X,r)):
  ∃Y p,Vok Z L' X Y/\aX L id=some p/\uc G Y (L'.map (·.root))/\L'=L.filter (λx=>!decide (x.id=id))/\X=n/\r=0:=by
 unfold mY at e;cases J:aX L id with
 | none=>rw[J] at e;cases e
 | some p=>
  rw[J] at e;simp only at e;injection e with e;injection e with O e;injection e with e2 e;injection e with e3 e4;subst O e2 e3 e4;obtain ⟨V,R⟩:=dq J;have hS:=h.e;subst hS;subst R;obtain ⟨G1,O,h1,s1⟩:=M5 (l':=(L.filter λx=>!decide (x.id=p.id)).map (·.root)) h.rt (eS J) (Hf h.srt V);rw[O];refine ⟨G1,p,⟨rfl,h1,kaB (kcE _ _) h.len,h.n1,λx hx=>h.pts x (kcd.1 hx).1,List.Pairwise.sublist kbU h.srt⟩,rfl,yY h.rt h1 s1 _ λr hr=>hr,rfl,rfl,rfl⟩
def VH:Vok (bH gZ) [] 1 gZ:=⟨rfl,KV Xs,by simp,by omega,(λp hp=>by simp at hp),List.Pairwise.nil⟩
def lh {G}(h:Vok S L n G):ii 200 S:=by rw[h.e];exact KU h.rt (by have:=h.len;simp;omega)
def Gq (S:SI)(L:List Pt):Prop:=∀p∈L,∀i:Nat,p.size<=(i:Int)->i<16->jj S p.root i=[]
def KW (h:∀p∈puts,0<=p.at_/\p.at_<size)(hi:size<=(i:Int)):∀d:Bytes,l7 puts i d=d:=by
 unfold l7
 induction puts with
 | nil=>intro d;rfl
 | cons p l J=>
  intro d;have:=h p (by simp);rw[kcG,iOm]
  simp_all
def ri {G J}(h:Gq (bH G) L)(k:uc G J (L.map (·.root))):Gq (bH J) L:=λp hp i h1 O=>by
 rw[k _ (kbV.2 ⟨p,hp,rfl⟩) i O];exact h p hp i h1 O
theorem M6 {G X n'}(h:Vok S L n G)(t:Gq S L)(e:gw S L n base disk size puts= .ok (X,L',n',r)):Gq X L':=by
 obtain ⟨G',root,Z,k',Y,_,_,_,hs,hp,g⟩:=C6 h e;have hS:=h.e;subst hS;have R:=Z.e;subst R;rw[Y];intro p J i h1 O;rcases kbF.1 J with J | J
 ·exact ri t k' p J i h1 O
 ·rw[kcv] at J;subst J;simp only at h1 ⊢;rw[g i O,KW hp h1];split
  ·rfl
  ·rename_i q hq;split
   ·rfl
   ·rename_i hn;have V:q∈L:=by
     grind[dq]
    exact t q V i (by omega) O
def M7 {id G R n'}(h:Vok S L n G)(t:Gq S L)(e:lT S L n id= .ok (R,L',n',r)):Gq R L':=by
 obtain ⟨G',q,Z,hf,X,Y,_⟩:=C7 h e;have hS:=h.e;subst hS;have O:=Z.e;subst O;rw[Y];intro p J i h1 V;rcases kbF.1 J with J | J
 ·exact ri t X p J i h1 V
 ·rw[kcv] at J;subst J;exact ri t X q (dq hf).1 i h1 V
theorem M8 {id G O Z}(h:Vok S L n G)(t:Gq S L)(e:mY S L n id= .ok (O,L',Z,r)):Gq O L':=by
 obtain ⟨G',q,R,hf,Y,e1,_⟩:=IZ h e;have X:=h.e;subst X;have J:=R.e;subst J;refine ri (λp hp i h1 V=>t p ?_ i h1 V) Y
 grind
def VI:Gq (bH gZ) []:=λp hp=>by simp at hp
def vR (b:Nat->SI->List Pt->Int->ag)(Ev:Int->Value)(p:Nat)(F:List ag)(R:VR):Value->List ag->Prop:=λv L'=>match R with
 | .ok (S,L,n,r)=>v= .tuple #[I r,Ev 0]/\L'=b p S L n::F
 | .error e=>v= .tuple #[I 0,Ev e]/\L'=F
def Vi (b:Nat->SI->List Pt->Int->ag)(Ev:Int->Value)(p:Nat)(F:List ag)(R:VR):Value->List ag->Prop:=λv L'=>match R with
 | .ok (S,L,n,_)=>v=Ev 0/\L'=b p S L n::F
 | .error e=>v=Ev e/\L'=F
def y5 (S:SI)(L:List Pt)(n base disk size:Int):VR:=match gH S L base disk size with
 | .ok z=> .ok (z.1,L,n,z.2)
 | .error e=> .error e
def kc (L:List Pt)(n disk size root:Int):List Pt:=if fb L n=0 then L++ [⟨n,disk,size,root⟩] else L
def oM (L:List Pt)(n:Int):Int:=if fb L n=0 then n+1 else n
def j6 (L:List Pt)(n:Int):Int:=if fb L n=0 then n else 0
def Xh (b:Nat)(S:SI)(L:List Pt)(n:Int)(z:Nat×Option Addr×Nat):List ag:=[pcc b #[ptr z.1 0,sl z.2.1 L.length z.2.2,I n] 123,lM z.1 S,be 162 4 z.2.1 z.2.2 (gb L)]
def iq (b:Nat)(S:SI)(L:List Pt)(n:Int):ag:=hx (Xh b S L n)
variable {L:List ag}
def ge b S P n[R:Rem L (iq b S P n) F](k:∀x s J,G c K E (pcc b #[ptr x 0,sl s P.length J,I n] 123::lM x S::be 162 4 s J (gb P)::F)):G c K E L:=ji (iq b S P n) rfl λz=>k z.1 z.2.1 z.2.2
def cF b x s J S P n[O:Split L [pcc b #[ptr x 0,sl s P.length J,I n] 123,lM x S,be 162 4 s J (gb P)] F](k:G c K E (iq b S P n::F)):G c K E L:=
 gW (cB:=Xh b S P n) [pcc b #[ptr x 0,sl s P.length J,I n] 123,lM x S,be 162 4 s J (gb P)] (iq b S P n) (x,s,J) k
variable {R:VR}{vs:List Value}{b:Nat->SI->List Pt->Int->ag}{J:Int->Value}{p:Nat}
def eF (V:c.R=vR b J p F R)(he:R= .error e)(hr:fY E c.fn.results.toList=some vs)(hv:tn vs= .tuple #[I 0,J e])[S:Sub L F](hds:c.n.ds=[]:=by rfl):G c (.code .ret::K) E L:=
 λa w O X=>wp_ret (cb (bf (hds:=hds) hr O (S.sat X) (by rw[V,he];exact ⟨hv,rfl⟩)))
def nU {P:List Pt}(X:c.R=vR b J p F R)(he:R= .ok (S,P,n,r))(hr:fY E c.fn.results.toList=some vs)(hv:tn vs= .tuple #[I r,J 0])[O:Sub L (b p S P n::F)](hds:c.n.ds=[]:=by rfl):G c (.code .ret::K) E L:=
 λa w V Y=>wp_ret (cb (bf (hds:=hds) hr V (O.sat Y) (by rw[X,he];exact ⟨hv,rfl⟩)))
def Fh (V:c.R=Vi b J p F R)(he:R= .error e)(hr:fY E c.fn.results.toList=some vs)(hv:tn vs=J e)[S:Sub L F](hds:c.n.ds=[]:=by rfl):G c (.code .ret::K) E L:=
 λa w O X=>wp_ret (cb (bf (hds:=hds) hr O (S.sat X) (by rw[V,he];exact ⟨hv,rfl⟩)))
def Fj {P:List Pt}(X:c.R=Vi b J p F R)(he:R= .ok (S,P,n,r))(hr:fY E c.fn.results.toList=some vs)(hv:tn vs=J 0)[O:Sub L (b p S P n::F)](hds:c.n.ds=[]:=by rfl):G c (.code .ret::K) E L:=
 λa w V Y=>wp_ret (cb (bf (hds:=hds) hr V (O.sat Y) (by rw[X,he];exact ⟨hv,rfl⟩)))
theorem oN {ec sz cap rows}s n[R:OwR L s ec sz cap rows F](k:G c K E (be ec sz s cap (rows.take n)::F)):G c K E L:=λa w S V=>k a w S ((R.sat V).weak λm hm=>by
 rcases hm with ⟨rfl,rfl,rfl⟩ | ⟨b,cs,hs,hm,h1,Y,J,O⟩
 ·exact .inl ⟨rfl,by simp,rfl⟩
 ·refine .inr ⟨b,cs,hs,hm,h1,by simp;omega,λr hr=>J r (kbu hr),λj row hj f v X=>O j row ?_ f v X⟩
  grind)
open Go.Sl Go.Proofs Go.Sort
def bo (e:Bool):ag:=λm=>
 (∃g cs t f,Tryz.prog.globalNamed "internal/strconv.uint64pow10" =some g/\m g=some (.cells cs t f,true)/\cs=(Lib.pow10Tab.map λz=>Value.int .u64 z).toArray)/\
 (e=true->∃g t f tp p,Tryz.prog.globalNamed "strconv.ErrSyntax" =some g/\m g=some (.cells #[.iface tp p] t f,true))
abbrev tabs:ag:=bo true
variable {w w0:World}
def ll {w'}(h:Sat w0 w L)(b:RowKit.Below w.heap.size w w'):Sat w0 w' L:=by
 obtain ⟨f,J,O⟩:=h.parts;refine ⟨b.os.trans h.os,b.tape.trans h.tape,b.output.trans h.output,kaB h.size b.size,f,λi cB hA=>⟨(J i cB hA).1,λk x hx=>?_⟩,O⟩;have:=(J i cB hA).2 k x hx;rw[b.block k (kaC.1 this).1];exact this
def ue {cB}(h:Sat w0 w (cB::L)):∃m:Res,m.fits w/\cB m:=by
 obtain ⟨f,J,_⟩:=h.parts;exact ⟨f 0,(J 0 cB rfl).2,(J 0 cB rfl).1⟩
theorem M9 {e}(h:Sat w0 w (bo e::L)):Lib.TabIs Tryz.prog w "internal/strconv.uint64pow10" .u64 Lib.pow10Tab:=by
 obtain ⟨m,hm,⟨g,cs,t,f,h1,h2,rfl⟩,_⟩:=ue h;have:=hm _ _ h2
 grind[Lib.TabIs,World.var?]
theorem Fk (h:Sat w0 w (tabs::L)):∃tp p,w.var? Tryz.prog "strconv.ErrSyntax" =some #[.iface tp p]:=by
 obtain ⟨m,hm,_,h6⟩:=ue h;obtain ⟨g,t,f,tp,p,h1,h2⟩:=h6 rfl;have:=hm _ _ h2
 grind[World.var?]
def Na {e bk}(h:Sat w0 w (old bk::L))(h1:Lib.TabIs Tryz.prog bk "internal/strconv.uint64pow10" .u64 Lib.pow10Tab)(h2:e=true->∃tp p,bk.var? Tryz.prog "strconv.ErrSyntax" =some #[.iface tp p]):Sat w0 w (bo e::old bk::L):=by
 refine (h.dup (Pers.old bk)).weak λm hm=>⟨?_,λhe=>?_⟩
 ·unfold Lib.TabIs World.var? at h1;cases hg:Tryz.prog.globalNamed "internal/strconv.uint64pow10" with
  | none=>rw[hg] at h1;cases h1
  | some g=>
   rw[hg] at h1;simp only[kc5] at h1;split at h1
   ·rename_i cs t f he;injection h1 with h1;exact ⟨g,cs,t,f,rfl,hm g _ he,h1⟩
   ·cases h1
 ·obtain ⟨tp,p,h2⟩:=h2 he;unfold World.var? at h2;cases hg:Tryz.prog.globalNamed "strconv.ErrSyntax" with
  | none=>rw[hg] at h2;cases h2
  | some g=>
   rw[hg] at h2;simp only[kc5] at h2;split at h2
   ·rename_i cs t f he;injection h2 with h2;subst h2;exact ⟨g,t,f,tp,p,rfl,hm g _ he⟩
   ·cases h2
def old_tabs {bk}(h:Sat w0 w (old bk::L))(h1:Lib.TabIs Tryz.prog bk "internal/strconv.uint64pow10" .u64 Lib.pow10Tab)(h2:∃tp p,bk.var? Tryz.prog "strconv.ErrSyntax" =some #[.iface tp p]):Sat w0 w (tabs::old bk::L):=Na h h1 λ_=>h2
def jx {ee}n(h0: -9223372036854775808<=n)(h1:n<=9223372036854775807)F:
  cqq 217 [I n] (bo ee::F) (R1 (ay (Lib.itoa n)) (bo ee::F)):=λw0 w J=>by
 refine (Tryz.strconv_Itoa n h0 h1 w (M9 J)).mono ?_;rintro e w' ⟨rfl,k,os,rfl⟩;exact ⟨_,rg os.toList (J.drew (w.drawn+k)),rfl,rfl⟩
def KX (c:Nat)(R:c<=3)F:
  cqq 244 [ay [48],I c] F (R1 (ay (Lib.repeatL [48] c)) F):=λw0 w J=>by
 refine (Tryz.strings_Repeat ⟨⟨[48]⟩⟩ c w (by omega) (by show 1*c<=_;omega)).mono ?_;rintro e w' ⟨rfl,O⟩;exact ⟨_,ll J O,rfl,rfl⟩
theorem Fl:∀(l:List UInt8) (J:Nat),(J+1)*10 ^ l.length<=100000->Lib.parseUint10 J l≠ .range/\∀u,Lib.parseUint10 J l= .ok u->u<(J+1)*10 ^ l.length
 | [],J,h=>by
  grind[Lib.parseUint10]
 | c::r,J,h=>by
  simp only[kaX,Nat.pow_succ] at h ⊢;have hp:1<=10 ^ r.length:=Nat.one_le_pow _ _ (by decide);have h1:J+1<=(J+1)*(10 ^ r.length*10):=Nat.le_mul_of_pos_right _ (by omega);simp only[Lib.parseUint10];split
  ·rename_i hd;have O:(J*10+(c.toNat - 48)+1)*10 ^ r.length<=(J+1)*(10 ^ r.length*10):=by
    rw[show (J+1)*(10 ^ r.length*10)=((J+1)*10)*10 ^ r.length by grind];exact ka8 _ (by omega)
   rw[iOm,iOm];have R:=Fl r (J*10+(c.toNat - 48)) (by omega)
   grind
  grind
theorem KZ {l}(h:l.length<=3):Lib.parseMag l≠ .range/\∀u,Lib.parseMag l= .ok u->u<10 ^ l.length:=by
 unfold Lib.parseMag;split
 ·grind
 ·have hp:10 ^ l.length<=10 ^ 3:=kbw (by decide) h
  grind[Fl]
variable {s:List UInt8}
theorem Bt (hs:s.length=3):Lib.atoiAll s≠ .range/\∀v,Lib.atoiAll s= .ok v-> -99<=v/\v<=999:=by
 cases s with
 | nil=>simp at hs
 | cons c r=>
  grind[Lib.atoiAll,KZ]
def mm (s:List UInt8):Option Int:=match Lib.atoiAll s with | .ok v=>some v | _=>none
def QS s(hs:s.length=3)F:
  cqq 219 [ay s] (tabs::F) (λv L'=>L'=tabs::F/\((∃n,mm s=some n/\v= .tuple #[I n, .nilIface])\/(mm s=none/\∃t p,v= .tuple #[I 0, .iface t (ptr p 0)]))):=λw0 w O=>by
 cases J:Lib.atoiAll s with
 | ok v=>
  refine (Tryz.strconv_Atoi_ok ⟨⟨s⟩⟩ (by show s.length<=_;omega) v J w).mono ?_;rintro e w' ⟨rfl,hw⟩;rcases hw with rfl | ⟨t,rfl⟩
  ·exact ⟨_,O,rfl, .inl ⟨v,by unfold mm;rw[J],rfl⟩⟩
  ·refine ⟨tabs::F,?_,rfl, .inl ⟨v,by unfold mm;rw[J],rfl⟩⟩;exact ll O<|(Lib.bytesWorld_below w _ t)
 | range=>exact absurd J (Bt hs).1
 | _=>
  obtain ⟨S,p,hv⟩:=Fk O;refine (Tryz.strconv_Atoi_syntax_var ⟨⟨s⟩⟩ (by show s.length<=_;omega) J S p w hv).mono ?_;rintro e w' ⟨N,rfl,_,_,R⟩;exact ⟨_,ll O R,rfl, .inr ⟨by unfold mm;rw[J],_,N,rfl⟩⟩
def jt (n:Int):List UInt8:=Lib.repeatL [48] (3 - (Lib.itoa n).length)++Lib.itoa n
def lH (n:Nat):UInt8:=UInt8.ofNat (48+n)
theorem ix {n}(h:n<10):(lH n).toNat=48+n:=by
 grind[lH,UInt8.toNat_ofNat']
theorem p8 {u}(h:u<10):Lib.decDigits u=[lH u]:=by rw[Lib.decDigits,dif_pos h];rfl
theorem el {u}(h:¬u<10):Lib.decDigits u=Lib.decDigits (u / 10)++ [lH (u % 10)]:=by rw[Lib.decDigits,dif_neg h];rfl
theorem ic (u:Nat):Lib.itoa (u:Int)=Lib.decDigits u:=by grind[Lib.itoa]
def y6 {u:Nat}(h:u<1000):jt (u:Int)=[lH (u / 100),lH (u / 10 % 10),lH (u % 10)]:=by
 unfold jt;rw[ic];by_cases h1:u<10
 ·rw[p8 h1,show u / 100=0 by omega,show u / 10 % 10=0 by omega,show u % 10=u by omega];rfl
 ·rw[el h1];by_cases J:u<100
  ·rw[p8 (by omega),show u / 100=0 by omega,show u / 10 % 10=u / 10 by omega];rfl
  ·rw[el (by omega),p8 (by omega),show u / 10 / 10=u / 100 by omega];rfl
theorem Nb:jt 1000=[49,48,48,48]:=by
 unfold jt;rw[show (1000:Int)=((1000:Nat):Int) from rfl,ic,el (by omega),el (by omega),el (by omega),p8 (by omega)]
 rfl
theorem iZ (h:0<=n/\n<=999):(jt n).length=3:=by
 obtain ⟨u,rfl⟩:∃u:Nat,n=u:=⟨n.toNat,by omega⟩;rw[y6 (by omega)];rfl
theorem y7 (h: -999<=n/\n<=1000):(Lib.itoa n).length<=4:=by
 by_cases h0:n<0
 ·grind[Lib.itoa,p8,el]
 ·obtain ⟨u,rfl⟩:∃u:Nat,n=u:=⟨n.toNat,by omega⟩;rw[ic]
  grind[p8,el]
theorem ce (h: -999<=n/\n<=1000):(jt n).length<=4:=by
 grind[y7,jt,Lib.repeatL_length]
theorem y8 {c}(h:c<10)J r(O:J<1000):Lib.parseUint10 J (lH c::r)=Lib.parseUint10 (J*10+c) r:=by
 grind[Lib.parseUint10,ix]
theorem QT (h:0<=n/\n<=999):mm (jt n)=some n:=by
 obtain ⟨u,rfl⟩:∃u:Nat,n=u:=⟨n.toNat,by omega⟩;rw[y6 (by omega)]
 grind[mm,Lib.atoiAll,ix,Lib.parseMag,Lib.parseUint10,Option.some.injEq]
theorem I0 (hs:s.length=3){v}(h:mm s=some v): -99<=v/\v<=999:=by
 grind[mm,Bt]
def y9 (s:List UInt8):Option Int:=match mm s with | some v=>if jt v=s then some v else none | none=>none
theorem Nc (h:0<=n/\n<=999):y9 (jt n)=some n:=by grind[y9,QT]
def K0 (hs:s.length=3){v}(h:y9 s=some v):jt v=s/\ -99<=v/\v<=999:=by
 unfold y9 at h;cases J:mm s with
 | none=>rw[J] at h;cases h
 | some u=>
  rw[J] at h;simp only at h;split at h
  ·injection h with h;subst h;exact ⟨‹_›,I0 hs J⟩
  ·cases h
def iy:Nat->List UInt8->Option (List Int)
 | 0,_=>some []
 | k+1,s=>match y9 (s.take 3) with
  | none=>none
  | some v=>(iy k (s.drop 3)).map (v::·)
theorem rj:∀{k:Nat} {s:List UInt8} {l:List Int},iy k s=some l->l.length=k
 | 0,s,l,h=>by grind[iy]
 | k+1,s,l,h=>by
  simp only[iy] at h;split at h
  ·cases h
  ·obtain ⟨l',h1,rfl⟩:=kaE.1 h;simp[rj h1]
theorem zc:∀{k:Nat} {s:List UInt8} {l:List Int},3*k<=s.length->iy k s=some l->s=l.flatMap jt++s.drop (3*k)/\∀v∈l, -99<=v/\v<=999
 | 0,s,l,_,h=>by grind[iy]
 | k+1,s,l,hk,h=>by
  simp only[iy] at h;split at h
  ·cases h
  ·rename_i v hv;obtain ⟨l',h1,rfl⟩:=kaE.1 h;have hl:(s.take 3).length=3:=(by simp;omega);obtain ⟨J,O⟩:=K0 hl hv;obtain ⟨R,S⟩:=zc (by simp;omega) h1;refine ⟨?_,λx hx=>?_⟩
   ·grind[List.take_append_drop,List.drop_drop]
   grind
def uf:∀{l:List Int} {k:Nat} (t:List UInt8),l.length=k->(∀v∈l,0<=v/\v<=999)->iy k (l.flatMap jt++t)=some l
 | [],k,t,hk,_=>by subst hk;rfl
 | v::l,k,t,hk,h=>by
  obtain ⟨k,rfl⟩:∃j,k=j+1:=⟨l.length,by simpa using hk.symm⟩;have hv:=h v (by simp);have J:=iZ hv;simp only[iy,kcs,kbx];rw[kbI (by omega),kcI (by omega),Nc hv,kc8 (by omega),kbP (by omega),kby];simp only;rw[uf t (by simpa using hk) λx hx=>h x (by simp[hx])]
  rfl
def vQ k:∀(j:Nat) (s:List UInt8),iy (j+k) s=(iy j s).bind λl=>(iy k (s.drop (3*j))).map (l++·)
 | 0,s=>by simp[iy]
 | j+1,s=>by
  rw[show j+1+k=(j+k)+1 by omega];simp only[iy];cases y9 (s.take 3) with
  | none=>rfl
  | some v=>
   simp only;rw[vQ k j];cases iy j (s.drop 3) with
   | none=>rfl
   | some l=>
    simp only[kc5,Option.map_some,kc7,Option.map_map];rw[show 3+3*j=3*(j+1) by omega]
    rfl
def sT {j}(h:iy j s=some l):iy (j+1) s=(y9 ((s.drop (3*j)).take 3)).map λv=>l++ [v]:=by
 rw[vQ,h];simp only[kc5,iy];cases y9 ((s.drop (3*j)).take 3) <;> rfl
def zd {j k}(h:iy j s=none):iy (j+k) s=none:=by rw[vQ,h];rfl
end Go.Proofs.YthdjckbjjfiopabGreatDoor
namespace Go.Proofs.YthdjckbjjfiopabGreatDoor
open Go.Sl Go.Proofs
def gB (B:qc)(q:Int):Bk:=(B q).getD ([],0)
def K3 (id:Int)(x:Bk):ChangeM:=⟨98::jt id,jt x.2++x.1,false⟩
def wT (n:Nd):Bytes:=jt n.refs++(kd n).flatMap jt
def K4 (id:Int)(n:Nd):ChangeM:=⟨110::jt id,wT n,false⟩
def nt (p:Pt):ChangeM:=⟨112::jt p.id,jt p.disk++jt p.size++jt p.root,false⟩
def vS (n:Int):ChangeM:=⟨[120],jt n,false⟩
def dS (m:Nat)(B:qc):List ChangeM:=(ck m B).map λq=>K3 q (gB B q)
def ea (m:Nat)(N:fZ):List ChangeM:=(ck m N).map λq=>K4 q (gN N q)
def bN (S:SI)(L:List Pt)(n:Int):List ChangeM:=dS 40 S.B++ea 24 S.N++L.map nt++ [vS n]
structure Sm (S:SI) (L:List Pt) (n:Int):Prop where
 ok:ii 999 S
 dat:∀q x,S.B q=some x->x.1.length<=6
 kid:∀q m,S.N q=some m->∀k∈kd m,0<=k/\k<=999
 pts:∀p∈L,(0<=p.id/\p.id<=999)/\(0<=p.disk/\p.disk<=999)/\(0<=p.size/\p.size<=999)/\(0<=p.root/\p.root<=999)
 len:L.length<=6
 n1:0<=n/\n<=1000
theorem rn S L n:(bN S L n).length=(ck 40 S.B).length+(ck 24 S.N).length+L.length+1:=by
 grind[bN,dS,ea]
variable {S:SI}{L:List Pt}{n:Int}
theorem oO (h:L.length<=6):(bN S L n).length<=71:=by
 grind[rn,eM]
structure PS where
 B:qc
 N:fZ
 L:List Pt
 n:Int
def ps0:PS:=⟨λ_=>none,λ_=>none,[],0⟩
def em (k:Nat)(s:Bytes):Option (List Int):=if s.length<3*k then none else iy k s
def Xi (c:ChangeM):Prop:=c.key=[120]
instance (c:ChangeM):Decidable (Xi c):=by unfold Xi;infer_instance
def xF (st:PS)(c:ChangeM):Option PS:=if c.val=[49,48,48,48] then some {st with n:=1000} else match em 1 c.val with
 | some [v]=>if c.val.length=3 then some {st with n:=v} else none
 | _=>none
def bF (st:PS)(id:Int)(c:ChangeM):Option PS:=match em 1 c.val with
 | some [r]=>if 0<r/\3<c.val.length/\c.val.length<=9 then some {st with B:=aD st.B id (some (c.val.drop 3,r))} else none
 | _=>none
def nF (st:PS)(id:Int)(c:ChangeM):Option PS:=match em 5 c.val with
 | some [r,k0,k1,k2,k3]=>if 0<r/\c.val.length=15 then some {st with N:=aD st.N id (some ⟨k0,k1,k2,k3,r⟩)} else none
 | _=>none
def pF (st:PS)(id:Int)(c:ChangeM):Option PS:=match em 3 c.val with
 | some [d,s,r]=>if c.val.length=9/\0<d/\0<s/\s<=16 then some {st with L:=st.L++ [⟨id,d,s,r⟩]} else none
 | _=>none
def LG (st:PS)(id:Int)(c:ChangeM):Option PS:=if c.key.head? =some 98 then bF st id c else if c.key.head? =some 110 then nF st id c else if c.key.head? =some 112 then pF st id c else none
def ju (st:PS)(c:ChangeM):Option PS:=if c.key=[120] then xF st c else if c.key.length≠4\/c.gone=true then none else match em 1 (c.key.drop 1) with
 | some [id]=>if id<1 then none else LG st id c
 | _=>none
def QU (pv:Option Bytes)(c:ChangeM):Bool:=match pv with
 | none=>false
 | some p=>Op.bytesLess c.key p || decide (c.key=p)
def iz:Option Bytes->PS->List ChangeM->Option PS
 | _,st,[]=>some st
 | pv,st,c::l=>if QU pv c=true\/c.gone=true then none else match ju st c with
  | none=>none
  | some st'=>iz (some c.key) st' l
def nu (L:List Pt)(q:Int):Prop:=q≠0/\∃p∈L,p.root=q
def LH (N:fZ)(L:List Pt)(q:Int):Prop:=q≠0/\∃r m,nu L r/\N r=some m/\q∈kd m
instance (L:List Pt)(q:Int):Decidable (nu L q):=by unfold nu;infer_instance
structure KindsP (N:fZ) (L:List Pt):Prop where
 r:∀q,nu L q->(N q).isSome=true
 l:∀q,LH N L q->(N q).isSome=true
 dj:∀q,nu L q->¬LH N L q
 all:∀q,(N q).isSome=true->nu L q\/LH N L q
def PY (N:fZ)(L:List Pt):fZ:=λq=>if nu L q then N q else none
def I2 (N:fZ)(L:List Pt):fZ:=λq=>if nu L q then none else N q
def cN (N:fZ)(L:List Pt)(q:Int):Int:=js (L.map (·.root)) q+ip (PY N L) q
structure CountP (B:qc) (N:fZ) (L:List Pt):Prop where
 nz:∀q m,N q=some m->¬fk m
 n:∀q m,N q=some m->cN N L q=m.refs
 b:∀q x,B q=some x->ip (I2 N L) q=x.2
 all:∀q,q≠0->ip (I2 N L) q≠0->(B q).isSome=true
structure WholeP (st:PS):Prop where
 len:st.L.length<=6
 n1:1<=st.n
 last:∀p,st.L.getLast? =some p->p.id<st.n
 sN:mE 24 st.N
 sB:mE 40 st.B
 kinds:KindsP st.N st.L
 counted:CountP st.B st.N st.L
 within:Gq ⟨st.B,st.N⟩ st.L
structure Pok (st:PS):Prop where
 sB:mE 999 st.B
 sN:mE 999 st.N
 b:∀q x,st.B q=some x->(0<x.2/\x.2<=999)/\x.1≠ []/\x.1.length<=6
 n:∀q m,st.N q=some m->(0<m.refs/\m.refs<=999)/\∀k∈kd m, -99<=k/\k<=999
 p:∀p∈st.L,(1<=p.id/\p.id<=999)/\(0<p.disk/\p.disk<=999)/\(0<p.size/\p.size<=16)/\(-99<=p.root/\p.root<=999)
 n1:st.n<=1000/\ -99<=st.n
def VJ:Pok ps0:=⟨qk _,qk _,(λq x h=>by cases h),(λq x h=>by cases h),(λp h=>by simp[ps0] at h),by simp[ps0]⟩
variable {k:Nat}{s:Bytes}{l:List Int}
theorem ij (h:em k s=some l):l.length=k/\3*k<=s.length:=by
 grind[em,rj]
theorem fw (h:em k s=some l):s=l.flatMap jt++s.drop (3*k)/\∀v∈l, -99<=v/\v<=999:=by
 grind[em,zc]
def T5 (h:l.length=1):∃a,l=[a]:=by
 match l,h with
 | [a],_=>exact ⟨a,rfl⟩
def WV (h:l.length=3):∃a b c,l=[a,b,c]:=by
 match l,h with
 | [a,b,c],_=>exact ⟨a,b,c,rfl⟩
def WW (h:l.length=5):∃a b c d e,l=[a,b,c,d,e]:=by
 match l,h with
 | [a,b,c,d,e],_=>exact ⟨a,b,c,d,e,rfl⟩
variable {ρ:Type}
theorem I3 {B}{P:ρ->Prop}(h:∀q x,B q=some x->P x){id y}(hy:P y):∀q x,aD B id (some y) q=some x->P x:=λq x e=>by
 grind[aD]
variable {c:ChangeM}
theorem QV {st O}(h:Pok st)(e:ju st c=some O):Pok O:=by
 unfold ju at e;split at e
 ·unfold xF at e;split at e
  ·injection e with e;subst e;exact ⟨h.sB,h.sN,h.b,h.n,h.p,by simp⟩
  ·split at e
   ·rename_i v hv;split at e
    ·injection e with e;subst e;have:=(fw hv).2 v (by simp);exact ⟨h.sB,h.sN,h.b,h.n,h.p,by simp only;omega⟩
    ·cases e
   ·cases e
 ·split at e
  ·cases e
  ·split at e
   ·rename_i id R;have hr:=(fw R).2 id (by simp);split at e
    ·cases e
    ·have J:1<=id/\id<=((999:Nat):Int):=(by omega);unfold LG at e;split at e
     ·unfold bF at e;split at e
      ·rename_i r hv;have:=(fw hv).2 r (by simp);split at e
       ·injection e with e;subst e;exact ⟨kA h.sB λ_=>J,h.sN,I3 (P:=λx:Bk=>(0<x.2/\x.2<=999)/\x.1≠ []/\x.1.length<=6) h.b ⟨by simp only;omega,by simp_all,by simp;omega⟩,h.n,h.p,h.n1⟩
       ·cases e
      ·cases e
     ·split at e
      ·unfold nF at e;split at e
       ·rename_i r k0 k1 k2 k3 hv;have hv:=(fw hv).2;split at e
        ·injection e with e;subst e;refine ⟨h.sB,kA h.sN λ_=>J,h.b,I3 (P:=λm:Nd=>(0<m.refs/\m.refs<=999)/\∀k∈kd m, -99<=k/\k<=999) h.n ⟨?_,?_⟩,h.p,h.n1⟩
         ·simp_all
         grind[kd]
        ·cases e
       ·cases e
      ·split at e
       ·unfold pF at e;split at e
        ·rename_i d s r hv;have hv:=(fw hv).2;split at e
         ·injection e with e;subst e;refine ⟨h.sB,h.sN,h.b,h.n,λp hp=>?_,h.n1⟩;rcases kbF.1 hp with hp | hp
          ·exact h.p p hp
          simp_all
         ·cases e
        ·cases e
       ·cases e
   ·cases e
def I4 {st id}(h:c.key.head? =some 98):LG st id c=bF st id c:=by unfold LG;rw[kaT h]
theorem C8 {st id}(h:c.key.head? =some 110):LG st id c=nF st id c:=by grind[LG]
theorem C9 {st id}(h:c.key.head? =some 112):LG st id c=pF st id c:=by grind[LG]
theorem ze {n}:∀{i:Nat},i<4->bZ n i∈kd n
 | 0,_=>by simp[kd,bZ]
 | 1,_=>by simp[kd,bZ]
 | 2,_=>by simp[kd,bZ]
 | 3,_=>by simp[kd,bZ]
 | i+4,h=>absurd h (by omega)
theorem Da x(a b:Bytes):kl (x::a) (x::b)=kl a b:=by
 grind[Op.bytesLess]
variable {a b:Nat}
theorem Hg (J:a<10)(O:b<10):(lH a<lH b) ↔ a<b:=by
 grind[UInt8.lt_iff_toNat_lt,ix]
theorem Hh (J:a<10)(O:b<10):(lH a=lH b) ↔ a=b:=by
 grind[ix]
theorem Hi {a b}(J:0<=a/\a<=999)(O:0<=b/\b<=999):kl (jt a) (jt b)=true ↔ a<b:=by
 obtain ⟨u,rfl⟩:∃u:Nat,a=u:=⟨a.toNat,by omega⟩;obtain ⟨v,rfl⟩:∃v:Nat,b=v:=⟨b.toNat,by omega⟩;rw[y6 (by omega),y6 (by omega)];simp only[kl,Op.bytesLess,kbA,kaJ,decide_eq_true_eq,beq_iff_eq];rw[Hg (by omega) (by omega),Hg (by omega) (by omega),Hg (by omega) (by omega),Hh (by omega) (by omega),Hh (by omega) (by omega),Hh (by omega) (by omega)]
 grind
theorem VK (a b:Bytes):kl (98::a) (110::b)=true:=rfl
theorem VL (a b:Bytes):kl (98::a) (112::b)=true:=rfl
def VM (a b:Bytes):kl (98::a) (120::b)=true:=rfl
theorem VN (a b:Bytes):kl (110::a) (112::b)=true:=rfl
def VO (a b:Bytes):kl (110::a) (120::b)=true:=rfl
def VP (a b:Bytes):kl (112::a) (120::b)=true:=rfl
variable {m n:Nat}
theorem I5 {B:Int->Option ρ}(J:m<=n)(h:mE m B):ck n B=ck m B:=by
 unfold ck;rw[show n=m+(n - m) by omega,List.range'_append_1.symm,kb9];have:(List.range' (1+m) (n - m)).filter (λk:Nat=>(B (k:Int)).isSome)=[]:=kcC.2 λj hj hh=>by
  rw[kch] at hj;obtain ⟨x,hx⟩:=kcX.1 hh;have:=h _ x hx;omega
 grind
theorem Db {enc}{B:Int->Option ρ}(J:m<=n)(h:mE m B):tb enc n B=tb enc m B:=by
 unfold tb Mk;rw[show n=m+(n - m) by omega,List.range'_append_1.symm,List.filterMap_append];have:(List.range' (1+m) (n - m)).filterMap (λk:Nat=>(B (k:Int)).map λx=>((k:Int),enc x))=[]:=List.filterMap_eq_nil_iff.2 λj hj=>by
  rw[kch] at hj;cases hx:B (j:Int) with
  | none=>rfl
  | some x=>have:=h _ x hx;omega
 grind
def WX (st:PS)(hx:Bool):List ChangeM:=dS 999 st.B++ea 999 st.N++st.L.map nt++if hx then [vS st.n] else []
structure InvP (pre:List ChangeM) (st:PS) (hx:Bool):Prop where
 e:pre=WX st hx
 x:hx=false->st.n=0
 ok:Pok st
 srt:st.L.Pairwise λa b=>a.id<b.id
def Sz (h:∀q,q ∉ l):l=[]:=List.eq_nil_iff_forall_not_mem.2 h
theorem Nf {st J}(hx:c.key≠ [120])(e:ju st c=some J):∃id y,(1<=id/\id<=999)/\c.key=y::jt id/\c.gone=false/\LG st id c=some J:=by
 unfold ju at e;rw[kaU hx] at e;split at e
 ·cases e
 ·rename_i V;split at e
  ·rename_i id O;split at e
   ·cases e
   ·have R:=(fw O);have X:=R.2 id (by simp);have S:c.key.length=4:=(by omega);obtain ⟨y,r,hy⟩:∃y r,c.key=y::r:=by
     cases hk:c.key with
     | nil=>grind
     | cons y r=>exact ⟨y,r,rfl⟩
    grind
  ·cases e
theorem K5 l(st:Nat->PS)(hs:srt l)(h:∀k c,l[k]? =some c->c.gone=false/\ju (st k) c=some (st (k+1))):iz none (st 0) l=some (st l.length):=by
 have key:∀(m k:Nat) (R:Option Bytes),m+k=l.length->(∀p,R=some p->∀c,l[k]? =some c->kl p c.key=true)->iz R (st k) (l.drop k)=some (st l.length):=by
  intro m
  induction m with
  | zero=>grind[iz]
  | succ m Y=>
   intro k R hk hp;have J:k<l.length:=(by omega);have V:l[k]? =some l[k]:=kbN J;obtain ⟨h1,X⟩:=h k _ V;rw[kcw J];simp only[iz];rw[kaU,X]
   ·simp only;refine Y (k+1) _ (by omega) λp O c S=>?_;injection O with O;subst O;exact kaA.1 hs k (k+1) J (kaz.1 S).1 (by omega) |> λh9=>by grind
   ·intro hh;rcases hh with hh | hh
    ·cases R with
     | none=>cases hh
     | some p=>
      have Z:=hp p rfl _ V;have hb:(kl l[k].key p || decide (l[k].key=p))=true:=hh
      grind[me]
    grind
 exact key l.length 0 none (by omega) (λp hp=>by cases hp)
def Hj (B:Int->Option ρ)(l:List Int):Int->Option ρ:=λq=>if q∈l then B q else none
theorem QW (B:Int->Option ρ):Hj B []=λ_=>none:=funext λq=>by simp[Hj]
def I6 {B:Int->Option ρ}(h:mE n B):Hj B (ck n B)=B:=funext λq=>by
 unfold Hj;split
 ·rfl
 ·rename_i hq;cases e:B q with
  | none=>rfl
  | some x=>exact absurd (mem_ids.2 ⟨h q x e,by rw[e];rfl⟩) hq
variable {q:Int}
theorem Fm {B:Int->Option ρ}:aD (Hj B l) q (B q)=Hj B (l++ [q]):=funext λp=>by
 grind[aD,Hj]
theorem T6 {id}(h:0<=id/\id<=999)t:em 1 (jt id++t)=some [id]:=by
 unfold em;have:=iZ h;rw[kaU (by simp;omega)];have:=uf (l:=[id]) (k:=1) t rfl (by grind);simpa using this
theorem Dc {st id y}(R:1<=id/\id<=999)(hk:c.key=y::jt id)(O:c.gone=false):ju st c=LG st id c:=by
 have J:=iZ (n:=id) (by omega);unfold ju;rw[kaU (by grind),kaU (by rw[hk,O];simp[J]),hk];simp only[kcQ,kbH];have:=T6 (id:=id) (by omega) []
 grind
structure Wr (S:SI) (L:List Pt) (n:Int):Prop where
 sB:mE 40 S.B
 sN:mE 24 S.N
 b:∀q x,S.B q=some x->(0<x.2/\x.2<=999)/\x.1≠ []/\x.1.length<=6
 nd:∀q m,S.N q=some m->(0<m.refs/\m.refs<=999)/\∀k∈kd m,0<=k/\k<=999
 p:∀p∈L,(1<=p.id/\p.id<=999)/\(0<p.disk/\p.disk<=999)/\(0<p.size/\p.size<=16)/\(0<=p.root/\p.root<=999)
 n1:0<=n/\n<=1000
 srt:L.Pairwise λa b=>a.id<b.id
variable {n:Int}
theorem lI (h:Wr S L n):srt (bN S L n):=by
 unfold bN srt;have Y:∀c∈dS 40 S.B,∃q,c.key=98::jt q:=λc R=>by
  unfold dS at R;obtain ⟨q,_,rfl⟩:=kbV.1 R;exact ⟨q,rfl⟩
 have hn:∀c∈ea 24 S.N,∃q,c.key=110::jt q:=λc R=>by
  unfold ea at R;obtain ⟨q,_,rfl⟩:=kbV.1 R;exact ⟨q,rfl⟩
 have hp:∀c∈L.map nt,∃q,c.key=112::jt q:=λc R=>by
  obtain ⟨q,_,rfl⟩:=kbV.1 R;exact ⟨q.id,rfl⟩
 rw[kcF,kcF,kcF];refine ⟨⟨⟨?_,?_,λa O b J=>?_⟩,?_,λa O b J=>?_⟩,kc4 _ _,λa O b J=>?_⟩
 ·unfold dS;rw[kc9];refine kda ?_<|sI 40 S.B;intro a b O J V;have h1:=(mem_ids.1 O).1;have X:=(mem_ids.1 J).1;show kl (98::jt a) (98::jt b)=true
  grind[Da,Hi]
 ·unfold ea;rw[kc9];refine kda ?_<|sI 24 S.N;intro a b O J V;have h1:=(mem_ids.1 O).1;have X:=(mem_ids.1 J).1;show kl (110::jt a) (110::jt b)=true
  grind[Da,Hi]
 ·grind[VK]
 ·rw[kc9];refine kda ?_ h.srt;intro a b O J V;have h1:=(h.p a O).1;have X:=(h.p b J).1;show kl (112::jt a.id) (112::jt b.id)=true
  grind[Da,Hi]
 ·grind[VL,VN]
 ·rw[kcv] at J;subst J;rcases kbF.1 O with O | O
  ·rcases kbF.1 O with O | O
   ·obtain ⟨q,e⟩:=Y a O;rw[e];exact VM _ _
   ·obtain ⟨q,e⟩:=hn a O;rw[e];exact VO _ _
  ·obtain ⟨q,e⟩:=hp a O;rw[e];exact VP _ _
def I7 (S:SI)(L:List Pt)(n:Int)(k:Nat):PS:=
 ⟨Hj S.B ((ck 40 S.B).take k),Hj S.N ((ck 24 S.N).take (k - (ck 40 S.B).length)),L.take (k - (ck 40 S.B).length - (ck 24 S.N).length),if (ck 40 S.B).length+(ck 24 S.N).length+L.length<k then n else 0⟩
variable {α:Type}
def zf {l:List α}{x}(h:l[k]? =some x):l.take (k+1)=l.take k++ [x]:=by
 rw[kdb,h];rfl
theorem QX (h:Wr S L n):iz none ps0 (bN S L n)=some ⟨S.B,S.N,L,n⟩:=by
 have hz:ps0=I7 S L n 0:=by
  grind[I7,ps0,QW]
 have he:I7 S L n (bN S L n).length=⟨S.B,S.N,L,n⟩:=by
  unfold I7;have hl:=show (bN S L n).length=(ck 40 S.B).length+(ck 24 S.N).length+L.length+1 by rw[rn]
  rw[hl,kcI (by omega),kcI (by omega),kcI (by omega),kaT (by omega),I6 h.sB,I6 h.sN]
 rw[hz,<-he];refine K5 _ _ (lI h) λk c J=>?_;unfold bN at J;have Z:(dS 40 S.B).length=(ck 40 S.B).length:=(by simp[dS]);have hnl:(ea 24 S.N).length=(ck 24 S.N).length:=(by simp[ea]);by_cases h1:k<(ck 40 S.B).length
 ·rw[kbx,kbx,kaQ (by omega)] at J;unfold dS at J;rw[kbL] at J;obtain ⟨q,hq,rfl⟩:=kaE.1 J;have X:=mem_ids.1 (kbe hq);obtain ⟨x,hx⟩:=kcX.1 X.2;have V:gB S.B q=x:=(by unfold gB;rw[hx];rfl);have R:=h.b q x hx;refine ⟨rfl,?_⟩;rw[V,Dc (id:=q) (y:=98) (by omega) rfl rfl];rw[I4 rfl];unfold bF;show (match em 1 (jt x.2++x.1) with | some [r]=>_ | _=>_)=_;rw[T6 (by omega)];simp only;have h3:=iZ (n:=x.2) (by omega);have hne:0<x.1.length:=List.length_pos_iff.2 R.2.1;rw[kaT (by show 0<x.2/\3<(jt x.2++x.1).length/\(jt x.2++x.1).length<=9;grind)];show some (PS.mk (aD (Hj S.B ((ck 40 S.B).take k)) q (some ((jt x.2++x.1).drop 3,x.2))) (Hj S.N ((ck 24 S.N).take (k - (ck 40 S.B).length))) (L.take (k - (ck 40 S.B).length - (ck 24 S.N).length)) (if (ck 40 S.B).length+(ck 24 S.N).length+L.length<k then n else 0))=some (I7 S L n (k+1));unfold I7;rw[kc8 (by omega),kbP (by omega),kby,show ((x.1,x.2):Bk)=x from rfl,<-hx,Fm,zf hq,iOm,iOm,show k+1 - (ck 40 S.B).length=k - (ck 40 S.B).length by omega]
 ·rw[kbx,kbx,ka1 (by omega),Z] at J;by_cases h2:k - (ck 40 S.B).length<(ck 24 S.N).length
  ·rw[kaQ (by omega)] at J;unfold ea at J;rw[kbL] at J;obtain ⟨q,hq,rfl⟩:=kaE.1 J;have X:=mem_ids.1 (kbe hq);obtain ⟨x,hx⟩:=kcX.1 X.2;have V:gN S.N q=x:=(by unfold gN;rw[hx];rfl);have R:=h.nd q x hx;refine ⟨rfl,?_⟩;rw[V,Dc (id:=q) (y:=110) (by omega) rfl rfl];rw[C8 rfl];unfold nF;have O:em 5 (wT x)=some [x.refs,x.k0,x.k1,x.k2,x.k3]/\(wT x).length=15:=by
    have hv:∀v∈ [x.refs,x.k0,x.k1,x.k2,x.k3],0<=v/\v<=999:=by
     grind[kd]
    have h5:=uf (l:=[x.refs,x.k0,x.k1,x.k2,x.k3]) (k:=5) [] rfl hv;rw[kcV] at h5;have e:wT x=[x.refs,x.k0,x.k1,x.k2,x.k3].flatMap jt:=(by simp[wT,kd]);have hl:(wT x).length=15:=by
     simp_all[iZ]
    grind[em]
   show (match em 5 (wT x) with | some [r,k0,k1,k2,k3]=>_ | _=>_)=_;rw[O.1];simp only;rw[kaT (by show 0<x.refs/\(wT x).length=15;exact ⟨by omega,O.2⟩)];show some (PS.mk (Hj S.B ((ck 40 S.B).take k)) (aD (Hj S.N ((ck 24 S.N).take (k - (ck 40 S.B).length))) q (some x)) (L.take (k - (ck 40 S.B).length - (ck 24 S.N).length)) (if (ck 40 S.B).length+(ck 24 S.N).length+L.length<k then n else 0))=some (I7 S L n (k+1));unfold I7;rw[<-hx,Fm,iOm,iOm,show k+1 - (ck 40 S.B).length=(k - (ck 40 S.B).length)+1 by omega,zf hq,kcI (l:=ck 40 S.B) (i:=k) (by omega),kcI (l:=ck 40 S.B) (i:=k+1) (by omega),show k - (ck 40 S.B).length+1 - (ck 24 S.N).length=k - (ck 40 S.B).length - (ck 24 S.N).length by omega]
  ·rw[ka1 (by omega),hnl] at J;by_cases h3:k - (ck 40 S.B).length - (ck 24 S.N).length<L.length
   ·rw[kaQ (by simp;omega)] at J;rw[kbL] at J;obtain ⟨x,hx,rfl⟩:=kaE.1 J;have R:=h.p x (kbe hx);refine ⟨rfl,?_⟩;rw[Dc (id:=x.id) (y:=112) (by omega) rfl rfl];rw[C9 rfl];unfold pF;have O:em 3 (nt x).val=some [x.disk,x.size,x.root]/\(nt x).val.length=9:=by
     have hv:∀v∈ [x.disk,x.size,x.root],0<=v/\v<=999:=by
      grind
     have h5:=uf (l:=[x.disk,x.size,x.root]) (k:=3) [] rfl hv
     grind[nt,iZ,em]
    rw[O.1];simp only;rw[kaT ⟨O.2,by omega⟩];show some (PS.mk (Hj S.B ((ck 40 S.B).take k)) (Hj S.N ((ck 24 S.N).take (k - (ck 40 S.B).length))) (L.take (k - (ck 40 S.B).length - (ck 24 S.N).length)++ [x]) (if (ck 40 S.B).length+(ck 24 S.N).length+L.length<k then n else 0))=some (I7 S L n (k+1));unfold I7;rw[iOm,iOm,show k+1 - (ck 40 S.B).length - (ck 24 S.N).length=(k - (ck 40 S.B).length - (ck 24 S.N).length)+1 by omega,zf hx,kcI (l:=ck 40 S.B) (i:=k) (by omega),kcI (l:=ck 40 S.B) (i:=k+1) (by omega),kcI (l:=ck 24 S.N) (i:=k - (ck 40 S.B).length) (by omega),kcI (l:=ck 24 S.N) (i:=k+1 - (ck 40 S.B).length) (by omega)]
   ·rw[ka1 (by simp;omega),kcc] at J;have hk0:k - (ck 40 S.B).length - (ck 24 S.N).length - L.length=0:=by
     grind
    rw[hk0] at J;injection J with J;subst J;refine ⟨rfl,?_⟩;have Y:I7 S L n (k+1)={I7 S L n k with n:=n}:=by
     grind[I7,List.take_of_length_le]
    rw[Y];show (if (vS n).key=[120] then xF (I7 S L n k) (vS n) else _)=_;rw[kaT (show (vS n).key=[120] from rfl)];unfold xF;show (if jt n=[49,48,48,48] then _ else _)=_;by_cases hn:n=1000
    ·grind[Nb]
    ·have hn1:=h.n1;have h3:=iZ (n:=n) (by omega);rw[kaU (by grind)];show (match em 1 (jt n) with | some [v]=>if (jt n).length=3 then _ else _ | _=>_)=_;have:=T6 (id:=n) (by omega) []
     grind
def oe (N:fZ)(F:IM)(o:Bool)(id kind:Int):Bool:=if id=0 then o else o && ((N id).isSome && (decide ((li F id).getD 0=0) || decide ((li F id).getD 0=kind)))
def qB (F:IM)(id kind:Int):IM:=if id=0 then F else Kv F id kind
theorem isR_snoc {p}:nu (L++ [p]) q ↔ nu L q\/(q≠0/\q=p.root):=by
 grind[nu]
def I8 q:¬nu [] q:=λh=>by obtain ⟨_,p,hp,_⟩:=h;cases hp
structure K1 (N:fZ) (L:List Pt) (o:Bool) (F:IM):Prop where
 o:o=true ↔ ∀q,nu L q->(N q).isSome=true
 f:∀q,li F q=if nu L q then some 1 else none
def T7 N:K1 N [] true []:=⟨⟨λ_ q h=>absurd h (I8 q),λ_=>rfl⟩,λq=>by rw[kaU (I8 q)];rfl⟩
variable {N:fZ}{o:Bool}{F:IM}
theorem QY (h:K1 N L o F)p:K1 N (L++ [p]) (oe N F o p.root 1) (qB F p.root 1):=by
 unfold oe qB;by_cases h0:p.root=0
 ·rw[kaT h0,kaT h0];have e:∀q,nu (L++ [p]) q ↔ nu L q:=λq=>by
   grind[isR_snoc]
  exact ⟨by rw[h.o];simp only[e],λq=>by rw[h.f];simp only[e]⟩
 ·rw[kaU h0,kaU h0];have J:(li F p.root).getD 0=0\/(li F p.root).getD 0=1:=by
   rw[h.f]
   grind
  have R:(decide ((li F p.root).getD 0=0) || decide ((li F p.root).getD 0=1))=true:=by
   grind
  rw[R,Bool.and_true];refine ⟨?_,λq=>?_⟩
  ·rw[kaJ,h.o];constructor
   ·rintro ⟨h1,O⟩ q hq;rcases isR_snoc.1 hq with hq | ⟨_,rfl⟩
    ·exact h1 q hq
    ·exact O
   ·intro h1;exact ⟨λq hq=>h1 q (isR_snoc.2 (.inl hq)),h1 _ (isR_snoc.2 (.inr ⟨h0,rfl⟩))⟩
  ·rw[vl];by_cases hq:p.root=q
   ·rw[kaT hq,kaT (isR_snoc.2 (.inr ⟨by rw[<-hq];exact h0,hq.symm⟩))]
   ·rw[kaU hq,h.f]
    grind[isR_snoc]
def dn (N:fZ)(L:List Pt)(done:List Int)(ks:List Int)(q:Int):Prop:=q≠0/\((∃r m,r∈done/\nu L r/\N r=some m/\q∈kd m)\/q∈ks)
structure KP (N:fZ) (L:List Pt):Prop where
 r:∀q,nu L q->(N q).isSome=true
 l:∀q,LH N L q->(N q).isSome=true
 dj:∀q,nu L q->¬LH N L q
structure K2 (N:fZ) (L:List Pt) (done ks:List Int) (o:Bool) (F:IM):Prop where
 no:o=false->¬KP N L
 r:o=true->∀q,nu L q->(N q).isSome=true
 l:o=true->∀q,dn N L done ks q->(N q).isSome=true/\¬nu L q
 f1:o=true->∀q,nu L q->li F q=some 1
 f2:o=true->∀q,¬nu L q->dn N L done ks q->li F q=some 2
 f0:o=true->∀q,¬nu L q->¬dn N L done ks q->li F q=none
def Ng N L q:¬dn N L [] [] q:=λh=>by
 rcases h.2 with ⟨r,m,hr,_⟩ | h
 ·cases hr
 ·cases h
def Nh (h:K1 N L o F):K2 N L [] [] o F:=
 ⟨(λho hk=>by have:=h.o.2 hk.r;rw[this] at ho;cases ho),λho=>h.o.1 ho,λ_ q hq=>absurd hq (Ng N L q),λ_ q hq=>by rw[h.f,kaT hq],λ_ q _ hq=>absurd hq (Ng N L q),λ_ q hq _=>by rw[h.f,kaU hq]⟩
theorem QZ {done id}(h:¬nu L id)q:dn N L (id::done) [] q ↔ dn N L done [] q:=by
 grind[dn]
theorem Hk {d O k R}(h:K2 N L d k o F)(e:∀q,dn N L O R q ↔ dn N L d k q):K2 N L O R o F:=
 ⟨h.no,h.r,λho q hq=>h.l ho q ((e q).1 hq),h.f1,λho q h1 J=>h.f2 ho q h1 ((e q).1 J),λho q h1 J=>h.f0 ho q h1 λS=>J ((e q).2 S)⟩
theorem Dd {d J k O F'}(h:K2 N L d k false F):K2 N L J O false F':=
 ⟨h.no,(λh=>by cases h),(λh=>by cases h),(λh=>by cases h),(λh=>by cases h),(λh=>by cases h)⟩
def Q0 {done id}(h:K2 N L done [] o F)(hm:(li F id).getD 0≠1):K2 N L (id::done) [] o F:=by
 cases o with
 | false=>exact Dd h
 | true=>
  refine Hk h<|QZ λhr=>hm ?_;rw[h.f1 rfl id hr];rfl
def Q3 {done id}(h:K2 N L done [] true F)(hm:(li F id).getD 0=1):nu L id:=by
 refine Decidable.byContradiction λhr=>?_;by_cases hd:dn N L done [] id
 ·rw[h.f2 rfl id hr hd] at hm;cases hm
 ·rw[h.f0 rfl id hr hd] at hm;cases hm
theorem dn_ks {done J k}:dn N L done (J++ [k]) q ↔ dn N L done J q\/(q≠0/\q=k):=by
 grind[dn]
variable {m:Nd}
theorem T8 {done S id k}(h:K2 N L done S o F)(hr:o=true->nu L id)(Y:N id=some m)(hk:k∈kd m):K2 N L done (S++ [k]) (oe N F o k 2) (qB F k 2):=by
 cases o with
 | false=>
  grind[oe,Dd]
 | true=>
  by_cases h0:k=0
  ·grind[oe,qB,Hk,dn_ks]
  ·have V:LH N L k:=⟨h0,id,m,hr rfl,Y,hk⟩;have X:qB F k 2=Kv F k 2:=(by grind[qB]);rw[X];cases hs:oe N F true k 2 with
   | false=>
    refine Dd (h:=(⟨λ_ O=>?_,(λh=>by cases h),(λh=>by cases h),(λh=>by cases h),(λh=>by cases h),(λh=>by cases h)⟩:K2 N L done S false F));unfold oe at hs;rw[kaU h0,kco,O.l k V,kco,kdc] at hs;have J:=λhh=>O.dj k hh V;by_cases hd:dn N L done S k
    ·have:=h.f2 rfl k J hd
     grind
    ·have:=h.f0 rfl k J hd
     grind
   | true=>
    unfold oe at hs;rw[kaU h0,kco,kaJ] at hs;have J:¬nu L k:=λhh=>by
     rw[h.f1 rfl k hh] at hs;simp at hs
    refine ⟨(λh=>by cases h),λ_=>h.r rfl,λ_ q hq=>?_,λ_ q hq=>?_,λ_ q h1 hq=>?_,λ_ q h1 hq=>?_⟩
    ·rcases dn_ks.1 hq with hq | ⟨_,rfl⟩
     ·exact h.l rfl q hq
     ·exact ⟨hs.1,J⟩
    ·rw[vl,kaU (λe=>J (by rw[e];exact hq))];exact h.f1 rfl q hq
    ·rw[vl];split
     ·rfl
     ·rename_i hne;rcases dn_ks.1 hq with hq | ⟨_,rfl⟩
      ·exact h.f2 rfl q h1 hq
      ·exact absurd rfl hne
    ·have R:¬dn N L done S q/\¬(q≠0/\q=k):=⟨λh=>hq (dn_ks.2 (.inl h)),λh=>hq (dn_ks.2 (.inr h))⟩;rw[vl,kaU (λe=>R.2 ⟨by rw[<-e];exact h0,e.symm⟩)];exact h.f0 rfl q h1 R.1
theorem Q4 {done id}(h:K2 N L done (kd m) o F)(hr:o=true->nu L id)(J:N id=some m):K2 N L (id::done) [] o F:=by
 grind[Dd,Hk,dn]
theorem T9 {done}(J:∀r,(N r).isSome=true->r∈done)q:dn N L done [] q ↔ LH N L q:=by
 grind[dn,LH]
def Ua {done}(h:K2 N L done [] o F)(Z:∀r,(N r).isSome=true->r∈done)(hs:mE 24 N)(Y:(F.map (·.1)).Nodup):((o && decide ((F.length:Int)=((ck 24 N).length:Int)))=true ↔ KindsP N L)/\(o=true->∀q,(li F q).getD 0=1 ↔ nu L q):=by
 have J:=T9 (L:=L) Z;cases o with
 | false=>
  refine ⟨⟨(λhh=>by cases hh),λhk=>absurd ⟨hk.r,hk.l,hk.dj⟩ (h.no rfl)⟩,(λhh=>by cases hh)⟩
 | true=>
  have O:∀q,q∈F.map (·.1) ↔ nu L q\/LH N L q:=λq=>by
   rw[<-xo];by_cases hr:nu L q
   ·rw[h.f1 rfl q hr];simp[hr]
   ·by_cases hl:LH N L q
    ·rw[h.f2 rfl q hr ((J q).2 hl)];simp[hl]
    ·rw[h.f0 rfl q hr λhh=>hl ((J q).1 hh)];simp[hr,hl]
  have V:∀q∈F.map (·.1),q∈ck 24 N:=λq hq=>by
   have S:(N q).isSome=true:=by
    rcases (O q).1 hq with hr | hl
    ·exact h.r rfl q hr
    ·exact (h.l rfl q ((J q).2 hl)).1
   obtain ⟨x,hx⟩:=kcX.1 S;exact mem_ids.2 ⟨hs q x hx,S⟩
  have R:=yk Y (ids_nodup 24 N) V;rw[kcc] at R;refine ⟨?_,λ_ q=>?_⟩
  ·rw[kco,decide_eq_true_eq];constructor
   ·intro hl;have X:=R.1 (by omega);refine ⟨h.r rfl,λq hq=>(h.l rfl q ((J q).2 hq)).1,λq hr hl=>(h.l rfl q ((J q).2 hl)).2 hr,λq hq=>?_⟩;obtain ⟨x,hx⟩:=kcX.1 hq;exact (O q).1<|X q<|mem_ids.2 ⟨hs q x hx,hq⟩
   ·intro hk;have:=R.2 λq hq=>(O q).2 (hk.all q (mem_ids.1 hq).2);omega
  ·by_cases hr:nu L q
   ·rw[h.f1 rfl q hr];simp[hr]
   ·by_cases hl:LH N L q
    ·rw[h.f2 rfl q hr ((J q).2 hl)];simp[hr]
    ·rw[h.f0 rfl q hr λhh=>hl ((J q).1 hh)];simp[hr]
def cm (F:IM)(c:Int->Int):Prop:=(∀q,(li F q).getD 0=c q)/\(∀q,(li F q).isSome=true ↔ c q≠0)/\∀q,0<=c q
def Ni:cm [] λ_=>0:=⟨λq=>rfl,λq=>by simp[li],λq=>by simp⟩
theorem Hl {c}(h:cm F c)k:cm (Kv F k (c k+1)) (del c k 1):=by
 obtain ⟨h1,J,O⟩:=h;refine ⟨λq=>?_,λq=>?_,λq=>?_⟩
 ·grind[vl,oJ,CT]
 ·grind[vl,oJ,CT]
 grind[del]
theorem I9 {c}(h:cm F c):cm (yj F 0) λq=>if q=0 then 0 else c q:=by
 obtain ⟨h1,J,O⟩:=h;refine ⟨λq=>?_,λq=>?_,λq=>?_⟩
 ·grind[Mv]
 ·grind[Mv]
 grind
def cA (l:List Int)(q:Int):Int:=(l.count q:Int)
def Ub q:cA [] q=0:=rfl
theorem Q5 l k q:cA (l++ [k]) q=del (cA l) k 1 q:=by
 grind[cA,del]
theorem ug l k q:cA (k::l) q=cA l q+if q=k then 1 else 0:=by
 grind[cA]
def SA l q:0<=cA l q:=by unfold cA;omega
theorem SB l q:cA l q<=l.length:=by grind[cA]
theorem Uc (h:q≠0):cA l q=js l q:=by grind[cA,js]
def Ud m q:nS (some m) q=cA (kd m) q:=by
 unfold kd;simp only[ug,Ub,nS]
 (repeat' split) <;> omega
def kR (m:Nd)(i:Nat)(q:Int):Int:=cA ((kd m).drop i) q
theorem VQ m q:kR m 0 q=nS (some m) q:=by rw[Ud];rfl
theorem VS m q:kR m 4 q=0:=rfl
theorem VT m q:∀i,i<4->kR m i q=kR m (i+1) q+if q=bZ m i then 1 else 0
 | 0,_=>ug _ _ _
 | 1,_=>ug _ _ _
 | 2,_=>ug _ _ _
 | 3,_=>ug _ _ _
 | i+4,h=>absurd h (by omega)
def VU m i q:0<=kR m i q:=SA _ _
def fR (N:fZ)(L:List Pt)(q:Int)(p:Int×Value):Int:=if nu L p.1 then nS (N p.1) q else 0
def fL (N:fZ)(L:List Pt)(q:Int)(p:Int×Value):Int:=if nu L p.1 then 0 else nS (N p.1) q
def VV N L q p:0<=fR N L q p:=by unfold fR;split;exact yQ _ _;exact kcY _
def VW N L q p:0<=fL N L q p:=by unfold fL;split;exact kcY _;exact yQ _ _
theorem De {f}(h:∀p,0<=f p):∀bq,0<=pm f bq
 | []=>kcY _
 | p::bq=>by have:=De h bq;grind[pm]
theorem Df {N:fZ}{f cB q}(h:∀k v,f (k,v)=if (N k).isSome then nS (cB k) q else f (k,v))(hA:∀k,N k=none->cB k=none):∀l:List Nat,pm f (Mk cl l N)=mT cB q l
 | []=>rfl
 | k::l=>by
  unfold Mk;rw[List.filterMap_cons];simp only[mT];have J:=Df h hA l;unfold Mk at J;cases hk:N (k:Int) with
  | none=>grind[nS]
  | some m=>
   grind[pm]
theorem VX N L q:pm (fR N L q) (tb cl 24 N)=ip (PY N L) q:=by
 refine Df (λk v=>?_) (λk hk=>?_) _
 ·grind[fR,nS,PY]
 grind[PY]
theorem VY N L q:pm (fL N L q) (tb cl 24 N)=ip (I2 N L) q:=by
 refine Df (λk v=>?_) (λk hk=>?_) _
 ·grind[fL,nS,I2]
 grind[I2]
structure Cnt (N:fZ) (L:List Pt) (rest:MM) (c1 c2:Int->Int):Prop where
 r:∀q,c1 q+pm (fR N L q) rest=cA (L.map (·.root)) q+ip (PY N L) q
 l:∀q,c2 q+pm (fL N L q) rest=ip (I2 N L) q
structure Cni (N:fZ) (L:List Pt) (rest:MM) (id:Int) (m:Nd) (i:Nat) (c1 c2:Int->Int):Prop where
 r:∀q,c1 q+(if nu L id then kR m i q else 0)+pm (fR N L q) rest=cA (L.map (·.root)) q+ip (PY N L) q
 l:∀q,c2 q+(if nu L id then 0 else kR m i q)+pm (fL N L q) rest=ip (I2 N L) q
def K6:Cnt N L (tb cl 24 N) (cA (L.map (·.root))) λ_=>0:=⟨λq=>by rw[VX],λq=>by rw[VY,Int.zero_add]⟩
theorem Ue {rest J:MM}{id v c1 c2}(h:Cnt N L rest c1 c2)(hp:rest.Perm ((id,v)::J))(hm:N id=some m):Cni N L J id m 0 c1 c2:=by
 refine ⟨λq=>?_,λq=>?_⟩
 ·have:=h.r q;rw[A9 hp] at this
  grind[pm,fR,VQ]
 ·have:=h.l q;rw[A9 hp] at this
  grind[pm,fL,VQ]
variable {i:Nat}
theorem VZ {rest id c1 c2}(h:Cni N L rest id m i c1 c2)(hi:i<4)(hr:nu L id):Cni N L rest id m (i+1) (del c1 (bZ m i) 1) c2:=by
 refine ⟨λq=>?_,λq=>?_⟩
 ·have:=h.r q
  grind[VT,del]
 ·have:=h.l q
  grind
theorem V0 {rest id c1 c2}(h:Cni N L rest id m i c1 c2)(hi:i<4)(hr:¬nu L id):Cni N L rest id m (i+1) c1 (del c2 (bZ m i) 1):=by
 refine ⟨λq=>?_,λq=>?_⟩
 ·have:=h.r q
  grind
 ·have:=h.l q
  grind[VT,del]
theorem Q6 {rest id c1 c2}(h:Cni N L rest id m 4 c1 c2):Cnt N L rest c1 c2:=by
 refine ⟨λq=>?_,λq=>?_⟩
 ·have:=h.r q
  grind[VS]
 ·have:=h.l q
  grind[VS]
theorem Nj {rest id c1 c2}(h:Cni N L rest id m i c1 c2)(hl:L.length<=6)q:c1 q<=102/\c2 q<=96:=by
 have h1:=h.r q;have J:=h.l q;have O:=De (λp=>VV N L q p) rest;have R:=De (λp=>VW N L q p) rest;have S:=VU m i q;have V:=SB (L.map (·.root)) q;have X:=CQ (PY N L) q;have Y:=CQ (I2 N L) q
 grind
theorem Q7 {c1 c2}(h:Cnt N L [] c1 c2):(∀q,c1 q=cA (L.map (·.root)) q+ip (PY N L) q)/\∀q,c2 q=ip (I2 N L) q:=by
 refine ⟨λq=>?_,λq=>?_⟩
 ·have:=h.r q;grind[pm]
 ·have:=h.l q;grind[pm]
def Bu {c1 c2}(h:Cnt N L [] c1 c2)(h0:q≠0):(λq=>if q=0 then 0 else c1 q) q=cN N L q/\(λq=>if q=0 then 0 else c2 q) q=ip (I2 N L) q:=by
 obtain ⟨h1,J⟩:=Q7 h;simp only;rw[kaU h0,kaU h0,h1,J,Uc h0];exact ⟨rfl,rfl⟩
variable {B:qc}
theorem rq {c1 c2}(h:Cnt N L [] c1 c2)(hz:∀q m,N q=some m->¬fk m)(hn:∀q m,N q=some m->(λq=>if q=0 then 0 else c1 q) q=m.refs)(hb:∀q x,B q=some x->(λq=>if q=0 then 0 else c2 q) q=x.2)(X:mE 40 B)(hN:mE 24 N)(Y:∀q x,B q=some x->0<x.2)(S:cm F λq=>if q=0 then 0 else c2 q)(hd:(F.map (·.1)).Nodup):(decide ((F.length:Int)=((ck 40 B).length:Int))=true) ↔ CountP B N L:=by
 have O:∀q∈ck 40 B,q∈F.map (·.1):=λq hq=>by
  have V:=mem_ids.1 hq;obtain ⟨x,hx⟩:=kcX.1 V.2;rw[<-xo,S.2.1]
  grind
 have J:=yk (ids_nodup 40 B) hd O;rw[kcc] at J;rw[decide_eq_true_eq];constructor
 ·intro e;have Z:=J.1 (by omega);refine ⟨hz,λq m hm=>?_,λq x hx=>?_,λq h0 hq=>?_⟩
  ·rw[<-(Bu h (by have:=hN q m hm;omega)).1];exact hn q m hm
  ·rw[<-(Bu h (by have:=X q x hx;omega)).2];exact hb q x hx
  ·have R:q∈F.map (·.1):=by
    rw[<-xo,S.2.1,(Bu h h0).2];exact hq
   exact (mem_ids.1 (Z q R)).2
 ·intro hc;have:=J.2 λq hq=>by
   rw[<-xo,S.2.1] at hq;by_cases h0:q=0
   ·grind
   ·rw[(Bu h h0).2] at hq;have R:=hc.all q h0 hq;obtain ⟨x,hx⟩:=kcX.1 R;exact mem_ids.2 ⟨X q x hx,R⟩
  omega
def pG {c1 c2}(h:Cnt N L [] c1 c2)(J:mE 24 N)(hm:N q=some m)(hne:(λq=>if q=0 then 0 else c1 q) q≠m.refs):¬CountP B N L:=λO=>hne (by
 rw[(Bu h (by have:=J q m hm;omega)).1];exact O.n q m hm)
def pH {c1 c2}(h:Cnt N L [] c1 c2)(J:mE 40 B){x}(hx:B q=some x)(hne:(λq=>if q=0 then 0 else c2 q) q≠x.2):¬CountP B N L:=λO=>hne (by
 rw[(Bu h (by have:=J q x hx;omega)).2];exact O.b q x hx)
open _root_.Go.Proofs.Tryz
theorem Uf (l:List Pt)id(O:∀j,j<i->∀t,l[j]? =some t->t.id≠id){s}(hs:l[i]? =some s)(he:s.id=id):(l.take (i+1)).filter (λx=>!decide (x.id=id))=l.take i:=by
 have hi:=(kaz.1 hs).1;rw[kdb,hs,kb9];have h1:(l.take i).filter (λx=>!decide (x.id=id))=l.take i:=kb4.2 λa J=>by
  obtain ⟨j,hj,rfl⟩:=kdd.1 J
  grind
 rw[h1];simp[he]
structure Dl (l R:List Pt) (id:Int) (w j:Nat):Prop where
 len:R.length=l.length
 lj:j<=l.length
 lw:w<=j
 pre:R.take w=(l.take j).filter λx=>!decide (x.id=id)
 suf:R.drop j=l.drop j
variable {R l:List Pt}{w:Nat}{x:Pt}
def SD {id j}(h:Dl l R id w j)(hx:R[j]? =some x):l[j]? =some x:=by
 have h1:(R.drop j)[0]? =some x:=(by simpa using hx);rw[h.suf] at h1;simpa using h1
def Q8 {id j}(h:Dl l R id w j)(hx:R[j]? =some x)(J:x.id=id):Dl l R id w (j+1):=by
 have hl:=SD h hx;have hj:=(kaz.1 hl).1;refine ⟨h.len,hj,by have:=h.lw;omega,?_,?_⟩
 ·rw[kdb,hl,kb9,h.pre];simp[J]
 ·rw[<-kc7,<-kc7,h.suf]
def Q9 {id j}(h:Dl l R id w j)(S:w<j)(hx:R[j]? =some x)(O:x.id≠id):Dl l (R.set w x) id (w+1) (j+1):=by
 have hl:=SD h hx;have hj:=(kaz.1 hl).1;have J:=h.len;refine ⟨by simp[J],hj,by omega,?_,?_⟩
 ·rw[kdb (l:=l),hl,kb9,<-h.pre,kdb,kde (kax _),kaK (by omega)];simp[O]
 ·rw[kdf (by omega),<-kc7,<-kc7,h.suf]
def Nk {id}(h:Dl l R id w l.length):R.take w=l.filter λx=>!decide (x.id=id):=by rw[h.pre,kbl]
def Fo {id}(O:∀j,j<l.length->∀t,l[j]? =some t->t.id≠id):l.filter (λx=>!decide (x.id=id))=l:=kb4.2 λa J=>by
 obtain ⟨j,hj,rfl⟩:=kdd.1 J
 simp_all
def Ja {id}(h:He l id<0):∀j,j<l.length->∀t,l[j]? =some t->t.id≠id:=λj hj t ht he=>by
 unfold He at h;split at h
 ·omega
 ·rename_i hl;exact hl<|kc3 ⟨t,kbe ht,by simpa using he⟩
def Nl {id}(h:He l id<0):He l id= -1:=ub (Ja h)
def Nm {id}(J:∀j,j<i->∀t,l[j]? =some t->t.id≠id){s}(hs:l[i]? =some s)(he:s.id=id):Dl l l id i (i+1):=
 ⟨rfl,(kaz.1 hs).1,by omega,(Uf l id J hs he).symm,rfl⟩
def Ra l w x:(gb l).set w (aW x)=gb (l.set w x):=by simp[gb,kbj]
def Nn l w:(gb l).take w=gb (l.take w):=by simp[gb,kdg]
def WY x w:(Instr.build 123 #[(0,ptr x 0),(2,I 1)]).run Tryz.prog w= .ok (.agg #[ptr x 0,sl none 0 0,I 1]) w:=by
 simp[Instr.build,kak,kal,Xu,X7,XS,Instr.fill,bB,show (I 1).cells=#[I 1] from rfl,show (ptr x 0).cells=#[ptr x 0] from rfl,sl]
def V6 x s n c k w:(Instr.build 123 #[(0,ptr x 0),(1,sl s n c),(2,I k)]).run Tryz.prog w= .ok (.agg #[ptr x 0,sl s n c,I k]) w:=by
 simp[Instr.build,kak,kal,Xu,X7,XS,Instr.fill,bB,show (I k).cells=#[I k] from rfl,show (ptr x 0).cells=#[ptr x 0] from rfl,show (sl s n c).cells=#[sl s n c] from rfl]
def Np a b c d w:(Instr.build 162 #[(0,I a),(1,I b),(2,I c),(3,I d)]).run Tryz.prog w= .ok (.agg (aW ⟨a,b,c,d⟩).toArray) w:=by
 simp[Instr.build,X4,kav,Xu,Instr.fill,bB,show ∀k:Int,(I k).cells=#[I k] from λ_=>rfl]
def Nq w:(Instr.build 162 #[]).run Tryz.prog w= .ok (.agg (aW iB).toArray) w:=by
 simp[Instr.build,X4,kav,Instr.fill,bB,iB]
theorem i6 {l:List α}{x}(h:l[k]? =some x):l.drop k=x::l.drop (k+1):=by
 grind[List.drop_eq_getElem_cons]
variable {m:Nat}
def pI (h:a<m):List.range' a (m - a)=a::List.range' (a+1) (m - (a+1)):=by
 rw[show m - a=(m - (a+1))+1 by omega,List.range'_succ]
theorem Bv (h:m<=a):List.range' a (m - a)=[]:=by grind
def zg x q id F:cqq 166 [.agg (aW x).toArray,ptr q 0] (pcc q #[I id] 3::F) (R1 (Bo (decide (x.id=id))) (pcc q #[I id] 3::F)):=by
 refine Ct.of func166 W 8 ntmps166 (by simp) λw0=>?_;refine A<|gI (dw (aW x).toArray) ?_;rintro _ _ ⟨J,rfl,rfl⟩;refine T<|A<|gF 0 XQ W Xu<|gL (I x.id) Xv<|gL (I id) Xv<|M bE<|T ?_;refine am W W ?_;exact rfl
def qC x q id F:cqq 198 [.agg (aW x).toArray,ptr q 0] (pcc q #[I id] 3::F) (R1 (Bo (decide (x.id=id))) (pcc q #[I id] 3::F)):=by
 refine Ct.of func198 W 8 ntmps198 (by simp) λw0=>?_;refine A<|gI (dw (aW x).toArray) ?_;rintro _ _ ⟨J,rfl,rfl⟩;refine T<|A<|gF 0 XQ W Xu<|gL (I x.id) Xv<|gL (I id) Xv<|M bE<|T ?_;refine am W W ?_;exact rfl
def rJ l s c q id(hl:l.length<=1000000)F:cqq 165 [sl s l.length c, .func (.func 166) #[] #[ptr q 0]] (be 162 4 s c (gb (l))::pcc q #[I id] 3::F) (R1 (I (He l id)) (be 162 4 s c (gb (l))::pcc q #[I id] 3::F)):=by
 refine Ct.of func165 W 19 ntmps165 (by simp) λw0=>?_;refine A<|T<|ac<|A<|C<|M (aP XP)<|C<|ab<|ak ?_;refine aL (α:=Nat) (λk=>k<=l.length/\∀j,j<k->∀t,l[j]? =some t->t.id≠id) (λk=>U [(0,sl s l.length c),(1, .func (.func 166) #[] #[ptr q 0]),(7,I l.length),(8,I k)]) (λ_=>be 162 4 s c (gb (l))::pcc q #[I id] 3::F) (λk=>l.length - k) 0 ⟨by simp,λj hj=>absurd hj (by omega)⟩ [0,1,7,8] rfl ?_;rintro k ⟨hk,R⟩;refine A<|M aG<|ab<|ac<|ah ?_ ?_<;>intro S
 ·simp at S;have O:k<l.length:=(by omega);obtain ⟨x,hx⟩:∃x,l[k]? =some x:=⟨_,kbN O⟩;refine ai<|ac<|ak<|A<|C<|T<|A<|C<|C<|C<|M (av (k) XP XE O (by rw[cR];exact O))<|M (bO (row:=aW x) YI XE (g8 hx)) ?_;refine gI (gc (fi:=[]) (cap:=[ptr q 0]) (Pre:=[pcc q #[I id] 3]) call166 W W (zg x q id)) ?_;rintro _ _ ⟨rfl,rfl⟩;refine ab<|ah ?_ ?_<;>intro J
  ·simp at J;refine A<|C<|T ?_;refine am W W ?_;show I _=I _;rw[xG R hx J]
  ·simp at J;refine ai<|aE<|al<|gP<|C<|ab ?_;exact an (k+1) ⟨by omega,λj hj t ht=>by
    rcases ka3 j k with h | h
    ·exact R j h t ht
    ·obtain rfl:j=k:=(by omega);rw[hx] at ht;injection ht with ht;rw[<-ht];exact J⟩ (by omega) [0,1,7,8] rfl
 ·simp at S;obtain rfl:k=l.length:=(by omega);refine aF ?_;refine A<|T ?_;refine am W W ?_;show I _=I _;rw[ub R]
def rK l s c q id(hl:l.length<=1000000)F:cqq 165 [sl s l.length c, .func (.func 198) #[] #[ptr q 0]] (be 162 4 s c (gb (l))::pcc q #[I id] 3::F) (R1 (I (He l id)) (be 162 4 s c (gb (l))::pcc q #[I id] 3::F)):=by
 refine Ct.of func165 W 19 ntmps165 (by simp) λw0=>?_;refine A<|T<|ac<|A<|C<|M (aP XP)<|C<|ab<|ak ?_;refine aL (α:=Nat) (λk=>k<=l.length/\∀j,j<k->∀t,l[j]? =some t->t.id≠id) (λk=>U [(0,sl s l.length c),(1, .func (.func 198) #[] #[ptr q 0]),(7,I l.length),(8,I k)]) (λ_=>be 162 4 s c (gb (l))::pcc q #[I id] 3::F) (λk=>l.length - k) 0 ⟨by simp,λj hj=>absurd hj (by omega)⟩ [0,1,7,8] rfl ?_;rintro k ⟨hk,R⟩;refine A<|M aG<|ab<|ac<|ah ?_ ?_<;>intro S
 ·simp at S;have O:k<l.length:=(by omega);obtain ⟨x,hx⟩:∃x,l[k]? =some x:=⟨_,kbN O⟩;refine ai<|ac<|ak<|A<|C<|T<|A<|C<|C<|C<|M (av (k) XP XE O (by rw[cR];exact O))<|M (bO (row:=aW x) YI XE (g8 hx)) ?_;refine gI (gc (fi:=[]) (cap:=[ptr q 0]) (Pre:=[pcc q #[I id] 3]) call198 W W (qC x q id)) ?_;rintro _ _ ⟨rfl,rfl⟩;refine ab<|ah ?_ ?_<;>intro J
  ·simp at J;refine A<|C<|T ?_;refine am W W ?_;show I _=I _;rw[xG R hx J]
  ·simp at J;refine ai<|aE<|al<|gP<|C<|ab ?_;exact an (k+1) ⟨by omega,λj hj t ht=>by
    rcases ka3 j k with h | h
    ·exact R j h t ht
    ·obtain rfl:j=k:=(by omega);rw[hx] at ht;injection ht with ht;rw[<-ht];exact J⟩ (by omega) [0,1,7,8] rfl
 ·simp at S;obtain rfl:k=l.length:=(by omega);refine aF ?_;refine A<|T ?_;refine am W W ?_;show I _=I _;rw[ub R]
def wE l s c(hl:l.length<=1000000)F:cqq 140 [sl s l.length c] (be 162 4 s c (gb (l))::F) (uX 162 4 l.length (gb l) (be 162 4 s c (gb (l))::F)):=by
 refine Ct.of func140 W 8 ntmps140 (by simp) λw0=>?_;refine Cc (φ:=s=none->l=[]) (λw S hn=>by
  rcases dA S with ⟨_,h,_,_⟩ | ⟨b,cs,h,_⟩
  ·exact List.map_eq_nil_iff.1 h
  ·rw[hn] at h;cases h) (λJ=>?_)
 refine A<|T<|ac<|A<|C<|M (GG XP W)<|ab<|ah ?_ ?_<;>intro R
 ·have O:=J (by simpa using R);subst O;refine aY 162 4 (gb []) ?_;refine A<|T ?_;exact cU rfl rfl rfl rfl
 ·refine ai<|A<|gI (x4 XP XE) ?_;rintro _ _ ⟨V,rfl,rfl⟩;refine C<|gI (aR XP XE X4 Tryz.typeInfo162 (hm:=by exact cR l) (by simp[gb]) (by simp[gb,Go.Sl.ones,Go.Sl.one]) ⟨by omega,by decide,by decide⟩) ?_;rintro _ _ ⟨Y,X,rfl,rfl⟩;rw[ka9];simp only[kby];refine T ?_;exact cU rfl rfl rfl rfl
def Dg F:cqq 105 [] (F) (λv L'=>∃b,v=ptr b 0/\L'=iq b (bH gZ) [] 1::F):=by
 refine Ct.of func105 W 4 ntmps105 (by simp) λw0=>?_;refine A<|T<|A<|gI (uA call118 (t1)) ?_;rintro _ _ ⟨x,rfl,rfl⟩;rw[<-VF];refine M (aS (WY x))<|gI (dw #[ptr x 0,sl none 0 0,I 1]) ?_;rintro _ _ ⟨J,rfl,rfl⟩;refine T ?_;refine aY 162 4 (gb []) ?_;refine cF J x none 0 (bH gZ) [] 1 ?_;exact λa w O R=>wp_ret (cb (bf (vs:=[ptr J 0]) rfl O R ⟨J,rfl,rfl⟩))
def dp b S L n id(hl:L.length<=1000000)F:cqq 92 [ptr b 0,I id] (iq b S L n::F) (R1 (.tuple #[.agg (aW ((aX L id).getD iB)).toArray,Bo (aX L id).isSome]) (iq b S L n::F)):=by
 refine Ct.of func92 W 23 ntmps92 (by simp) λw0=>?_;refine ge b S L n ?_;intro x s c;refine A<|gI (dw #[I id]) ?_;rintro _ _ ⟨V,rfl,rfl⟩;refine gI (aO #[I 0,I 0,I 0,I 0] X4) ?_;rintro _ _ ⟨Y,rfl,rfl⟩;refine T<|A<|C<|M aa<|gF 1 XK W XS<|gL (sl s (L).length c) Ya<|M fV<|gR (vC call165 (rJ L s c V id hl))<|T<|ac<|A<|C<|M aG<|ab<|ah ?_ ?_<;>intro J
 ·simp at J;have R:aX L id=none:=yX J;rw[R];refine A<|M (aS Nq)<|gU (az (cs:=#[I 0,I 0,I 0,I 0]) (vs:=aW (iB)) (aW (iB)).toArray XE (by simp) (hcs:=by exact aH))<|T ?_;refine cF b x s c (S) (L) (n) ?_;exact nE (aW iB) rfl rfl rfl rfl YI XE rfl bM
 ·simp at J;obtain ⟨i,p,hi,hp,X,O,R,_⟩:=C5 (l:=L) (id:=id) (by omega);rw[hi,R];refine ai<|A<|C<|M aa<|gF 1 XK W XS<|gL (sl s (L).length c) Ya<|C<|M (av (i) XP XE O (by rw[cR];exact O))<|M (bO (row:=aW p) YI XE (g8 hp))<|gU (az (cs:=#[I 0,I 0,I 0,I 0]) (vs:=aW (p)) (aW (p)).toArray XE (by simp) (hcs:=by exact aH))<|T ?_;refine cF b x s c (S) (L) (n) ?_;exact nE (aW p) rfl rfl rfl rfl YI XE rfl bM
def mZ b S L n disk size root(hl:L.length<=6)(hn: -9223372036854775808<=n/\n<=1000000)F:cqq 171 [ptr b 0,I disk,I size,I root] (iq b S L n::F) (R1 (.tuple #[I (j6 L n),fA 117 (fb L n)]) (iq b S (kc L n disk size root) (oM L n)::F)):=by
 refine Ct.of func171 W 51 ntmps171 (by simp) λw0=>?_;refine ge b S L n ?_;intro x s c;refine A<|gA<|T<|ac<|A<|C<|M aa<|gF 1 XK W XS<|gL (sl s (L).length c) Ya<|M (aP XP)<|M bE<|C<|gK ao<|gK aa<|gK (aw 2 XK W Xu)<|gK (aA (v:=I n) Xv)<|gK aQ<|M cv<|ab<|ah ?_ ?_<;>intro R
 ·simp at R;have J:fb L n=8:=(by unfold fb;rw[kaT (by omega)]);refine A<|M (ba XG)<|gA<|T ?_;rw[J,show j6 L n=0 by unfold j6;rw[iOm],show kc L n disk size root=L by unfold kc;rw[iOm],show oM L n=n by unfold oM;rw[iOm]];refine cF b x s c (S) (L) (n) ?_;exact am rfl rfl rfl
 ·simp at R;have J:fb L n=0:=(by unfold fb;rw[iOm]);refine ai<|A<|C<|M aa<|gF 2 XK W Xu<|gL (I n) Xv<|T<|A<|C<|M aa<|gF 2 XK W Xu<|gL (I n) Xv<|gP<|M aa<|gF 2 XK W Xu<|gU (aJ #[ptr x 0,sl s L.length c,I (n+1)] Xu (by simp))<|ab<|A<|C<|C<|M aa<|gF 1 XK W XS<|gL (sl s (L).length c) Ya<|C<|C<|C<|C<|M (aS (Np n disk size root))<|gI (ap [aW ⟨n,disk,size,root⟩] XP XE X4 (by simp)) ?_;rintro _ _ ⟨X,rfl,rfl⟩;refine gI (aR XP XE X4 Tryz.typeInfo162 (hn:=by exact cR _) (by simp) (by simp[Go.Sl.ones,Go.Sl.one]) ⟨by omega,by decide,by decide⟩) ?_;rintro _ _ ⟨V,O,rfl,rfl⟩;rw[show gb L++ [aW ⟨n,disk,size,root⟩]=gb (L++ [⟨n,disk,size,root⟩]) by simp[gb]];refine M aa<|gF 1 XK W XS<|gU (aJ #[ptr x 0,sl V (L.length+1) O,I (n+1)] XS (by simp))<|ab<|A<|C<|gA<|T ?_;rw[J,show j6 L n=n by unfold j6;rw[kaT J],show kc L n disk size root=L++ [⟨n,disk,size,root⟩] by unfold kc;rw[kaT J],show oM L n=n+1 by unfold oM;rw[kaT J],show L.length+1=(L++ [(⟨n,disk,size,root⟩:Pt)]).length by simp];refine cF b x V O (S) (L++ [⟨n,disk,size,root⟩]) (n+1) ?_;exact am rfl rfl rfl
def rL b S L n base disk size G0(hV:Vok S L n G0)(hsz:1<=size/\size<=16)F:cqq 168 [ptr b 0,I base,I disk,I size] (iq b S L n::F) (vR iq (fA 117) b F (y5 S L n base disk size)):=by
 have hok:=lh hV;have hll:=hV.len;have hrl:(L.map (·.root)).length<=8:=(by simp;omega);refine Ct.of func168 W 67 ntmps168 (by simp) λw0=>?_;refine A<|gA<|T<|ac<|A<|C<|M bE<|ab<|ah ?_ ?_<;>intro J
 ·simp at J;refine A<|gA<|T ?_;exact nU (S:=S) (P:=L) (n:=n) rfl (by unfold y5 gH;rw[kaT J]) rfl rfl
 ·simp at J;refine ai<|A<|C<|C<|gR (vB call92 (dp b S L n base (by omega)))<|C<|gX (.agg (aW ((aX L base).getD iB)).toArray)<|gX (Bo (aX L base).isSome)<|gI (aO #[I 0,I 0,I 0,I 0] X4) ?_;rintro _ _ ⟨Z,rfl,rfl⟩;refine gU (az (cs:=#[I 0,I 0,I 0,I 0]) (vs:=aW (((aX L base).getD iB))) (aW (((aX L base).getD iB))).toArray XE (by simp) (hcs:=by exact aH))<|T<|ac<|A<|C<|M cS<|ab<|ah ?_ ?_<;>intro X
  ·simp at X;refine A<|M (ba XG)<|gA<|T ?_;exact eF rfl (by unfold y5 gH;rw[kaU J,X]) rfl rfl
  ·simp at X;obtain ⟨p,hf⟩:=kcX.1 X;have hpm:=dq hf;have hps:=hV.pts p hpm.1;rw[show (aX L base).getD iB=p by rw[hf];rfl];refine ai<|ac<|A<|gF 1 XQ W Xu<|gL (I p.disk) Xv<|C<|M iE<|ab<|ah ?_ ?_<;>intro h30
   ·simp at h30;refine A<|M (ba XG)<|gA<|T ?_;exact eF rfl (by unfold y5 gH;rw[kaU J,hf];simp only;rw[kaT h30]) rfl rfl
   ·simp at h30;refine ai<|ac ?_;refine ge b S L n ?_;intro x s c;refine cn (Lf:=[pcc b #[ptr x 0,sl s (L).length c,I (n)] 123,pcc Z (aW (p)).toArray 162]) jD ?_;refine dM W<|dV W aa<|dF W 0 XK W X7<|dL W (ptr x 0) Yb<|dF W 3 XQ W Xu<|dL W (I p.root) Xv<|cQ W (uB call196 (lG x S p.root 200 hok (by decide) (qz hV.rt.V (nq hV.rt (eS hf))).2)) ?_;rintro _ _ ⟨rfl,rfl⟩;obtain ⟨G1,Y,hR1,_⟩:=qA hV.rt (eS hf);have Y:eP S p.root=bH G1:=(by rw[hV.e];exact Y);rw[Y];refine dV W ax ?_;refine aN ?_;refine ac<|A<|C<|T ?_;obtain ⟨sz,rfl⟩:∃k:Nat,size=k:=⟨size.toNat,by omega⟩;refine ak ?_;refine aL (α:=Nat×Gh×Int) (λz=>z.1<=16/\Rt z.2.1 (z.2.2::L.map (·.root))/\ml (bH z.2.1,z.2.2) (List.range' z.1 (p.size.toNat - z.1))=ml (eP S p.root,p.root) (List.range' sz (p.size.toNat - sz))) (λz=>U [(0,ptr b 0),(10,ptr Z 0),(12,I z.2.2),(13,I z.1)]) (λz=>pcc Z (aW (p)).toArray 162::pcc b #[ptr x 0,sl s (L).length c,I (n)] 123::lM x (bH z.2.1)::be 162 4 s c (gb (L))::F) (λz=>16 - z.1) (sz,G1,p.root) ⟨by simp only[];omega,hR1,by rw[Y]⟩ [0,10,12,13] rfl ?_;rintro ⟨a,G,root⟩ ⟨ha,hR,O⟩;simp only[] at ha hR O ⊢;refine ac<|A<|C<|gF 2 XQ W Xu<|gL (I p.size) Xv<|M aG<|ab<|ah ?_ ?_<;>intro h43
    ·simp at h43;refine ai<|ac<|ak<|A<|C<|M aa<|gF 0 XK W X7<|gL (ptr x 0) Yb<|C<|C<|gR (vB call169 (mR x (bH G) root a [] 200 (KU hR (by simp;omega)) (by decide) (by omega) (by decide) (xE hR.V (nq hR (by simp)))))<|C<|gX (I (dH (bH G) root a []).1)<|gX (fA 117 (dH (bH G) root a []).2)<|gA<|T<|ac<|A<|C<|M (bX XF)<|ab ?_;apply ah<;>intro R
     ·simp at R;refine A<|C<|gA<|T ?_;exact eF rfl (by
       unfold y5 gH;rw[kaU J,hf];simp only;rw[iOm,kcy,<-O,pI (by omega)];simp only[ml,put1];rw[kaU R]) rfl rfl
     ·simp at R;obtain ⟨G1,G2,hu1,o1,r1,v1,hu2,hR2,_,_⟩:=nT hR hrl (by omega) R;rw[hu1];refine ai<|A<|C<|M aa<|gF 0 XK W X7<|gL (ptr x 0) Yb<|C<|gR (vB call170 (jn x (bH G1) root 200 o1 (by decide)))<|ab<|al<|C<|T<|aE<|al<|C<|gP<|T ?_;rw[hu2];exact an (a+1,G2,(dH (bH G) root a []).1) ⟨by simp only[];omega,hR2,by
       rw[<-O,pI (a:=a) (m:=p.size.toNat) (by omega)];simp only[ml,put1];rw[kaT R,hu1,hu2]⟩ (by simp only[];omega) [0,10,12,13] rfl
    ·simp at h43;refine aF ?_;refine A<|C<|gA<|T ?_;refine cF b x s c (bH G) (L) (n) ?_;exact nU (S:=bH G) (P:=L) (n:=n) rfl (by
      unfold y5 gH;rw[kaU J,hf];simp only;rw[iOm,kcy,<-O,Bv (by omega)];simp only[ml]) rfl rfl
theorem mv disk(hx:l[k]? =some x):((l.take (k+1)).filter λp=>decide (p.disk=disk)).map (·.id)=((l.take k).filter λp=>decide (p.disk=disk)).map (·.id)++if x.disk=disk then [x.id] else []:=by
 grind[List.take_add_one]
theorem uh (l:List Pt)k disk:(((l.take k).filter λp=>decide (p.disk=disk)).map (·.id)).length<=l.length:=by
 grind
def qD b S L n id Z(R:Vok S L n Z)F:cqq 122 [ptr b 0,I id] (iq b S L n::F) (vR iq (fA 117) b F (lT S L n id)):=by
 have hok:=lh R;have hll:=R.len;have hn1:=R.n1;refine Ct.of func122 W 41 ntmps122 (by simp) λw0=>?_;refine A<|gA<|T<|A<|C<|C<|gR (vB call92 (dp b S L n id (by omega)))<|C<|gX (.agg (aW ((aX L id).getD iB)).toArray)<|gX (Bo (aX L id).isSome)<|gI (aO #[I 0,I 0,I 0,I 0] X4) ?_;rintro _ _ ⟨b6,rfl,rfl⟩;refine gU (az (cs:=#[I 0,I 0,I 0,I 0]) (vs:=aW (((aX L id).getD iB))) (aW (((aX L id).getD iB))).toArray XE (by simp) (hcs:=by exact aH))<|T<|ac<|A<|C<|M cS<|ab<|ah ?_ ?_<;>intro O
 ·simp at O;refine A<|M (ba XG)<|gA<|T ?_;exact eF rfl (by unfold lT;rw[O]) rfl rfl
 ·simp at O;obtain ⟨p,X⟩:=kcX.1 O;have Y:=dq X;have hps:=R.pts p Y.1;rw[show (aX L id).getD iB=p by rw[X];rfl];refine ai<|A<|C<|gF 1 XQ W Xu<|gL (I p.disk) Xv<|gF 2 XQ W Xu<|gL (I p.size) Xv<|gF 3 XQ W Xu<|gL (I p.root) Xv<|gR (vB call171 (mZ b S L n p.disk p.size p.root (by omega) (by omega)))<|C<|gX (I (j6 L n))<|gX (fA 117 (fb L n))<|gA<|T<|ac<|A<|C<|M (fX XF)<|ab<|ah ?_ ?_<;>intro J
  ·simp at J;rw[show j6 L n=n by unfold j6;rw[kaT J],show kc L n p.disk p.size p.root=L++ [(⟨n,p.disk,p.size,p.root⟩:Pt)] by unfold kc;rw[kaT J],show oM L n=n+1 by unfold oM;rw[kaT J],J];refine ge b S (L++ [(⟨n,p.disk,p.size,p.root⟩:Pt)]) (n+1) ?_;intro x s c;refine cn (Lf:=[pcc b #[ptr x 0,sl s (L++ [(⟨n,p.disk,p.size,p.root⟩:Pt)]).length c,I (n+1)] 123,pcc b6 (aW (p)).toArray 162]) jA ?_;refine dM W<|dV W aa<|dF W 0 XK W X7<|dL W (ptr x 0) Yb<|dF W 3 XQ W Xu<|dL W (I p.root) Xv<|cQ W (uB call196 (lG x S p.root 200 hok (by decide) (qz R.rt.V (nq R.rt (eS X))).2)) ?_;rintro _ _ ⟨rfl,rfl⟩;refine aN ?_;refine A<|C<|C<|gA<|T ?_;refine cF b x s c (eP S p.root) (L++ [(⟨n,p.disk,p.size,p.root⟩:Pt)]) (n+1) ?_;exact nU (S:=eP S p.root) (P:=L++ [(⟨n,p.disk,p.size,p.root⟩:Pt)]) (n:=n+1) rfl (by unfold lT;rw[X];simp only;rw[iOm]) rfl rfl
  ·simp at J;rw[show j6 L n=0 by unfold j6;rw[kaU J]];refine ai<|A<|C<|C<|gA<|T ?_;exact eF rfl (by unfold lT;rw[X];simp only;rw[kaT J]) rfl rfl
def vT L s c q id(hl:L.length<=1000000)F:cqq 197 [sl s L.length c, .func (.func 198) #[] #[ptr q 0]] (be 162 4 s c (gb (L))::pcc q #[I id] 3::F) (R1 (sl s (L.filter λx=>!decide (x.id=id)).length c) (be 162 4 s c (gb ((L.filter λx=>!decide (x.id=id))))::pcc q #[I id] 3::F)):=by
 refine Ct.of func197 W 42 ntmps197 (by simp) λw0=>?_;refine mC s<|λY=>?_;rw[cR] at Y;refine A<|T<|A<|C<|C<|gR (vC call165 (rK L s c q id hl))<|T<|ac<|A<|C<|M bE<|ab<|ah ?_ ?_<;>intro S
 ·simp at S;rw[show (L.filter λx=>!decide (x.id=id))=L from Fo (Ja (by omega))];refine A<|C<|T ?_;exact am rfl rfl rfl
 ·simp at S;obtain ⟨i,p,hi,hp,hid,hil,hf,hno⟩:=C5 (l:=L) (id:=id) (λh=>S (Nl h));rw[hi];refine ai<|ac<|A<|C<|gP<|T ?_;rw[show ((i:Nat):Int)+1=((i+1:Nat):Int) by omega];refine ak ?_;refine aL (α:=Nat×Nat×List Pt) (λz=>Dl L z.2.2 id z.2.1 z.1/\z.2.1<z.1) (λz=>U [(0,sl s L.length c),(1, .func (.func 198) #[] #[ptr q 0]),(5,I z.2.1),(6,I z.1)]) (λz=>be 162 4 s c (gb z.2.2)::pcc q #[I id] 3::F) (λz=>L.length - z.1) (i+1,i,L) ⟨Nm hno hp hid,by simp only[];omega⟩ [0,1,5,6] rfl ?_;rintro ⟨j,w,R⟩ ⟨J,Z⟩;simp only[] at J Z ⊢;have hjl0:=J.lj;refine ac<|A<|C<|C<|M (aP XP)<|M aG<|ab<|ah ?_ ?_<;>intro X
  ·simp at X;have V:j<L.length:=(by omega);have hwl:w<L.length:=(by omega);obtain ⟨x,hx⟩:∃x,R[j]? =some x:=⟨_,kbN (by rw[J.len];exact V)⟩;refine ai<|ac<|ak<|A<|C<|C<|M (av (j) XP XE V (by rw[cR,J.len];exact V))<|M (bO (row:=aW x) YI XE (g8 hx))<|gI (aO #[I 0,I 0,I 0,I 0] X4) ?_;rintro _ _ ⟨b7,rfl,rfl⟩;refine gU (az (cs:=#[I 0,I 0,I 0,I 0]) (vs:=aW (x)) (aW (x)).toArray XE (by simp) (hcs:=by exact aH))<|ab<|A<|C<|M (bj (vs:=aW x) YI XE bM) ?_;refine gI (gc (fi:=[]) (cap:=[ptr q 0]) (Pre:=[pcc q #[I id] 3]) call198 W W (qC x q id)) ?_;rintro _ _ ⟨rfl,rfl⟩;refine M cS<|ab<|ah ?_ ?_<;>intro O
   ·simp at O;refine A<|C<|C<|M (bj (vs:=aW x) YI XE bM)<|M (av (w) XP XE hwl (by rw[cR,J.len];exact hwl))<|io (ve (j:=w) (vs:=aW x) XE W W W W (by rw[cR,J.len];omega) (by decide)) ?_;rintro _ _ rfl;rw[Ra];refine ab<|al<|C<|gP<|T<|aE<|al<|C<|gP<|T ?_;exact an (j+1,w+1,R.set w x) ⟨Q9 J Z hx O,by simp only[];omega⟩ (by simp only[];omega) [0,1,5,6] rfl
   ·simp at O;refine ai<|aE<|al<|C<|gP<|T ?_;exact an (j+1,w,R) ⟨Q8 J hx O,by simp only[];omega⟩ (by simp only[];omega) [0,1,5,6] rfl
  ·simp at X;obtain rfl:j=L.length:=(by omega);refine aF ?_;refine ac ?_;refine oN s w ?_;rw[Nn,Nk J];have hfl:(L.filter λx=>!decide (x.id=id)).length=w:=(by rw[<-Nk J,kbq];have:=J.len;omega);refine al<|C<|C<|M (iG (l:=w) XP XE W W W (by omega))<|io (nD (sz:=4) (l:=w) s XP X4 W W (by unfold At;split;exact .inr (.inr (by omega));exact .inr (.inl W)) (by rw[cR];omega) (by omega)) ?_;rintro _ _ ⟨rfl,rfl⟩;refine ab<|A<|C<|C<|M (lO (h:=w) XP XE W W W (by omega))<|T ?_;exact am rfl rfl (by rw[hfl];rfl)
def rN b S L n id Z(V:Vok S L n Z)F:cqq 124 [ptr b 0,I id] (iq b S L n::F) (Vi iq (fA 117) b F (mY S L n id)):=by
 have hok:=lh V;have hll:=V.len;have hn1:=V.n1;refine Ct.of func124 W 33 ntmps124 (by simp) λw0=>?_;refine A<|gI (dw #[I id]) ?_;rintro _ _ ⟨b3,rfl,rfl⟩;refine T<|A<|C<|gL (I id) Xv<|gR (vB call92 (dp b S L n id (by omega)))<|C<|gX (.agg (aW ((aX L id).getD iB)).toArray)<|gX (Bo (aX L id).isSome)<|gI (aO #[I 0,I 0,I 0,I 0] X4) ?_;rintro _ _ ⟨b5,rfl,rfl⟩;refine gU (az (cs:=#[I 0,I 0,I 0,I 0]) (vs:=aW (((aX L id).getD iB))) (aW (((aX L id).getD iB))).toArray XE (by simp) (hcs:=by exact aH))<|T<|ac<|A<|C<|M cS<|ab<|ah ?_ ?_<;>intro J
 ·simp at J;refine A<|M (ba XG)<|T ?_;exact Fh rfl (by unfold mY;rw[J]) rfl rfl
 ·simp at J;obtain ⟨p,X⟩:=kcX.1 J;have Y:=dq X;have hps:=V.pts p Y.1;rw[show (aX L id).getD iB=p by rw[X];rfl];refine ai<|ac ?_;refine ge b S L n ?_;intro x s c;refine cn (Lf:=[pcc b #[ptr x 0,sl s (L).length c,I (n)] 123,pcc b5 (aW (p)).toArray 162]) jA ?_;refine dM W<|dV W aa<|dF W 0 XK W X7<|dL W (ptr x 0) Yb<|dF W 3 XQ W Xu<|dL W (I p.root) Xv<|cQ W (uB call170 (jn x S p.root 200 hok (by decide))) ?_;rintro _ _ ⟨rfl,rfl⟩;refine aN ?_;refine A<|C<|C<|M aa<|gF 1 XK W XS<|gL (sl s (L).length c) Ya<|gI (uB call140 (wE L s c (by omega))) ?_;rintro _ _ ⟨R,O,rfl,rfl⟩;refine M fV<|gR (vC call197 (vT L R O b3 id (by omega)))<|M aa<|gF 1 XK W XS<|gU (aJ #[ptr x 0,sl R (L.filter λx=>!decide (x.id=id)).length O,I n] XS (by simp))<|ab<|A<|T ?_;refine cF b x R O (rH S p.root) ((L.filter λx=>!decide (x.id=id))) (n) ?_;exact Fj (S:=rH S p.root) (P:=(L.filter λx=>!decide (x.id=id))) (n:=n) (r:=0) rfl (by unfold mY;rw[X]) rfl rfl
def l8 b S L n id at_ Y(V:Vok S L n Y)F:cqq 34 [ptr b 0,I id,I at_] (iq b S L n::F) (R1 (.tuple #[ay (j5 S L id at_).1,fA 117 (j5 S L id at_).2]) (iq b S L n::F)):=by
 have hok:=lh V;have hll:=V.len;refine Ct.of func34 W 36 ntmps34 (by simp) λw0=>?_;refine A<|gA<|T<|A<|C<|C<|gR (vB call92 (dp b S L n id (by omega)))<|C<|gX (.agg (aW ((aX L id).getD iB)).toArray)<|gX (Bo (aX L id).isSome)<|gI (aO #[I 0,I 0,I 0,I 0] X4) ?_;rintro _ _ ⟨Z,rfl,rfl⟩;refine gU (az (cs:=#[I 0,I 0,I 0,I 0]) (vs:=aW (((aX L id).getD iB))) (aW (((aX L id).getD iB))).toArray XE (by simp) (hcs:=by exact aH))<|T<|ac<|A<|C<|M cS<|ab<|ah ?_ ?_<;>intro J
 ·simp at J;refine A<|M (ba XG)<|gA<|T ?_;rw[show j5 S L id at_=([],5) by unfold j5;rw[J]];exact am rfl rfl rfl
 ·simp at J;obtain ⟨p,R⟩:=kcX.1 J;have X:=dq R;have hps:=V.pts p X.1;rw[show (aX L id).getD iB=p by rw[R];rfl];refine ai<|ac<|A<|C<|M aG<|C<|gK ao<|gK (aw 2 XQ W Xu)<|gK (aA (v:=I p.size) Xv)<|gK kp<|M cv<|ab<|ah ?_ ?_<;>intro O
  ·simp at O;refine A<|M (ba XG)<|gA<|T ?_;rw[show j5 S L id at_=([],1) by unfold j5;rw[R];simp only;rw[kaT (by omega)]];exact am rfl rfl rfl
  ·simp at O;obtain ⟨a,rfl⟩:∃a:Nat,at_=a:=⟨at_.toNat,by omega⟩;refine ai<|ac ?_;refine ge b S L n ?_;intro x s c;refine cn (Lf:=[pcc b #[ptr x 0,sl s (L).length c,I (n)] 123,pcc Z (aW (p)).toArray 162]) jJ ?_;refine dM W<|dV W aa<|dF W 0 XK W X7<|dL W (ptr x 0) Yb<|dF W 3 XQ W Xu<|dL W (I p.root) Xv<|dM W<|cQ W (uB call98 (j4 x S p.root a 200 hok (by decide) (by omega))) ?_;rintro _ _ ⟨rfl,rfl⟩;refine dV W ax<|dV W ax ?_;refine aN ?_;rw[show j5 S L id a=(jj S p.root a,0) by unfold j5;rw[R];simp only;rw[iOm];rfl];refine cF b x s c (S) (L) (n) ?_;exact am rfl rfl rfl
def gg b S L n(hl:L.length<=1000000)F:cqq 66 [ptr b 0] (iq b S L n::F) (λv L'=>∃q,v=ptr q 0/\L'=iq q S L n::iq b S L n::F):=by
 refine Ct.of func66 W 19 ntmps66 (by simp) λw0=>?_;refine ge b S L n ?_;intro x s c;refine A<|T<|ac<|gD (Lf:=[pcc b #[ptr x 0,sl s (L).length c,I (n)] 123]) (plN [0,2,4,6,10,12,14,16,20,22,24,26,9,19,28,31,32])<|dM W<|dV W aa<|dF W 0 XK W X7<|dL W (ptr x 0) Yb<|dM W<|dV W aa<|dF W 1 XK W XS<|dL W (sl s (L).length c) Ya<|dM W<|dV W aa<|dF W 2 XK W Xu<|dL W (I n) Xv<|cQ W (uB call139 (rI x S)) ?_;rintro _ _ ⟨V,rfl,rfl⟩;refine cQ W (uB call140 (wE L s c hl)) ?_;rintro _ _ ⟨R,O,rfl,rfl⟩;refine dV W (aS (V6 V R L.length O n))<|cQ W (dw #[ptr V 0,sl R L.length O,I n]) ?_;rintro _ _ ⟨J,rfl,rfl⟩;refine dV W ax ?_;refine aN ?_;refine cF J V R O S L n ?_;refine cF b x s c (S) (L) (n) ?_;refine jf (L2:=iq J S L n::iq b S L n::F) ?_;exact λa w X Y=>wp_ret (cb (bf (vs:=[ptr J 0]) rfl X Y ⟨J,rfl,rfl⟩))
def p9 b S L n disk keep(hl:L.length<=1000000)(hk:keep<=9223372036854775807)F:cqq 125 [ptr b 0,I disk,I keep] (iq b S L n::F) (uX 3 1 (eQ L disk keep).length (bc (eQ L disk keep)) (iq b S L n::F)):=by
 refine Ct.of func125 W 37 ntmps125 (by simp) λw0=>?_;refine ge b S L n ?_;intro x s c;refine aY 3 1 (bc (((L.take 0).filter λp=>decide (p.disk=disk)).map (·.id))) ?_;refine A<|T<|A<|T<|ac<|A<|C<|M aa<|gF 1 XK W XS<|gL (sl s (L).length c) Ya<|M (aP XP)<|C<|ab<|ak ?_;refine aL (α:=Nat×Option Addr×Nat) (λz=>z.1<=L.length) (λz=>U [(1,I disk),(2,I keep),(7,sl z.2.1 (((L.take z.1).filter λp=>decide (p.disk=disk)).map (·.id)).length z.2.2),(13,sl s L.length c),(14,I L.length),(15,I z.1)]) (λz=>be 3 1 z.2.1 z.2.2 (bc (((L.take z.1).filter λp=>decide (p.disk=disk)).map (·.id)))::pcc b #[ptr x 0,sl s (L).length c,I (n)] 123::lM x S::be 162 4 s c (gb (L))::F) (λz=>L.length - z.1) (0,none,0) (by simp) [1,2,7,13,14,15] rfl ?_;rintro ⟨k,s7,c7⟩ Y;simp only[] at Y ⊢;refine A<|M aG<|ab<|ac<|ah ?_ ?_<;>intro R
 ·simp at R;have O:k<L.length:=(by omega);obtain ⟨p,hp⟩:∃p,L[k]? =some p:=⟨_,kbN O⟩;refine ai<|ac<|ak<|A<|M (av (k) XP XE O (by rw[cR];exact O))<|M (bO (row:=aW p) YI XE (g8 hp))<|gI (aO #[I 0,I 0,I 0,I 0] X4) ?_;rintro _ _ ⟨b9,rfl,rfl⟩;refine gU (az (cs:=#[I 0,I 0,I 0,I 0]) (vs:=aW (p)) (aW (p)).toArray XE (by simp) (hcs:=by exact aH))<|ab<|A<|gF 1 XQ W Xu<|gL (I p.disk) Xv<|C<|M bE<|ab<|ah ?_ ?_<;>intro J
  ·simp at J;refine al<|C<|gF 0 XQ W Xu<|gL (I p.id) Xv<|gI (ap [[I p.id]] XB Xu X5 (by simp)) ?_;rintro _ _ ⟨b26,rfl,rfl⟩;refine gI (aR XB Xu X5 Tryz.typeInfo3 (hn:=by exact cw _) (by simp) (by intro r hr;simp at hr;subst hr;rfl) ⟨by have:=uh L k disk;omega,by decide,by decide⟩) ?_;rintro _ _ ⟨Z,X,rfl,rfl⟩;refine T<|aE<|al<|gP<|C<|ab ?_;rw[show bc (((L.take k).filter λp=>decide (p.disk=disk)).map (·.id))++ [[I p.id]]=bc (((L.take (k+1)).filter λp=>decide (p.disk=disk)).map (·.id)) by rw[mv disk hp,kaT J];simp[bc],show (((L.take k).filter λp=>decide (p.disk=disk)).map (·.id)).length+1=(((L.take (k+1)).filter λp=>decide (p.disk=disk)).map (·.id)).length by rw[mv disk hp,kaT J];simp];exact an (k+1,Z,X) (by simp only[];omega) (by simp only[];omega) [1,2,7,13,14,15] rfl
  ·simp at J;refine ai<|aE<|al<|gP<|C<|ab ?_;rw[show ((L.take k).filter λp=>decide (p.disk=disk)).map (·.id)=((L.take (k+1)).filter λp=>decide (p.disk=disk)).map (·.id) by rw[mv disk hp,kaU J,kcV]];exact an (k+1,s7,c7) (by simp only[];omega) (by simp only[];omega) [1,2,7,13,14,15] rfl
 ·simp at R;obtain rfl:k=L.length:=(by omega);refine mC s7<|λV=>?_;rw[cw] at V;refine aF ?_;refine A<|C<|C<|M (aP XB)<|C<|M (AM rfl rfl)<|M (eG (r:=((((L.take L.length).filter λp=>decide (p.disk=disk)).map (·.id)).length:Int) - (keep.toNat:Int)) (by rw[show (if (0:Int)<keep then keep else 0)=(keep.toNat:Int) by split <;> omega];exact cK (by have:=uh L L.length disk;omega)))<|M (AM rfl rfl)<|M (lO (h:=(((L.take L.length).filter λp=>decide (p.disk=disk)).map (·.id)).length - keep.toNat) XB Xu rfl rfl (by split <;> omega) (by omega))<|T ?_;refine oN s7 ((((L.take L.length).filter λp=>decide (p.disk=disk)).map (·.id)).length - keep.toNat) ?_;have he:eQ L disk keep=(((L.take L.length).filter λp=>decide (p.disk=disk)).map (·.id)).take ((((L.take L.length).filter λp=>decide (p.disk=disk)).map (·.id)).length - keep.toNat):=(by unfold eQ;rw[kbl]);rw[show (bc (((L.take L.length).filter λp=>decide (p.disk=disk)).map (·.id))).take ((((L.take L.length).filter λp=>decide (p.disk=disk)).map (·.id)).length - keep.toNat)=bc (eQ L disk keep) by rw[he];simp[bc,kdg]];refine cF b x s c (S) (L) (n) ?_;exact cU rfl rfl rfl (by rw[he,kbq];omega)
def Jb {l}{x:Bytes}(h:l[k]? =some x):(strR l)[k]? =some [ay x]:=by simp[strR,h]
theorem Fp {id e}(h:lT S L n id= .error e):0<e:=by
 grind[lT,IW]
def blk (S:SI)(p:Pt):List Bytes:=(List.range p.size.toNat).map (jj S p.root)
def m7 a b s X cap O(Z:a.length<=9223372036854775807)F:cqq 30 [sl s a.length cap,sl X b.length O] (roL 1 s (strR a)::roL 1 X (strR b)::F) (R1 (Bo (decide (a=b))) (roL 1 s (strR a)::roL 1 X (strR b)::F)):=by
 refine Ct.of func30 W 26 ntmps30 (by simp) λw0=>?_;refine A<|T<|ac<|A<|C<|M (aP XC)<|C<|M (aP XC)<|M iE<|ab<|ah ?_ ?_<;>intro R
 ·simp at R;refine A<|T ?_;refine am W W ?_;show Bo false=_;rw[kcj (λe=>R (by rw[e]))]
 ·simp at R;refine ai<|ac<|A<|T<|ak ?_;refine aL (α:=Nat) (λk=>k<=a.length/\a.take k=b.take k) (λk=>U [(0,sl s a.length cap),(1,sl X b.length O),(5,I k)]) (λ_=>roL 1 s (strR a)::roL 1 X (strR b)::F) (λk=>a.length - k) 0 ⟨by simp,by simp⟩ [0,1,5] rfl ?_;rintro k ⟨hk,S⟩;refine ac<|A<|C<|C<|M (aP XC)<|M aG<|ab<|ah ?_ ?_<;>intro V
  ·simp at V;have Y:k<a.length:=(by omega);obtain ⟨x,hx⟩:∃x,a[k]? =some x:=⟨a[k],by simp⟩;obtain ⟨y,hy⟩:∃y,b[k]? =some y:=⟨b[k]'(by omega),by simp⟩;refine ai<|ac<|ak<|ac ?_;refine dy jB ?_;refine dM W<|dM W<|dV W (av k XC Xx (by omega) (by rw[aZ];omega))<|dV W (aI XD (by exact Jb hx) W)<|dM W<|dM W<|dV W (av k XC Xx (by omega) (by rw[aZ];omega))<|dV W (aI XD (by exact Jb hy) W)<|dV W lN ?_;refine aN<|ah ?_ ?_<;>intro J
   ·simp at J;refine A<|T ?_;refine am W W ?_;show Bo false=_;rw[kcj (λe=>J (by subst e;rw[hx] at hy;injection hy))]
   ·simp at J;refine ai<|aE<|al<|C<|gP<|T ?_;exact an (k+1) ⟨by omega,QI S hx hy J⟩ (by omega) [0,1,5] rfl
  ·simp at V;obtain rfl:k=a.length:=(by omega);refine aF ?_;refine A<|T ?_;refine am W W ?_;show Bo true=_;rw[kbl,show a.length=b.length by omega,kbl] at S;rw[kci S]
def Nz (S:SI):Prop:=(∀q m,S.N q=some m->¬fk m)/\∀q x,S.B q=some x->x.1≠ []/\x.1.length<=6
def K7 m r:fk (rf m r) ↔ fk m:=Iff.rfl
def WZ:Nz (bH gZ):=⟨(λq m h=>by cases h),λq x h=>by cases h⟩
theorem Dh (h:Nz S)q n:Nz ⟨fB S.B q n,S.N⟩:=by
 refine ⟨h.1,λp x e=>?_⟩;change fB S.B q n p=some x at e;unfold fB at e;cases hq:S.B q with
 | none=>rw[hq] at e;exact h.2 p x e
 | some y=>
  rw[hq] at e;unfold aD at e;simp only at e;split at e
  ·split at e
   ·cases e
   ·injection e with e;subst e;exact h.2 q y hq
  ·exact h.2 p x e
def xH (h:Nz S){x}(hx:∀m,x=some m->¬fk m):Nz ⟨S.B,aD S.N q x⟩:=⟨λp m e=>by
 change aD S.N q x p=some m at e;unfold aD at e;split at e
 ·exact hx m e
 ·exact h.1 p m e,h.2⟩
theorem Nr (h:Nz S)d:Nz (aj S d):=by
 unfold aj;split
 ·exact h
 ·refine ⟨h.1,λp x e=>?_⟩;change mj S.B d p=some x at e;unfold mj at e;by_cases hd:6<d.length\/d=[]
  ·rw[kaT hd] at e;exact h.2 p x e
  ·rw[kaU hd] at e;cases J:ef 40 S.B with
   | none=>rw[J] at e;exact h.2 p x e
   | some k=>
    rw[J] at e;simp only at e;unfold aD at e;split at e
    ·grind
    ·exact h.2 p x e
theorem Ns (h:Nz S)k:Nz (db true S k):=by
 grind[db,Dh]
def Nt (h:Nz S)n:Nz (bu true S n):=by
 unfold bu;split
 ·exact h
 ·rename_i hn;split
  ·exact h
  ·exact qu (P:=Nz) (λa b J=>Ns J b) _ _ (xH h λm e=>by injection e with e;subst e;exact hn)
theorem Nu (h:Nz S)k:Nz (eZ S k):=by
 grind[eZ,Dh]
theorem Ug (h:Nz S)k:Nz (kj S k):=by
 grind[kj,Dh]
theorem Nv {f}(O:∀S k,Nz S->Nz (f S k))(h:Nz S)q:Nz (vI f S q):=by
 unfold vI;split
 ·exact h
 ·split
  ·rename_i hr;refine xH h λm e=>?_;injection e with e;subst e;cases hq:S.N q with
   | none=>grind[gN,yN]
   | some y=>rw[show gN S.N q=y by unfold gN;rw[hq];rfl];exact h.1 q y hq
  ·exact qu (P:=Nz) (λa b J=>O a b J) _ _ (xH h λm e=>by cases e)
def Nw (h:Nz S)q:Nz (lE S q):=Nv (λS k h=>Nu h k) h q
theorem Nx (h:Nz S)q:Nz (rH S q):=Nv (λS k h=>Nw h k) h q
def Ny (h:Nz S)(hq:∃x,S.N q=some x):Nz ⟨S.B,r6 S.N q⟩:=by
 obtain ⟨x,hx⟩:=hq;refine xH h λm e=>?_;injection e with e;subst e;rw[show gN S.N q=x by unfold gN;rw[hx];rfl];exact h.1 q x hx
def Fq {G}(V:Val G)(h:Nz (bH G))(hq:rt G q):Nz (eP (bH G) q):=by
 unfold eP;split
 ·refine Ny h ?_;obtain ⟨m,hm⟩:=hq.resolve_left (by omega);exact ⟨_,qw hm⟩
 ·exact h
theorem Rb {G}(V:Val G)(h:lf G q):q=0\/∃x,(bH G).N q=some x:=h.imp (λh=>h) λ⟨m,hm⟩=>⟨_,r8 V hm⟩
theorem Rc S k:(db true S k).N=S.N:=by
 grind[db]
def Di:∀(l:List Int) (S:SI),(l.foldl (db true) S).N=S.N
 | [],S=>rfl
 | k::l,S=>by rw[kcG,Di l,Rc]
theorem ui S d:(aj S d).N=S.N:=by grind[aj]
def V7 S b:(kj S b).N=S.N:=by unfold kj;split <;> rfl
variable {root:Int}{d:Bytes}
theorem Uh {G}(V:Val G){at_ out}(hr:rt G root)(ha:at_<16)(hz:Nz (bH G))(h:dH (bH G) root at_ d=(out,0)):Nz (jk (bH G) root at_ d):=by
 obtain ⟨b,k,hb,hl,ho,hS⟩:=Fe h;rw[hS];refine Nw ?_ k;have O:Nz (kj (bu true (aj (bH G) d) (bD (aj (bH G) d) root at_ b)) b):=Ug (Nt (Nr hz d) _) b;have hN3:(kj (bu true (aj (bH G) d) (bD (aj (bH G) d) root at_ b)) b).N=(bu true (aj (bH G) d) (bD (aj (bH G) d) root at_ b)).N:=V7 _ _
 -- what was there is there still,and so is the new leaf
 have Y:∀q x,(bH G).N q=some x->∃y,(bu true (aj (bH G) d) (bD (aj (bH G) d) root at_ b)).N q=some y:=λq x hx=>by
  rcases oL hl with ⟨_,_,e⟩ | ⟨j,_,_,_,_,e⟩
  ·grind[ui]
  ·rw[e true,Di]
   grind[aD,ui]
 have X:k=0\/∃y,(bu true (aj (bH G) d) (bD (aj (bH G) d) root at_ b)).N k=some y:=by
  rcases oL hl with ⟨Z,_,_⟩ | ⟨j,_,_,_,_,e⟩
  ·exact .inl Z
  simp_all[Di,aD]
 rcases oL ho with ⟨_,_,e⟩ | ⟨j,hk,hjr,S,R,e⟩
 ·rw[e false];exact O
 ·rw[e false,pE]
  ·refine ⟨λq m hm=>?_,O.2⟩;change (aD _ out _ q).map _=some m at hm;obtain ⟨m0,J,rfl⟩:=kaE.1 hm;rw[K7];unfold aD at J;split at J
   ·injection J with J;subst J;exact R
   ·exact O.1 q m0 J
  ·intro q hq;obtain ⟨i,hi,rfl⟩:=yW hq;have key:bZ (ei (aj (bH G) d) root at_ k) i=0\/∃y,(kj (bu true (aj (bH G) d) (bD (aj (bH G) d) root at_ b)) b).N (bZ (ei (aj (bH G) d) root at_ k) i)=some y:=by
    grind[ei,t8,ui,Rb,qy]
   grind[aD]
variable {z:SI×Int}
def Jc {G rs at_}(h:Rt G (root::rs))(O:at_<16)(R:Nz (bH G))(e:put1 (bH G,root) at_ d= .ok z):Nz z.1:=by
 unfold put1 at e;split at e
 ·rename_i J;injection e with e;subst e;exact Nx (Uh h.V (nq h (kcq ..)) O R (Prod.ext rfl J)) root
 ·cases e
theorem Jd {G rs at_}(h:Rt G (root::rs))(hl:rs.length<=8)(O:at_<16)(e:put1 (bH G,root) at_ d= .ok z):∃J,z.1=bH J/\Rt J (z.2::rs):=by
 grind[put1,nT]
theorem Je {rs}(hl:rs.length<=8):∀(l:List Nat) {G:Gh} {root:Int} {z:SI×Int},Rt G (root::rs)->(∀a∈l,a<16)->Nz (bH G)->ml (bH G,root) l= .ok z->Nz z.1
 | [],G,root,z,h,_,V,e=>by grind[ml]
 | a::l,G,root,z,h,O,V,e=>by
  unfold ml at e;cases hp:put1 (bH G,root) a [] with
  | error e'=>rw[hp] at e;cases e
  | ok Y=>
   rw[hp] at e;simp only at e;obtain ⟨z1,z2⟩:=Y;obtain ⟨Z,R,S⟩:=Jd h hl (O a (by simp)) hp;have J:=Jc h (O a (by simp)) V hp;simp only at R J S;subst R;exact Je hl l S (λb X=>O b (kcn _ X)) J e
theorem zh {size}(hs:size<=16){rs}(hl:rs.length<=8):∀(l:List PutM) {G:Gh} {root:Int} {z:SI×Int},Rt G (root::rs)->Nz (bH G)->ey size (bH G,root) l= .ok z->Nz z.1
 | [],G,root,z,h,O,e=>by grind[ey]
 | p::l,G,root,z,h,O,e=>by
  unfold ey at e;split at e
  ·cases e
  ·rename_i Y;split at e
   ·exact zh hs hl l h O e
   ·cases hp:put1 (bH G,root) p.at_.toNat p.data with
    | error e'=>rw[hp] at e;cases e
    | ok V=>
     rw[hp] at e;simp only at e;obtain ⟨Z,z2⟩:=V;obtain ⟨X,R,S⟩:=Jd h hl (by omega) hp;have J:=Jc h (by omega) O hp;simp only at R J S;subst R;exact zh hs hl l S J e
variable {base disk size:Int}
theorem NA {G}(h:Vok S L n G)(hs:1<=size/\size<=16)(Y:Nz S)(e:gH S L base disk size= .ok z):Nz z.1:=by
 have O:(L.map (·.root)).length<=8:=(by have:=h.len;simp;omega);have R:=h.e;subst R;unfold gH at e;split at e
 ·grind
 ·split at e
  ·cases e
  ·rename_i p J;split at e
   ·cases e
   ·have X:=(h.pts p (dq J).1).2.2;obtain ⟨G1,e1,h1,_⟩:=qA h.rt (eS J);have Z:=Fq h.rt.V Y (nq h.rt (eS J))
    grind[Je]
variable {puts:List PutM}{L':List Pt}{r:Int}
theorem Rd {G V n'}(h:Vok S L n G)(hz:Nz S)(e:gw S L n base disk size puts= .ok (V,L',n',r)):Nz V:=by
 unfold gw at e;split at e
 ·cases e
 ·rename_i Z;have X:(L.map (·.root)).length<=8:=(by have:=h.len;simp;omega);cases O:gH S L base disk size with
  | error e'=>rw[O] at e;cases e
  | ok z=>
   rw[O] at e;simp only at e;have R:=NA h (by omega) hz O;obtain ⟨Y,J,h1,_⟩:=y0 h (by omega) O;obtain ⟨z1,z2⟩:=z;simp only at R J h1;subst J;cases hp:ey size (bH Y,z2) puts with
   | error e'=>rw[hp] at e;cases e
   | ok z'=>
    grind[zh]
def Re {id G J Z}(h:Vok S L n G)(Y:Nz S)(e:lT S L n id= .ok (J,L',Z,r)):Nz J:=by
 unfold lT at e;split at e
 ·cases e
 ·rename_i p X;split at e
  ·cases e
  ·injection e with e;injection e with O e;have R:=h.e;subst R;subst O;exact Fq h.rt.V Y<|nq h.rt<|eS X
theorem Rf {id J O}(R:Nz S)(e:mY S L n id= .ok (J,L',O,r)):Nz J:=by
 grind[mY,Nx]
structure Con (S:SI) (L:List Pt) (n:Int) (G:Gh):Prop where
 v:Vok S L n G
 z:Nz S
 t:Gq S L
def Con_z:Con (bH gZ) [] 1 gZ:=⟨VH,WZ,VI⟩
def qE {G O R}(h:Con S L n G)(e:gw S L n base disk size puts= .ok (O,L',R,r)):∃J,Con O L' R J:=
 let ⟨J,_,hv,_⟩:=C6 h.v e
 ⟨J,hv,Rd h.v h.z e,M6 h.v h.t e⟩
def qF {id G O R}(h:Con S L n G)(e:lT S L n id= .ok (O,L',R,r)):∃J,Con O L' R J:=
 let ⟨J,_,hv,_⟩:=C7 h.v e
 ⟨J,hv,Re h.v h.z e,M7 h.v h.t e⟩
def zi {id G O R}(h:Con S L n G)(e:mY S L n id= .ok (O,L',R,r)):∃J,Con O L' R J:=
 let ⟨J,_,hv,_⟩:=IZ h.v e
 ⟨J,hv,Rf h.z e,M8 h.v h.t e⟩
def NB {G}(V:Val G){m}(h:(bH G).N q=some m)(hi:i<4):0<=bZ m i/\bZ m i<=40:=by
 simp only[bH,Al] at h;cases e:G.R q with
 | some n=>
  rw[e] at h;injection h with h;subst h;rcases V.kidR e hi with h0 | ⟨y,hy⟩
  ·simp_all[bZ,rf]
  ·have h1:=V.sL _ y hy;have:bZ (rf n (G.eR q)) i=bZ n i:=(by simp_all[bZ,rf]);rw[this];omega
 | none=>
  rw[e] at h;simp only at h;obtain ⟨n,hn,rfl⟩:=kaE.1 h;have J:bZ (rf n (G.eL q+ip G.R q)) i=bZ n i:=(by simp_all[bZ,rf]);rw[J];rcases V.kidL hn hi with h0 | ⟨y,hy⟩
  ·omega
  ·have h1:=V.sD _ y hy;omega
theorem Con.wr {G}(h:Con S L n G):Wr S L n:=by
 have hok:=lh h.v;refine ⟨hok.1,hok.2.2.1,λq x e=>?_,λq m e=>?_,λp hp=>?_,?_,h.v.srt⟩
 ·have:=hok.2.1 q x e;exact ⟨by omega,h.z.2 q x e⟩
 ·have:=hok.2.2.2 q m e;refine ⟨by omega,λk hk=>?_⟩;obtain ⟨i,hi,rfl⟩:=yW hk;have J:=h.v.e;subst J;have:=NB h.v.rt.V e hi;omega
 ·have h1:=h.v.pts p hp;have O:=h.v.n1;have R:=qz h.v.rt.V (nq h.v.rt (kbV.2 ⟨p,hp,rfl⟩));omega
 ·have:=h.v.n1;omega
theorem Con.sm {G}(h:Con S L n G):Sm S L n:=by
 have w:=h.wr;exact ⟨mP (lh h.v) (by decide),λq x e=>(w.b q x e).2.2,λq m e=>(w.nd q m e).2,λp hp=>by have:=w.p p hp;omega,h.v.len,w.n1⟩
theorem Rg (h0:q≠0):nu L q ↔ 0<js (L.map (·.root)) q:=by
 grind[nu,js,List.count_pos_iff]
theorem Rh (h:0<ip N q):∃r m,N r=some m/\q∈kd m:=by
 refine Classical.byContradiction λhn=>?_;have:ip N q=0:=vN λk _=>by
  cases e:N (k:Int) with
  | none=>rfl
  | some m=>
   have h1:=yQ (some m) q;rcases kdh h1 with J | J
   ·grind[CS,ze]
   ·exact J.symm
 omega
def zj {cB B q}:∀{l:List Nat},(∀k∈l,nS (cB (k:Int)) q=nS (B (k:Int)) q)->mT cB q l=mT B q l
 | [],_=>rfl
 | k::l,h=>by simp only[mT];rw[h k (by simp),zj λj hj=>h j (kcn _ hj)]
def vU {cB B}(h:∀k,nS (cB k) q=nS (B k) q):ip cB q=ip B q:=zj λk _=>h k
theorem Con.whole {G}(h:Con S L n G):WholeP ⟨S.B,S.N,L,n⟩:=by
 have hS:=h.v.e;subst hS;have V:=h.v.rt.V;have hok:=lh h.v;have O:∀q,nu L q ↔ q≠0/\∃m,G.R q=some m:=λq=>by
  by_cases h0:q=0
  ·subst h0;exact ⟨λhh=>absurd rfl hh.1,λhh=>absurd rfl hh.1⟩
  ·rw[Rg h0,<-h.v.rt.eR,<-V.pR q h0];exact ⟨λhh=>⟨h0,kcX.1 hh⟩,λhh=>kcX.2 hh.2⟩
 have Y:∀q,LH (bH G).N L q ↔ q≠0/\∃m,G.L q=some m:=λq=>by
  constructor
  ·rintro ⟨h0,r,m,hr,hm,hq⟩;obtain ⟨_,m',hm'⟩:=(O r).1 hr;rw[qw hm'] at hm;injection hm with hm;subst hm;obtain ⟨i,hi,rfl⟩:=yW hq;have ek:bZ (rf m' (G.eR r)) i=bZ m' i:=(by simp_all[bZ,rf]);rw[ek] at h0 ⊢;exact ⟨h0,(V.kidR hm' hi).resolve_left h0⟩
  ·rintro ⟨h0,m,hm⟩;have h1:=(V.pL q h0).1 (by rw[hm];rfl);rw[h.v.rt.eL,Int.zero_add] at h1;obtain ⟨r,m',hr,hq⟩:=Rh h1;refine ⟨h0,r,_,(O r).2 ⟨lg V.sR hr,m',hr⟩,qw hr,hq⟩
 have dj:∀q m m',G.R q=some m->G.L q=some m'->False:=λq m m' h1 J=>by
  rcases V.dj q with h3 | h3
  ·rw[h1] at h3;cases h3
  grind
 have hk:KindsP (bH G).N L:=by
  refine ⟨λq hq=>?_,λq hq=>?_,λq hr hl=>?_,λq hq=>?_⟩
  ·obtain ⟨_,m,hm⟩:=(O q).1 hq;rw[qw hm];rfl
  ·obtain ⟨_,m,hm⟩:=(Y q).1 hq;rw[r8 V hm];rfl
  ·grind
  ·obtain ⟨x,hx⟩:=kcX.1 hq;have h0:=lg hok.2.2.1 hx;cases e:G.R q with
   | some m=>exact .inl<|(O q).2 ⟨h0,m,e⟩
   | none=>cases X:G.L q with
    | some m=>exact .inr<|(Y q).2 ⟨h0,m,X⟩
    | none=>grind[mV]
 have hrO:∀q p,nS (PY (bH G).N L q) p=nS (G.R q) p:=λq p=>by
  unfold PY;split
  ·rename_i hr;obtain ⟨_,m,hm⟩:=(O q).1 hr;rw[qw hm,hm];rfl
  ·rename_i hr;cases e:G.R q with
   | none=>rfl
   | some m=>exact absurd ((O q).2 ⟨lg V.sR e,m,e⟩) hr
 have Z:∀q p,nS (I2 (bH G).N L q) p=nS (G.L q) p:=λq p=>by
  unfold I2;split
  ·rename_i hr;obtain ⟨_,m,hm⟩:=(O q).1 hr;cases e:G.L q with
   | none=>rfl
   | some m'=>exact (dj q m m' hm e).elim
  ·rename_i hr;cases e:G.L q with
   | some m=>rw[r8 V e];rfl
   | none=>cases X:G.R q with
    | none=>rw[mV X e]
    | some m=>exact absurd ((O q).2 ⟨lg V.sR X,m,X⟩) hr
 refine ⟨h.v.len,h.v.n1.1,λp hp=>(h.v.pts p (List.mem_of_getLast? hp)).1.2,hok.2.2.1,hok.1,hk,⟨h.z.1,λq m hm=>?_,λq x hx=>?_,λq h0 hq=>?_⟩,h.t⟩
 ·change (bH G).N q=some m at hm;show cN (bH G).N L q=m.refs;unfold cN;rw[vU λk=>hrO k q,<-h.v.rt.eR];have h0:=lg hok.2.2.1 hm;cases e:G.R q with
  | some m'=>
   rw[qw e] at hm;injection hm with hm;subst hm;have:ip G.R q=0:=by
    have h1:=mU G.R q;rcases kdh h1 with J | J
    ·obtain ⟨x,hx⟩:=kcX.1 ((V.pL q h0).2 (by have:=V.nL q;omega));exact (dj q m' x e hx).elim
    ·exact J.symm
   rw[this];simp[rf]
  | none=>cases X:G.L q with
   | none=>grind[mV]
   | some m'=>
    rw[r8 V X] at hm;injection hm with hm;subst hm;have:G.eR q=0:=by
     have h1:=V.nR q;rcases kdh h1 with J | J
     ·have:=(V.pR q h0).2 J;grind
     ·exact J.symm
    rw[this,h.v.rt.eL];simp[rf]
 ·change (bH G).B q=some x at hx;show ip (I2 (bH G).N L) q=x.2;rw[vU λk=>Z k q];cases e:G.D q with
  | none=>grind[qx]
  | some d=>
   rw[kJ e,h.v.rt.eB] at hx
   grind
 ·change ip (I2 (bH G).N L) q≠0 at hq;rw[vU λk=>Z k q] at hq;have h1:=mU G.L q;have J:=(V.pD q h0).2 (by have:=V.nB q;omega);obtain ⟨d,hd⟩:=kcX.1 J;show ((bH G).B q).isSome=true;rw[kJ hd];rfl
def zk {G}(h:Con S L n G):iz none ps0 (bN S L n)=some ⟨S.B,S.N,L,n⟩/\WholeP ⟨S.B,S.N,L,n⟩:=⟨QX h.wr,h.whole⟩
variable {c:Cx}{g gu:Option (Nat×Bool)}{E:di}{L:List ag}{d:Option Tmp}{ty:TypeId}{pos:String}{af:Array Edge}{x y:Operand}
def Ui {k p ats}(hx:ev g E x=some (.int k p))(hy:ev g E y=some (.int k q))(hr:(if p<q then q else p)=r):OpV c g E L ⟨d, .call {callee:= .builtin .max,args:=#[x,y],argTypes:=ats},ty,pos,af,gu⟩ (.int k r):=hr ▸ AM hx hy
def r9 (k:Nat)(s:Bytes)(F:List ag):Value->List ag->Prop:=λv L'=>match em k s with
 | none=>v= .tuple #[sl none 0 0,Bo false]/\L'=F
 | some l=>∃s' c',v= .tuple #[sl s' k c',Bo true]/\L'=be 3 1 s' c' (bc l)::F
variable {K:List KI}{F:List ag}{vs:List Value}
def zl (V:c.R=r9 k s F)(he:em k s=none)(hr:fY E c.fn.results.toList=some vs)(hv:tn vs= .tuple #[sl none 0 0,Bo false])[S:Sub L F](hds:c.n.ds=[]:=by rfl):G c (.code .ret::K) E L:=
 λa w J O=>wp_ret (cb (bf (hds:=hds) hr J (S.sat O) (by simp_all[r9])))
theorem K8 {J:Nat}{l:List Int}{O:Option Addr}(X:c.R=r9 k s F)(he:em k s=some l)(hr:fY E c.fn.results.toList=some vs)(hv:tn vs= .tuple #[sl O k J,Bo true])[S:Sub L (be 3 1 O J (bc l)::F)](hds:c.n.ds=[]:=by rfl):G c (.code .ret::K) E L:=
 λa w V Y=>wp_ret (cb (bf (hds:=hds) hr V (S.sat Y) (by rw[X];grind[r9])))
def Bw m B:(dS m B).length=(ck m B).length:=by simp[dS]
def Bx m N:(ea m N).length=(ck m N).length:=by simp[ea]
def Fr (h:(ck m B)[k]? =some q):(dS m B)[k]? =some (K3 q (gB B q)):=by simp[dS,h]
def Fs (h:(ck m N)[k]? =some q):(ea m N)[k]? =some (K4 q (gN N q)):=by simp[ea,h]
def fj l c:bI l++ [bg c]=bI (l++ [c]):=by simp[bI]
def fP {l:List α}{x}(h:l[k]? =some x):l.take k++ [x]=l.take (k+1):=by
 rw[kdb,h];rfl
def W0 (h:mE 40 B)q:(lk (tb cP 40 B) q).getD (.agg #[ay [],I 0])=cP (gB B q):=by
 rw[Hc h];unfold gB;cases B q <;> rfl
def wU (n:Nd)(i:Nat):Bytes:=jt n.refs++((kd n).take i).flatMap jt
def NC n:∀i,i<4->wU n i++jt (bZ n i)=wU n (i+1)
 | 0,_=>by simp[wU,kd,bZ]
 | 1,_=>by simp[wU,kd,bZ]
 | 2,_=>by simp[wU,kd,bZ]
 | 3,_=>by simp[wU,kd,bZ]
 | i+4,h=>absurd h (by omega)
theorem Hm n:wU n 4=wT n:=by simp[wU,wT,kd]
def ND n:wU n 0=jt n.refs:=by simp[wU]
theorem uj {n}(h: -999<=n.refs/\n.refs<=1000)(hk:∀k∈kd n, -999<=k/\k<=1000):∀i,i<=4->(wU n i).length<=4+4*i
 | 0,_=>by rw[ND];exact ce h
 | i+1,hi=>by
  rw[<-NC n i (by omega),kcp];have h1:=uj h hk i (by omega)
  grind[ce,ze]
theorem NE {L}(h:Sm S L n)q:(0<=(gB S.B q).2/\(gB S.B q).2<=999)/\(gB S.B q).1.length<=6:=by
 unfold gB;cases e:S.B q with
 | none=>simp
 | some x=>have h1:=h.ok.2.1 q x e;have J:=h.dat q x e;grind
theorem Jf {L}(h:Sm S L n)q:(0<=(gN S.N q).refs/\(gN S.N q).refs<=999)/\∀k∈kd (gN S.N q),0<=k/\k<=999:=by
 unfold gN;cases e:S.N q with
 | none=>simp[yN,kd]
 | some x=>have h1:=h.ok.2.2.2 q x e;have J:=h.kid q x e;grind
def dB {ee}n(hn: -999<=n/\n<=1000)F:cqq 181 [I n] (bo ee::F) (R1 (ay (jt n)) (bo ee::F)):=by
 have J:=y7 hn;refine Ct.of func181 W 13 ntmps181 (by simp) λw0=>?_;refine A<|T<|A<|C<|gR (vB (A0:=bo ee) call217 (jx n (by omega) (by omega)))<|T<|A<|C<|M (cD Xz)<|M (eG (cK (by omega)))<|M (Ui (r:=((3 - (Lib.itoa n).length:Nat):Int)) W W (by split <;> omega))<|gR (vA call244 (KX (3 - (Lib.itoa n).length) (by omega)))<|C<|M (cf (by rw[Lib.repeatL_length];simp;omega))<|T ?_;refine am W W ?_;exact rfl
def gm (s:Bytes)(k:Nat)(hk:k<=5)(hs:s.length<=9223372036854775807)F:cqq 192 [ay s,I k] (tabs::F) (r9 k s (tabs::F)):=by
 refine Ct.of func192 W 50 ntmps192 (by simp) λw0=>?_;refine A<|gA<|T<|ac<|A<|C<|M (cD Xz)<|C<|M (lW (cK (by omega)))<|M aG<|ab<|ah ?_ ?_<;>intro X
 ·simp at X;refine A<|gA<|T ?_;exact zl rfl (by unfold em;rw[kaT (by omega)]) rfl rfl
 ·simp at X;refine ai<|A<|T<|ac<|ac ?_;refine aY 3 1 (bc []) ?_;refine al<|C<|C<|ab<|ak ?_;refine aL (α:=Nat×List Int×Option Addr×Nat) (λz=>z.1<=k/\iy z.1 s=some z.2.1) (λz=>U [(0,ay s),(6,sl z.2.2.1 z.1 z.2.2.2),(15,I k),(16,I z.1)]) (λz=>be 3 1 z.2.2.1 z.2.2.2 (bc z.2.1)::tabs::F) (λz=>k - z.1) (0,[],none,0) ⟨by simp,rfl⟩ [0,6,15,16] rfl ?_;rintro ⟨i,l,s6,c6⟩ ⟨hi,hl⟩;simp only[] at hi hl ⊢;have hll:=rj hl;refine A<|M aG<|ab<|ac<|ah ?_ ?_<;>intro Y
  ·simp at Y;have hik:i<k:=(by omega);refine ai<|ac<|ak<|A<|C<|T<|ac ?_;have O:((s.take (3*i+3)).drop (3*i)).length=3:=(by simp;omega);have S:((s.take (3*i+3)).drop (3*i))=(s.drop (3*i)).take 3:=(by rw[List.drop_take];congr 1;omega);refine al<|C<|C<|M (lW (cK (by omega)))<|C<|M (lW (cK (by omega)))<|gP<|M (fG (l:=3*i) (h:=3*i+3) Xz (hm:=by omega) (hm2:=by omega) (by omega))<|gI (uB (A0:=tabs) call219 (QS ((s.take (3*i+3)).drop (3*i)) O)) ?_;rintro _ _ ⟨rfl,⟨v,hv,rfl⟩ | ⟨hv,t0,p0,rfl⟩⟩
   ·have hvr:=I0 O hv;refine C<|gX (I v)<|gX (fA 0 0)<|gA<|T<|ac<|ac<|gG (plN [0,2,4,6,10,12,14,16,18,20,22,9,24,26])<|dM W<|dV W (bX (ec:=0) (f:=0) XF)<|dM W<|aU W ao<|aU W ao<|aU W ao<|aU W (lW (cK (by omega)))<|aU W ao<|aU W (lW (cK (by omega)))<|aU W (bx (cK (by omega)))<|aU W (fG (l:=3*i) (h:=3*i+3) Xz (hm:=by omega) (hm2:=by omega) (by omega)) ?_;refine Qb W (dQ (Pre:=[tabs]) call181 (dB (v) (by omega))) W ?_;rintro _ _ ⟨rfl,rfl⟩;refine aU W lN<|dV W cv ?_;refine aN<|ah ?_ ?_<;>intro J
    ·have V:¬jt v=((s.take (3*i+3)).drop (3*i)):=(by simpa using J);refine A<|gA<|T ?_;exact zl rfl (by
      unfold em;rw[iOm];have R:iy (i+1) s=none:=(by rw[sT hl,<-S];unfold y9;rw[hv];simp only;rw[kaU V];rfl);have:=zd (k:=k - (i+1)) R
      rwa [show i+1+(k - (i+1))=k by omega] at this) rfl rfl
    ·have V:jt v=((s.take (3*i+3)).drop (3*i)):=(by simpa using J);refine ai<|al<|C<|C<|gI (ap [[I v]] XB Xu X5 (by simp)) ?_;rintro _ _ ⟨b46,rfl,rfl⟩;refine gI (aR XB Xu X5 Tryz.typeInfo3 (hn:=by rw[cw];exact rj hl) (by simp) (by intro r hr;simp at hr;subst hr;rfl) ⟨by omega,by decide,by decide⟩) ?_;rintro _ _ ⟨s47,Z,rfl,rfl⟩;rw[show bc l++ [[I v]]=bc (l++ [v]) by simp[bc]];refine T<|aE<|al<|gP<|C<|ab ?_;exact an (i+1,l++ [v],s47,Z) ⟨by simp only[];omega,by simp only[];rw[sT hl,<-S];unfold y9;rw[hv];simp only;rw[kaT V];rfl⟩ (by simp only[];omega) [0,6,15,16] rfl
   ·refine C<|gX (I 0)<|gX (.iface t0 (ptr p0 0))<|gA<|T<|ac<|ac ?_;refine dy jH ?_;refine dM W<|dV W (Sq XF W)<|dM W<|aM W<|aM W<|aM W<|aM W<|aM W<|aM W<|aM W<|aM W<|aM W<|aM W<|dV W eV ?_;refine aN<|ah ?_ ?_<;>intro J
    ·refine A<|gA<|T ?_;exact zl rfl (by
      unfold em;rw[iOm];have R:iy (i+1) s=none:=(by rw[sT hl,<-S];unfold y9;rw[hv];rfl);have:=zd (k:=k - (i+1)) R
      rwa [show i+1+(k - (i+1))=k by omega] at this) rfl rfl
    ·cases J
  ·simp at Y;obtain rfl:i=k:=(by omega);refine aF ?_;refine A<|C<|gA<|T ?_;exact K8 rfl (by unfold em;rw[iOm];exact hl) rfl rfl
def og {ee}b S L n(h:Sm S L n)F:cqq 104 [ptr b 0] (bo ee::iq b S L n::F) (uX 174 3 (bN S L n).length (bI (bN S L n)) (bo ee::iq b S L n::F)):=by
 have hok:=h.ok;have hll:=h.len;have hib:=eM 40 S.B;have hin:=eM 24 S.N;refine Ct.of func104 W 133 ntmps104 (by simp) λw0=>?_;refine ge b S L n ?_;intro x s c;refine fl x S ?_;intro p r;refine aY 174 3 (bI ((dS 40 S.B).take 0)) ?_;refine A<|T<|A<|T<|ac<|A<|C<|M aa<|gF 0 XK W X7<|gL (ptr x 0) Yb<|M aa<|gF 0 XX W YY<|gL (ptr p 0) Y3<|gI (uB call137 (wR p S.B)) ?_;rintro _ _ ⟨s22,c22,rfl,rfl⟩;refine bz s22 ?_;refine kI p S.B ?_;intro r2;refine M (aP XB)<|C<|ab<|ak ?_;refine aL (α:=Nat×Option Addr×Nat) (λz=>z.1<=(ck 40 S.B).length) (λz=>U [(0,ptr b 0),(3,sl z.2.1 z.1 z.2.2),(22,sl s22 (ck 40 S.B).length c22),(23,I (ck 40 S.B).length),(24,I z.1)]) (λz=>be 174 3 z.2.1 z.2.2 (bI ((dS 40 S.B).take z.1))::roL 1 s22 (bc (ck 40 S.B))::bo ee::pcc b #[ptr x 0,sl s (L).length c,I (n)] 123::pcc x #[ptr p 0, .map (some r)] 231::pcc p #[.map (some r2)] 234::mp r2 (tb cP 40 S.B)::mp r (tb cl 24 S.N)::be 162 4 s c (gb (L))::F) (λz=>(ck 40 S.B).length - z.1) (0,none,0) (by simp) [0,3,22,23,24] rfl ?_;rintro ⟨k,Y,c3⟩ hk;simp only[] at hk ⊢;refine A<|M aG<|ab<|ac<|ah ?_ ?_<;>intro h25
 ·simp at h25;have O:k<(ck 40 S.B).length:=(by omega);obtain ⟨q,hq⟩:∃q,(ck 40 S.B)[k]? =some q:=⟨_,kbN O⟩;obtain ⟨hqr,hqs⟩:=mem_ids.1 (kbe hq);have hgb:=NE h q;refine ai<|ac<|ak<|A<|M (av k XB Xu O (by rw[cw];exact O))<|M (aI (v:=I q) Xv (by exact fO hq) W)<|T<|A<|C<|M aa<|gF 0 XK W X7<|gL (ptr x 0) Yb<|M aa<|gF 0 XX W YY<|gL (ptr p 0) Y3<|M aa<|gF 0 YN W YH<|gL (.map (some r2)) YO<|C<|M (cW (v:=cP (gB S.B q)) Yz XA YL (W0 hok.1 q))<|gI (aO #[ay [],I 0] YL) ?_;rintro _ _ ⟨b6,rfl,rfl⟩;refine gU (az (cs:=#[ay [],I 0]) (vs:=[ay (gB S.B q).1,I (gB S.B q).2]) #[ay (gB S.B q).1,I (gB S.B q).2] Yn (by simp) (hcs:=by exact aH))<|ab<|gD (Lf:=[pcc b6 #[ay (gB S.B q).1,I (gB S.B q).2] 183]) (plN [0,2,8,10,14,16,5,6,13,18,20,23,25,26])<|dM W<|dM W<|dF W 1 YF W Xu<|dL W (I (gB S.B q).2) Xv<|dF W 0 YF W Xx<|dL W (ay (gB S.B q).1) XD<|cQ W (uB (A0:=bo ee) call181 (dB (q) (by omega))) ?_;rintro _ _ ⟨rfl,rfl⟩;refine dV W (cf (by have:=ce (n:=q) (by omega);simp;omega))<|cQ W (uB (A0:=bo ee) call181 (dB ((gB S.B q).2) (by omega))) ?_;rintro _ _ ⟨rfl,rfl⟩;refine dV rfl (cf (by have:=ce (n:=(gB S.B q).2) (by omega);omega))<|dV rfl (aS (iF _ rfl _ rfl))<|cQ rfl (ap [bg (K3 q (gB S.B q))] Xy Xw XH (by intro r hr;simp at hr;subst hr;rfl)) ?_;rintro _ _ ⟨b51,rfl,rfl⟩;refine cQ rfl (aR Xy Xw XH Tryz.typeInfo174 (hn:=by rw[aT];simp[dS,ea];omega) (by intro r hr;simp at hr;subst hr;rfl) (by intro r hr;simp at hr;subst hr;rfl) ⟨by omega,by decide,by decide⟩) ?_;rintro _ _ ⟨s52,c52,rfl,rfl⟩;rw[fj,fP (Fr hq)];refine dV W ax ?_;refine aN ?_;refine aE<|al<|gP<|C<|ab ?_;exact an (k+1,s52,c52) (by simp only[];omega) (by simp only[];omega) [0,3,22,23,24] rfl
 ·simp at h25;obtain rfl:k=(ck 40 S.B).length:=(by omega);rw[kcI (by rw[Bw];omega)];refine aF ?_;refine ac<|ac ?_;refine dZ r2 p S.B (.refl _) ?_;refine cC p r x S (.refl _) ?_;refine al<|C<|M aa<|gF 0 XK W X7<|gL (ptr x 0) Yb<|gI (uB call138 (vM x S)) ?_;rintro _ _ ⟨V,c58,rfl,rfl⟩;refine bz V ?_;refine fl x S ?_;intro p r;refine M (aP XB)<|C<|ab ?_;refine kw Y (bI (dS 40 S.B++(ea 24 S.N).take 0)) (by simp) ?_;refine ak ?_;refine aL (α:=Nat×Option Addr×Nat) (λz=>z.1<=(ck 24 S.N).length) (λz=>U [(0,ptr b 0),(3,sl z.2.1 ((ck 40 S.B).length+z.1) z.2.2),(58,sl V (ck 24 S.N).length c58),(59,I (ck 24 S.N).length),(60,I z.1)]) (λz=>be 174 3 z.2.1 z.2.2 (bI (dS 40 S.B++(ea 24 S.N).take z.1))::roL 1 V (bc (ck 24 S.N))::bo ee::pcc b #[ptr x 0,sl s (L).length c,I (n)] 123::pcc x #[ptr p 0, .map (some r)] 231::nj p S.B::mp r (tb cl 24 S.N)::be 162 4 s c (gb (L))::F) (λz=>(ck 24 S.N).length - z.1) (0,Y,c3) (by simp) [0,3,58,59,60] rfl ?_;rintro ⟨k,Y,c3⟩ hk;simp only[] at hk ⊢;refine A<|M aG<|ab<|ac<|ah ?_ ?_<;>intro h61
  ·simp at h61;have O:k<(ck 24 S.N).length:=(by omega);obtain ⟨q,hq⟩:∃q,(ck 24 S.N)[k]? =some q:=⟨_,kbN O⟩;obtain ⟨hqr,hqs⟩:=mem_ids.1 (kbe hq);have Z:=Jf h q;refine ai<|ac<|ak<|A<|M (av k XB Xu O (by rw[cw];exact O))<|M (aI (v:=I q) Xv (by exact fO hq) W)<|T<|A<|C<|M aa<|gF 0 XK W X7<|gL (ptr x 0) Yb<|M aa<|gF 1 XX W Yf<|gL (.map (some r)) Yk<|C<|M (cW (v:=cl (gN S.N q)) Yl XA Yx (PX hok.2.2.1 _))<|gI (aO #[I 0,I 0,I 0,I 0,I 0] Yx) ?_;rintro _ _ ⟨b9,rfl,rfl⟩;refine gU (az (cs:=#[I 0,I 0,I 0,I 0,I 0]) (vs:=kV (gN S.N q)) (kV (gN S.N q)).toArray X0 (by simp) (hcs:=by exact aH))<|ab<|A<|gF 4 XV W Xu<|gL (I (gN S.N q).refs) Xv<|gR (vB (A0:=bo ee) call181 (dB ((gN S.N q).refs) (by omega)))<|T<|ac<|A<|gF 0 XV W XR<|M (bj (vs:=ga (gN S.N q)) Yu XR vK)<|C<|ab<|ak ?_;refine aL (α:=Nat) (λi=>i<=4) (λi=>U [(0,ptr b 0),(3,sl Y ((ck 40 S.B).length+k) c3),(58,sl V (ck 24 S.N).length c58),(59,I (ck 24 S.N).length),(60,I k),(8,I q),(10,ay (wU (gN S.N q) i)),(77, .agg (ga (gN S.N q)).toArray),(78,I i)]) (λi=>be 174 3 Y c3 (bI (dS 40 S.B++(ea 24 S.N).take k))::roL 1 V (bc (ck 24 S.N))::bo ee::pcc b #[ptr x 0,sl s (L).length c,I (n)] 123::pcc x #[ptr p 0, .map (some r)] 231::nj p S.B::mp r (tb cl 24 S.N)::be 162 4 s c (gb (L))::F) (λi=>4 - i) 0 (by omega) [0,3,58,59,60,8,10,77,78] rfl (he:=by rw[ND];rfl) ?_;intro i hi;refine A<|M aG<|ab<|ac<|ah ?_ ?_<;>intro h79
   ·simp at h79;have R:i<4:=(by omega);refine ai<|ac<|ak<|A<|M (ln (v:=I (bZ (gN S.N q) i)) i X6 Xu Xv R (by simpa using g7 (gN S.N q) i R))<|T<|al<|C<|C<|gR (vB (A0:=bo ee) call181 (dB (bZ (gN S.N q) i) (by have:=Z.2 _ (ze (n:=gN S.N q) R);omega)))<|M (cf (by have h1:=uj (n:=gN S.N q) (by omega) (λk hk=>by have:=Z.2 k hk;omega) i hi;have:=ce (n:=bZ (gN S.N q) i) (by have:=Z.2 _ (ze (n:=gN S.N q) R);omega);omega))<|T<|aE<|al<|gP<|C<|ab ?_;refine an (i+1) (by omega) (by omega) [0,3,58,59,60,8,10,77,78] rfl (he:=?_);rw[<-NC _ i R]
    rfl
   ·simp at h79;obtain rfl:i=4:=(by omega);rw[Hm];refine aF ?_;refine al<|C<|C<|gR (vB (A0:=bo ee) call181 (dB (q) (by omega)))<|M (cf (by have:=ce (n:=q) (by omega);simp;omega))<|C<|M (aS (iF _ rfl _ rfl))<|gI (ap [bg (K4 q (gN S.N q))] Xy Xw XH (by intro r hr;simp at hr;subst hr;rfl)) ?_;rintro _ _ ⟨b92,rfl,rfl⟩;refine gI (aR Xy Xw XH Tryz.typeInfo174 (hn:=by rw[aT];simp[dS,ea];omega) (by intro r hr;simp at hr;subst hr;rfl) (by intro r hr;simp at hr;subst hr;rfl) ⟨by omega,by decide,by decide⟩) ?_;rintro _ _ ⟨s93,c93,rfl,rfl⟩;rw[fj,kbx,fP (Fs hq)];refine T<|aE<|al<|gP<|C<|ab ?_;exact an (k+1,s93,c93) (by simp only[];omega) (by simp only[];omega) [0,3,58,59,60] rfl
  ·simp at h61;obtain rfl:k=(ck 24 S.N).length:=(by omega);rw[kcI (l:=ea 24 S.N) (by rw[Bx];omega)];refine aF ?_;refine ac<|A<|C<|M aa<|gF 1 XK W XS<|gL (sl s (L).length c) Ya<|M (aP XP)<|C<|ab ?_;refine kw Y (bI (dS 40 S.B++ea 24 S.N++(L.map nt).take 0)) (by simp) ?_;refine ak ?_;refine aL (α:=Nat×Option Addr×Nat) (λz=>z.1<=L.length) (λz=>U [(0,ptr b 0),(3,sl z.2.1 ((ck 40 S.B).length+(ck 24 S.N).length+z.1) z.2.2),(98,sl s L.length c),(99,I L.length),(100,I z.1)]) (λz=>be 174 3 z.2.1 z.2.2 (bI (dS 40 S.B++ea 24 S.N++(L.map nt).take z.1))::bo ee::pcc b #[ptr x 0,sl s (L).length c,I (n)] 123::pcc x #[ptr p 0, .map (some r)] 231::nj p S.B::mp r (tb cl 24 S.N)::be 162 4 s c (gb (L))::F) (λz=>L.length - z.1) (0,Y,c3) (by simp) [0,3,98,99,100] rfl ?_;rintro ⟨k,Y,c3⟩ hk;simp only[] at hk ⊢;refine A<|M aG<|ab<|ac<|ah ?_ ?_<;>intro X
   ·simp at X;have hkn:k<L.length:=(by omega);obtain ⟨J,hp⟩:∃J,L[k]? =some J:=⟨_,kbN hkn⟩;have hps:=h.pts J (kbe hp);refine ai<|ac<|ak<|A<|M (av (k) XP XE hkn (by rw[cR];exact hkn))<|M (bO (row:=aW J) YI XE (g8 hp))<|gI (aO #[I 0,I 0,I 0,I 0] X4) ?_;rintro _ _ ⟨b14,rfl,rfl⟩;refine gU (az (cs:=#[I 0,I 0,I 0,I 0]) (vs:=aW (J)) (aW (J)).toArray XE (by simp) (hcs:=by exact aH))<|ab ?_;refine cn (Lf:=[pcc b14 (aW J).toArray 162]) jV ?_;refine dM W<|dF W 0 XQ W Xu<|dL W (I J.id) Xv<|dF W 1 XQ W Xu<|dL W (I J.disk) Xv<|dF W 2 XQ W Xu<|dL W (I J.size) Xv<|dF W 3 XQ W Xu<|dL W (I J.root) Xv<|cQ W (uB (A0:=bo ee) call181 (dB (J.id) (by omega))) ?_;rintro _ _ ⟨rfl,rfl⟩;refine dV W (cf (by have:=ce (n:=J.id) (by omega);simp;omega))<|cQ W (uB (A0:=bo ee) call181 (dB (J.disk) (by omega))) ?_;rintro _ _ ⟨rfl,rfl⟩;refine cQ W (uB (A0:=bo ee) call181 (dB (J.size) (by omega))) ?_;rintro _ _ ⟨rfl,rfl⟩;refine dV W (cf (by have:=ce (n:=J.disk) (by omega);have:=ce (n:=J.size) (by omega);omega))<|cQ W (uB (A0:=bo ee) call181 (dB (J.root) (by omega))) ?_;rintro _ _ ⟨rfl,rfl⟩;refine dV rfl (cf (by have:=ce (n:=J.disk) (by omega);have:=ce (n:=J.size) (by omega);have:=ce (n:=J.root) (by omega);simp;omega))<|dV rfl (aS (iF _ rfl _ rfl))<|cQ rfl (ap [bg (nt J)] Xy Xw XH (by intro r hr;simp at hr;subst hr;rfl)) ?_;rintro _ _ ⟨b121,rfl,rfl⟩;refine cQ rfl (aR Xy Xw XH Tryz.typeInfo174 (hn:=by rw[aT];simp[dS,ea];omega) (by intro r hr;simp at hr;subst hr;rfl) (by intro r hr;simp at hr;subst hr;rfl) ⟨by omega,by decide,by decide⟩) ?_;rintro _ _ ⟨s122,c122,rfl,rfl⟩;rw[fj,kbx (dS 40 S.B++ea 24 S.N),fP (show (L.map nt)[k]? =some (nt J) by simp[hp])];refine dV W ax ?_;refine aN ?_;refine aE<|al<|gP<|C<|ab ?_;exact an (k+1,s122,c122) (by simp only[];omega) (by simp only[];omega) [0,3,98,99,100] rfl
   ·simp at X;obtain rfl:k=L.length:=(by omega);rw[kcI (l:=L.map nt) (by simp)];refine aF ?_;refine A<|C<|C<|M aa<|gF 2 XK rfl Xu<|gL (I n) Xv<|gR (vB (A0:=bo ee) call181 (dB (n) (by have:=h.n1;omega)))<|M (aS (iF _ rfl _ rfl))<|gI (ap [bg (vS n)] Xy Xw XH (by intro r hr;simp at hr;subst hr;rfl)) ?_;rintro _ _ ⟨b131,rfl,rfl⟩;refine gI (aR Xy Xw XH Tryz.typeInfo174 (hn:=by rw[aT];simp[dS,ea];omega) (by intro r hr;simp at hr;subst hr;rfl) (by intro r hr;simp at hr;subst hr;rfl) ⟨by omega,by decide,by decide⟩) ?_;rintro _ _ ⟨s132,c132,rfl,rfl⟩;rw[fj,show dS 40 S.B++ea 24 S.N++L.map nt++ [vS n]=bN S L n from rfl];refine T ?_;refine cC p r x S (.refl _) ?_;refine cF b x s c (S) (L) (n) ?_;exact cU rfl rfl rfl (by rw[rn])
def Xj (b:Nat)(st:PS)(z:Nat×Nat×Nat×Nat×Option Addr×Nat):List ag:=[pcc b #[ptr z.1 0,sl z.2.2.2.2.1 st.L.length z.2.2.2.2.2,I st.n] 123,pcc z.1 #[ptr z.2.1 0, .map (some z.2.2.1)] 231,pcc z.2.1 #[.map (some z.2.2.2.1)] 234,mp z.2.2.1 (tb cl 999 st.N),mp z.2.2.2.1 (tb cP 999 st.B),be 162 4 z.2.2.2.2.1 z.2.2.2.2.2 (gb st.L)]
def NF (b:Nat)(st:PS):ag:=hx (Xj b st)
def NG (b:Nat)(st':Option PS)(F:List ag):Value->List ag->Prop:=λv L'=>match st' with
 | none=>v=Bo false/\L'=F
 | some st=>v=Bo true/\L'=NF b st::F
def pJ b st[R:Rem L (NF b st) F](k:∀x p r r2 s J,G c K E (pcc b #[ptr x 0,sl s st.L.length J,I st.n] 123::pcc x #[ptr p 0, .map (some r)] 231::pcc p #[.map (some r2)] 234::mp r (tb cl 999 st.N)::mp r2 (tb cP 999 st.B)::be 162 4 s J (gb st.L)::F)):G c K E L:=ji (NF b st) rfl λz=>k z.1 z.2.1 z.2.2.1 z.2.2.2.1 z.2.2.2.2.1 z.2.2.2.2.2
def pK b x p r r2 s J st[O:Split L [pcc b #[ptr x 0,sl s st.L.length J,I st.n] 123,pcc x #[ptr p 0, .map (some r)] 231,pcc p #[.map (some r2)] 234,mp r (tb cl 999 st.N),mp r2 (tb cP 999 st.B),be 162 4 s J (gb st.L)] F](k:G c K E (NF b st::F)):G c K E L:=
 gW (cB:=Xj b st) [pcc b #[ptr x 0,sl s st.L.length J,I st.n] 123,pcc x #[ptr p 0, .map (some r)] 231,pcc p #[.map (some r2)] 234,mp r (tb cl 999 st.N),mp r2 (tb cP 999 st.B),be 162 4 s J (gb st.L)] (NF b st) (x,p,r,r2,s,J) k
def jy {R:Option PS}(O:c.R=NG b R F)(he:R=none)(hr:fY E c.fn.results.toList=some vs)(hv:tn vs=Bo false)[S:Sub L F](hds:c.n.ds=[]:=by rfl):G c (.code .ret::K) E L:=
 λa w J V=>wp_ret (cb (bf (hds:=hds) hr J (S.sat V) (by rw[O,he];exact ⟨hv,rfl⟩)))
def oP {R:Option PS}{st:PS}(O:c.R=NG b R F)(he:R=some st)(hr:fY E c.fn.results.toList=some vs)(hv:tn vs=Bo true)[S:Sub L (NF b st::F)](hds:c.n.ds=[]:=by rfl):G c (.code .ret::K) E L:=
 λa w J V=>wp_ret (cb (bf (hds:=hds) hr J (S.sat V) (by rw[O,he];exact ⟨hv,rfl⟩)))
def NH n r w:(Instr.build 187 #[(0, .agg (ga n).toArray),(1,I r)]).run Tryz.prog w= .ok (cl (rf n r)) w:=by
 simp[Instr.build,Yx,kai,XR,Xu,Instr.fill,bB,show (I r).cells=#[I r] from rfl,rf]
def V8 {k0 k1 k2 k3}:∀k v,(ga ⟨k0,k1,k2,k3,r⟩)[k]? =some v->(bc [r,k0,k1,k2,k3])[1+k]? =some [v]
 | 0,v,h=>by simpa [bc] using h
 | 1,v,h=>by simpa [bc] using h
 | 2,v,h=>by simpa [bc] using h
 | 3,v,h=>by simpa [bc] using h
 | k+4,v,h=>by simp at h
theorem Uj {y}{n:Nat}(hn:n<256)(h:(y.toNat:Int)=n):y=UInt8.ofNat n:=by
 grind[UInt8.toNat_inj,UInt8.toNat_ofNat']
def Dj {b P}(h:b=true ↔ P)(hp:P):tn [Bo b]=Bo true:=by rw[h.2 hp];rfl
def Jg {b P}(h:b=true ↔ P)(hp:¬P):tn [Bo b]=Bo false:=by
 cases b with
 | true=>exact absurd (h.1 rfl) hp
 | false=>rfl
def uk b st c(hL:st.L.length<=1000000)(hkl:c.key.length<=9223372036854775807)(hvl:c.val.length<=9223372036854775807)F:cqq 119 [ptr b 0, .agg (bg c).toArray] (tabs::NF b st::F) (NG b (ju st c) (tabs::F)):=by
 refine Ct.of func119 W 214 ntmps119 (by simp) λw0=>?_;refine A<|gI (dw (bg c).toArray) ?_;rintro _ _ ⟨b3,rfl,rfl⟩;refine T<|ac<|A<|gF 0 XJ W Xx<|gL (ay c.key) XD<|M bV<|ab<|ah ?_ ?_<;>intro h17
 ·have hX:c.key=[120]:=(by simpa using h17);refine A<|gF 1 XJ W Xx<|gL (ay c.val) XD<|gI (uB (A0:=tabs) call192 (gm (c.val) 1 (by decide) hvl)) ?_;rintro _ _ J;unfold r9 at J;rcases hn1:em 1 (c.val) with _ | l1 <;> rw[hn1] at J
  ·obtain ⟨rfl,rfl⟩:=J;refine C<|gX (sl none 0 0)<|gX (Bo false)<|gA<|T<|ac<|A<|gF 1 XJ W Xx<|gL (ay c.val) XD<|M bV<|ab<|ah ?_ ?_<;>intro S
   ·have S:c.val=[49,48,48,48]:=(by simpa using S);refine ac ?_;refine pJ b st ?_;intro x p r r2 s cc;refine al<|C<|M aa<|gF 2 XK W Xu<|gU (aJ #[ptr x 0,sl s st.L.length cc,I 1000] Xu (by simp))<|ab<|A<|T ?_;refine pK b x p r r2 s cc ({st with n:=1000}) ?_;exact oP (st:={st with n:=1000}) rfl (by unfold ju;rw[kaT hX];unfold xF;rw[kaT S]) rfl rfl
   ·have S:¬c.val=[49,48,48,48]:=(by simpa using S);refine ai<|ac<|A<|C<|ab ?_;refine dY ?_;refine ai<|A<|C<|C<|bi<|bi<|bi<|bi<|M fa<|T ?_;exact jy rfl (by unfold ju;rw[kaT hX];unfold xF;rw[kaU S,hn1]) rfl rfl
  ·obtain ⟨sa1,ca1,rfl,rfl⟩:=J;obtain ⟨v,rfl⟩:=T5 (ij hn1).1;have hvr1:=(fw hn1).2;have hln1:=(ij hn1).2;refine C<|gX (sl sa1 1 ca1)<|gX (Bo true)<|gA<|T<|ac<|A<|gF 1 XJ W Xx<|gL (ay c.val) XD<|M bV<|ab<|ah ?_ ?_<;>intro S
   ·have S:c.val=[49,48,48,48]:=(by simpa using S);refine ac ?_;refine pJ b st ?_;intro x p r r2 s cc;refine al<|C<|M aa<|gF 2 XK W Xu<|gU (aJ #[ptr x 0,sl s st.L.length cc,I 1000] Xu (by simp))<|ab<|A<|T ?_;refine pK b x p r r2 s cc ({st with n:=1000}) ?_;exact oP (st:={st with n:=1000}) rfl (by unfold ju;rw[kaT hX];unfold xF;rw[kaT S]) rfl rfl
   ·have S:¬c.val=[49,48,48,48]:=(by simpa using S);refine ai<|ac<|A<|C<|ab ?_;refine d6 ?_;refine pJ b st ?_;intro x p r r2 s cc;refine al<|C<|C<|M (av 0 XB Xu (by decide) (by simp[bc]))<|M (aI (v:=I v) Xv (by rfl) W)<|M aa<|gF 2 XK W Xu<|gU (aJ #[ptr x 0,sl s st.L.length cc,I v] Xu (by simp))<|ab<|A<|C<|C<|bh (aw 1 XJ W Xx)<|bh (aA (v:=ay c.val) XD)<|bh (cD Xz)<|bh bE<|M dc<|T ?_;by_cases h3:c.val.length=3
    ·refine pK b x p r r2 s cc ({st with n:=v}) ?_;exact oP (st:={st with n:=v}) rfl (by unfold ju;rw[kaT hX];unfold xF;rw[kaU S,hn1];simp only;rw[kaT h3]) rfl<|Dj (by simp;omega) h3
    ·exact jy rfl (by unfold ju;rw[kaT hX];unfold xF;rw[kaU S,hn1];simp only;rw[kaU h3]) rfl<|Jg (P:=c.val.length=3) (by simp;omega) h3
 ·have hX:¬c.key=[120]:=(by simpa using h17);refine ai<|ac<|A<|gF 0 XJ W Xx<|gL (ay c.key) XD<|M (cD Xz)<|M iE<|C<|gK (aw 2 XJ W XL)<|gK (aA (v:=Bo c.gone) Yp)<|M cv<|ab<|ah ?_ ?_<;>intro h51
  ·have V:c.key.length≠4\/c.gone=true:=(by simp at h51;rcases h51 with h | h;exact .inl (by omega);exact .inr h);refine A<|T ?_;exact jy rfl (by unfold ju;rw[kaU hX,kaT V]) rfl rfl
  ·have V:¬(c.key.length≠4\/c.gone=true):=(by simp at h51;rintro (h | h);exact h (by omega);rw[h51.2] at h;cases h);have hk44:c.key.length=4:=(by omega);refine ai<|A<|gF 0 XJ W Xx<|gL (ay c.key) XD<|M (tv (l:=1) Xz (by omega))<|gI (uB (A0:=tabs) call192 (gm (c.key.drop 1) 1 (by decide) (by simp;omega))) ?_;rintro _ _ J;unfold r9 at J;rcases hn0:em 1 (c.key.drop 1) with _ | l0 <;> rw[hn0] at J
   ·obtain ⟨rfl,rfl⟩:=J;refine C<|gX (sl none 0 0)<|gX (Bo false)<|gA<|T<|ac<|A<|C<|M cS<|C<|bi<|bi<|bi<|bi<|M eV<|ab<|ah ?_ ?_<;>intro h66
    ·refine A<|T ?_;exact jy rfl (by unfold ju;rw[kaU hX,kaU V,hn0]) rfl rfl
    ·cases h66
   ·obtain ⟨sa0,ca0,rfl,rfl⟩:=J;obtain ⟨id,rfl⟩:=T5 (ij hn0).1;have hvr0:=(fw hn0).2;have hln0:=(ij hn0).2;refine C<|gX (sl sa0 1 ca0)<|gX (Bo true)<|gA<|T<|ac<|A<|C<|M cS<|C<|bh ao<|bh (av 0 XB Xu (by decide) (by simp[bc]))<|bh (aI (v:=I id) Xv (by rfl) W)<|bh aG<|M cv<|ab<|ah ?_ ?_<;>intro h66
    ·have hid0:id<1:=(by simpa using h66);refine A<|T ?_;exact jy rfl (by unfold ju;rw[kaU hX,kaU V,hn0];simp only;rw[kaT hid0]) rfl rfl
    ·have R:¬id<1:=(by simpa using h66);have hidr:=hvr0 id (by simp);obtain ⟨y,hy⟩:∃y,c.key[0]? =some y:=⟨_,kbN (by omega)⟩;have Y:c.key.head? =some y:=(by rw[List.head?_eq_getElem?];exact hy);refine ai<|ac<|A<|gF 0 XJ W Xx<|gL (ay c.key) XD<|M (bW 0 Xz (by exact hy))<|ab<|ak<|A<|M bE<|T<|ah ?_ ?_<;>intro h70
     ·have h98:y=98:=Uj (n:=98) (by decide) (by simpa using h70);subst h98;refine A<|gF 1 XJ W Xx<|gL (ay c.val) XD<|gI (uB (A0:=tabs) call192 (gm (c.val) 1 (by decide) hvl)) ?_;rintro _ _ J;unfold r9 at J;rcases hn2:em 1 (c.val) with _ | l2 <;> rw[hn2] at J
      ·obtain ⟨rfl,rfl⟩:=J;refine C<|gX (sl none 0 0)<|gX (Bo false)<|gA<|T<|ac<|A<|C<|ab ?_;refine dY ?_;refine ai<|A<|C<|C<|bi<|bi<|bi<|bi<|M fa<|C<|bi<|bi<|bi<|bi<|M fa<|C<|bi<|bi<|bi<|bi<|M fa<|T ?_;exact jy rfl (by unfold ju;rw[kaU hX,kaU V,hn0];simp only;rw[kaU R,I4 Y];unfold bF;rw[show em 1 c.val=none from hn2]) rfl rfl
      ·obtain ⟨Z,ca2,rfl,rfl⟩:=J;obtain ⟨X,rfl⟩:=T5 (ij hn2).1;have hvr2:=(fw hn2).2;have hln2:=(ij hn2).2;refine C<|gX (sl Z 1 ca2)<|gX (Bo true)<|gA<|T<|ac<|A<|C<|ab ?_;refine d6 ?_;refine pJ b st ?_;intro x p r r2 s cc;refine eE (Lf:=[pcc b #[ptr x 0,sl s st.L.length cc,I st.n] 123,pcc x #[ptr p 0, .map (some r)] 231,pcc p #[.map (some r2)] 234,pcc b3 (bg c).toArray 174,be 3 1 sa0 ca0 (bc [id]),be 3 1 Z ca2 (bc [X]),mp r2 (tb cP 999 st.B)]) (plN [0,2,4,6,8,10,12,14,16,18,20,22,24,26,28,30,32,34,36,38]) 20 ?_;refine dM W<|dV W aa<|dF W 0 XK W X7<|dL W (ptr x 0) Yb<|dV W aa<|dF W 0 XX W YY<|dL W (ptr p 0) Y3<|dV W aa<|dF W 0 YN W YH<|dL W (.map (some r2)) YO<|dM W<|dV W (av 0 XB Xu (by decide) (by simp[bc]))<|dV W (aI (v:=I id) Xv (by rfl) W)<|dF W 1 XJ W Xx<|dL W (ay c.val) XD<|dV W (tv (l:=3) Xz (by omega))<|dM W<|dV W (av 0 XB Xu (by decide) (by simp[bc]))<|dV W (aI (v:=I X) Xv (by rfl) W)<|dV W (aS (sy _ W _ W)) ?_;refine aN ?_;refine io (cq Yz XA) ?_;rintro _ _ rfl;refine ab ?_;refine nG r2 (tb cP 999 (aD st.B id (some (c.val.drop 3,X)))) (oc cP (x:=(c.val.drop 3,X)) ⟨by omega,by omega⟩) ?_;refine pK b x p r r2 s cc ({st with B:=aD st.B id (some (c.val.drop 3,X))}) ?_;refine A<|C<|C<|bh ao<|bh (av 0 XB Xu (by decide) (by simp[bc]))<|bh (aI (v:=I X) Xv (by rfl) W)<|bh aQ<|M dc<|C<|gK (aw 1 XJ W Xx)<|gK (aA (v:=ay c.val) XD)<|gK (cD Xz)<|gK aQ<|M dc<|C<|gK (aw 1 XJ W Xx)<|gK (aA (v:=ay c.val) XD)<|gK (cD Xz)<|gK qe<|M dc<|T ?_;by_cases O:0<X/\3<c.val.length/\c.val.length<=9
       ·exact oP (st:={st with B:=aD st.B id (some (c.val.drop 3,X))}) rfl (by unfold ju;rw[kaU hX,kaU V,hn0];simp only;rw[kaU R,I4 Y];unfold bF;rw[show em 1 c.val=some [X] from hn2];simp only;rw[kaT O]) rfl<|Dj (by simp;omega) O
       ·exact jy rfl (by unfold ju;rw[kaU hX,kaU V,hn0];simp only;rw[kaU R,I4 Y];unfold bF;rw[show em 1 c.val=some [X] from hn2];simp only;rw[kaU O]) rfl<|Jg (P:=0<X/\3<c.val.length/\c.val.length<=9) (by simp;omega) O
     ·have h70:¬((y.toNat:Int)=98):=(by simpa using h70);refine A<|M bE<|T<|ah ?_ ?_<;>intro h118
      ·have h110:y=110:=Uj (n:=110) (by decide) (by simpa using h118);subst h110;refine A<|gF 1 XJ W Xx<|gL (ay c.val) XD<|gI (uB (A0:=tabs) call192 (gm (c.val) 5 (by decide) hvl)) ?_;rintro _ _ J;unfold r9 at J;rcases hn2:em 5 (c.val) with _ | l2 <;> rw[hn2] at J
       ·obtain ⟨rfl,rfl⟩:=J;refine C<|gX (sl none 0 0)<|gX (Bo false)<|gA<|T<|ac<|A<|C<|ab ?_;refine dY ?_;refine ai<|A<|C<|C<|bi<|bi<|bi<|bi<|M fa<|C<|bi<|bi<|bi<|bi<|M fa<|T ?_;exact jy rfl (by unfold ju;rw[kaU hX,kaU V,hn0];simp only;rw[kaU R,C8 Y];unfold nF;rw[show em 5 c.val=none from hn2]) rfl rfl
       ·obtain ⟨Z,ca2,rfl,rfl⟩:=J;obtain ⟨X,k0,k1,k2,k3,rfl⟩:=WW (ij hn2).1;have hvr2:=(fw hn2).2;have hln2:=(ij hn2).2;refine mC Z λhcap=>?_;have hcap2:1<ca2:=(by simp[bc] at hcap;omega);refine C<|gX (sl Z 5 ca2)<|gX (Bo true)<|gA<|T<|ac<|A<|C<|ab ?_;refine d6 ?_;refine pJ b st ?_;intro x p r r2 s cc;refine eE (Lf:=[pcc b #[ptr x 0,sl s st.L.length cc,I st.n] 123,pcc x #[ptr p 0, .map (some r)] 231,be 3 1 sa0 ca0 (bc [id]),be 3 1 Z ca2 (bc [X,k0,k1,k2,k3]),mp r (tb cl 999 st.N)]) jW 18 ?_;refine dM W<|dV W aa<|dF W 0 XK W X7<|dL W (ptr x 0) Yb<|dV W aa<|dF W 1 XX W Yf<|dL W (.map (some r)) Yk<|dM W<|dV W (av 0 XB Xu (by decide) (by simp[bc]))<|dV W (aI (v:=I id) Xv (by rfl) W)<|dM W<|dV W (Qp (l:=1) XB Xu W W W (by decide) hcap2)<|dV W (Tu X6 W (by decide))<|dV W (GS (s:=Z) (vs:=ga ⟨k0,k1,k2,k3,X⟩) 1 Yu XR W W (by decide) V8)<|dM W<|dV W (av 0 XB Xu (by decide) (by simp[bc]))<|dV W (aI (v:=I X) Xv (by rfl) W)<|dV W (aS (NH ⟨k0,k1,k2,k3,X⟩ X)) ?_;refine aN ?_;refine io (cq Yl XA) ?_;rintro _ _ rfl;refine ab ?_;refine nG r (tb cl 999 (aD st.N id (some ⟨k0,k1,k2,k3,X⟩))) (oc cl (x:=⟨k0,k1,k2,k3,X⟩) ⟨by omega,by omega⟩) ?_;refine pK b x p r r2 s cc ({st with N:=aD st.N id (some ⟨k0,k1,k2,k3,X⟩)}) ?_;refine A<|C<|C<|bh ao<|bh (av 0 XB Xu (by decide) (by simp[bc]))<|bh (aI (v:=I X) Xv (by rfl) W)<|bh aQ<|M dc<|C<|gK (aw 1 XJ W Xx)<|gK (aA (v:=ay c.val) XD)<|gK (cD Xz)<|gK bE<|M dc<|T ?_;by_cases O:0<X/\c.val.length=15
        ·exact oP (st:={st with N:=aD st.N id (some ⟨k0,k1,k2,k3,X⟩)}) rfl (by unfold ju;rw[kaU hX,kaU V,hn0];simp only;rw[kaU R,C8 Y];unfold nF;rw[show em 5 c.val=some [X,k0,k1,k2,k3] from hn2];simp only;rw[kaT O]) rfl<|Dj (by simp;omega) O
        ·exact jy rfl (by unfold ju;rw[kaU hX,kaU V,hn0];simp only;rw[kaU R,C8 Y];unfold nF;rw[show em 5 c.val=some [X,k0,k1,k2,k3] from hn2];simp only;rw[kaU O]) rfl<|Jg (P:=0<X/\c.val.length=15) (by simp;omega) O
      ·have h118:¬((y.toNat:Int)=110):=(by simpa using h118);refine A<|M bE<|T<|ah ?_ ?_<;>intro h158
       ·have h112:y=112:=Uj (n:=112) (by decide) (by simpa using h158);subst h112;refine A<|gF 1 XJ W Xx<|gL (ay c.val) XD<|gI (uB (A0:=tabs) call192 (gm (c.val) 3 (by decide) hvl)) ?_;rintro _ _ J;unfold r9 at J;rcases hn2:em 3 (c.val) with _ | l2 <;> rw[hn2] at J
        ·obtain ⟨rfl,rfl⟩:=J;refine C<|gX (sl none 0 0)<|gX (Bo false)<|gA<|T<|ac<|A<|C<|ab ?_;refine dY ?_;refine ai<|A<|C<|C<|bi<|bi<|bi<|bi<|M fa<|C<|bi<|bi<|bi<|bi<|M fa<|C<|bi<|bi<|bi<|bi<|M fa<|C<|bi<|bi<|bi<|bi<|M fa<|T ?_;exact jy rfl (by unfold ju;rw[kaU hX,kaU V,hn0];simp only;rw[kaU R,C9 Y];unfold pF;rw[show em 3 c.val=none from hn2]) rfl rfl
        ·obtain ⟨Z,ca2,rfl,rfl⟩:=J;obtain ⟨d0,z0,r0,rfl⟩:=WV (ij hn2).1;have hvr2:=(fw hn2).2;have hln2:=(ij hn2).2;refine C<|gX (sl Z 3 ca2)<|gX (Bo true)<|gA<|T<|ac<|A<|C<|ab ?_;refine d6 ?_;refine pJ b st ?_;intro x p r r2 s cc;refine eE (Lf:=[pcc b #[ptr x 0,sl s st.L.length cc,I st.n] 123,be 3 1 sa0 ca0 (bc [id]),be 3 1 Z ca2 (bc [d0,z0,r0])]) (plN [0,2,4,6,8,10,12,14,16,18,20,22,24,26,28,30,32,34,37,39,40,42]) 22 ?_;refine dM W<|dM W<|dV W aa<|dF W 1 XK W XS<|dL W (sl s st.L.length cc) Ya<|dM W<|dV W (av 0 XB Xu (by decide) (by simp[bc]))<|dV W (aI (v:=I id) Xv (by rfl) W)<|dM W<|dV W (av 0 XB Xu (by decide) (by simp[bc]))<|dV W (aI (v:=I d0) Xv (by rfl) W)<|dM W<|dV W (av 1 XB Xu (by decide) (by simp[bc]))<|dV W (aI (v:=I z0) Xv (by rfl) W)<|dM W<|dV W (av 2 XB Xu (by decide) (by simp[bc]))<|dV W (aI (v:=I r0) Xv (by rfl) W)<|dV W (aS (Np id d0 z0 r0))<|cQ W (ap [aW ⟨id,d0,z0,r0⟩] XP XE X4 (by simp)) ?_;rintro _ _ ⟨b185,rfl,rfl⟩;refine cQ W (aR XP XE X4 Tryz.typeInfo162 (hn:=by exact cR _) (by simp) (by simp[Go.Sl.ones,Go.Sl.one]) ⟨by omega,by decide,by decide⟩) ?_;rintro _ _ ⟨s186,c186,rfl,rfl⟩;rw[show gb st.L++ [aW ⟨id,d0,z0,r0⟩]=gb (st.L++ [⟨id,d0,z0,r0⟩]) by simp[gb]];refine dV W aa<|dF W 1 XK W XS ?_;refine aN ?_;refine gU (aJ #[ptr x 0,sl s186 (st.L.length+1) c186,I st.n] XS (by simp))<|ab ?_;rw[show st.L.length+1=(st.L++ [(⟨id,d0,z0,r0⟩:Pt)]).length by simp];refine pK b x p r r2 s186 c186 ({st with L:=st.L++ [⟨id,d0,z0,r0⟩]}) ?_;refine A<|C<|C<|bh (aw 1 XJ W Xx)<|bh (aA (v:=ay c.val) XD)<|bh (cD Xz)<|bh bE<|M dc<|C<|gK ao<|gK (av 0 XB Xu (by decide) (by simp[bc]))<|gK (aI (v:=I d0) Xv (by rfl) W)<|gK aQ<|M dc<|C<|gK ao<|gK (av 1 XB Xu (by decide) (by simp[bc]))<|gK (aI (v:=I z0) Xv (by rfl) W)<|gK aQ<|M dc<|C<|gK ao<|gK (av 1 XB Xu (by decide) (by simp[bc]))<|gK (aI (v:=I z0) Xv (by rfl) W)<|gK qe<|M dc<|T ?_
         by_cases O:c.val.length=9/\0<d0/\0<z0/\z0<=16
         ·exact oP (st:={st with L:=st.L++ [⟨id,d0,z0,r0⟩]}) rfl (by unfold ju;rw[kaU hX,kaU V,hn0];simp only;rw[kaU R,C9 Y];unfold pF;rw[show em 3 c.val=some [d0,z0,r0] from hn2];simp only;rw[kaT O]) rfl<|Dj (by simp;omega) O
         ·exact jy rfl (by unfold ju;rw[kaU hX,kaU V,hn0];simp only;rw[kaU R,C9 Y];unfold pF;rw[show em 3 c.val=some [d0,z0,r0] from hn2];simp only;rw[kaU O]) rfl<|Jg (P:=c.val.length=9/\0<d0/\0<z0/\z0<=16) (by simp;omega) O
       ·have h158:¬((y.toNat:Int)=112):=(by simpa using h158);refine ai<|aE<|A<|T ?_;exact jy rfl (by unfold ju;rw[kaU hX,kaU V,hn0];simp only;rw[kaU R];unfold LG;rw[Y,kaU (λhh=>h70 (by injection hh with hh;rw[hh];rfl)),kaU (λhh=>h118 (by injection hh with hh;rw[hh];rfl)),kaU (λhh=>h158 (by injection hh with hh;rw[hh];rfl))]) rfl rfl
end Go.Proofs.YthdjckbjjfiopabGreatDoor