/- Several texts in one: walks and rules used by them. No condition. -/
import Derived.Test.YthdjckbjjfiopabGreatDoorPartB
import Derived.Lib.Bytealg
import Derived.KernelRfl
import Derived.Test.YthdjckbjjfiopabGreatDoorPartA
import Derived.Test.YthdjckbjjfiopabGreatDoorProg
set_option linter.unusedSimpArgs false
set_option linter.unusedVariables false
set_option linter.defProp false
set_option maxHeartbeats 800000
namespace Go.Proofs.YthdjckbjjfiopabGreatDoor
open Go.Sl Go.Proofs
def cQ (D:DiskM):Prop:=D.down=false/\D.fuse= -1
def B6 {D:DiskM}(h:cQ D):wv D=0/\wy D=D:=by
 obtain ⟨k,n,w,f,d⟩:=D;obtain ⟨J,O⟩:=h;simp at J O;subst J O;exact ⟨rfl,rfl⟩
def Jh {D:DiskM}(h:cQ D){n:Int}{s:ab}(O:¬d8 D n s):wc D n s=0/\yH D n s=wP D n s:=by
 have J:=B6 h;constructor
 ·unfold wc;rw[RJ O,J.1]
 ·unfold yH;rw[RJ O,RI J.1,J.2]
def Ji {D:DiskM}(h:cQ D):wv D=0/\yJ D=iD D:=by
 have J:=B6 h;exact ⟨J.1,by unfold yJ;rw[RI J.1,J.2]⟩
def ed (N:Nat):bq->Prop
 | some x=>x.1<N/\x.2.length<=80
 | none=>True
def aO:List ab->List bq->List ab
 | L,[]=>L
 | L,some x::r=>aO (L.set x.1 (yx x.2)) r
 | L,none::r=>aO L r
def je:∀(l r:List bq) (L:List ab),aO L (l++r)=aO (aO L l) r
 | [],r,L=>rfl
 | some x::l,r,L=>je l r _
 | none::l,r,L=>je l r L
def ia:∀(l:List bq) (L:List ab),(aO L l).length=L.length
 | [],L=>rfl
 | some x::l,L=>by rw[aO,ia l,T2]
 | none::l,L=>ia l L
def vK {s:ab}(h:s.length<=80):(yx s).length=80:=by unfold yx;simp[dW];omega
def vL {N:Nat}:∀(l:List bq) (L:List ab),(∀x∈L,x.length=80)->(∀x∈l,ed N x)->∀x∈aO L l,x.length=80
 | [],L,h,_=>h
 | some y::l,L,h,D=>vL l _ (λx hx=>by
  rcases Sf hx with J | J
  ·exact h x J
  ·rw[J];exact vK (D _ (TQ ..)).2) (λx hx=>D x (Th _ hx))
 | none::l,L,h,D=>vL l L h (λx hx=>D x (Th _ hx))
def j5:∀(l:List bq) (D:DiskM),cQ D->(∀x∈l,ed D.now.length x)->(wA D l).1=0/\cQ (wA D l).2/\(wA D l).2.now=aO D.now l
 | [],D,h,_=>⟨rfl,h,rfl⟩
 | none::l,D,h,O=>by
  have J:=Ji h;rw[kP J.1,J.2];exact j5 l (iD D) h (λx hx=>O x (Th _ hx))
 | some y::l,D,h,O=>by
  obtain ⟨n,s⟩:=y;have R:=O _ (TQ ..);have J:=Jh h (n:=(n:Int)) (s:=s) (by unfold d8;have J:=R.1;have S:=R.2;simp only at J S;omega);rw[mM J.1,J.2];have:=j5 l (wP D n s) h (λx hx=>by
   have:=O x (Th _ hx);rw[show (wP D n s).now.length=D.now.length by simp[wP]];exact this)
  rw[this.2.2];exact ⟨this.1,this.2.1,rfl⟩
def yU {L:List ab}{n m:Nat}{x:ab}:(L.set n x).getD m []=if n=m/\n<L.length then x else L.getD m []:=by
 rw[Ta,Ta,Ud];split
 ·rename_i h;subst h;split
  ·rename_i D;rw[RI ⟨rfl,D⟩];rfl
  ·rename_i D;rw[RJ (λh=>D h.2),Ue (by omega)]
 ·rename_i h;rw[RJ (λJ=>h J.1)]
def sM {from_ first used:Nat}:∀(c:List ChangeM) (k:Nat) (L:List ab) (m:Nat),(m<from_+used+k\/from_+used+k+c.length<=m)->(aO L (cU from_ first used k c)).getD m []=L.getD m []
 | [],k,L,m,_=>rfl
 | x::c,k,L,m,h=>by
  rw[cU,aO,sM c (k+1) _ m (by simp at h;omega),yU,RJ (by simp at h;omega)]
def vM {from_ first used:Nat}:∀(c:List ChangeM) (k:Nat) (L:List ab) (j:Nat) (x:ChangeM),from_+used+k+c.length<=L.length->c[j]? =some x->(aO L (cU from_ first used k c)).getD (from_+used+k+j) []=yx (bP 111 (first+used+k+j) (eW x))
 | [],k,L,j,x,_,h=>by simp at h
 | y::c,k,L,0,x,D,h=>by
  simp at h D;subst h;rw[cU,aO,sM c (k+1) _ _ (by omega),yU,RI ⟨by omega,by omega⟩]
  rfl
 | y::c,k,L,j+1,x,D,h=>by
  simp at h D;rw[cU,aO];have:=vM (from_:=from_) (first:=first) (used:=used) c (k+1) (L.set (from_+used+k) (yx (bP 111 (first+used+k) (eW y)))) j x (by simp;omega) h;rw[show from_+used+k+(j+1)=from_+used+(k+1)+j by omega,show first+used+k+(j+1)=first+used+(k+1)+j by omega];exact this
def B7 {from_ first used N:Nat}:∀(c:List ChangeM) (k:Nat),from_+used+k+c.length<=N->(∀x∈c,aS x=0)->∀x∈cU from_ first used k c,ed N x
 | [],k,_,_,x,h=>by simp[cU] at h
 | y::c,k,J,D,x,h=>by
  simp at J;rw[cU] at h;rcases RR.1 h with rfl | h
  ·exact ⟨by simp only;omega,by rw[vw];have:=sG (D y (by simp));omega⟩
  ·exact B7 c (k+1) (by omega) (λx hx=>D x (Th _ hx)) x h
def sO {from_ many first used N:Nat}{c:List ChangeM}(R:from_+many<=N)(D:dA many used c=0):∀x∈cO from_ many first used c,ed N x:=by
 obtain ⟨J,O,h⟩:=lF D;intro x hx;unfold cO dX at hx;simp only[Sc,RR,Uf,or_false] at hx;rcases hx with (hx | hx) | rfl | rfl | rfl
 ·exact B7 c 0 (by omega) h x hx
 ·unfold eG at hx;split at hx
  ·simp only[Ub] at hx;subst hx;exact ⟨by simp only;omega,by simp⟩
  ·simp at hx
 ·trivial
 ·exact ⟨by simp only;omega,by rw[vw];simp[yb]⟩
 ·trivial
def Jj {from_ many first used:Nat}{c:List ChangeM}{D:DiskM}(hu:cQ D)(hS:∀x∈D.now,x.length=80)(hN:from_+many<=D.now.length)(O:dA many used c=0){out:an}(R:wu first (λi=>D.now.getD (from_+i) []) many 0 [] [] 0=(out,used)):
  dN from_ many first used c D=0/\cQ (ce from_ many first used c D)/\(∀x∈(ce from_ many first used c D).now,x.length=80)/\(ce from_ many first used c D).now.length=D.now.length/\
   wu first (λi=>(ce from_ many first used c D).now.getD (from_+i) []) many 0 [] [] 0=(out++ [c],used+c.length+1):=by
 obtain ⟨h1,h2,X⟩:=lF O;have hok:=sO (first:=first) hN O;obtain ⟨r1,r2,r3⟩:=j5 _ D hu hok;have Z:dN from_ many first used c D=0:=by unfold dN;rw[RI O,r1]
 have Y:ce from_ many first used c D=(wA D (cO from_ many first used c)).2:=by unfold ce;rw[RI O]
 rw[Y,r3];refine ⟨Z,r2,vL _ _ hS hok,ia _ _,?_⟩;have hL:aO D.now (cO from_ many first used c)=aO (aO (aO D.now (cU from_ first used 0 c)) (eG from_ many used c.length)) [fh from_ first used c.length]:=by
  unfold cO dX;rw[je,je];rfl
 rw[hL];generalize h:aO D.now (cU from_ first used 0 c)=L1;have l1:L1.length=D.now.length:=(by rw[<-h,ia]);have S:∀m,m≠from_+(used+c.length+1)->(aO L1 (eG from_ many used c.length)).getD m []=L1.getD m []:=λm V=>by
  unfold eG;split
  ·rw[aO,aO,yU,RJ (by simp only;omega)]
  ·rfl
 have J:∀(L:List ab) m,(aO L [fh from_ first used c.length]).getD m []=if from_+(used+c.length)=m/\from_+(used+c.length)<L.length then yx (bP 99 (first+(used+c.length)) (yb c.length)) else L.getD m []:=λL m=>by
  unfold fh;rw[aO,aO,yU]
 have l2:(aO L1 (eG from_ many used c.length)).length=L1.length:=ia _ _;refine BV R X (by omega) (by omega) (λj hj=>?_) (λk x hx=>?_) ?_ (λV=>?_)
 ·rw[J,RJ (by omega),S _ (by omega),<-h,sM _ _ _ _ (by omega)]
 ·have hk:=(Re.1 hx).1;rw[J,RJ (by omega),S _ (by omega),<-h,show from_+(used+k)=from_+used+0+k by omega,vM c 0 _ k x (by omega) hx,show first+used+0+k=first+(used+k) by omega]
 ·rw[J,RI ⟨rfl,by omega⟩]
 ·rw[J,RJ (by omega)];unfold eG;rw[RI V,aO,aO,yU,RI ⟨rfl,by simp only;omega⟩]
def kQ (first j:Nat)(s:ab):Prop:=∃t,cC (first+j) s=some (99,t)
def db (K:List ab)(from_ i:Nat):ab:=K.getD (from_+i) []
def eH (from_ many first:Nat)(K:List ab)(ds:an)(used:Nat):Prop:=wu first (db K from_) many 0 [] [] 0=(ds,used)/\∀j,used<=j->j<many->¬kQ first j (db K from_ j)
def vN {first:Nat}{J:Nat->ab}:∀(f i:Nat) (out:an) (D:List ChangeM) (used:Nat),(∀j,i<=j->j<i+f->¬kQ first j (J j))->wu first J f i out D used=(out,used)
 | 0,i,out,D,used,_=>rfl
 | f+1,i,out,D,used,h=>by
  have O:=h i (by omega) (by omega);rw[hO];cases S:cC (first+i) (J i) with
  | none=>rfl
  | some V=>
   obtain ⟨k,t⟩:=V;simp only;split
   ·rename_i R;subst R;exact absurd ⟨t,S⟩ O
   ·split
    ·exact vN f (i+1) out _ used (λj X Y=>h j (by omega) (by omega))
    ·rfl
def B8 {first:Nat}{D:Nat->ab}{many:Nat}{ds:an}{used:Nat}(h:wu first D many 0 [] [] 0=(ds,used)):used<=many:=by
 rcases oo many 0 [] [] 0 ds used h with ⟨h1,_⟩ | ⟨h1,_⟩ <;> omega
def vO {from_ many first:Nat}{K D:List ab}{ds:an}{used:Nat}(h:eH from_ many first K ds used)(V:∀j,j<used->db D from_ j=db K from_ j)(X:∀j,used<=j->j<many->db D from_ j=db K from_ j\/¬kQ first j (db D from_ j)):eH from_ many first D ds used:=by
 have J:∀j,used<=j->j<many->¬kQ first j (db D from_ j):=λj a b=>by
  rcases X j a b with e | e
  ·rw[e];exact h.2 j a b
  ·exact e
 refine ⟨?_,J⟩;have Z:=B8 h.1;rcases oo many 0 [] [] 0 ds used h.1 with ⟨O,R⟩ | ⟨_,S⟩
 ·subst O R;exact vN many 0 [] [] 0 (λj a b=>J j a (by omega))
 ·rw[S (db D from_) (λj _ Y=>V j Y)];exact vN _ _ _ _ _ (λj a b=>J j a (by omega))
def sP {keep:Int}{w:List (Nat×ab)}{K:List ab}:∀k (m:Nat),(hJ keep w K k).getD m []=K.getD m []\/∃t∈w,t.1=m/\(hJ keep w K k).getD m []=t.2
 | 0,m=> .inl rfl
 | k+1,m=>by
  have D:=sP (keep:=keep) (w:=w) (K:=K) k m;unfold hJ;cases J:w[k]? with
  | none=>exact D
  | some t=>
   simp only;split
   ·rw[yU];split
    ·rename_i h;exact .inr ⟨t,R5 J,h.1,rfl⟩
    ·exact D
   ·exact D
def lG (from_ first used:Nat)(t:Nat×ab):Prop:=∃j,used<=j/\t.1=from_+j/\¬kQ first j t.2
def B9 {from_ many first:Nat}{D:DiskM}{ds:an}{used:Nat}(keep:Int)(h:eH from_ many first D.kept ds used)(R:∀t∈D.wait,lG from_ first used t):eH from_ many first (dz keep D) ds used:=by
 refine vO h (λj hj=>?_) (λj Z h2=>?_)
 ·rcases sP (keep:=keep) (w:=D.wait) (K:=D.kept) D.wait.length (from_+j) with e | ⟨t,J,e,_⟩
  ·exact e
  ·obtain ⟨O,V,X,_⟩:=R t J;omega
 ·rcases sP (keep:=keep) (w:=D.wait) (K:=D.kept) D.wait.length (from_+j) with e | ⟨t,J,e,S⟩
  ·exact .inl e
  ·obtain ⟨O,V,X,Y⟩:=R t J;obtain rfl:O=j:=(by omega);right;rw[show db (dz keep D) from_ O=t.2 from S];exact Y
def Ca {D:DiskM}(h:wv D=0):D.down=false/\(wy D).down=false:=by
 unfold wv at h;split at h
 ·cases h
 ·rename_i J;have hd:D.down=false:=(by cases hd:D.down with | false=>rfl | true=>exact absurd (.inl hd) J);have O:¬D.fuse=0:=λe=>J (.inr e);refine ⟨hd,?_⟩;unfold wy;rw[RJ (by rw[hd];decide),RJ O];exact hd
def Cb {from_ first used:Nat}:∀(l:List bq) (D:DiskM) (e:Int) (O:DiskM),(∀x∈l,ed D.now.length x)->(∀x∈l,∃t,x=some t/\lG from_ first used (t.1,yx t.2))->(∀t∈D.wait,lG from_ first used t)->D.down=false->wA D l=(e,O)->
  (e=0\/e=9)/\O.kept=D.kept/\(∀t∈O.wait,lG from_ first used t)/\(e=0->O.now=aO D.now l/\O.down=false)
 | [],D,e,O,_,_,hw,hd,h=>by injection h with Y Z;subst Y Z;exact ⟨.inl rfl,rfl,hw,λ_=>⟨rfl,hd⟩⟩
 | none::l,D,e,O,_,ht,_,_,_=>by obtain ⟨t,h,_⟩:=ht none (TQ ..);cases h
 | some y::l,D,e,O,ho,ht,hw,hd,h=>by
  obtain ⟨n,s⟩:=y;have hy:=ho _ (TQ ..);obtain ⟨t,et,htm⟩:=ht _ (TQ ..);injection et with et;subst et;have hb:¬d8 D (n:Int) s:=(by unfold d8;have Y:=hy.1;have Z:=hy.2;simp only at Y Z;omega);by_cases X:wv D=0
  ·have R:wc D (n:Int) s=0:=(by unfold wc;rw[RJ hb,X]);have V:yH D (n:Int) s=wP (wy D) n s:=(by unfold yH;rw[RJ hb,RI X]);rw[mM R,V] at h;have S:(wP (wy D) n s).now=D.now.set n (yx s):=(by simp[wP,wV]);have:=Cb l (wP (wy D) n s) e O (λx hx=>by rw[S,T2];exact ho x (Th _ hx)) (λx hx=>ht x (Th _ hx)) (λt J=>by
    simp only[wP,Sc,Ub,wM] at J;rcases J with J | rfl
    ·exact hw t J
    ·exact htm) (Ca X).2 h
   rw[S,show (wP (wy D) n s).kept=D.kept from wq D] at this;exact this
  ·have R:wc D (n:Int) s=wv D:=(by unfold wc;rw[RJ hb]);have V:yH D (n:Int) s=wy D:=(by unfold yH;rw[RJ hb,RJ X]);rw[mN (by rw[R];exact X),R,V] at h;injection h with Y Z;subst Y Z;refine ⟨kO D,wq D,λt J=>hw t (by rw[wM] at J;exact J),λh=>absurd h X⟩
def Cc {from_ first used:Nat}:∀(c:List ChangeM) (k:Nat),(∀x∈c,aS x=0)->∀x∈cU from_ first used k c,∃t,x=some t/\lG from_ first used (t.1,yx t.2)
 | [],k,_,x,h=>by simp[cU] at h
 | y::c,k,J,x,h=>by
  rw[cU] at h;rcases RR.1 h with rfl | h
  ·refine ⟨_,rfl,used+k,by omega,RO _ _ _,λO=>?_⟩;obtain ⟨t,D⟩:=O;rw[show first+(used+k)=first+used+k by omega,vv (.inl rfl) (by have:=sG (J y (by simp));omega)] at D;injection D with D;injection D with D;cases D
  ·exact Cc c (k+1) (λx hx=>J x (Th _ hx)) x h
def Jk {from_ many first used:Nat}{c:List ChangeM}(D:∀x∈c,aS x=0):∀x∈dX from_ many first used c,∃t,x=some t/\lG from_ first used (t.1,yx t.2):=by
 intro x hx;unfold dX at hx;rcases Sc.1 hx with hx | hx
 ·exact Cc c 0 D x hx
 ·unfold eG at hx;split at hx
  ·rw[Ub] at hx;subst hx;exact ⟨_,rfl,used+c.length+1,by omega,rfl,λJ=>by obtain ⟨t,h⟩:=J;rw[om] at h;cases h⟩
  ·simp at hx
def Cd {from_ first used:Nat}:∀(l:List bq) (K:List ab),(∀x∈l,∃t,x=some t/\lG from_ first used (t.1,yx t.2))->(∀j,j<used->db (aO K l) from_ j=db K from_ j)/\(∀j,used<=j->db (aO K l) from_ j=db K from_ j\/¬kQ first j (db (aO K l) from_ j))
 | [],K,_=>⟨λ_ _=>rfl,λ_ _=> .inl rfl⟩
 | none::l,K,h=>by obtain ⟨t,h,_⟩:=h none (TQ ..);cases h
 | some y::l,K,h=>by
  obtain ⟨n,s⟩:=y;obtain ⟨t,D,X,Y,V,O⟩:=h _ (TQ ..);injection D with D;subst D;simp only at V O;have S:=Cd l (K.set n (yx s)) (λx hx=>h x (Th _ hx));have R:∀j,db (K.set n (yx s)) from_ j=if n=from_+j/\n<K.length then yx s else db K from_ j:=λj=>yU
  refine ⟨λj J=>?_,λj J=>?_⟩
  ·rw[aO,S.1 j J,R,RJ (by omega)]
  ·rw[aO];rcases S.2 j J with e | e
   ·rw[e,R];split
    ·rename_i Z;obtain rfl:X=j:=(by omega);exact .inr O
    ·exact .inl rfl
   ·exact .inr e
def calm (D:DiskM):Prop:=D.kept=D.now/\D.wait=[]/\D.down=false
def mP {D:DiskM}(h:wv D=0):calm (yJ D)/\(yJ D).now=D.now:=by
 unfold yJ;rw[RI h];exact ⟨⟨rfl,rfl,(Ca h).2⟩,wV D⟩
def Jl {from_ many first used:Nat}{c:List ChangeM}{D:DiskM}{ds:an}(hq:calm D)(hN:from_+many<=D.now.length)(hv:dA many used c=0)(hs:eH from_ many first D.now ds used){e:Int}{D':DiskM}(S:wA D (cO from_ many first used c)=(e,D')):
  (e=0/\calm D'/\eH from_ many first D'.now (ds++ [c]) (used+c.length+1))\/(e=9/\∀keep,∃u,eH from_ many first (dz keep D') ds u\/eH from_ many first (dz keep D') (ds++ [c]) u):=by
 obtain ⟨v1,v2,v3⟩:=lF hv;have hok:=sO (first:=first) hN hv;have hokL:∀x∈dX from_ many first used c,ed D.now.length x:=λx hx=>hok x (by unfold cO;exact Ug _ hx)
 have htm:=Jk (from_:=from_) (many:=many) (first:=first) (used:=used) v3;cases O:wA D (dX from_ many first used c) with
 | mk e1 D1=>
  obtain ⟨hc1,hk1,hw1,ho1⟩:=Cb _ D e1 D1 hokL htm (by rw[hq.2.1];intro t ht;cases ht) hq.2.2 O;have hs1:eH from_ many first D1.kept ds used:=by rw[hk1,hq.1];exact hs
  have V:∀J:DiskM,J.kept=D1.kept->J.wait=D1.wait->∀keep,∃u,eH from_ many first (dz keep J) ds u\/eH from_ many first (dz keep J) (ds++ [c]) u:=λJ a b keep=>
   ⟨used, .inl (B9 keep (by rw[a];exact hs1) (by rw[b];exact hw1))⟩
  unfold cO at S;rw[lE,O] at S;simp only at S;by_cases Z:e1=0
  ·rw[RI Z] at S;obtain ⟨X,hdn⟩:=ho1 Z;by_cases h2:wv D1=0
   ·rw[kP h2] at S;obtain ⟨hq2,hn2⟩:=mP h2;generalize hD2:yJ D1=J at*;have hl2:J.now.length=D.now.length:=(by rw[hn2,X,ia]);have hs2:eH from_ many first J.now ds used:=by
     rw[hn2,X];have:=Cd _ D.now htm;exact vO hs this.1 (λj a _=>this.2 j a)
    have hfin:eH from_ many first (J.now.set (from_+(used+c.length)) (yx (bP 99 (first+(used+c.length)) (yb c.length)))) (ds++ [c]) (used+c.length+1):=by
     have hg:∀m,(J.now.set (from_+(used+c.length)) (yx (bP 99 (first+(used+c.length)) (yb c.length)))).getD m []=if from_+(used+c.length)=m/\from_+(used+c.length)<J.now.length then yx (bP 99 (first+(used+c.length)) (yb c.length)) else J.now.getD m []:=λm=>yU
     have hn:J.now=aO (aO D.now (cU from_ first used 0 c)) (eG from_ many used c.length):=(by rw[hn2,X];unfold dX;rw[je]);have hb:∀m,m≠from_+(used+c.length+1)->J.now.getD m []=(aO D.now (cU from_ first used 0 c)).getD m []:=λm hm=>by
      rw[hn];unfold eG;split
      ·rw[aO,aO,yU,RJ (by simp only;omega)]
      ·rfl
     have hbl:used+c.length+1<many->J.now.getD (from_+(used+c.length+1)) []=yx []:=λhm=>by
      rw[hn];unfold eG;rw[RI hm,aO,aO,yU,RI ⟨rfl,by simp only[ia];omega⟩]
     refine ⟨?_,λj h1 h2'=>?_⟩
     ·refine BV hs.1 v3 (by omega) (by omega) (λj hj=>?_) (λk x hx=>?_) ?_ (λhm=>?_)
      ·show List.getD _ _ _=List.getD _ _ _;rw[hg,RJ (by omega),hb _ (by omega),sM _ _ _ _ (by omega)]
      ·have hk:=(Re.1 hx).1;show List.getD _ _ _=_;rw[hg,RJ (by omega),hb _ (by omega),show from_+(used+k)=from_+used+0+k by omega,vM c 0 _ k x (by omega) hx,show first+used+0+k=first+(used+k) by omega]
      ·show List.getD _ _ _=_;rw[hg,RI ⟨rfl,by omega⟩]
      ·show List.getD _ _ _=_;rw[hg,RJ (by omega)];exact hbl hm
     ·show ¬kQ first j (List.getD _ _ _)
      rw[hg,RJ (by omega)];exact hs2.2 j (by omega) h2'
    have Y:¬d8 J ((from_+(used+c.length):Nat):Int) (bP 99 (first+(used+c.length)) (yb c.length)):=(by unfold d8;rw[vw];simp only[yb,RX,Uh];omega);unfold fh at S;by_cases h3:wv J=0
    ·have hwe:wc J ((from_+(used+c.length):Nat):Int) (bP 99 (first+(used+c.length)) (yb c.length))=0:=(by unfold wc;rw[RJ Y,h3]);rw[mM hwe] at S;have hwd:yH J ((from_+(used+c.length):Nat):Int) (bP 99 (first+(used+c.length)) (yb c.length))=wP (wy J) ((from_+(used+c.length):Nat):Int) (bP 99 (first+(used+c.length)) (yb c.length)):=(by unfold yH;rw[RJ Y,RI h3]);rw[hwd] at S;have hn3:(wP (wy J) ((from_+(used+c.length):Nat):Int) (bP 99 (first+(used+c.length)) (yb c.length))).now=J.now.set (from_+(used+c.length)) (yx (bP 99 (first+(used+c.length)) (yb c.length))):=by
      show (wy J).now.set (((from_+(used+c.length):Nat):Int)).toNat _=_;rw[wV,Ui]
     have hk3:(wP (wy J) ((from_+(used+c.length):Nat):Int) (bP 99 (first+(used+c.length)) (yb c.length))).kept=J.now:=(by rw[<-hq2.1];exact wq J);have hw3:(wP (wy J) ((from_+(used+c.length):Nat):Int) (bP 99 (first+(used+c.length)) (yb c.length))).wait=[(from_+(used+c.length),yx (bP 99 (first+(used+c.length)) (yb c.length)))]:=by
      show (wy J).wait++ [((((from_+(used+c.length):Nat):Int)).toNat,_)]=_;rw[wM,hq2.2.1,Ui]
      rfl
     generalize wP (wy J) ((from_+(used+c.length):Nat):Int) (bP 99 (first+(used+c.length)) (yb c.length))=D3 at*;by_cases h4:wv D3=0
     ·rw[kP h4,mO] at S;injection S with O R;subst O R;obtain ⟨hq4,hn4⟩:=mP h4;exact .inl ⟨rfl,hq4,by rw[hn4,hn3];exact hfin⟩
     ·rw[lD h4] at S;injection S with O R;subst O R;right;have hst:yJ D3=wy D3:=(by unfold yJ;rw[RJ h4]);refine ⟨by rcases kO D3 with h | h;exact absurd h h4;exact h,λkeep=>?_⟩;rw[hst];have hres:dz keep (wy D3)=J.now\/dz keep (wy D3)=J.now.set (from_+(used+c.length)) (yx (bP 99 (first+(used+c.length)) (yb c.length))):=by
       unfold dz;rw[wM,wq,hk3,hw3];simp only[List.length_singleton,hJ,Uj];split
       ·exact .inr rfl
       ·exact .inl rfl
      rcases hres with h | h
      ·rw[h];exact ⟨_, .inl hs2⟩
      ·rw[h];exact ⟨_, .inr hfin⟩
    ·have hwe:wc J ((from_+(used+c.length):Nat):Int) (bP 99 (first+(used+c.length)) (yb c.length))=wv J:=(by unfold wc;rw[RJ Y]);have hwd:yH J ((from_+(used+c.length):Nat):Int) (bP 99 (first+(used+c.length)) (yb c.length))=wy J:=(by unfold yH;rw[RJ Y,RJ h3]);rw[mN (by rw[hwe];exact h3),hwe,hwd] at S;injection S with O R;subst O R;right;refine ⟨by rcases kO J with h | h;exact absurd h h3;exact h,λkeep=>⟨used, .inl ?_⟩⟩;exact B9 keep (by rw[wq,hq2.1];exact hs2) (by rw[wM,hq2.2.1];intro t ht;cases ht)
   ·rw[lD h2] at S;injection S with O R;subst O R;have hst:yJ D1=wy D1:=(by unfold yJ;rw[RJ h2]);rw[hst];exact .inr ⟨by rcases kO D1 with h | h;exact absurd h h2;exact h,V _ (wq D1) (wM D1)⟩
  ·rw[RJ Z] at S;injection S with O R;subst O R;exact .inr ⟨by rcases hc1 with h | h;exact absurd h Z;exact h,V _ rfl rfl⟩
open _root_.Go.Proofs.Tryz
def gn (n:Nat):IntKind.u8.wrap (n:Int)=((n % 256:Nat):Int):=by
 show (n:Int) % 2 ^ 8=_;omega
def kS (n k:Nat):((n:Int)).fdiv (k:Int)=((n / k:Nat):Int):=by
 rw[SV _ (by omega)];rfl
def Ce (n:Nat):[[By ((n % 256:Nat):Int)],[By ((n / 256 % 256:Nat):Int)],[By ((n / 65536 % 256:Nat):Int)],[By ((n / 16777216 % 256:Nat):Int)]]=qq (yb n):=by
 simp only[qq,yb,Rv,RC,UInt8.toNat_ofNat']
def ot (n:Nat):[[By ((n % 256:Nat):Int)],[By ((n / 256 % 256:Nat):Int)]]=qq [UInt8.ofNat n,UInt8.ofNat (n / 256)]:=by
 simp only[qq,Rv,RC,UInt8.toNat_ofNat']
def ou:Option (UInt8×ab)->Value
 | none=> .tuple #[By 0,ac [],Bo false]
 | some (k,t)=> .tuple #[By k.toNat,ac t,Bo true]
abbrev aC (bd from_ many first next:Nat):Array Value:=#[ptr bd 0,I from_,I many,I first,I next]
def ov {l:List ab}{i:Nat}(h:i<l.length):l[i]? =some (l.getD i []):=by rw[Ta,S6 h];rfl
def ox {l:List ab}{i:Nat}(h:i<l.length)(D:∀x∈l,x.length=80):(l.getD i []).length=80:=D _ (R5 (ov h))
def Jm (s:ab):gk s<=65535:=by unfold gk;have:=(sk s 5).toNat_lt;have:=(sk s 6).toNat_lt;omega
def Cf (s:ab)(i:Nat)(k:UInt8):((sk s i).toNat:Int)=(k.toNat:Int) ↔ sk s i=k:=by
 constructor
 ·intro h;exact UInt8.toNat_inj.1 (by omega)
 ·intro h;rw[h]
def kT (n:Nat)(F:List aa):Ct Tryz.prog 184 [I n] (F) (R1 (ac (yb n)) F):=by
 refine Ct.of func184 rR 16 ntmps184 (by simp) λw0=>?_;refine gS (gQ rR (gS (gM rR (gV (yS (r:=((n % 256:Nat):Int)) OL OU rR (gn _)) (gM rR (gV (fA (r:=((n / 256:Nat):Int)) rR rR (by decide) (kS n 256)) (gV (yS (r:=((n / 256 % 256:Nat):Int)) OL OU rR (gn _)) (gM rR (gV (fA (r:=((n / 65536:Nat):Int)) rR rR (by decide) (kS n 65536)) (gV (yS (r:=((n / 65536 % 256:Nat):Int)) OL OU rR (gn _)) (gM rR (gV (fA (r:=((n / 16777216:Nat):Int)) rR rR (by decide) (kS n 16777216)) (gV (yS (r:=((n / 16777216 % 256:Nat):Int)) OL OU rR (gn _)) (gI (qj (qq (yb n)) OW Pi Pu rR rR (Ce n) (by simp[qq]) (by decide) (by decide)) ?_))))))))))))));rintro _ _ ⟨h,rfl,rfl⟩;refine gV (yg (l:=yb n) OW OU OM rR rR rR) (gQ rR ?_);refine ql rR rR ?_;exact rfl
-- counterfoil/counterfoilref.four is not in this seat
def Cg (kind:UInt8)(n:Nat)(s:ab)(J:s.length<=1000000)(F:List aa):Ct Tryz.prog 243 [By kind.toNat,I n,ac s] (F) (R1 (ac (bP kind n s)) F):=by
 refine Ct.of func243 rR 25 ntmps243 (by simp) λw0=>?_;refine gS (gQ rR (qb ?_));refine mF (Lf:=[]) (.q 0 (.q 3 (.q 6 (.q 7 (.q 8 (.q 9 (.q 10 (.q 11 (.q 12 (.q 16 (.alt (.l 1 (.c (.q 2 (.alt (.l 4 (.q 5 (.l 13 (.c (.q 14 (.q 15 (.q 17 (.q 18 (.nil))))))))) (.l 13 (.c (.q 14 (.l 4 (.q 5 (.q 15 (.q 17 (.q 18 (.nil))))))))))))) (.alt (.l 4 (.alt (.l 1 (.c (.q 2 (.q 5 (.l 13 (.c (.q 14 (.q 15 (.q 17 (.q 18 (.nil))))))))))) (.l 13 (.c (.q 14 (.l 1 (.c (.q 2 (.q 5 (.q 15 (.q 17 (.q 18 (.nil))))))))))))) (.l 13 (.c (.q 14 (.alt (.l 1 (.c (.q 2 (.l 4 (.q 5 (.q 15 (.q 17 (.q 18 (.nil))))))))) (.l 4 (.l 1 (.c (.q 2 (.q 5 (.q 15 (.q 17 (.q 18 (.nil))))))))))))))))))))))))) (by kernel_rfl) (by kernel_rfl) (by kernel_rfl) ?_;refine ar rR (qn rR) rR ?_;refine ar rR (qn rR) rR ?_;refine ar rR (qn rR) rR ?_;refine ar rR (yZ OM rR) rR ?_;refine ar rR (yS (r:=((s.length % 256:Nat):Int)) OL OU rR (gn _)) rR ?_;refine ar rR (qn rR) rR ?_;refine ar rR (yZ OM rR) rR ?_;refine ar rR (fA (r:=((s.length / 256:Nat):Int)) rR rR (by decide) (kS s.length 256)) rR ?_;refine ar rR (yS (r:=((s.length / 256 % 256:Nat):Int)) OL OU rR (gn _)) rR ?_;refine ar rR (qn rR) rR ?_;refine gh ?_ ?_
 ·refine be rR (qj (qq ([kind])) OW Pi Pu rR rR (rR) (by simp[qq]) (by decide) (by decide)) rR ?_;rintro _ _ ⟨D,rfl,rfl⟩;refine fo ([ai 5 1 (some ⟨D,0,none⟩) 1 (qq [kind])]) ?_;refine ar rR (yg (l:=[kind]) OW OU OM rR rR rR) rR ?_;refine gh ?_ ?_
  ·refine be rR (uA call184 rR (kT n)) rR ?_;rintro _ _ ⟨rfl,rfl⟩;refine ar rR (wj rR rR (by simp[yb] <;> omega)) rR ?_;refine be rR (qj (qq ([UInt8.ofNat s.length,UInt8.ofNat (s.length / 256)])) OW Pi Pu rR rR (ot s.length) (by simp[qq]) (by decide) (by decide)) rR ?_;rintro _ _ ⟨h,rfl,rfl⟩;refine fo ([ai 5 1 (some ⟨h,0,none⟩) 2 (qq [UInt8.ofNat s.length,UInt8.ofNat (s.length / 256)]),ai 5 1 (some ⟨D,0,none⟩) 1 (qq [kind])]) ?_;refine ar rR (yg (l:=[UInt8.ofNat s.length,UInt8.ofNat (s.length / 256)]) OW OU OM rR rR rR) rR ?_;refine ar rR (wj rR rR (by simp[yb])) rR ?_;refine ar rR (wj rR rR (by simp[yb];omega)) rR ?_;refine ar rR (qt rR) rR ?_;refine eE ?_;refine ql rR rR ?_;exact rfl
  ·refine be rR (qj (qq ([UInt8.ofNat s.length,UInt8.ofNat (s.length / 256)])) OW Pi Pu rR rR (ot s.length) (by simp[qq]) (by decide) (by decide)) rR ?_;rintro _ _ ⟨h,rfl,rfl⟩;refine fo ([ai 5 1 (some ⟨h,0,none⟩) 2 (qq [UInt8.ofNat s.length,UInt8.ofNat (s.length / 256)]),ai 5 1 (some ⟨D,0,none⟩) 1 (qq [kind])]) ?_;refine ar rR (yg (l:=[UInt8.ofNat s.length,UInt8.ofNat (s.length / 256)]) OW OU OM rR rR rR) rR ?_;refine be rR (uA call184 rR (kT n)) rR ?_;rintro _ _ ⟨rfl,rfl⟩;refine ar rR (wj rR rR (by simp[yb] <;> omega)) rR ?_;refine ar rR (wj rR rR (by simp[yb])) rR ?_;refine ar rR (wj rR rR (by simp[yb];omega)) rR ?_;refine ar rR (qt rR) rR ?_;refine eE ?_;refine ql rR rR ?_;exact rfl
 refine gh ?_ ?_
 ·refine be rR (uA call184 rR (kT n)) rR ?_;rintro _ _ ⟨rfl,rfl⟩;refine gh ?_ ?_
  ·refine be rR (qj (qq ([kind])) OW Pi Pu rR rR (rR) (by simp[qq]) (by decide) (by decide)) rR ?_;rintro _ _ ⟨D,rfl,rfl⟩;refine fo ([ai 5 1 (some ⟨D,0,none⟩) 1 (qq [kind])]) ?_;refine ar rR (yg (l:=[kind]) OW OU OM rR rR rR) rR ?_;refine ar rR (wj rR rR (by simp[yb] <;> omega)) rR ?_;refine be rR (qj (qq ([UInt8.ofNat s.length,UInt8.ofNat (s.length / 256)])) OW Pi Pu rR rR (ot s.length) (by simp[qq]) (by decide) (by decide)) rR ?_;rintro _ _ ⟨h,rfl,rfl⟩;refine fo ([ai 5 1 (some ⟨h,0,none⟩) 2 (qq [UInt8.ofNat s.length,UInt8.ofNat (s.length / 256)]),ai 5 1 (some ⟨D,0,none⟩) 1 (qq [kind])]) ?_;refine ar rR (yg (l:=[UInt8.ofNat s.length,UInt8.ofNat (s.length / 256)]) OW OU OM rR rR rR) rR ?_;refine ar rR (wj rR rR (by simp[yb])) rR ?_;refine ar rR (wj rR rR (by simp[yb];omega)) rR ?_;refine ar rR (qt rR) rR ?_;refine eE ?_;refine ql rR rR ?_;exact rfl
  ·refine be rR (qj (qq ([UInt8.ofNat s.length,UInt8.ofNat (s.length / 256)])) OW Pi Pu rR rR (ot s.length) (by simp[qq]) (by decide) (by decide)) rR ?_;rintro _ _ ⟨h,rfl,rfl⟩;refine fo ([ai 5 1 (some ⟨h,0,none⟩) 2 (qq [UInt8.ofNat s.length,UInt8.ofNat (s.length / 256)])]) ?_;refine ar rR (yg (l:=[UInt8.ofNat s.length,UInt8.ofNat (s.length / 256)]) OW OU OM rR rR rR) rR ?_;refine be rR (qj (qq ([kind])) OW Pi Pu rR rR (rR) (by simp[qq]) (by decide) (by decide)) rR ?_;rintro _ _ ⟨D,rfl,rfl⟩;refine fo ([ai 5 1 (some ⟨D,0,none⟩) 1 (qq [kind]),ai 5 1 (some ⟨h,0,none⟩) 2 (qq [UInt8.ofNat s.length,UInt8.ofNat (s.length / 256)])]) ?_;refine ar rR (yg (l:=[kind]) OW OU OM rR rR rR) rR ?_;refine ar rR (wj rR rR (by simp[yb] <;> omega)) rR ?_;refine ar rR (wj rR rR (by simp[yb])) rR ?_;refine ar rR (wj rR rR (by simp[yb];omega)) rR ?_;refine ar rR (qt rR) rR ?_;refine eE ?_;refine ql rR rR ?_;exact rfl
 ·refine be rR (qj (qq ([UInt8.ofNat s.length,UInt8.ofNat (s.length / 256)])) OW Pi Pu rR rR (ot s.length) (by simp[qq]) (by decide) (by decide)) rR ?_;rintro _ _ ⟨h,rfl,rfl⟩;refine fo ([ai 5 1 (some ⟨h,0,none⟩) 2 (qq [UInt8.ofNat s.length,UInt8.ofNat (s.length / 256)])]) ?_;refine ar rR (yg (l:=[UInt8.ofNat s.length,UInt8.ofNat (s.length / 256)]) OW OU OM rR rR rR) rR ?_;refine gh ?_ ?_
  ·refine be rR (qj (qq ([kind])) OW Pi Pu rR rR (rR) (by simp[qq]) (by decide) (by decide)) rR ?_;rintro _ _ ⟨D,rfl,rfl⟩;refine fo ([ai 5 1 (some ⟨D,0,none⟩) 1 (qq [kind]),ai 5 1 (some ⟨h,0,none⟩) 2 (qq [UInt8.ofNat s.length,UInt8.ofNat (s.length / 256)])]) ?_;refine ar rR (yg (l:=[kind]) OW OU OM rR rR rR) rR ?_;refine be rR (uA call184 rR (kT n)) rR ?_;rintro _ _ ⟨rfl,rfl⟩;refine ar rR (wj rR rR (by simp[yb] <;> omega)) rR ?_;refine ar rR (wj rR rR (by simp[yb])) rR ?_;refine ar rR (wj rR rR (by simp[yb];omega)) rR ?_;refine ar rR (qt rR) rR ?_;refine eE ?_;refine ql rR rR ?_;exact rfl
  ·refine be rR (uA call184 rR (kT n)) rR ?_;rintro _ _ ⟨rfl,rfl⟩;refine be rR (qj (qq ([kind])) OW Pi Pu rR rR (rR) (by simp[qq]) (by decide) (by decide)) rR ?_;rintro _ _ ⟨D,rfl,rfl⟩;refine fo ([ai 5 1 (some ⟨D,0,none⟩) 1 (qq [kind]),ai 5 1 (some ⟨h,0,none⟩) 2 (qq [UInt8.ofNat s.length,UInt8.ofNat (s.length / 256)])]) ?_;refine ar rR (yg (l:=[kind]) OW OU OM rR rR rR) rR ?_;refine ar rR (wj rR rR (by simp[yb] <;> omega)) rR ?_;refine ar rR (wj rR rR (by simp[yb])) rR ?_;refine ar rR (wj rR rR (by simp[yb];omega)) rR ?_;refine ar rR (qt rR) rR ?_;refine eE ?_;refine ql rR rR ?_;exact rfl
def Ch (bl h from_ many first next:Nat)(D:next<=many/\many<=1000000)(F:List aa):Ct Tryz.prog 179 [ptr bl 0] (pt bl (.cells (aC h from_ many first (next)) 273 (0,0))::F) (R1 (I ((many - next:Nat):Int)) (pt bl (.cells (aC h from_ many first (next)) 273 (0,0))::F)):=by
 refine Ct.of func179 rR 12 ntmps179 (by simp) λw0=>?_;refine gS (gQ rR (qb ?_));refine eT jD (by kernel_rfl) (by kernel_rfl) rR (by kernel_rfl) ?_;refine dM rfl rfl rfl (dV rfl (qa rfl) (dF rfl 2 Px rfl OH rfl (dL rfl (I many) OI rfl (dM rfl rfl rfl (dV rfl (qa rfl) (dF rfl 4 Px rfl OH rfl (dL rfl (I next) OI rfl (dV rfl (cZ (r:=((many - next:Nat):Int)) rfl rfl (by rw[show (many:Int) - (next:Int)=((many - next:Nat):Int) by omega];exact ao (by omega))) (dV rfl (qt rfl) ?_)))))))));refine qI ?_;refine ql rR rR ?_;exact rfl
def Ci (bl h from_ many first next:Nat)(D:many<=1000000/\first<=1000000000000)(F:List aa):Ct Tryz.prog 200 [ptr bl 0] (pt bl (.cells (aC h from_ many first (next)) 273 (0,0))::F) (R1 (I ((first+many:Nat):Int)) (pt bl (.cells (aC h from_ many first (next)) 273 (0,0))::F)):=by
 refine Ct.of func200 rR 12 ntmps200 (by simp) λw0=>?_;refine gS (gQ rR (qb ?_));refine eT jD (by kernel_rfl) (by kernel_rfl) rR (by kernel_rfl) ?_;refine dM rfl rfl rfl (dV rfl (qa rfl) (dF rfl 3 Px rfl OH rfl (dL rfl (I first) OI rfl (dM rfl rfl rfl (dV rfl (qa rfl) (dF rfl 2 Px rfl OH rfl (dL rfl (I many) OI rfl (dV rfl (yr (r:=((first+many:Nat):Int)) rfl rfl (by rw[show (first:Int)+(many:Int)=((first+many:Nat):Int) by omega];exact ao (by omega))) (dV rfl (qt rfl) ?_)))))))));refine qI ?_;refine ql rR rR ?_;exact rfl
def Jn (bl V from_ many first next:Nat)(D:DiskM)(i:Nat)(hi:i<many)(hdn:D.down=false)(hS:∀x∈D.now,x.length=80)(hfm:from_+many<=D.now.length)(hbd:D.now.length<=1000000/\first<=1000000000000)(F:List aa):Ct Tryz.prog 183 [ptr bl 0,I i] (pt bl (.cells (aC V from_ many first (next)) 273 (0,0))::al 179 319 V (D)::F) (R1 (ou (cC (first+i) (D.now.getD (from_+i) []))) (pt bl (.cells (aC V from_ many first (next)) 273 (0,0))::al 179 319 V (D)::F)):=by
 have Z:from_+i<D.now.length:=(by omega);have hlen:=ox Z hS;have hrd:iC D ((from_:Int)+(i:Int))=((D.now.getD (from_+i) []),0):=sC hdn (by omega) (by rw[show ((from_:Int)+(i:Int)).toNat=from_+i by omega];exact ov Z);have hn5:=Jm (D.now.getD (from_+i) []);generalize D.now.getD (from_+i) []=J at*;refine Ct.of func183 rR 64 ntmps183 (by simp) λw0=>?_;refine gS (gA rfl (gA rfl (gQ rfl (qb (gD (Lf:=[pt bl (.cells (aC V from_ many first (next)) 273 (0,0))]) [(0,false),(1,false),(2,false),(3,false),(4,false),(5,false),(6,false),(7,false),(8,false),(9,false),(10,true),(11,false),(12,false),(13,false),(14,false),(15,false)] (dM rfl rfl rfl (dV rfl (qa rfl) (dF rfl 0 Px rfl PU rfl (dL rfl (ptr V 0) P1 rfl (dM rfl rfl rfl (dV rfl (qa rfl) (dF rfl 1 Px rfl OH rfl (dL rfl (I from_) OI rfl (dM rfl rfl rfl (dV rfl (yr (r:=(from_:Int)+(i:Int)) rfl rfl (ao (by omega))) (av rfl (uB call113 rfl (vr V D ((from_:Int)+(i:Int)))) rfl ?_))))))))))))))));rintro _ _ ⟨rfl,rfl⟩;rw[hrd];refine dM rR rR rR (dV rR (qr (v:=ac J) rR rR) (dV rR (qr (v:=wm 0) rR rR) (dV rR (qt rR) (dV rR (qt rR) ?_))));refine qI ?_;refine qb (qb (gD (Lf:=[pt bl (.cells (aC V from_ many first (next)) 273 (0,0))]) [(0,false),(1,false),(2,false),(3,false),(4,false),(5,false),(6,false),(7,false),(8,false),(9,false),(10,false),(11,true),(12,false),(13,false),(14,false),(15,false),(16,false),(17,false),(18,false),(19,false),(20,false),(21,false),(22,false),(23,false)] (dM rfl rfl rfl (dV rfl (yP OT rfl) (dM rfl rfl rfl (qz rfl rfl rfl (by simp) (qn rfl) rfl (qz rfl rfl rfl (by simp) (ix (l:=1) (h:=5) OM rfl rfl rfl rfl rfl (by decide) (by omega)) rfl (qz rfl rfl rfl (by simp) (qn rfl) rfl (qz rfl rfl rfl (by simp) (qa rfl) rfl (qz rfl rfl rfl (by simp) (qm 3 Px rfl rfl OH (by decide) rfl) rfl (qz rfl rfl rfl (by simp) (qu (v:=I first) OI rfl rfl) rfl (qz rfl rfl rfl (by simp) (qn rfl) rfl (qz rfl rfl rfl (by simp) (yr (r:=((first+i:Nat):Int)) rfl rfl (by rw[show (first:Int)+(i:Int)=((first+i:Nat):Int) by omega];exact ao (by omega))) rfl ?_)))))))))))));refine lx rfl rfl rfl (by simp) (yW (Pre:=[]) call184 rfl (kT (first+i))) rfl ?_;rintro _ _ ⟨rfl,rfl⟩;refine qz rR rR rR (by simp) (iu rR rR) rR (dV rR (aD rR rR) (dM rR rR rR ?_));by_cases R:(J.take 5).drop 1=yb (first+i)
 ·have S:=S8 R;refine qz rR rR rR (by rw[S];rfl) (qn rR) rR (qz rR rR rR (by rw[S];rfl) (yo (r:=sk J 0) 0 OM rR rR rR (fY (by omega))) rR (qz rR rR rR (by rw[S];rfl) (da rR rR) rR (qz rR rR rR (by rw[S];rfl) (qn rR) rR (dJ rR rR rR (qn rR) (dJ rR rR rR (yo (r:=sk J 0) 0 OM rR rR rR (fY (by omega))) (dJ rR rR rR (da rR rR) (qz rR rR rR (by rw[S];rfl) (bT rR rR) rR (dV rR (aD rR rR) ?_))))))));refine qI ?_;refine qd rfl ?_ ?_ <;> intro O
  ·rw[S] at O;simp at O;have X:¬(sk J 0=111\/sk J 0=99):=λh=>(by rcases h with h | h <;> rw[h] at O <;> simp at O);refine gS (gA rR (gA rR (gQ rR ?_)));rw[show cC (first+i) J=none by unfold cC;rw[RJ (λh=>X h.2.1)]];exact ql rfl rfl rfl
  ·rw[S] at O;simp at O;have X:sk J 0=111\/sk J 0=99:=by
    by_cases h1:sk J 0=111
    ·exact .inl h1
    ·right;have h2:=O (λh=>h1 ((Cf _ _ 111).1 h));exact (Cf _ _ 99).1 h2
   refine qf (qb ?_);refine eT jB (by kernel_rfl) (by kernel_rfl) rR (by kernel_rfl) ?_;refine dM rfl rfl rfl (dV rfl (yo (r:=sk J 5) 5 OM rfl rfl rfl (fY (by omega))) (dV rfl (yS (r:=((sk J 5).toNat:Int)) OU OL rfl (ao (by have:=(sk J 5).toNat_lt;omega))) (dM rfl rfl rfl (dV rfl (yo (r:=sk J 6) 6 OM rfl rfl rfl (fY (by omega))) (dV rfl (yS (r:=((sk J 6).toNat:Int)) OU OL rfl (ao (by have:=(sk J 6).toNat_lt;omega))) (dV rfl (ey rfl rfl (ao (by have:=(sk J 6).toNat_lt;omega))) (dV rfl (yr (r:=((gk J:Nat):Int)) rfl rfl (by rw[show ((sk J 5).toNat:Int)+256*((sk J 6).toNat:Int)=((gk J:Nat):Int) by unfold gk;omega];exact ao (by omega))) (dV rfl (qt rfl) ?_))))))));refine qI ?_;refine qb (gS (gM rR (gV (qX rR rR) (qc ?_))));refine qd rfl ?_ ?_ <;> intro Y
   ·simp at Y;refine gS (gA rR (gA rR (gQ rR ?_)));rw[show cC (first+i) J=none by unfold cC;rw[RJ (λh=>by have:=h.2.2;omega)]];exact ql rfl rfl rfl
   ·simp at Y;refine qf (qb ?_);refine eT jB (by kernel_rfl) (by kernel_rfl) rR (by kernel_rfl) ?_;refine dM rfl rfl rfl (dV rfl (yo (r:=sk J 0) 0 OM rfl rfl rfl (fY (by omega))) (dM rfl rfl rfl (dM rfl rfl rfl (dV rfl (yr (r:=((7+gk J:Nat):Int)) rfl rfl (by rw[show (7:Int)+((gk J:Nat):Int)=((7+gk J:Nat):Int) by omega];exact ao (by omega))) (dV rfl (ix (l:=7) (h:=7+gk J) OM rfl rfl rfl rfl rfl (by omega) (by omega)) (dV rfl (qt rfl) (dV rfl (qt rfl) (dV rfl (qt rfl) ?_))))))));refine qI ?_;rw[show cC (first+i) J=some (sk J 0,(J.take (7+gk J)).drop 7) by unfold cC;rw[RI ⟨R,X,by omega⟩]];exact ql rfl rfl rfl
 ·have S:=S5 R;refine qO rR rR rR (by rw[S];rfl) rR (qO rR rR rR (by rw[S];rfl) rR (qO rR rR rR (by rw[S];rfl) rR (qO rR rR rR (by rw[S];rfl) rR (qO rR rR rR rR rR (qO rR rR rR rR rR (qO rR rR rR rR rR (qO rR rR rR (by rw[S];rfl) rR (dV rR (cw rR (by rw[S];rfl) rR) ?_))))))));refine qI ?_;refine wZ rR ?_;refine gS (gA rR (gA rR (gQ rR ?_)));rw[show cC (first+i) J=none by unfold cC;rw[RJ (λh=>R h.1)]];exact ql rfl rfl rfl
def Jo (bl J from_ many first used:Nat)(c:List ChangeM)(s:Option Addr)(cap N i:Nat)(D:DiskM)(hok:bB N i D)(hN:N<=1000000/\i<=999000)(hb:many<=1000000/\first<=1000000000000/\from_<=1000000/\used<=many)(hc:∀x∈c,aS x=0)(hlen:c.length<=72/\used+c.length+1<=many)(F:List aa):Ct Tryz.prog 241 [ptr bl 0,sl s c.length cap] (pt bl (.cells (aC J from_ many first (used)) 273 (0,0))::al 179 319 J (D)::roL 3 s (ah c)::F) (R1 (wm (wA D (dX from_ many first used c)).1) (pt bl (.cells (aC J from_ many first (used)) 273 (0,0))::al 179 319 J ((wA D (dX from_ many first used c)).2)::roL 3 s (ah c)::F)):=by
 refine Ct.of func241 rR 85 ntmps241 (by simp) λw0=>?_;refine gS (gQ rR (qb ?_));refine yO (Lf:=[pt bl (.cells (aC J from_ many first (used)) 273 (0,0))]) jD (by kernel_rfl) (by kernel_rfl) rfl (by kernel_rfl) ?_;refine dM rfl rfl rfl (dV rfl (qa rfl) (dF rfl 1 Px rfl OH rfl (dL rfl (I from_) OI rfl (dM rfl rfl rfl (dV rfl (qa rfl) (dF rfl 4 Px rfl OH rfl (dL rfl (I used) OI rfl (dV rfl (yr (r:=((from_+used:Nat):Int)) rfl rfl (by rw[show ((from_:Nat):Int)+((used:Nat):Int)=((from_+used:Nat):Int) by omega];exact ao (by omega))) (dV rfl (qt rfl) ?_)))))))));refine qI ?_;refine qb (gS (gM rR (gV (qY OK rR) (gM rR (qc (qg ?_))))));refine qC (α:=Nat×DiskM) (λz=>z.1<=c.length/\bB N (i+z.1) z.2/\wA D (dX from_ many first used c)=wA z.2 (cU from_ first used z.1 (c.drop z.1)++eG from_ many used c.length)) (λz=>U [(0,ptr bl 0),(1,sl s c.length cap),(5,I ((from_+used:Nat):Int)),(20,sl s c.length cap),(21,I c.length),(22,I z.1)]) (λz=>pt bl (.cells (aC J from_ many first (used)) 273 (0,0))::al 179 319 J (z.2)::roL 3 s (ah c)::F) (λz=>c.length - z.1) (0,D) ⟨by simp,hok,rfl⟩ [0,1,5,20,21,22] rfl rfl ?_;rintro ⟨k,V⟩ ⟨hk,R,h⟩;simp only[] at hk R h ⊢;have Z:=R.2.2.1;have hwx:V.wait.length<=1000000:=(by have:=R.2.2.2.2;omega);refine gS (gV (qH rR rR) (qc (qb ?_)));refine qd rfl ?_ ?_ <;> intro X
 ·simp at X;have S:k<c.length:=(by omega);obtain ⟨x,hx⟩:∃x,c[k]? =some x:=⟨_,S6 S⟩;have hkr:k<(ah c).length:=(by rw[qx];exact S);have hx0:=hc x (R5 hx);have hrl:=sG hx0;refine qf (qb (qg (gS (gM rR (gV (qv k OK OJ rR rR rR S hkr) (gV (qZ (row:=ym x) O4 OJ rR (yX hx) rR) (gI (qA #[ac [],ac [],Bo false] OR) ?_)))))));rintro _ _ ⟨b7,rfl,rfl⟩;refine gA rR (gU (qp (cs:=#[ac [],ac [],Bo false]) (vs:=ym x) (ym x).toArray OJ rR rR rR rR (by decide) (qV rR)) (qc (gS (gV (qJ (vs:=ym (x)) O4 OJ rR rR qQ) (gR (vA call267 rR (I5 x)) ?_)))));rw[show kN x=(eW x,0) by unfold kN;rw[RI hx0]];refine gM rR (gX (ac (eW x)) rR (gX (wm 0) rR (gA rR (gQ rR (qb (gS (gM rR (gV (yP OT rR) (qc ?_)))))))));refine qd rfl ?_ ?_ <;> intro h33
  ·simp at h33
  ·refine qf (qb (gD (Lf:=[pt bl (.cells (aC J from_ many first (used)) 273 (0,0))]) [(0,false),(1,false),(2,false),(3,false),(4,false),(5,false),(6,false),(7,false),(8,false),(9,false),(10,false),(11,false),(12,false),(13,false),(14,false),(15,false),(16,false),(17,false),(18,false),(19,true),(20,true),(21,false)] (dM rfl rfl rfl (dV rfl (qa rfl) (dF rfl 0 Px rfl PU rfl (dL rfl (ptr J 0) P1 rfl (dM rfl rfl rfl (dM rfl rfl rfl (dV rfl (yr (r:=((from_+used+k:Nat):Int)) rfl rfl (by rw[show ((from_+used:Nat):Int)+((k:Nat):Int)=((from_+used+k:Nat):Int) by omega];exact ao (by omega))) (dM rfl rfl rfl (dV rfl (qa rfl) (dF rfl 3 Px rfl OH rfl (dL rfl (I first) OI rfl (dM rfl rfl rfl (dV rfl (qa rfl) (dF rfl 4 Px rfl OH rfl (dL rfl (I used) OI rfl (dV rfl (yr (r:=((first+used:Nat):Int)) rfl rfl (by rw[show ((first:Nat):Int)+((used:Nat):Int)=((first+used:Nat):Int) by omega];exact ao (by omega))) (dM rfl rfl rfl (dV rfl (yr (r:=((first+used+k:Nat):Int)) rfl rfl (by rw[show ((first+used:Nat):Int)+((k:Nat):Int)=((first+used+k:Nat):Int) by omega];exact ao (by omega))) (dM rfl rfl rfl (av rfl (uA call243 rfl (Cg 111 (first+used+k) (eW x) (by omega))) rfl ?_))))))))))))))))))))));rintro _ _ ⟨rfl,rfl⟩;refine av rfl (uB call175 rfl (wO J V ((from_+used+k:Nat):Int) (bP 111 (first+used+k) (eW x)) Z hwx)) rfl ?_;rintro _ _ ⟨rfl,rfl⟩;refine dV rR (qt rR) ?_;refine qI ?_;refine gS (gM rR (gV (yP OT rR) (qc ?_)));refine qd rfl ?_ ?_ <;> intro O
   ·simp at O;refine gS (gM rR (gQ rR ?_));rw[h,B5 hx,SM,mN O];dsimp only;exact ql rfl rfl rfl
   ·simp at O;refine qf (qD (qo (gP rR rR (by omega) (gM rR (qc ?_)))));refine qk (k+1,yH V ((from_+used+k:Nat):Int) (bP 111 (first+used+k) (eW x))) ⟨by simp;omega,?_,?_⟩ (by simp;omega) [0,1,5,20,21,22] rfl rfl
    ·exact B0 R _ _
    ·simp only[];rw[h,B5 hx,SM,hZ (show fq V (some (from_+used+k,bP 111 (first+used+k) (eW x)))=0 from O)]
     rfl
 ·simp at X;obtain rfl:k=c.length:=(by omega);rw[Uk,show cU from_ first used c.length []=[] from rfl,SK] at h;refine qw rR ?_;refine qb (gS (gM rfl (gV (qa rfl) (gF 4 Px rfl OH rfl (gL (I used) OI rfl (gM rfl (gV (qY OK rfl) (gV (yr (r:=((used+c.length:Nat):Int)) rfl rfl (by rw[show ((used:Nat):Int)+((c.length:Nat):Int)=((used+c.length:Nat):Int) by omega];exact ao (by omega))) (gV (yr (r:=((used+c.length+1:Nat):Int)) rfl rfl (by rw[show ((used+c.length:Nat):Int)+1=((used+c.length+1:Nat):Int) by omega];exact ao (by omega))) (gQ rfl (gS (gM rfl (gM rfl (gV (qa rfl) (gF 2 Px rfl OH rfl (gL (I many) OI rfl (gV (qH rfl rfl) (qc ?_))))))))))))))))));refine qd rfl ?_ ?_ <;> intro Y
  ·simp at Y;refine qb (gD (Lf:=[pt bl (.cells (aC J from_ many first (used)) 273 (0,0))]) [(0,false),(1,false),(2,false),(3,false),(4,false),(5,false),(6,false),(7,false),(8,false),(9,false),(10,true),(11,false)] (dM rfl rfl rfl (dV rfl (qa rfl) (dF rfl 0 Px rfl PU rfl (dL rfl (ptr J 0) P1 rfl (dM rfl rfl rfl (dV rfl (qa rfl) (dF rfl 1 Px rfl OH rfl (dL rfl (I from_) OI rfl (dM rfl rfl rfl (dV rfl (yr (r:=((from_+(used+c.length+1):Nat):Int)) rfl rfl (by rw[show ((from_:Nat):Int)+((used+c.length+1:Nat):Int)=((from_+(used+c.length+1):Nat):Int) by omega];exact ao (by omega))) (av rfl (uB call175 rfl (wO J V ((from_+(used+c.length+1):Nat):Int) [] Z hwx)) rfl ?_))))))))))));rintro _ _ ⟨rfl,rfl⟩;refine dV rR (qt rR) ?_;refine qI ?_;rw[h,show eG from_ many used c.length=[some (from_+(used+c.length+1),[])] by unfold eG;rw[RI (by omega)]];by_cases h0:wc V ((from_+(used+c.length+1):Nat):Int) []=0
   ·rw[mM h0,mO];dsimp only;exact ql rfl rfl (Rd wm h0)
   ·rw[mN h0];dsimp only;exact ql rfl rfl rfl
  ·simp at Y;refine qf (gS (gQ rR ?_));rw[h,show eG from_ many used c.length=[] by unfold eG;rw[RJ (by omega)],mO];dsimp only;exact ql rfl rfl rfl
def Jp (O R:Nat)(bl h from_ many first used:Nat)(c:List ChangeM)(s:Option Addr)(cap N i:Nat)(D:DiskM)(hok:bB N i D)(S:N<=1000000/\i<=999000)(V:many<=1000000/\first<=1000000000000/\from_<=1000000/\used<=many)(X:∀x∈c,aS x=0)(J:c.length<=72/\used+c.length+1<=many)(F:List aa):Ct Tryz.prog 240 [ptr O 0,ptr R 0] (pt O (.cells #[ptr bl 0] 196 (0,0))::pt R (.cells #[sl s c.length cap] 33 (0,0))::pt bl (.cells (aC h from_ many first (used)) 273 (0,0))::al 179 319 h (D)::roL 3 s (ah c)::F) (R1 (wm (wA D (dX from_ many first used c)).1) (pt O (.cells #[ptr bl 0] 196 (0,0))::pt R (.cells #[sl s c.length cap] 33 (0,0))::pt bl (.cells (aC h from_ many first (used)) 273 (0,0))::al 179 319 h ((wA D (dX from_ many first used c)).2)::roL 3 s (ah c)::F)):=by
 refine Ct.of func240 rR 6 ntmps240 (by simp) λw0=>?_;refine gS (gQ rfl (gS (gL (ptr bl 0) P4 rfl (gL (sl s c.length cap) P2 rfl (gR (vD call241 rfl (Jo bl h from_ many first used c s cap N i D hok S V X J)) (gQ rfl ?_))))));refine ql rR rR ?_;exact rfl
def Jq (J R O:Nat)(bl h from_ many first used:Nat)(c:List ChangeM)(s:Option Addr)(cap N i:Nat)(D:DiskM)(hok:bB N i D)(V:N<=1000000/\i<=999000)(X:many<=1000000/\first<=1000000000000/\from_<=1000000/\used<=many)(S:c.length<=72)(F:List aa):Ct Tryz.prog 242 [ptr J 0,ptr R 0,ptr O 0] (pt J (.cells #[ptr bl 0] 196 (0,0))::pt R (.cells #[I ((used+c.length:Nat):Int)] 3 (0,0))::pt O (.cells #[sl s c.length cap] 33 (0,0))::pt bl (.cells (aC h from_ many first (used)) 273 (0,0))::al 179 319 h (D)::roL 3 s (ah c)::F) (R1 (wm (fq D (fh from_ first used c.length))) (pt J (.cells #[ptr bl 0] 196 (0,0))::pt R (.cells #[I ((used+c.length:Nat):Int)] 3 (0,0))::pt O (.cells #[sl s c.length cap] 33 (0,0))::pt bl (.cells (aC h from_ many first (used)) 273 (0,0))::al 179 319 h (fE D (fh from_ first used c.length))::roL 3 s (ah c)::F)):=by
 refine Ct.of func242 rR 25 ntmps242 (by simp) λw0=>?_;refine gS (gQ rfl (qb (gD (Lf:=[pt J (.cells #[ptr bl 0] 196 (0,0)),pt R (.cells #[I ((used+c.length:Nat):Int)] 3 (0,0)),pt O (.cells #[sl s c.length cap] 33 (0,0)),pt bl (.cells (aC h from_ many first (used)) 273 (0,0))]) [(0,false),(1,false),(2,false),(3,false),(4,false),(5,false),(6,false),(7,false),(8,false),(9,false),(10,false),(11,false),(12,false),(13,false),(14,false),(15,false),(16,false),(17,false),(18,true),(19,true),(20,true),(21,false)] (dL rfl (ptr bl 0) P4 rfl (dV rfl (qa rfl) (dF rfl 0 Px rfl PU rfl (dL rfl (ptr h 0) P1 rfl (dL rfl (ptr bl 0) P4 rfl (dV rfl (qa rfl) (dF rfl 1 Px rfl OH rfl (dL rfl (I from_) OI rfl (dL rfl (I ((used+c.length:Nat):Int)) OI rfl (dV rfl (yr (r:=((from_+(used+c.length):Nat):Int)) rfl rfl (by rw[show ((from_:Nat):Int)+((used+c.length:Nat):Int)=((from_+(used+c.length):Nat):Int) by omega];exact ao (by omega))) (dL rfl (ptr bl 0) P4 rfl (dV rfl (qa rfl) (dF rfl 3 Px rfl OH rfl (dL rfl (I first) OI rfl (dL rfl (I ((used+c.length:Nat):Int)) OI rfl (dV rfl (yr (r:=((first+(used+c.length):Nat):Int)) rfl rfl (by rw[show ((first:Nat):Int)+((used+c.length:Nat):Int)=((first+(used+c.length):Nat):Int) by omega];exact ao (by omega))) (dL rfl (sl s c.length cap) P2 rfl (dV rfl (qY OK rfl) (av rfl (uA call184 rfl (kT c.length)) rfl ?_))))))))))))))))))))));rintro _ _ ⟨rfl,rfl⟩;refine av rfl (uA call243 rfl (Cg 99 (first+(used+c.length)) (yb c.length) (by simp[yb]))) rfl ?_;rintro _ _ ⟨rfl,rfl⟩;refine av rfl (uB call175 rfl (wO h D ((from_+(used+c.length):Nat):Int) (bP 99 (first+(used+c.length)) (yb c.length)) hok.2.2.1 (by have:=hok.2.2.2.2;omega))) rfl ?_;rintro _ _ ⟨rfl,rfl⟩;refine dV rR (qt rR) ?_;refine qI ?_;show G _ _ _ (al 179 319 h (fE D (fh from_ first used c.length))::_);exact ql rfl rfl rfl
def Jr (bl O from_ many first used:Nat)(c:List ChangeM)(s:Option Addr)(cap N i:Nat)(D:DiskM)(hok:bB N i D)(hN:N<=1000000/\i<=998000)(hb:many<=1000000/\first<=1000000000000/\from_<=1000000/\used<=many)(hl:c.length<=9223372036854775807)(F:List aa):Ct Tryz.prog 180 [ptr bl 0,sl s c.length cap] (pt bl (.cells (aC O from_ many first (used)) 273 (0,0))::al 179 319 O (D)::roL 3 s (ah c)::F) (R1 (wm (dN from_ many first used c D)) (pt bl (.cells (aC O from_ many first (dB from_ many first used c D)) 273 (0,0))::al 179 319 O (ce from_ many first used c D)::roL 3 s (ah c)::F)):=by
 refine Ct.of func180 rR 71 ntmps180 (by simp) λw0=>?_;refine gS (gI (wR #[ptr bl 0] rfl rR) ?_);rintro _ _ ⟨X,rfl,rfl⟩;refine gI (wR #[sl s c.length cap] rfl rR) ?_;rintro _ _ ⟨Y,rfl,rfl⟩;refine gQ rR (qb (gS (gL (sl s c.length cap) P2 rR (gV (qY OK rR) (gV (qX rR rR) (qc ?_))))));refine qd rfl ?_ ?_ <;> intro h14
 ·simp at h14;have hv:dA many used c=2:=(by unfold dA;rw[RI (by omega)]);refine gS (gV (qP OY rR rR) (gQ rR ?_));obtain ⟨ae,ad,au⟩:=vJ (from_:=from_) (first:=first) (D:=D) hv (by decide);rw[ae,ad,au];exact ql rfl rfl rfl
 ·simp at h14;have hlen:c.length<=72:=(by omega);refine qf (qb (qb (gD (Lf:=[pt X (.cells #[ptr bl 0] 196 (0,0)),pt Y (.cells #[sl s c.length cap] 33 (0,0))]) [(0,false),(1,false),(2,false),(3,false),(4,true),(5,false)] (dL rfl (sl s c.length cap) P2 rfl (dV rfl (qY OK rfl) (dV rfl (yr (r:=((c.length+1:Nat):Int)) rfl rfl (by rw[show (c.length:Int)+1=((c.length+1:Nat):Int) by omega];exact ao (by omega))) (dL rfl (ptr bl 0) P4 rfl (av rfl (uB call179 rfl (Ch bl O from_ many first used ⟨hb.2.2.2,hb.1⟩)) rfl ?_))))))));rintro _ _ ⟨rfl,rfl⟩;refine dV rR (qX rR rR) ?_;refine qI ?_;refine qd rfl ?_ ?_ <;> intro h21
  ·simp at h21;have hv:dA many used c=8:=(by unfold dA;rw[RJ (by omega),RI (by omega)]);refine gS (gV (qP OY rR rR) (gQ rR ?_));obtain ⟨ae,ad,au⟩:=vJ (from_:=from_) (first:=first) (D:=D) hv (by decide);rw[ae,ad,au];exact ql rfl rfl rfl
  ·simp at h21;have hroom:c.length+1<=many - used:=(by omega);have Z:=vI hlen hroom;refine qf (qb (gS (gL (sl s c.length cap) P2 rR (gV (qY OK rR) (gM rR (qc (qg ?_)))))));refine qC (α:=Nat) (λk=>k<=c.length/\cP c=cP (c.drop k)) (λk=>U [(2,ptr X 0),(3,ptr Y 0),(23,sl s c.length cap),(24,I c.length),(25,I k)]) (λk=>pt X (.cells #[ptr bl 0] 196 (0,0))::pt Y (.cells #[sl s c.length cap] 33 (0,0))::pt bl (.cells (aC O from_ many first (used)) 273 (0,0))::al 179 319 O (D)::roL 3 s (ah c)::F) (λk=>c.length - k) 0 ⟨by simp,rfl⟩ [2,3,23,24,25] rfl rfl ?_;rintro k ⟨hk,V⟩;refine gS (gV (qH rR rR) (qc (qb ?_)));refine qd rfl ?_ ?_ <;> intro h26
   ·simp at h26;have hkn:k<c.length:=(by omega);obtain ⟨x,hx⟩:∃x,c[k]? =some x:=⟨_,S6 hkn⟩;have hkr:k<(ah c).length:=(by rw[qx];exact hkn);refine qf (qb (qg (gS (gV (qv k OK OJ rR rR rR hkn hkr) (gV (qZ (row:=ym x) O4 OJ rR (yX hx) rR) (gI (qA #[ac [],ac [],Bo false] OR) ?_))))));rintro _ _ ⟨b6,rfl,rfl⟩;refine gU (qp (cs:=#[ac [],ac [],Bo false]) (vs:=ym x) (ym x).toArray OJ rR rR rR rR (by decide) (qV rR)) (qc (gS (gV (qJ (vs:=ym (x)) O4 OJ rR rR qQ) (gR (vA call178 rR (oh x)) (gQ rR (gS (gM rR (gV (yP OT rR) (qc ?_)))))))));refine qd rfl ?_ ?_ <;> intro h32
    ·simp at h32;rw[sJ hx,RJ h32] at V;rw[V] at Z;refine gS (gM rR (gQ rR ?_));obtain ⟨ae,ad,au⟩:=vJ (from_:=from_) (first:=first) (D:=D) Z h32;rw[ae,ad,au];exact ql rfl rfl rfl
    ·simp at h32;refine qf (qD (qo (gP rR rR (by omega) (gM rR (qc ?_)))));exact qk (k+1) ⟨by omega,by rw[V,sJ hx,RI h32]⟩ (by omega) [2,3,23,24,25] rfl rfl
   ·simp at h26;obtain rfl:k=c.length:=(by omega);rw[Uk,show cP []=0 from rfl] at V;rw[V] at Z;have hc:=vz V;refine qw rR ?_;refine qb ?_;refine fm (Lf:=[pt X (.cells #[ptr bl 0] 196 (0,0)),pt Y (.cells #[sl s c.length cap] 33 (0,0)),pt bl (.cells (aC O from_ many first (used)) 273 (0,0))]) jN 8 rfl (by kernel_rfl) (by kernel_rfl) rfl (by kernel_rfl) (by kernel_rfl) ?_;refine dL rfl (ptr bl 0) P4 rfl (dV rfl (qa rfl) (dF rfl 4 Px rfl OH rfl (dL rfl (I used) OI rfl (dL rfl (sl s c.length cap) P2 rfl (dV rfl (qY OK rfl) (dV rfl (yr (r:=((used+c.length:Nat):Int)) rfl rfl (by rw[show ((used:Nat):Int)+((c.length:Nat):Int)=((used+c.length:Nat):Int) by omega];exact ao (by omega))) (av rfl (nG (I 0) Pe rfl) rfl ?_)))))));rintro _ _ ⟨b8,rfl,rfl⟩;refine qI ?_;refine gU (qG #[I ((used+c.length:Nat):Int)] OH rfl rfl rfl (by simp) rfl) (qc (qb (qb (gD (Lf:=[pt X (.cells #[ptr bl 0] 196 (0,0)),pt Y (.cells #[sl s c.length cap] 33 (0,0)),pt bl (.cells (aC O from_ many first (used)) 273 (0,0))]) [(0,false),(1,false),(2,false),(3,false),(4,false),(5,false),(6,false),(7,false),(8,false),(9,false),(10,false),(11,false),(14,false),(12,true),(13,false)] (dV rfl (ju rfl rfl) (dL rfl (ptr bl 0) P4 rfl (dV rfl (qa rfl) (dF rfl 0 Px rfl PU rfl (dL rfl (ptr O 0) P1 rfl (dV rfl (ju rfl rfl) (dV rfl (ju rfl rfl) (dL rfl (ptr bl 0) P4 rfl (dV rfl (qa rfl) (dF rfl 0 Px rfl PU rfl (dL rfl (ptr O 0) P1 rfl (dV rfl (ju rfl rfl) (dM rfl rfl rfl (av rfl (qj [[.func (.func 240) #[] #[ptr X 0,ptr Y 0]],[.func (.func 176) #[ptr O 0] #[]],[.func (.func 242) #[] #[ptr X 0,ptr b8 0,ptr Y 0]],[.func (.func 176) #[ptr O 0] #[]]] QA QG zeroValue108 rfl rfl rfl (by simp) (by decide) (by decide)) rfl ?_))))))))))))))))));rintro _ _ ⟨b54,rfl,rfl⟩;refine dV rR (qY QA rR) ?_;refine qI ?_;refine qg ?_;refine qC (α:=Nat×DiskM) (λz=>z.1<=4/\bB N (i+100*z.1) z.2/\wA D (cO from_ many first used c)=wA z.2 (ea from_ many first used c z.1)) (λz=>U [(2,ptr X 0),(3,ptr Y 0),(8,ptr b8 0),(54,sl (some ⟨b54,0,none⟩) 4 4),(55,I 4),(56,I z.1)]) (λz=>pt X (.cells #[ptr bl 0] 196 (0,0))::pt Y (.cells #[sl s c.length cap] 33 (0,0))::pt b8 (.cells #[I ((used+c.length:Nat):Int)] 3 (0,0))::pt bl (.cells (aC O from_ many first (used)) 273 (0,0))::al 179 319 O (z.2)::roL 3 s (ah c)::ai 108 1 (some ⟨b54,0,none⟩) 4 [[.func (.func 240) #[] #[ptr X 0,ptr Y 0]],[.func (.func 176) #[ptr O 0] #[]],[.func (.func 242) #[] #[ptr X 0,ptr b8 0,ptr Y 0]],[.func (.func 176) #[ptr O 0] #[]]]::F) (λz=>4 - z.1) (0,D) ⟨by simp,hok,rfl⟩ [2,3,8,54,55,56] rfl rfl ?_
    rintro ⟨k,D'⟩ ⟨hk,S,J⟩;simp only[] at hk S J ⊢;refine gS (gV (qH rR rR) (qc (qb ?_)));refine qd rfl ?_ ?_ <;> intro h57
    ·simp at h57;refine qf (qb (qg (gS ?_)));rcases (by omega:k=0\/k=1\/k=2\/k=3) with rfl | rfl | rfl | rfl
     ·refine gV (qv 0 QA QG rfl rfl rfl (by decide) (by simp)) (gV (qM (v:= .func (.func 240) #[] #[ptr X 0,ptr Y 0]) QJ rfl rfl rfl) (gQ rfl (gS (gM rfl (gI (fC (fi:=[]) (cap:=[ptr X 0,ptr Y 0]) (Pre:=[pt X (.cells #[ptr bl 0] 196 (0,0)),pt Y (.cells #[sl s c.length cap] 33 (0,0)),pt bl (.cells (aC O from_ many first (used)) 273 (0,0)),al 179 319 O (D'),roL 3 s (ah c)]) call240 rfl rfl (Jp X Y bl O from_ many first used c s cap N (i+100*0) D' S ⟨hN.1,by omega⟩ hb hc ⟨hlen,by omega⟩)) ?_)))));rintro _ _ ⟨rfl,rfl⟩;refine gQ rR (gS (gM rR (gV (yP OT rR) (qc ?_))));refine qd rfl ?_ ?_ <;> intro h
      ·simp at h;rw[show ea from_ many first used c 0=dX from_ many first used c++ [none,fh from_ first used c.length,none] from rfl,lE,RJ h] at J;obtain ⟨ae,ad,au⟩:=sK Z J h;rw[ae,ad,au];refine gS (gM rR (gQ rR ?_));exact ql rfl rfl rfl
      ·simp at h;have R:wA D (cO from_ many first used c)=wA (wA D' (dX from_ many first used c)).2 (ea from_ many first used c 1):=(by rw[J,show ea from_ many first used c 0=dX from_ many first used c++ [none,fh from_ first used c.length,none] from rfl,lE,RI h];rfl);have hll:=B4 from_ many first used c
       refine qf (qD (qo (gP rR rR (by omega) (gM rR (qc ?_)))));exact qk (1,(wA D' (dX from_ many first used c)).2) ⟨by simp,ft (gm _ _ _ S) (by simp only[];omega),R⟩ (by simp) [2,3,8,54,55,56] rfl rfl
     ·refine gV (qv 1 QA QG rR rR rR (by decide) (by simp)) (gV (qM (v:= .func (.func 176) #[ptr O 0] #[]) QJ rR rR rR) (gQ rR (gS (gM rR (gI (fC (fi:=[ptr O 0]) (cap:=[]) (Pre:=[al 179 319 O (D')]) call176 rR rR (mK O D' S.2.2.1 (by rw[S.1,S.2.1]) (by rw[S.2.1];omega))) ?_)))));rintro _ _ ⟨rfl,rfl⟩;refine gQ rR (gS (gM rR (gV (yP OT rR) (qc ?_))));refine qd rfl ?_ ?_ <;> intro h
      ·simp at h;rw[show ea from_ many first used c 1=none::ea from_ many first used c 2 from rfl,lD h] at J;obtain ⟨ae,ad,au⟩:=sK Z J h;rw[ae,ad,au];refine gS (gM rR (gQ rR ?_));exact ql rfl rfl rfl
      ·simp at h;have R:wA D (cO from_ many first used c)=wA (yJ D') (ea from_ many first used c 2):=(by rw[J,show ea from_ many first used c 1=none::ea from_ many first used c 2 from rfl,kP h]);refine qf (qD (qo (gP rR rR (by omega) (gM rR (qc ?_)))));exact qk (2,yJ D') ⟨by simp,ft (sI S) (by simp),R⟩ (by simp) [2,3,8,54,55,56] rfl rfl
     ·refine gV (qv 2 QA QG rfl rfl rfl (by decide) (by simp)) (gV (qM (v:= .func (.func 242) #[] #[ptr X 0,ptr b8 0,ptr Y 0]) QJ rfl rfl rfl) (gQ rfl (gS (gM rfl (gI (fC (fi:=[]) (cap:=[ptr X 0,ptr b8 0,ptr Y 0]) (Pre:=[pt X (.cells #[ptr bl 0] 196 (0,0)),pt b8 (.cells #[I ((used+c.length:Nat):Int)] 3 (0,0)),pt Y (.cells #[sl s c.length cap] 33 (0,0)),pt bl (.cells (aC O from_ many first (used)) 273 (0,0)),al 179 319 O (D'),roL 3 s (ah c)]) call242 rfl rfl (Jq X b8 Y bl O from_ many first used c s cap N (i+100*2) D' S ⟨hN.1,by omega⟩ hb hlen)) ?_)))));rintro _ _ ⟨rfl,rfl⟩;refine gQ rR (gS (gM rR (gV (yP OT rR) (qc ?_))));refine qd rfl ?_ ?_ <;> intro h
      ·simp at h;rw[show ea from_ many first used c 2=fh from_ first used c.length::ea from_ many first used c 3 from rfl,iE h] at J;obtain ⟨ae,ad,au⟩:=sK Z J h;rw[ae,ad,au];refine gS (gM rR (gQ rR ?_));exact ql rfl rfl rfl
      ·simp at h;have R:wA D (cO from_ many first used c)=wA (fE D' (fh from_ first used c.length)) (ea from_ many first used c 3):=(by rw[J,show ea from_ many first used c 2=fh from_ first used c.length::ea from_ many first used c 3 from rfl,hZ h]);refine qf (qD (qo (gP rR rR (by omega) (gM rR (qc ?_)))));exact qk (3,fE D' (fh from_ first used c.length)) ⟨by simp,ft (vy S _) (by simp),R⟩ (by simp) [2,3,8,54,55,56] rfl rfl
     ·refine gV (qv 3 QA QG rR rR rR (by decide) (by simp)) (gV (qM (v:= .func (.func 176) #[ptr O 0] #[]) QJ rR rR rR) (gQ rR (gS (gM rR (gI (fC (fi:=[ptr O 0]) (cap:=[]) (Pre:=[al 179 319 O (D')]) call176 rR rR (mK O D' S.2.2.1 (by rw[S.1,S.2.1]) (by rw[S.2.1];omega))) ?_)))));rintro _ _ ⟨rfl,rfl⟩;refine gQ rR (gS (gM rR (gV (yP OT rR) (qc ?_))));refine qd rfl ?_ ?_ <;> intro h
      ·simp at h;rw[show ea from_ many first used c 3=none::ea from_ many first used c 4 from rfl,lD h] at J;obtain ⟨ae,ad,au⟩:=sK Z J h;rw[ae,ad,au];refine gS (gM rR (gQ rR ?_));exact ql rfl rfl rfl
      ·simp at h;have R:wA D (cO from_ many first used c)=wA (yJ D') (ea from_ many first used c 4):=(by rw[J,show ea from_ many first used c 3=none::ea from_ many first used c 4 from rfl,kP h]);refine qf (qD (qo (gP rR rR (by omega) (gM rR (qc ?_)))));exact qk (4,yJ D') ⟨by simp,ft (sI S) (by simp),R⟩ (by simp) [2,3,8,54,55,56] rfl rfl
    ·simp at h57;obtain rfl:k=4:=(by omega);rw[show ea from_ many first used c 4=[] from rfl,mO] at J;obtain ⟨ae,ad,au⟩:=Jg Z J;rw[ae,ad,au];refine qw rR ?_;refine gS (gL (ptr bl 0) P4 rfl (gL (I ((used+c.length:Nat):Int)) OI rfl (gV (yr (r:=((used+c.length+1:Nat):Int)) rfl rfl (by rw[show ((used+c.length:Nat):Int)+1=((used+c.length+1:Nat):Int) by omega];exact ao (by omega))) (gV (qa rfl) (gF 4 Px rfl OH rfl (gU (qG (aC O from_ many first (used+c.length+1)) OH rfl rfl rfl (by simp) rfl) (qc (gS (gQ rfl ?_)))))))));exact ql rfl rfl rfl
def iF (D:DiskM)(from_ many first:Int):Prop:=from_<0\/many<1\/(D.now.length:Int)<many\/(D.now.length:Int) - many<from_\/first<1
instance (D:DiskM)(from_ many first:Int):Decidable (iF D from_ many first):=by unfold iF;infer_instance
def eI (D:DiskM)(from_:Nat)(i:Nat):ab:=D.now.getD (from_+i) []
abbrev go:=List (List ChangeM×cM)
def oy (T TT TL TC bd:Nat)(D:DiskM)(from_ many first:Int)(F:List aa):Value->List aa->Prop:=λv L'=>
 (iF D from_ many first/\v= .tuple #[.pointer none,sl none 0 0,wm 1]/\L'=al T TT bd D::F)\/
 (¬iF D from_ many first/\D.down=true/\v= .tuple #[.pointer none,sl none 0 0,wm 9]/\L'=al T TT bd D::F)\/
 (¬iF D from_ many first/\D.down=false/\∃(bl:Nat) (gl:go) (so:Option Addr) (co used:Nat),v= .tuple #[ptr bl 0,sl so gl.length co,wm 0]/\used<=many.toNat/\gl.length<=many.toNat/\
  wu first.toNat (eI D from_.toNat) many.toNat 0 [] [] 0=(gl.map (·.1),used)/\
  L'=pt bl (.cells (aC bd from_.toNat many.toNat first.toNat used) TL (0,0))::ai TC 1 so co (dR gl)::fp gl::al T TT bd D::F)
section
variable {c:Cx}{E:ap}{L:List aa}{K:List KI}
def qh {vs:List Value}(L1:List aa)(O:du E c.fn.results.toList=some vs)(J:c.R (cG vs) L1)[S:Sub L L1](hds:c.n.ds=[]:=by rfl):G c (.code .ret::K) E L:=
 λa w h D=>wp_ret (yu (qB (hds:=hds) O h (S.sat D) J))
end
def Js {num:Nat}{s:ab}{k:UInt8}{t:ab}(h:cC num s=some (k,t)):t.length<=s.length/\(k=111\/k=99):=by
 unfold cC at h;split at h
 ·rename_i O;injection h with h;injection h with D J;subst D J;exact ⟨by simp only[Ul,Sv];omega,O.2.1⟩
 ·cases h
def u99 {k:UInt8}:((k.toNat:Int)=99) ↔ k=99:=⟨λh=>UInt8.toNat_inj.1 (by rw[show (99:UInt8).toNat=99 from rfl];omega),λh=>by rw[h];rfl⟩
def vP {first:Nat}{J:Nat->ab}{f i used:Nat}{out:an}{D:List ChangeM}(h:cC (first+i) (J i)=none):wu first J (f+1) i out D used=(out,used):=by rw[hO,h]
def Jt {first:Nat}{J:Nat->ab}{f i used:Nat}{out:an}{D:List ChangeM}{t:ab}(h:cC (first+i) (J i)=some (99,t))(O:t=yb D.length):wu first J (f+1) i out D used=wu first J f (i+1) (out++ [D]) [] (i+1):=by rw[hO,h];simp only;rw[RI trivial,RI O]
def Ju {first:Nat}{J:Nat->ab}{f i used:Nat}{out:an}{D:List ChangeM}{t:ab}(h:cC (first+i) (J i)=some (99,t))(O:¬t=yb D.length):wu first J (f+1) i out D used=(out,used):=by rw[hO,h];simp only;rw[RI trivial,RJ O]
def Jv {first:Nat}{J:Nat->ab}{f i used:Nat}{out:an}{D:List ChangeM}{t:ab}{k:UInt8}(h:cC (first+i) (J i)=some (k,t))(O:¬k=99)(R:(cI t).2=0):wu first J (f+1) i out D used=wu first J f (i+1) out (D++ [(cI t).1]) used:=by rw[hO,h];simp only;rw[RJ O,RI R]
def Jw {first:Nat}{J:Nat->ab}{f i used:Nat}{out:an}{D:List ChangeM}{t:ab}{k:UInt8}(h:cC (first+i) (J i)=some (k,t))(O:¬k=99)(R:¬(cI t).2=0):wu first J (f+1) i out D used=(out,used):=by rw[hO,h];simp only;rw[RJ O,RJ R]
def Jx (h:go)(d:List ChangeM)(s:Option Addr)(c:Nat):dR h++ [[sl s d.length c]]=dR (h++ [(d,(s,c))]):=by simp[dR]
def Jy (h:go)(d:List ChangeM)(s:Option Addr)(c:Nat):(h++ [(d,(s,c))]).map (·.1)=h.map (·.1)++ [d]:=by simp
def Jz (a:List ChangeM)(x:ChangeM):ah a++ [ym x]=ah (a++ [x]):=by simp[ah]
def Cj (S:Nat)(D:DiskM)(from_ many first:Int)(hS:∀x∈D.now,x.length=80)(hbd:D.now.length<=1000000/\first<=1000000000000)(F:List aa):Ct Tryz.prog 116 [ptr S 0,I from_,I many,I first] (al 179 319 S (D)::F) (oy 179 319 273 33 S D from_ many first F):=by
 refine Ct.of func116 rR 103 ntmps116 (by simp) λw0=>?_;refine gS (gA rR (gA rR (gQ rR (qb (gS (gM rR (gV (qH rR rR) (gM rR (gK rR rR (qn rR) (gK rR rR (qH rR rR) (gV (aD rR rR) (gM rR (gK rR rR (qn rR) (gK rR rR (qn rR) ?_))))))))))))));refine jz rR rR (λhg=>yW (Pre:=[al 179 319 S (D)]) (R:=λF=>R1 (I (D.now.length:Int)) (al 179 319 S (D)::F)) call112 rR (wn S D)) rR rR ?_;refine gK rR rR (qX rR rR) (gV (aD rR rR) (gM rR (gK rR rR (qn rR) (gK rR rR (qn rR) ?_))));refine jz rR rR (λhg=>yW (Pre:=[al 179 319 S (D)]) (R:=λF=>R1 (I (D.now.length:Int)) (al 179 319 S (D)::F)) call112 rR (wn S D)) rR rR ?_;refine gK rR rR (qn rR) (lq rR rR (λhg=>cZ (r:=(D.now.length:Int) - many) rR rR (ao (by simp at hg;omega))) rR rR (gK rR rR (qX rR rR) (gV (aD rR rR) (gM rR (gK rR rR (qn rR) (gK rR rR (qH rR rR) (gV (aD rR rR) (qc ?_))))))));refine qd rfl ?_ ?_ <;> intro h43
 ·simp at h43;have V:iF D from_ many first:=by unfold iF;omega
  refine gS (gV (qP OY rR rR) (gA rR (gA rR (gQ rR ?_))));exact qh (al 179 319 S (D)::F) rfl (.inl ⟨V,rfl,rfl⟩)
 ·simp at h43;have V:¬iF D from_ many first:=by unfold iF;omega
  have hb2:¬(from_<0\/many<1\/(D.now.length:Int)<many\/(D.now.length:Int) - many<from_\/first<1):=V;refine qf (qb (gS (gM rR (gR (vB call111 rR (BR S D)) (qc ?_)))));refine qd rfl ?_ ?_ <;> intro h46
  ·refine gS (gV (qP OY rR rR) (gA rR (gA rR (gQ rR ?_))));exact qh (al 179 319 S (D)::F) rfl (.inr (.inl ⟨V,h46,rfl,rfl⟩))
  ·have hdn:D.down=false:=(by simpa using h46);obtain ⟨from_,rfl⟩:=Um (show 0<=from_ by omega);obtain ⟨many,rfl⟩:=Um (show 0<=many by omega);obtain ⟨first,rfl⟩:=Um (show 0<=first by omega);refine qf (gS (gM rfl (gM rfl (gM rfl (gM rfl (gV (qF rfl (Ht _ rfl _ rfl _ rfl _ rfl)) (gI (wR (aC S from_ many first 0) rfl rfl) ?_)))))));rintro _ _ ⟨X,rfl,rfl⟩;refine gQ rR (gS (gQ rR (gS (gQ rR (qb (qb ?_))))));refine yi 33 1 (dR []) rR ?_;refine yi 174 3 (ah []) rR ?_;refine Jc ?_;refine qo (gM rR (gM rR (qc (qg ?_))));refine qC (α:=Nat×go×List ChangeM×Nat×cM×cM) (λz=>z.1<=many/\wu first (eI D from_) many 0 [] [] 0=wu first (eI D from_) (many - z.1) z.1 (z.2.1.map (·.1)) z.2.2.1 z.2.2.2.1/\z.2.2.1.length<=z.1/\z.2.1.length<=z.1/\z.2.2.2.1<=z.1) (λz=>U [(0,ptr S 0),(11,ptr X 0),(12,sl z.2.2.2.2.1.1 z.2.1.length z.2.2.2.2.1.2),(13,sl z.2.2.2.2.2.1 z.2.2.1.length z.2.2.2.2.2.2),(54,I many),(55,I z.1)]) (λz=>pt X (.cells (aC S from_ many first z.2.2.2.1) 273 (0,0))::ai 33 1 z.2.2.2.2.1.1 z.2.2.2.2.1.2 (dR z.2.1)::ai 174 3 z.2.2.2.2.2.1 z.2.2.2.2.2.2 (ah z.2.2.1)::fp z.2.1::al 179 319 S (D)::F) (λz=>many - z.1) (0,[],[],0,(none,0),(none,0)) ⟨by simp,rfl,by simp,by simp,by simp⟩ [0,11,12,13,54,55] rfl rfl ?_;rintro ⟨i,Z,J,used,⟨so,co⟩,⟨sd,cd⟩⟩ ⟨hi,hsc,hdl,hgl,hul⟩;simp only[] at hi hsc hdl hgl hul ⊢;refine gS (gV (qH rR rR) (qc (qb ?_)));refine qd rfl ?_ ?_ <;> intro h56
   ·simp at h56;have him:i<many:=(by omega);have hso:wu first (eI D from_) many 0 [] [] 0=wu first (eI D from_) ((many - (i+1))+1) i (Z.map (·.1)) J used:=by rw[hsc,show (many - (i+1))+1=many - i by omega]
    refine qf (qb (qg (gS (gM rfl (gQ rfl (gS (gM rfl (gM rfl (gR (vC call183 rfl (Jn X S from_ many first used D i (by omega) hdn hS (by omega) ⟨hbd.1,by omega⟩)) ?_)))))))));rw[show D.now.getD (from_+i) []=eI D from_ i from rfl];have hsl:(eI D from_ i).length=80:=ox (by omega) hS;rcases hlk:cC (first+i) (eI D from_ i) with _ | ⟨k,t⟩;rotate_left;obtain ⟨hts,hk2⟩:=Js hlk;by_cases hk99:k=99
    ·subst hk99;refine gM rR (gX (By 99) rR (gX (ac t) rR (gX (Bo true) rR (gA rR (gA rR (gQ rR (qb (gS (gM rR (gV (wb rR) (gM rR (yc rR rR rR (qn rR) rR (yc rR rR rR (yD rR rR) rR (yc rR rR rR (qn rR) rR (yc rR rR rR (qn rR) rR (yc rR rR rR (qn rR) rR (yc rR rR rR (qY OK rR) rR ?_)))))))))))))))));refine fB rR rR rR (yW (Pre:=[]) call184 rR (kT J.length)) rR ?_;rintro _ _ ⟨rfl,rfl⟩;refine yc rR rR rR (iu rR rR) rR (yc rR rR rR (bT rR rR) rR (gV (aD rR rR) (qc ?_)));refine qd rfl ?_ ?_ <;> intro h77
     ·simp at h77;have Y:wu first (eI D from_) many 0 [] [] 0=(Z.map (·.1),used):=by rw[hso,Ju hlk h77]
      refine qw rR ?_;refine gS (gM rR (gM rR (gA rR (gA rR (gQ rR ?_)))));refine qh (pt X (.cells (aC S from_ many first (used)) 273 (0,0))::ai 33 1 so co (dR Z)::fp Z::al 179 319 S (D)::F) rfl (.inr (.inr ⟨V,hdn,X,Z,so,co,used,rfl,(Rh hul (by omega)),(Rh hgl (by omega)),Y,rfl⟩))
     ·simp at h77;have ht:t=yb J.length:=h77;refine qf (qb (gS (gM rR (gV (yD rR rR) (qc ?_)))));refine wZ rR ?_;refine gS (gM rR (gM rR (gM rR (gI (qj [[sl sd J.length cd]] QK PF zeroValue33 rR rR rR (by simp) (by decide) (by decide)) ?_))));rintro _ _ ⟨b83,rfl,rfl⟩;refine gI (qN QK PF zeroValue33 rR Tryz.typeInfo33 (by decide) rR rR (BW _) rR (by simp) (by simp[ones,one,sl]) ⟨by omega,by decide,by decide⟩) ?_;rintro _ _ ⟨s84,c84,rfl,rfl⟩;rw[Jx,show Z.length+1=(Z++ [(J,(sd,cd))]).length by simp];refine gM rfl (gV (yr (r:=((i+1:Nat):Int)) rfl rfl (by rw[show (i:Int)+1=((i+1:Nat):Int) by omega];exact ao (by omega))) (gA rfl (gA rfl (gV (qa rfl) (gF 4 Px rfl OH rfl (gU (qG (aC S from_ many first (i+1)) OH rfl rfl rfl (by simp) rfl) (qc ?_)))))));refine qw rR ?_;refine qo (gV (yr (r:=((i+1:Nat):Int)) rfl rfl (by rw[show (i:Int)+1=((i+1:Nat):Int) by omega];exact ao (by omega))) (gM rfl (qc ?_)));refine yv (T:=174) (cap:=cd) sd ?_;refine Je Z J sd cd ?_;refine yi 174 3 (ah []) rR ?_;refine qk (i+1,Z++ [(J,(sd,cd))],[],i+1,(s84,c84),(none,0)) ⟨by simp;omega,?_,by simp,by simp;omega,by simp⟩ (by simp;omega) [0,11,12,13,54,55] rfl rfl;simp only[];rw[hso,Jt hlk ht,Jy]
    ·refine gM rR (gX (By k.toNat) rR (gX (ac t) rR (gX (Bo true) rR (gA rR (gA rR (gQ rR (qb (gS (gM rR (gV (wb rR) (gM rR ?_)))))))))));have O:¬((k.toNat:Int)=99):=λh=>hk99 (u99.1 h);refine yc rR rR rR (qn rR) rR (yc rR rR rR (yD rR rR) rR (yc rR rR rR (qn rR) rR (yL rR rR (by simp[iv,O]) rR (yL rR rR (by simp[iv,O]) rR (yL rR rR (by simp[iv,O]) rR (yL rR rR (by simp[iv,O]) rR (yL rR rR (by simp[iv,O]) rR (yc rR rR rR (bZ rR (by simp[O]) rR) rR (gV (aD rR rR) (qc ?_))))))))));refine qd rfl ?_ ?_ <;> intro h77
     ·simp at h77
     ·refine qf (qb (gS (gM rR (gV (yD rR rR) (qc ?_)))));refine qd rfl ?_ ?_ <;> intro h79
      ·simp at h79;exact absurd (u99.1 h79) hk99
      ·refine qf (gS (gM rR (gR (vA call185 rR (I6 t (by omega))) (gM rR (gX (.agg (ym (cI t).1).toArray) rR (gX (wm (cI t).2) rR (gI (qA #[ac [],ac [],Bo false] OR) ?_)))))));rintro _ _ ⟨b18,rfl,rfl⟩;refine gU (qp (cs:=#[ac [],ac [],Bo false]) (vs:=ym (cI t).1) (ym (cI t).1).toArray OJ rR rR rR rR (by decide) (qV rR)) (gQ rR (qb (gS (gM rR (gV (yP OT rR) (qc ?_))))));refine qd rfl ?_ ?_ <;> intro h95
       ·simp at h95;have Y:wu first (eI D from_) many 0 [] [] 0=(Z.map (·.1),used):=by rw[hso,Jw hlk hk99 h95]
        refine qw rR ?_;refine gS (gM rR (gM rR (gA rR (gA rR (gQ rR ?_)))));refine qh (pt X (.cells (aC S from_ many first (used)) 273 (0,0))::ai 33 1 so co (dR Z)::fp Z::al 179 319 S (D)::F) rfl (.inr (.inr ⟨V,hdn,X,Z,so,co,used,rfl,(Rh hul (by omega)),(Rh hgl (by omega)),Y,rfl⟩))
       ·simp at h95;have hpe:(cI t).2=0:=h95;refine qf (qo (gM rR (gV (qJ (vs:=ym ((cI t).1)) O4 OJ rR rR qQ) (gI (qj [ym (cI t).1] OK OJ OR rR rR rR (by simp[ym]) (by decide) (by decide)) ?_))));rintro _ _ ⟨b98,rfl,rfl⟩;refine gI (qN OK OJ OR rR Tryz.typeInfo174 (by decide) rR rR (qx _) rR (by simp[ym]) (by simp[ones,one,ym]) ⟨by omega,by decide,by decide⟩) ?_;rintro _ _ ⟨s99,c99,rfl,rfl⟩;rw[Jz,show J.length+1=(J++ [(cI t).1]).length by simp];refine gQ rfl (qD (qo (gV (yr (r:=((i+1:Nat):Int)) rfl rfl (by rw[show (i:Int)+1=((i+1:Nat):Int) by omega];exact ao (by omega))) (gM rfl (qc ?_)))));refine qk (i+1,Z,J++ [(cI t).1],used,(so,co),(s99,c99)) ⟨by simp;omega,?_,by simp;omega,by simp only[];omega,by simp only[];omega⟩ (by simp;omega) [0,11,12,13,54,55] rfl rfl;simp only[];rw[hso,Jv hlk hk99 hpe]
    ·refine gM rR (gX (By 0) rR (gX (ac []) rR (gX (Bo false) rR (gA rR (gA rR (gQ rR (qb (gS (gM rR (gV (wb rR) (gM rR (yL rR rR rR rR (yL rR rR rR rR (yL rR rR rR rR (yL rR rR rR rR (yL rR rR rR rR (yL rR rR rR rR (yL rR rR rR rR (yL rR rR rR rR (yL rR rR rR rR (gV (cw rR rR rR) (qc ?_))))))))))))))))))))));refine wZ rR ?_;refine qw rR ?_;refine gS (gM rR (gM rR (gA rR (gA rR (gQ rR ?_)))));have Y:wu first (eI D from_) many 0 [] [] 0=(Z.map (·.1),used):=by rw[hso,vP hlk]
     refine qh (pt X (.cells (aC S from_ many first (used)) 273 (0,0))::ai 33 1 so co (dR Z)::fp Z::al 179 319 S (D)::F) rfl (.inr (.inr ⟨V,hdn,X,Z,so,co,used,rfl,(Rh hul (by omega)),(Rh hgl (by omega)),Y,rfl⟩))
   ·simp at h56;obtain rfl:many=i:=(by omega);have Y:wu first (eI D from_) many 0 [] [] 0=(Z.map (·.1),used):=by rw[hsc,Un];rfl
    refine qw rR ?_;refine gS (gM rR (gM rR (gA rR (gA rR (gQ rR ?_)))));refine qh (pt X (.cells (aC S from_ many first (used)) 273 (0,0))::ai 33 1 so co (dR Z)::fp Z::al 179 319 S (D)::F) rfl (.inr (.inr ⟨V,hdn,X,Z,so,co,used,rfl,(Rh hul (by omega)),(Rh hgl (by omega)),Y,rfl⟩))
open Go Go.Sl Go.Proofs
abbrev kl (a b:ab):Bool:=Op.bytesLess a b
def jf:∀a:ab,kl a a=false
 | []=>rfl
 | x::a=>by
  show (decide (x<x) || (x==x && Op.bytesLess a a))=false;rw[show Op.bytesLess a a=false from jf a];simp[UInt8.lt_iff_toNat_lt]
def jg:∀{a b c:ab},kl a b=true->kl b c=true->kl a c=true
 | a,[],c,J,O=>by cases a <;> cases J
 | a,b,[],J,O=>by cases b <;> cases O
 | [],y::b,z::c,J,O=>rfl
 | x::a,y::b,z::c,J,O=>by
  have D:(decide (x<y) || (x==y && Op.bytesLess a b))=true:=J;have h:(decide (y<z) || (y==z && Op.bytesLess b c))=true:=O;show (decide (x<z) || (x==z && Op.bytesLess a c))=true;simp only[SN,decide_eq_true_eq,Ru,beq_iff_eq,UInt8.lt_iff_toNat_lt] at D h ⊢;rcases D with D | ⟨rfl,D⟩
  ·rcases h with h | ⟨rfl,h⟩
   ·left;omega
   ·left;exact D
  ·rcases h with h | ⟨rfl,h⟩
   ·left;exact h
   ·exact .inr ⟨rfl,jg D h⟩
def lH:∀(a b:ab),kl a b=true\/a=b\/kl b a=true
 | [],[]=> .inr (.inl rfl)
 | [],_::_=> .inl rfl
 | _::_,[]=> .inr (.inr rfl)
 | x::a,y::b=>by
  show (decide (x<y) || (x==y && Op.bytesLess a b))=true\/x::a=y::b\/(decide (y<x) || (y==x && Op.bytesLess b a))=true;simp only[SN,decide_eq_true_eq,Ru,beq_iff_eq,UInt8.lt_iff_toNat_lt];rcases Uo x.toNat y.toNat with h | h | h
  ·exact .inl (.inl h)
  ·have e:x=y:=UInt8.toNat_inj.1 h;subst e;rcases lH a b with D | D | D
   ·exact .inl (.inr ⟨rfl,D⟩)
   ·exact .inr (.inl (by rw[D]))
   ·exact .inr (.inr (.inr ⟨rfl,D⟩))
  ·exact .inr (.inr (.inl h))
def jh {a b:ab}(h:kl a b=true):kl b a=false:=by
 cases D:kl b a
 ·rfl
 ·have:=jg h D;rw[jf] at this;cases this
def dP {a b:ab}(h:kl a b=true):a≠b:=λe=>by rw[e,jf] at h;cases h
def j6:∀(a b:ab),(Lib.compareBytes a b<0 ↔ kl a b=true)/\(Lib.compareBytes a b=0 ↔ a=b)
 | [],[]=>by simp[Lib.compareBytes,kl,Op.bytesLess]
 | [],_::_=>by simp[Lib.compareBytes,kl,Op.bytesLess]
 | _::_,[]=>by simp[Lib.compareBytes,kl,Op.bytesLess]
 | x::a,y::b=>by
  have R:=j6 a b;have O:kl (x::a) (y::b)=(decide (x<y) || (x==y && Op.bytesLess a b)):=rfl;rw[O];unfold Lib.compareBytes;simp only[UInt8.lt_iff_toNat_lt,SN,decide_eq_true_eq,Ru,beq_iff_eq];rcases Uo x.toNat y.toNat with h | h | h
  ·rw[RI h];have D:x≠y:=λe=>(by rw[e] at h;omega);simp[h,D]
  ·have e:x=y:=UInt8.toNat_inj.1 h;subst e;rw[RJ (by omega),RJ (by omega)];simp only[Nat.lt_irrefl,false_or,true_and,List.cons.injEq];exact R
  ·rw[RJ (by omega),RI h];have D:x≠y:=λe=>(by rw[e] at h;omega);have J:¬x.toNat<y.toNat:=(by omega);simp[J,D]
def srt (l:List ChangeM):Prop:=l.Pairwise λa b=>kl a.key b.key=true
def oA (k:ab):∀{l:List ChangeM},srt l->∃A B,l=A++B/\(∀a∈A,kl a.key k=true)/\((∃b O,B=b::O/\b.key=k/\∀x∈O,kl k x.key=true)\/∀x∈B,kl k x.key=true)
 | [],_=>⟨[],[],rfl,by simp, .inr (by simp)⟩
 | r::l,h=>by
  have R:=(Uq.1 h).1;rcases lH r.key k with D | D | D
  ·obtain ⟨A,B,rfl,S,V⟩:=oA k (Uq.1 h).2;exact ⟨r::A,B,rfl,λa J=>by rcases RR.1 J with rfl | J;exact D;exact S a J,V⟩
  ·exact ⟨[],r::l,rfl,by simp, .inl ⟨r,l,rfl,D,λx hx=>by rw[<-D];exact R x hx⟩⟩
  ·exact ⟨[],r::l,rfl,by simp, .inr λx hx=>by rcases RR.1 hx with rfl | hx;exact D;exact jg D (R x hx)⟩
def ba (l:List ChangeM)(k:ab):Nat:=(l.filter λr=>kl r.key k).length
def cD (l:List ChangeM)(k:ab):Bool:=l.any λr=>decide (r.key=k)
def fu (l:List ChangeM)(c:ChangeM):List ChangeM:=(l.filter λr=>kl r.key c.key)++(if c.gone then [] else [c])++l.filter λr=>kl c.key r.key
def oB {l:List ChangeM}{p:ChangeM->Bool}(h:∀x∈l,p x=true):l.filter p=l:=Tt.2 h
def oD {l:List ChangeM}{p:ChangeM->Bool}(h:∀x∈l,p x=false):l.filter p=[]:=Ur.2 λx hx=>by rw[h x hx];simp
def parts {k:ab}{A B:List ChangeM}(S:∀a∈A,kl a.key k=true)(D:(∃b h,B=b::h/\b.key=k/\∀x∈h,kl k x.key=true)\/∀x∈B,kl k x.key=true):
  (A++B).filter (λr=>kl r.key k)=A/\ba (A++B) k=A.length/\
  ((∃b h,B=b::h/\b.key=k/\cD (A++B) k=true/\(A++B).filter (λr=>kl k r.key)=h)\/(cD (A++B) k=false/\(A++B).filter (λr=>kl k r.key)=B)):=by
 have f1:A.filter (λr=>kl r.key k)=A:=oB S;have f2:A.filter (λr=>kl k r.key)=[]:=oD λx hx=>jh (S x hx);have V:A.any (λr=>decide (r.key=k))=false:=Us.2 λx hx=>(by simpa using dP (S x hx));rcases D with ⟨b,h,rfl,O,D⟩ | D
 ·have J:(b::h).filter (λr=>kl r.key k)=[]:=oD λx hx=>by
   rcases RR.1 hx with rfl | hx
   ·rw[O];exact jf k
   ·exact jh (D x hx)
  have R:(b::h).filter (λr=>kl k r.key)=h:=by
   rw[Ut,O,jf,RJ (by simp)];exact oB D
  refine ⟨by rw[TA,f1,J,T6],by unfold ba;rw[TA,f1,J,T6], .inl ⟨b,h,rfl,O,?_,by rw[TA,f2,R];rfl⟩⟩;unfold cD;rw[Uu,Uv,O];simp
 ·have J:B.filter (λr=>kl r.key k)=[]:=oD λx hx=>jh (D x hx);have R:B.filter (λr=>kl k r.key)=B:=oB D;refine ⟨by rw[TA,f1,J,T6],by unfold ba;rw[TA,f1,J,T6], .inr ⟨?_,by rw[TA,f2,R];rfl⟩⟩;unfold cD;rw[Uu,V];exact Us.2 λx hx=>by simpa using (dP (D x hx)).symm
def Ck {l:List ChangeM}(h:srt l)(k:ab){j:Nat}{r:ChangeM}(O:l[j]? =some r):kl r.key k=true ↔ j<ba l k:=by
 obtain ⟨A,B,rfl,S,D⟩:=oA k h;rw[(parts S D).2.1];by_cases R:j<A.length
 ·rw[Ri R] at O;exact ⟨λ_=>R,λ_=>S r (R5 O)⟩
 ·rw[Rj (by omega)] at O;have J:=R5 O;have:kl r.key k=false:=by
   rcases D with ⟨b,X,rfl,V,D⟩ | D
   ·rcases RR.1 J with rfl | J
    ·rw[V];exact jf k
    ·exact jh (D r J)
   ·exact jh (D r J)
  rw[this];exact ⟨λh=>(by cases h),λh=>absurd h R⟩
def oE (l:List ChangeM)(k:ab):ba l k<=l.length:=TG _ _
def lI {l:List ChangeM}(h:srt l)(k:ab):cD l k=(match l[ba l k]? with | some r=>decide (r.key=k) | none=>false):=by
 obtain ⟨A,B,rfl,O,R⟩:=oA k h;obtain ⟨_,V,X⟩:=parts O R;rw[V,Rj (Ra _),Un];rcases X with ⟨b,J,rfl,S,D,_⟩ | ⟨D,_⟩
 ·rw[D];simp[S]
 ·rw[D];cases B with
  | nil=>rfl
  | cons b J=>
   unfold cD at D;rw[Uu,Uv] at D;simp at D;simp[D.2.1]
def kU {l:List ChangeM}(h:srt l)(c:ChangeM):fu l c=if cD l c.key=true then (if c.gone=true then l.eraseIdx (ba l c.key) else l.set (ba l c.key) c) else (if c.gone=true then l else l.take (ba l c.key)++ [c]++l.drop (ba l c.key)):=by
 obtain ⟨A,B,rfl,R,S⟩:=oA c.key h;obtain ⟨V,X,Y⟩:=parts R S;unfold fu;rw[V,X];rcases Y with ⟨b,Z,rfl,hb,O,J⟩ | ⟨O,J⟩
 ·rw[O,J,RI rfl];by_cases D:c.gone=true
  ·rw[RI D,RI D,RF (Ra _),Un];simp
  ·rw[RJ D,RJ D,Ux _ _ (Ra _),Un];simp
 ·rw[O,J,RJ (show ¬(false=true) by simp)];by_cases D:c.gone=true
  ·rw[RI D,RI D];simp
  ·rw[RJ D,RJ D];simp
def JA {l:List ChangeM}(h:srt l)(c:ChangeM):srt (fu l c):=by
 unfold fu srt;rw[Sr];refine RD.2 ⟨h.sublist Tm,RD.2 ⟨by split <;> simp,h.sublist Tm,λa J b D=>?_⟩,λa J b D=>?_⟩
 ·split at J
  ·cases J
  ·simp at J D;subst J;exact D.2
 ·simp only[Tz] at J;rcases Sc.1 D with D | D
  ·split at D
   ·cases D
   ·simp at D;subst D;exact J.2
  ·simp only[Tz] at D;exact jg J.2 D.2
def JB (l:List ChangeM)(c:ChangeM)(h:srt l):(fu l c).length<=l.length+1:=by
 rw[kU h];split
 ·split
  ·have:=List.length_eraseIdx_le l (ba l c.key);omega
  ·simp
 ·split
  ·omega
  ·have:=oE l c.key;simp;omega
def cV (c:ChangeM)(z:Bool×List ChangeM)(r:ChangeM):Bool×List ChangeM:=
 let y:=if (!z.1 && (kl c.key r.key || decide (c.key=r.key)))=true then (true,z.2++ [c]) else z
 if r.key≠c.key then (y.1,y.2++ [r]) else y
def ef (c:ChangeM)(l:List ChangeM):Bool×List ChangeM:=l.foldl (cV c) (c.gone,[])
def kV (c:ChangeM)(z:Bool×List ChangeM):List ChangeM:=if z.1=true then z.2 else z.2++ [c]
def JC {c:ChangeM}{l:List ChangeM}{k:Nat}{r:ChangeM}(h:l[k]? =some r):ef c (l.take (k+1))=cV c (ef c (l.take k)) r:=by
 unfold ef;rw[mz h,Uy]
 rfl
def Cl (c:ChangeM):∀(A:List ChangeM) (z:Bool×List ChangeM),(∀a∈A,kl a.key c.key=true)->A.foldl (cV c) z=(z.1,z.2++A)
 | [],z,_=>by simp
 | a::A,z,h=>by
  have D:=h a (by simp);have e:cV c z a=(z.1,z.2++ [a]):=by
   unfold cV;rw[jh D,S5 (λJ=>dP D J.symm)];simp[dP D]
  rw[SF,e,Cl c A _ λx hx=>h x (by simp[hx])];simp
def oF (c:ChangeM):∀(B:List ChangeM) (l:List ChangeM),(∀a∈B,kl c.key a.key=true)->B.foldl (cV c) (true,l)=(true,l++B)
 | [],z,_=>by simp
 | a::B,z,h=>by
  have D:=h a (by simp);have e:cV c (true,z) a=(true,z++ [a]):=by
   unfold cV;simp[(dP D).symm]
  rw[SF,e,oF c B _ λx hx=>h x (by simp[hx])];simp
def JD {l:List ChangeM}(h:srt l)(c:ChangeM):kV c (ef c l)=fu l c:=by
 obtain ⟨A,B,rfl,X,D⟩:=oA c.key h;obtain ⟨p1,p2,p3⟩:=parts X D;unfold fu ef;rw[p1,Uy,Cl c A _ X];simp only[SK];rcases D with ⟨b,R,rfl,S,D⟩ | D
 ·have V:(A++b::R).filter (λr=>kl c.key r.key)=R:=by
   rcases p3 with ⟨b2,B2,e,_,_,V⟩ | ⟨Y,_⟩
   ·injection e with e1 Z;rw[V,Z]
   ·unfold cD at Y;rw[Uu,Uv,S] at Y;simp at Y
  rw[V,SF];by_cases J:c.gone=true
  ·have e:cV c (c.gone,A) b=(true,A):=(by unfold cV;simp[J,S]);rw[e,oF c R _ D,RI J];simp[kV]
  ·have O:c.gone=false:=(by simpa using J);have e:cV c (c.gone,A) b=(true,A++ [c]):=(by unfold cV;simp[O,S]);rw[e,oF c R _ D,RJ J];simp[kV]
 ·have V:(A++B).filter (λr=>kl c.key r.key)=B:=by
   rw[TA,oD λx hx=>jh (X x hx),oB D];rfl
  rw[V];by_cases J:c.gone=true
  ·rw[J,oF c B _ D,RI rfl];simp[kV]
  ·have O:c.gone=false:=(by simpa using J);rw[O,RJ (by simp)];cases B with
   | nil=>simp[kV]
   | cons b R=>
    have S:=D b (by simp);have e:cV c (false,A) b=(true,A++ [c]++ [b]):=(by unfold cV;simp[S,(dP S).symm]);rw[SF,e,oF c R _ λx hx=>D x (by simp[hx])];simp[kV]
def wS (l:List ChangeM)(cs:List ChangeM):List ChangeM:=cs.foldl fu l
def Cm {l cs:List ChangeM}{k:Nat}{r:ChangeM}(h:cs[k]? =some r):wS l (cs.take (k+1))=fu (wS l (cs.take k)) r:=by
 unfold wS;rw[mz h,Uy]
 rfl
def oG:∃fn,Tryz.prog.funcs[271]? =some fn/\(fn.name== "runtime.NumGoroutine")=false/\fn.body.isNone=true/\Extern.findNext fn=none/\Extern.find fn=some Extern.BytealgCompare.compare:=
 ⟨(Tryz.prog.funcs[271]?).get (by kernel_rfl),(Uz _).symm,by kernel_rfl,by kernel_rfl,by kernel_rfl,by kernel_rfl⟩
def JE (a b:ab)(w:World):(callFunc 271 [ac a,ac b].toArray).run Tryz.prog w= .ok (.value (I (Lib.compareBytes a b))) w:=by
 obtain ⟨fn,h,D,J,O,R⟩:=oG;rw[run_callFunc_extern h D J O R];show ((Extern.BytealgCompare.compare #[.string ⟨⟨a⟩⟩, .string ⟨⟨b⟩⟩]).run Tryz.prog w).andThen _=_;rw[Lib.run_compareString]
 rfl
def JF (l:List ChangeM)(i:Nat):(ah l).take i++((ah l).drop (i+1)).take (l.length - (i+1))=ah (l.eraseIdx i):=by
 rw[T4 (i:=l.length - (i+1)) (l:=(ah l).drop (i+1)) (by simp[ah]),List.eraseIdx_eq_take_drop_succ];simp[ah]
def oH (l:List ChangeM):∀r∈ah l,ones r=true:=λr h=>by simp only[ah,SR] at h;obtain ⟨x,_,rfl⟩:=h;rfl
def mQ (l:List ChangeM):∀r∈ah l,r.length=3:=λr h=>by simp only[ah,SR] at h;obtain ⟨x,_,rfl⟩:=h;rfl
def JG (a b:ab)(F:List aa):Ct Tryz.prog 245 [ac a,ac b] (F) (R1 (I (Lib.compareBytes a b)) F):=by
 refine Ct.of func245 rR 8 ntmps245 (by simp) λw0=>?_;refine gS (gQ rR (gS (gM rR (gM rR (gR (Br (v:=I (Lib.compareBytes a b)) (JE a b) rR) (gQ rR ?_))))));refine ql rR rR ?_;exact rfl
def Cn (a b:ab)(F:List aa):Ct Tryz.prog 188 [ac a,ac b] (F) (R1 (I (Lib.compareBytes a b)) F):=by
 refine Ct.of func188 rR 8 ntmps188 (by simp) λw0=>?_;refine gS (gQ rR (gS (gM rR (gM rR (gR (vA call245 rR (JG a b)) (gQ rR ?_))))));refine ql rR rR ?_;exact rfl
def Co (x:ChangeM)(k:ab)(F:List aa):Ct Tryz.prog 187 [.agg (ym x).toArray,ac k] (F) (R1 (I (Lib.compareBytes x.key k)) F):=by
 refine Ct.of func187 rR 9 ntmps187 (by simp) λw0=>?_;refine gS (gI (wR (ym x).toArray rR rR) ?_);rintro _ _ ⟨h,rfl,rfl⟩;refine gQ rR (gS (gF 0 OS rR ON rR (gL (ac x.key) OQ rR (gM rR (gR (vA call188 rR (Cn x.key k)) (gQ rR ?_))))));refine ql rR rR ?_;exact rfl
def Cp (l:List ChangeM)(s:Option Addr)(cap:Nat)(hl:l.length<=1000000)(F:List aa):Ct Tryz.prog 121 [sl s l.length cap] (roL 3 s (ah l)::F) (dU 174 3 l.length (ah l) (roL 3 s (ah l)::F)):=by
 refine Ct.of func121 rR 8 ntmps121 (by simp) λw0=>?_;refine uM (φ:=s=none->l=[]) (λw V X=>by
  have R:=(SlR.ro (sz:=3) (s:=s) (rows:=ah l) (L:=F)).out w0 w V;rcases R with h | ⟨b,o,ob,h,_⟩
  ·simpa [ah] using h
  ·rw[X] at h;cases h) (λD=>?_)
 refine gS (gQ rR (qb (gS (gM rR (gV (u0 OK rR) (qc ?_))))));refine qd rfl ?_ ?_ <;> intro S
 ·have O:s=none:=(by simpa using S);have J:=D O;subst J;refine yi 174 3 (ah []) rR ?_;refine gS (gQ rR ?_);exact wk rfl rfl rfl rfl
 ·refine qf (gS (gI (uX OK OJ) ?_));rintro _ _ ⟨Y,rfl,rfl⟩;refine gM rR (gI (qN OK OJ OR rR Tryz.typeInfo174 (by decide) rR rR rR (qx l) (mQ l) (oH l) ⟨by omega,by decide,by decide⟩) ?_);rintro _ _ ⟨s7,Z,rfl,rfl⟩;rw[Sa];simp only[SK];refine gQ rR ?_;exact wk rfl rfl rfl rfl
def JH (l:List ChangeM)(s:Option Addr)(cap i:Nat)(O:i<l.length)(R:l.length<=1000000)(F:List aa):Ct Tryz.prog 189 [sl s l.length cap,I i,I ((i:Int)+1)] (ai 174 3 s cap (ah l)::F) (R1 (sl s (l.length - 1) cap) (ai 174 3 s cap (ah (l.eraseIdx i))::F)):=by
 refine Ct.of func189 rR 33 ntmps189 (by simp) λw0=>?_;refine kH s λD=>?_;rw[qx] at D;refine gS (gQ rR (gS (gM rR (gM rR (gM rR (gM rR (gV (qY OK rR) (gV (Bj (l:=i) (h:=i+1) (q:=l.length) OK OJ rR rR rR rR (by omega) rR rR (by omega) (by omega) D) (qc (qb (gS (gM rR (gM rR (gV (yD rR rR) (qc ?_)))))))))))))));refine qd rfl ?_ ?_ <;> intro J
 ·simp at J;omega
 ·refine qf (gS (gM rR (gV (qY OK rR) (gQ rR (qb ?_)))));refine yO (Lf:=F) jC (by kernel_rfl) (by kernel_rfl) rR (by kernel_rfl) ?_;refine dM rR rR rR (dM rR rR rR (dV rR (jV (h:=i) OK OJ rR rR rR (by omega)) (dM rR rR rR (dM rR rR rR (dV rR (fN (l:=i+1) OK OJ rR rR (by omega) (by omega)) (av rR (HG (s:=s) (p:=i+1) OK OJ (by decide) rR rR (by unfold At;split;exact .inr (.inr (by omega));exact .inr (.inl rR)) (by rw[qx];omega) (by rw[qx];omega) (by rw[qx];omega) (by rw[qx];omega) (oH l)) rR ?_))))));rintro _ _ ⟨rfl,rfl⟩;rw[JF];refine dV rR (qt rR) ?_;refine qI ?_;refine gS (gM rR (gM rR (gV (qY OK rR) (gM rR (gV (Hx (l:=i+(l.length - (i+1))) (h:=l.length) OK OJ rR rR rR rR rR (by omega) D) (cl (u5 (sz:=3) (l:=i+(l.length - (i+1))) s OK OR rR rR rR (by unfold At;split;exact .inr (.inr (by omega));exact .inr (.inl rR)) (by rw[qx,UA];split <;> omega) (by omega)) ?_))))));rintro _ _ ⟨rfl,rfl⟩;refine qc (gS (gM rR (gQ rR ?_)));exact ql rfl rfl (by rw[show l.length - 1=i+(l.length - (i+1)) by omega];rfl)
def JI (l:List ChangeM)(s:Option Addr)(cap:Nat)(k:ab)(Z:srt l)(hl:l.length<=1000000)(F:List aa):Ct Tryz.prog 186 [sl s l.length cap,ac k, .func (.func 187) #[] #[]] (ai 174 3 s cap (ah l)::F) (R1 (.tuple #[I (ba l k),Bo (cD l k)]) (ai 174 3 s cap (ah l)::F)):=by
 refine Ct.of func186 rR 49 ntmps186 (by simp) λw0=>?_;refine gS (gA rR (gQ rR (gS (gM rR (gV (qY OK rR) (gQ rR (gS (gM rR (gA rR (gQ rR (qb (qg ?_))))))))))));refine qC (α:=Nat×Nat) (λz=>z.1<=ba l k/\ba l k<=z.2/\z.2<=l.length) (λz=>U [(0,sl s l.length cap),(1,ac k),(2, .func (.func 187) #[] #[]),(8,I l.length),(9,I z.1),(10,I z.2)]) (λ_=>ai 174 3 s cap (ah l)::F) (λz=>z.2 - z.1) (0,l.length) ⟨by simp,oE _ _,Ra _⟩ [0,1,2,8,9,10] rfl rR ?_;rintro ⟨i,j⟩ ⟨hi,hj,X⟩;simp only[] at hi hj X ⊢;refine qb (gS (gM rR (gM rR (gV (qH rR rR) (qc ?_)))));refine qd rfl ?_ ?_ <;> intro V
 ·simp at V;refine qf (qg (qb ?_));have R:(i+j) / 2<l.length:=(by omega);obtain ⟨x,hx⟩:∃x,l[(i+j) / 2]? =some x:=⟨_,S6 R⟩;have S:(i+j) / 2<(ah l).length:=(by rw[qx];exact R);have Y:=Ck Z k hx;refine qo (gM rfl (gM rfl (gP rfl rfl (by omega) (gV (yS OL Qr rfl (fO (by omega))) (gV (fA (r:=(((i+j) / 2:Nat):Int)) rfl rfl (by decide) (by rw[show min ((1:Int).toNat) IntKind.u64.bits=1 by decide,SV _ (by decide)];omega)) (gV (yS Qr OL rfl (ao (by omega))) (gQ rfl (gS (gM rfl (gM rfl (gM rfl (gV (qv ((i+j) / 2) OK OJ rfl rfl rfl R S) (gV (qZ (row:=ym x) O4 OJ rfl (yX hx) rfl) (gM rfl (gI (fC (fi:=[]) (cap:=[]) (Pre:=[]) call187 rfl rfl (Co x k)) ?_)))))))))))))));rintro _ _ ⟨rfl,rfl⟩;refine gV (qH rR rR) (qc ?_);refine qd rfl ?_ ?_ <;> intro J
  ·simp at J;refine qo (gM rR (gP rR rR (by omega) (gQ rR (qD ?_))));exact qk ((i+j) / 2+1,j) ⟨by simp only[];have:=Y.1 ((j6 _ _).1.1 J);omega,hj,X⟩ (by simp only[];omega) [0,1,2,8,9,10] rfl rfl
  ·simp at J;refine qo (gM rR (gQ rR (qD ?_)));exact qk (i,(i+j) / 2) ⟨hi,by simp only[];rcases Rq ((i+j) / 2) (ba l k) with h | h;have:=(j6 _ _).1.2 (Y.2 h);omega;exact h,by simp only[];omega⟩ (by simp only[];omega) [0,1,2,8,9,10] rfl rfl
 ·simp at V;obtain rfl:i=ba l k:=(by omega);refine qw rR ?_;refine gS (gM rR (gM rR (gM rR (gV (qH rR rR) (gM rR ?_)))));by_cases O:ba l k<l.length
  ·obtain ⟨x,hx⟩:∃x,l[ba l k]? =some x:=⟨_,S6 O⟩;have S:ba l k<(ah l).length:=(by rw[qx];exact O);have D:decide ((ba l k:Int)<l.length)=true:=S8 (by omega);refine yc rR rR D (qn rR) rR (yc rR rR D (qn rR) rR (yc rR rR D (qn rR) rR (yc rR rR D (qv (ba l k) OK OJ rR rR rR O S) rR (yc rR rR D (qZ (row:=ym x) O4 OJ rR (yX hx) rR) rR (yc rR rR D (qn rR) rR ?_)))));refine fB rR rR D (fC (fi:=[]) (cap:=[]) (Pre:=[]) call187 rR rR (Co x k)) rR ?_;rintro _ _ ⟨rfl,rfl⟩;refine yc rR rR D (yD rR rR) rR (gV (bT rR rR) (gA rR (gQ rR ?_)));exact ql rfl rfl (by rw[lI Z,hx];show Value.tuple #[I (ba l k),Bo (decide ((ba l k:Int)<l.length) && decide (Lib.compareBytes x.key k=0))]=_;rw[D,TM,decide_eq_decide.2 (j6 x.key k).2])
  ·have D:decide ((ba l k:Int)<l.length)=false:=S5 (by omega);refine yL rR rR (by rw[D];rfl) rR (yL rR rR (by rw[D];rfl) rR (yL rR rR (by rw[D];rfl) rR (yL rR rR (by rw[D];rfl) rR (yL rR rR (by rw[D];rfl) rR (yL rR rR (by rw[D];rfl) rR (yL rR rR (by rw[D];rfl) rR (yL rR rR (by rw[D];rfl) rR (gV (bZ rR D rR) (gA rR (gQ rR ?_))))))))));exact ql rfl rfl (by rw[lI Z,Ue (by omega)];rfl)
section
variable {c:Cx}{g:Option (Nat×Bool)}{E:ap}{L:List aa}{d:Option Tmp}{ty:TypeId}{pos:String}{af:Array Edge}{gu:Option (Nat×Bool)}{x:Operand}{t e:TypeId}{s:Option Addr}{n cap:Nat}
def JJ (J:c.P.underlying t=some (.slice e))(hx:ev g E x=some (sl s n cap)):OpV c g E L ⟨d, .call {callee:= .builtin .cap,args:=#[x],argTypes:=#[t]},ty,pos,af,gu⟩ (I cap):= .mk λa w h D O=>by
 simp[execOp,resolve,invoke,builtin,Builtin.cap_,underlying,program,Sem.run,J,h.ev D hx,sl,goInt]
end
def JK:∃fn,Tryz.prog.funcs[246]? =some fn/\(fn.name== "runtime.NumGoroutine")=false/\fn.body.isNone=true/\Extern.findNext fn=none/\Extern.find fn=some (Extern.SlicesOverlaps.overlaps #[33,33] #[4]):=
 ⟨(Tryz.prog.funcs[246]?).get (by kernel_rfl),(Uz _).symm,by kernel_rfl,by kernel_rfl,by kernel_rfl,by kernel_rfl⟩
def JL {w0 w:World}{L J D:List aa}{b1 h c1 c2 l1 l2 n1 n2 p:Nat}{r1 r2:List (List Value)}[R1:Rem L (ai 174 3 (some ⟨b1,0,none⟩) c1 r1) J][R2:Rem J (ai 174 3 (some ⟨h,0,none⟩) c2 r2) D](V:0<r2.length)(hS:Sat w0 w L):
  (callFunc 246 [sl (some ⟨b1,0,none⟩) l1 n1,sl (some ⟨h,p,none⟩) l2 n2].toArray).run Tryz.prog w= .ok (.value (Bo false)) w:=by
 obtain ⟨fn,X,Y,Z,h4,h5⟩:=JK;have O:=R1.sat hS;have r3:Rem (ai 174 3 (some ⟨b1,0,none⟩) c1 r1::J) (ai 174 3 (some ⟨h,0,none⟩) c2 r2) (ai 174 3 (some ⟨b1,0,none⟩) c1 r1::D):=inferInstance;have R:=r3.sat O;have r4:Rem (ai 174 3 (some ⟨h,0,none⟩) c2 r2::ai 174 3 (some ⟨b1,0,none⟩) c1 r1::D) (ai 174 3 (some ⟨b1,0,none⟩) c1 r1) (ai 174 3 (some ⟨h,0,none⟩) c2 r2::D):=inferInstance;have S:=r4.sat R;rw[run_callFunc_extern X Y Z h4 h5];have:=Ie (P:=Tryz.prog) (t:=33) (tR:=4) (l1:=l1) (l2:=l2) (n1:=n1) (n2:=n2) (p:=p) OK OJ (by decide) V S;show ((Extern.SlicesOverlaps.overlaps _ _ #[.slice (some ⟨b1,0,none⟩) l1 n1, .slice (some ⟨h,p,none⟩) l2 n2]).run Tryz.prog w).andThen _=_;rw[this]
 rfl
def iG (l:List ChangeM)(i:Nat)(c:ChangeM):List ChangeM:=l.take i++ [c]++l.drop i
def oI (a b:List ChangeM):ah (a++b)=ah a++ah b:=by simp[ah]
def vQ (a:List ChangeM)(i:Nat):ah (a.take i)=(ah a).take i:=by simp[ah]
def vS (a:List ChangeM)(i:Nat):ah (a.drop i)=(ah a).drop i:=by simp[ah]
section
variable {l:List ChangeM}{i:Nat}{c:ChangeM}
def oJ {α:Type}(A R:List α)(y x:α):(A++y::R).take A.length++ [x]++(A++y::R).drop (A.length+1)=A++x::R:=by
 rw[List.take_left',Sr]
 ·congr 1;rw[List.drop_append];simp
 ·rfl
def vT {α:Type}(P R X:List α)(h:X.length=R.length):(P++R).take P.length++X.take R.length++(P++R).drop (P.length+R.length)=P++X:=by
 have D:(P++R).take P.length=P:=List.take_left' rfl;have J:X.take R.length=X:=T4 (by omega);have O:(P++R).drop (P.length+R.length)=[]:=T5 (by simp);rw[D,J,O,T6]
def vU (R:i<=l.length){q:Nat}(O:Nat.min 1 q=1){z:List Value}:((ah l).take i++List.replicate (l.length+1 - i) z).take i++([ym c].drop 0).take (Nat.min 1 q)++((ah l).take i++List.replicate (l.length+1 - i) z).drop (i+Nat.min 1 q)=ah (l.take i++ [c])++List.replicate (l.length - i) z:=by
 rw[O];have D:((ah l).take i).length=i:=(by rw[Sv,qx];omega);have J:List.replicate (l.length+1 - i) z=z::List.replicate (l.length - i) z:=(by rw[show l.length+1 - i=(l.length - i)+1 by omega];rfl);have h:=oJ ((ah l).take i) (List.replicate (l.length - i) z) z (ym c);rw[D] at h;rw[J,oI,vQ,Sr ((ah l).take i) (ah [c])];exact h
def vV (O:i<=l.length){m q:Nat}(J:Nat.min m q=l.length - i){z:List Value}:(ah (l.take i++ [c])++List.replicate (l.length - i) z).take (i+1)++((ah l).drop i).take (Nat.min m q)++(ah (l.take i++ [c])++List.replicate (l.length - i) z).drop (i+1+Nat.min m q)=ah (iG l i c):=by
 rw[J];have D:(ah (l.take i++ [c])).length=i+1:=(by rw[qx];simp;omega);have h:=vT (ah (l.take i++ [c])) (List.replicate (l.length - i) z) ((ah l).drop i) (by rw[Ul,qx,Te]);rw[D,Te] at h;rw[h];unfold iG;rw[oI _ (l.drop i),vS]
def vW (h:i<=l.length){g:List Value}:((ah l++ [g]).drop i).take (l.length - i)=(ah l).drop i:=by
 rw[UB (by rw[qx];exact h),SY (by rw[Ul,qx];omega),T4 (by rw[Ul,qx];omega)]
def vX (R:i<l.length){m q:Nat}(O:Nat.min m q=l.length - i){g:List Value}:(ah l++ [g]).take (i+1)++((ah l++ [g]).drop i).take (Nat.min m q)++(ah l++ [g]).drop (i+1+Nat.min m q)=ah (l.take (i+1)++l.drop i):=by
 rw[O];have h:(ah l++ [g]).take (i+1)=(ah l).take (i+1):=SY (by rw[qx];omega);have D:=vW (l:=l) (i:=i) (by omega) (g:=g);have J:(ah l++ [g]).drop (i+1+(l.length - i))=[]:=T5 (by rw[Sx,qx];simp;omega);rw[h,D,J,T6,oI,vQ,vS]
def vY (R:i<l.length){q:Nat}(O:Nat.min 1 q=1):(ah (l.take (i+1)++l.drop i)).take i++([ym c].drop 0).take (Nat.min 1 q)++(ah (l.take (i+1)++l.drop i)).drop (i+Nat.min 1 q)=ah (iG l i c):=by
 rw[O,<-vQ,<-vS];have J:(l.take (i+1)).length=i+1:=(by rw[Sv];omega);have h:(l.take (i+1)++l.drop i).take i=l.take i:=by
  rw[SY (by omega),List.take_take,Sw (by omega)]
 have D:(l.take (i+1)++l.drop i).drop (i+1)=l.drop i:=List.drop_left' J;rw[h,D];unfold iG;rw[oI _ (l.drop i),oI]
 rfl
end
def JM (l:List ChangeM)(c:ChangeM)(s:Option Addr)(cap Y i:Nat)(hi:i<=l.length)(hl:l.length<=1000)(F:List aa):Ct Tryz.prog 190 [sl s l.length cap,I i,sl (some ⟨Y,0,none⟩) 1 1] (ai 174 3 s cap (ah l)::ai 174 3 (some ⟨Y,0,none⟩) 1 [ym c]::F) (dU 174 3 (l.length+1) (ah (iG l i c)) F):=by
 refine Ct.of func190 rR 95 ntmps190 (by simp) λw0=>?_;refine kH s λV=>?_;rw[qx] at V;refine gS (gQ rR (gS (gM rR (gM rR (gV (fN (l:=i) OK OJ rR rR (by omega) (by omega)) (qc (gS (gM rR (gV (qY OK rR) (gQ rR (qb (gS (gM rR (gV (yD rR rR) (qc ?_)))))))))))))));refine qd rfl ?_ ?_ <;> intro Z
 ·simp at Z
 ·refine qf (gS (gM rR (gV (qY OK rR) (gQ rR (qb (gS (gM rR (gM rR (gV (yD rR rR) (qc ?_))))))))));refine qd rfl ?_ ?_ <;> intro O
  ·simp at O;refine gS (gM rR (gM rR (gI (qN OK OJ OR rR Tryz.typeInfo174 (by decide) rR rR (qx l) rR (by simp[ym]) (by simp[ym,ones,one]) ⟨by omega,by decide,by decide⟩) ?_)));rintro _ _ ⟨s25,c25,rfl,rfl⟩;rw[show ah l++ [ym c]=ah (iG l i c) by unfold iG;rw[show i=l.length by omega];simp[ah]];refine gQ rR ?_;exact wk rfl rfl rfl rfl
  ·simp at O;refine qf (qb (gS (gM rR (gM rR (gP rR rR (by omega) (gM rR (gV (JJ OK rR) (gV (qX rR rR) (qc ?_)))))))));refine qd rfl ?_ ?_ <;> intro R
   ·simp at R;refine gS (gM rR (gM rR (gV (jV (h:=i) OK OJ rR rR rR (by omega)) (gM rR (gM rR (gP rR rR (by omega) (gM rR (gV (cZ rR rR (ao (by omega))) (gI (H9 (m:=l.length+1 - i) OK OL OJ OR rR Tryz.typeInfo174 (by decide) rR rR (by omega) (by rw[qx];exact hi) (mQ l) (by omega) (by omega) ⟨by omega,by decide,by decide⟩) ?_)))))))));rintro _ _ ⟨J,c40,rfl,rfl⟩;refine kH (some ⟨J,0,none⟩) λS=>?_;rw[Sx,Sv,qx,Te] at S;refine gQ rR (gS (gM rR (gM rR (gV (fN (l:=i) OK OJ rR rR (by omega) (by omega)) (gM rR (gR (mA (s:=(some ⟨J,0,none⟩)) (s2:=(some ⟨Y,0,none⟩)) (l:=i) (p:=0) OK OJ (by decide) rR rR (by unfold At;split;exact .inr (.inr (by omega));exact .inr (.inl rR)) (.inl ⟨rfl,rfl⟩) (by simp[ah];omega) (by simp) (by simp[ym]) (by simp[ym,ones,one])) ?_))))));refine gg (some ⟨J,0,none⟩) (ah (l.take i++ [c])++List.replicate (l.length - i) (ym d9)) (vU hi (by show min _ _=_;omega)) ?_;refine qc (qb ?_);refine yO (Lf:=F) jH (by kernel_rfl) (by kernel_rfl) rR (by kernel_rfl) ?_;refine dM rR rR rR (dM rR rR rR (dM rR rR rR (dV rR (yr rR rR (ao (by omega))) (dV rR (fN (l:=i+1) OK OJ rR rR (by omega) (by omega)) (dM rR rR rR (dM rR rR rR (dV rR (fN (l:=i) OK OJ rR rR (by omega) (by omega)) (av rR (mA (s:=(some ⟨J,0,none⟩)) (s2:=s) (l:=i+1) (p:=i) OK OJ (by decide) rR rR (by unfold At;split;exact .inr (.inr (by omega));exact .inr (.inl rR)) (by unfold At;split;exact .inr (.inr (by omega));exact .inr (.inl rR)) (by simp[ah];omega) (by rw[qx];omega) (mQ l) (oH l)) rR ?_))))))));rintro _ _ ⟨rfl,rfl⟩;refine gg (some ⟨J,0,none⟩) (ah (iG l i c)) (vV hi (by show min _ _=_;omega)) ?_;refine qI ?_;refine gS (gM rR (gQ rR ?_));exact wk rfl rfl rfl (by omega)
   ·simp at R;refine qf (qb ?_);have X:i<l.length:=(by omega);have D:Nat.min (l.length+1 - i) (l.length+1 - (i+1))=l.length - i:=(by show min _ _=_;omega);refine Ib s (by rw[qx];omega) ?_;rintro b rfl;refine qo (gM rR (gM rR (gM rR (gP rR rR (by omega) (gV (jV (h:=l.length+1) OK OJ rR rR (by omega) (by omega)) (gQ rR (qb (gS (gM rR (gM rR (gM rR (gM rR (gP rR rR (by omega) (gV (fN (l:=i+1) OK OJ rR rR (by omega) (by omega)) ?_))))))))))))));rw[RJ (show ¬cap=i+1 by omega),show ((some (⟨b,0,none⟩:Addr)).map (·.add ((i+1)*3)))=some ⟨b,0+(i+1)*3,none⟩ from Rd some (ez _ _ _)];refine gR (Ic (v:=Bo false) (λw hS=>JL (c1:=1) (r1:=[ym c]) (c2:=cap) (r2:=ah l) (by rw[qx];omega) hS) rR) (gV (wb rR) (qc ?_));refine qd rfl ?_ ?_ <;> intro h68
    ·refine qb ?_;refine Ia (some ⟨b,0,none⟩) (by rw[qx];omega) ?_;intro gr hgr;refine yO (Lf:=F) jH (by kernel_rfl) (by kernel_rfl) rR (by kernel_rfl) ?_;refine dM rR rR rR (dM rR rR rR (dM rR rR rR (dV rR (yr rR rR (ao (by omega))) (dV rR (fN (l:=i+1) OK OJ rR rR (by omega) (by omega)) (dM rR rR rR (dM rR rR rR (dV rR (fN (l:=i) OK OJ rR rR (by omega) (by omega)) (av rR (H7 (s:=(some ⟨b,0,none⟩)) (s2:=(some ⟨b,0,none⟩)) (l:=i+1) (p:=i) OK OJ (by decide) rR rR (by unfold At;split;exact .inr (.inr (by omega));exact .inr (.inl rR)) (by unfold At;split;exact .inr (.inr (by omega));exact .inr (.inl rR)) (by rw[D,Sx,qx];simp;omega) (by rw[D,Sx,qx];simp;omega) (by rw[D,vW (by omega)];exact λr hr=>mQ l r (SB hr)) (by rw[D,vW (by omega)];exact λr hr=>oH l r (SB hr))) rR ?_))))))));rintro _ _ ⟨rfl,rfl⟩;refine gg (some ⟨b,0,none⟩) (ah (l.take (i+1)++l.drop i)) (vX X D) ?_;refine qI ?_;refine gS (gM rR (gM rR (gV (fN (l:=i) OK OJ rR rR (by omega) (by omega)) (gM rR (gR (mA (s:=(some ⟨b,0,none⟩)) (s2:=(some ⟨Y,0,none⟩)) (l:=i) (p:=0) OK OJ (by decide) rR rR (by unfold At;split;exact .inr (.inr (by omega));exact .inr (.inl rR)) (.inl ⟨rfl,rfl⟩) (by simp[ah];omega) (by simp) (by simp[ym]) (by simp[ym,ones,one])) ?_)))));refine gg (some ⟨b,0,none⟩) (ah (iG l i c)) (vY X (by show min _ _=_;omega)) ?_;refine qc (gS (gM rR (gQ rR ?_)));exact wk rfl rfl rfl rfl
    ·simp at h68
section
variable {c:Cx}{E:ap}{L:List aa}{K:List KI}
end
def mR {l:List ChangeM}(h:srt l):∀cs:List ChangeM,srt (wS l cs)/\(wS l cs).length<=l.length+cs.length:=by
 intro cs
 induction cs generalizing l with
 | nil=>exact ⟨h,by simp[wS]⟩
 | cons c cs J=>
  have:=J (JA h c);have O:=JB l c h;refine ⟨this.1,?_⟩;have D:=this.2;simp only[wS,SF,RX] at D ⊢;omega
def Cq {l:List ChangeM}(h:srt l){k:ab}(D:cD l k=true):ba l k<l.length:=by
 rw[lI h] at D;split at D
 ·rename_i r J;exact (Re.1 J).1
 ·cases D
section
variable {c r:ChangeM}{z:Bool×List ChangeM}
def JN (h:(!z.1 && (kl c.key r.key || decide (c.key=r.key)))=true)(D:r.key≠c.key):cV c z r=(true,z.2++ [c]++ [r]):=by unfold cV;rw[RI h,RI D]
def JO (h:(!z.1 && (kl c.key r.key || decide (c.key=r.key)))=true)(D:¬r.key≠c.key):cV c z r=(true,z.2++ [c]):=by unfold cV;rw[RI h,RJ D]
def JP (h:¬(!z.1 && (kl c.key r.key || decide (c.key=r.key)))=true)(D:r.key≠c.key):cV c z r=(z.1,z.2++ [r]):=by unfold cV;rw[RJ h,RI D]
def JQ (h:¬(!z.1 && (kl c.key r.key || decide (c.key=r.key)))=true)(D:¬r.key≠c.key):cV c z r=z:=by unfold cV;rw[RJ h,RJ D]
end
def Cr (c:ChangeM):∀(l:List ChangeM) (z:Bool×List ChangeM),(l.foldl (cV c) z).2.length<=z.2.length+2*l.length
 | [],z=>by simp
 | r::l,z=>by
  have h:=Cr c l (cV c z r);have D:(cV c z r).2.length<=z.2.length+2:=by
   unfold cV;simp only;split <;> split <;> simp
  simp only[SF,RX];omega
def sQ (a:List ChangeM)(x:ChangeM):ah a++ [ym x]=ah (a++ [x]):=by simp[ah]
-- counterfoil/counterfoillaw.goodRows is not in this seat
def vZ (l cs:List ChangeM)(s s':Option Addr)(cap X:Nat)(hs:srt l)(hl:l.length<=400)(hc:cs.length<=100)(F:List aa):Ct Tryz.prog 117 [sl s l.length cap,sl s' cs.length X] (roL 3 s (ah l)::roL 3 s' (ah cs)::F) (dU 174 3 (wS l cs).length (ah (wS l cs)) (roL 3 s (ah l)::roL 3 s' (ah cs)::F)):=by
 refine Ct.of func117 rR 52 ntmps117 (by simp) λw0=>?_;refine gS (gQ rR (gS (gM rR (gI (uB call121 rR (Cp l s cap (by omega))) ?_))));rintro _ _ ⟨s10,c10,rfl,rfl⟩;show G _ _ _ (ai 174 3 s10 c10 (ah (wS l (cs.take 0)))::roL 3 s (ah l)::roL 3 s' (ah cs)::F);refine gQ rR (qb (gS (gM rR (gV (qY OK rR) (gM rR (qc (qg ?_)))))));refine qC (α:=Nat×Option Addr×Nat) (λz=>z.1<=cs.length) (λz=>U [(0,sl z.2.1 (wS l (cs.take z.1)).length z.2.2),(11,sl s' cs.length X),(12,I cs.length),(13,I z.1)]) (λz=>ai 174 3 z.2.1 z.2.2 (ah (wS l (cs.take z.1)))::roL 3 s (ah l)::roL 3 s' (ah cs)::F) (λz=>cs.length - z.1) (0,s10,c10) (by simp) [0,11,12,13] rfl rR ?_;rintro ⟨k,sA,cA⟩ hk;simp only[] at hk ⊢;refine gS (gV (qH rR rR) (qc (qb ?_)));refine qd rfl ?_ ?_ <;> intro h14
 ·simp at h14;have Z:k<cs.length:=(by omega);obtain ⟨x,hx⟩:∃x,cs[k]? =some x:=⟨_,S6 Z⟩;have hir:k<(ah cs).length:=(by rw[qx];exact Z);have J:=Cm (l:=l) hx;have h:=(mR hs (cs.take k)).1;have hRl:=(mR hs (cs.take k)).2;rw[Sv] at hRl;generalize hRd:wS l (cs.take k)=R at*;refine qf (qb (qg (gS (gV (qv k OK OJ rR rR rR Z hir) (gV (qZ (row:=ym x) O4 OJ rR (yX hx) rR) (gI (qA #[ac [],ac [],Bo false] OR) ?_))))));rintro _ _ ⟨b6,rfl,rfl⟩;refine gU (qp (cs:=#[ac [],ac [],Bo false]) (vs:=ym x) (ym x).toArray OJ rR rR rR rR (by decide) (qV rR)) (qc (gS (gM rR (gF 0 OS rR ON rR (gL (ac x.key) OQ rR (gR (vB call186 rR (JI R sA cA x.key h (by omega))) (gM rR (gX (I (ba R x.key)) rR (gX (Bo (cD R x.key)) rR (gA rR (gQ rR (qg (gS (gM rR (gM rR (gK rR rR (qm 2 OS rR rR Pv (by decide) rR) (gK rR rR (qu (v:=Bo x.gone) PO rR rR) (gV (bT rR rR) (gQ rR ?_)))))))))))))))))));refine qd rfl ?_ ?_ <;> intro D
  ·simp at D;have O:=Cq h D.1;refine qo (gM rR (gM rR (gM rR (gP rR rR (by omega) (gR (vB call189 rR (JH R sA cA (ba R x.key) O (by omega))) (gQ rR (qD (qD (qo (gP rR rR (by omega) (gM rR (qc ?_))))))))))));rw[show R.length - 1=(wS l (cs.take (k+1))).length by rw[J,kU h,RI D.1,RI D.2];rw[UA,RI O],show R.eraseIdx (ba R x.key)=wS l (cs.take (k+1)) by rw[J,kU h,RI D.1,RI D.2]];exact qk (k+1,sA,cA) (by simp only[];omega) (by simp only[];omega) [0,11,12,13] rfl rfl
  ·simp at D;refine gS (gM rR (gQ rR ?_));refine qd rfl ?_ ?_ <;> intro S
   ·have O:=Cq h S;have V:¬x.gone=true:=(by simp[D S]);refine qo (gM rR (gM rR (gV (qJ (vs:=ym x) O4 OJ rR rR qQ) (gV (qv (ba R x.key) OK OJ rR rR rR O (by rw[qx];exact O)) (cl (va (vs:=ym x) OJ rR rR rR rR (by rw[qx];exact O) (by decide)) ?_)))));rintro _ _ rfl;rw[show (ah R).set (ba R x.key) (ym x)=ah (R.set (ba R x.key) x) by simp[ah,T1]];refine qc (qD (qD (qo (gP rR rR (by omega) (gM rR (qc ?_))))));rw[show R.length=(wS l (cs.take (k+1))).length by rw[J,kU h,RI S,RJ V];rw[T2],show R.set (ba R x.key) x=wS l (cs.take (k+1)) by rw[J,kU h,RI S,RJ V]];exact qk (k+1,sA,cA) (by simp only[];omega) (by simp only[];omega) [0,11,12,13] rfl rfl
   ·have hni:¬cD R x.key=true:=(by rw[S];simp);refine gS (gF 2 OS rR Pv rR (gL (Bo x.gone) PO rR (gV (wb rR) (gQ rR ?_))));refine qd rfl ?_ ?_ <;> intro Y
    ·have V:¬x.gone=true:=(by simpa using Y);have hlb:=oE R x.key;refine qo (gM rR (gM rR (gV (qJ (vs:=ym x) O4 OJ rR rR qQ) (gI (qj [ym x] OK OJ OR rR rR rR (by simp[ym]) (by decide) (by decide)) ?_))));rintro _ _ ⟨b48,rfl,rfl⟩;refine gI (uC call190 rR (JM R x sA cA b48 (ba R x.key) (oE _ _) (by omega))) ?_;rintro _ _ ⟨s49,c49,rfl,rfl⟩;refine gQ rR (qD (qD (qo (gP rR rR (by omega) (gM rR (qc ?_))))));rw[show R.length+1=(wS l (cs.take (k+1))).length by rw[J,kU h,RJ hni,RJ V];simp[iG];omega,show iG R (ba R x.key) x=wS l (cs.take (k+1)) by rw[J,kU h,RJ hni,RJ V];rfl];exact qk (k+1,s49,c49) (by simp only[];omega) (by simp only[];omega) [0,11,12,13] rfl rfl
    ·simp at Y;refine qf (qD (qD (qo (gP rR rR (by omega) (gM rR (qc ?_))))));rw[show R=wS l (cs.take (k+1)) by rw[J,kU h,RJ hni,RI Y]];exact qk (k+1,sA,cA) (by simp only[];omega) (by simp only[];omega) [0,11,12,13] rfl rfl
 ·simp at h14;obtain rfl:k=cs.length:=(by omega);rw[S7];refine qw rR ?_;refine gS (gM rR (gQ rR ?_));exact wk rfl rfl rfl rfl
def JR (l cs:List ChangeM)(s s':Option Addr)(cap X:Nat)(hs:srt l)(hl:l.length<=400)(hc:cs.length<=100)(F:List aa):Ct Tryz.prog 107 [sl s l.length cap,sl s' cs.length X] (roL 3 s (ah l)::roL 3 s' (ah cs)::F) (dU 174 3 (wS l cs).length (ah (wS l cs)) (roL 3 s (ah l)::roL 3 s' (ah cs)::F)):=by
 refine Ct.of func107 rR 80 ntmps107 (by simp) λw0=>?_;refine gS (gQ rR (qb ?_));refine yi 174 3 [] rfl ?_;refine qo (gM rR (gI (qN OK OJ OR rR Tryz.typeInfo174 (by decide) rR rR rR (qx l) (mQ l) (oH l) ⟨by omega,by decide,by decide⟩) ?_));rintro _ _ ⟨s11,c11,rfl,rfl⟩;rw[Sa];simp only[SK];show G _ _ _ (ai 174 3 s11 c11 (ah (wS l (cs.take 0)))::roL 3 s (ah l)::roL 3 s' (ah cs)::F);refine gQ rR (qb (gS (gQ rR (qg ?_))));refine qC (α:=Nat×Option Addr×Nat) (λz=>z.1<=cs.length) (λz=>U [(1,sl s' cs.length X),(5,sl z.2.1 (wS l (cs.take z.1)).length z.2.2),(6,I z.1)]) (λz=>ai 174 3 z.2.1 z.2.2 (ah (wS l (cs.take z.1)))::roL 3 s (ah l)::roL 3 s' (ah cs)::F) (λz=>cs.length - z.1) (0,s11,c11) (by simp) [1,5,6] rfl rR ?_;rintro ⟨k,sA,cA⟩ hk;simp only[] at hk ⊢;refine qb (gS (gM rR (gM rR (gV (qY OK rR) (gV (qH rR rR) (qc ?_))))));refine qd rfl ?_ ?_ <;> intro h15
 ·simp at h15;have O:k<cs.length:=(by omega);obtain ⟨x,hx⟩:∃x,cs[k]? =some x:=⟨_,S6 O⟩;have D:k<(ah cs).length:=(by rw[qx];exact O);have hnx:=Cm (l:=l) hx;have hRs:=(mR hs (cs.take k)).1;have hRl:=(mR hs (cs.take k)).2;rw[Sv] at hRl;generalize hRd:wS l (cs.take k)=R at*;refine qf (qb (qg (gS (gQ rR (gS (gM rR (gM rR (gV (qv k OK OJ rR rR rR O D) (gV (qE (j:=k) 2 OS rR rR Pv (by decide) rR D) (gV (yF (v:=Bo x.gone) PO rR (yX hx) rR) (gQ rR (qb (qb ?_)))))))))))));refine yi 174 3 (ah (ef x (R.take 0)).2) rR ?_;rw[show x.gone=(ef x (R.take 0)).1 from rfl];refine qo (gQ rR (qg ?_));refine qC (α:=Nat×Option Addr×Nat) (λy=>y.1<=R.length) (λy=>U [(1,sl s' cs.length X),(5,sl sA R.length cA),(6,I k),(7,sl y.2.1 (ef x (R.take y.1)).2.length y.2.2),(8,Bo (ef x (R.take y.1)).1),(9,I y.1)]) (λy=>ai 174 3 y.2.1 y.2.2 (ah ((ef x (R.take y.1)).2))::ai 174 3 sA cA (ah (R))::roL 3 s (ah l)::roL 3 s' (ah cs)::F) (λy=>R.length - y.1) (0,none,0) (by simp) [1,5,6,7,8,9] rfl rR ?_;rintro ⟨j,sN,cN⟩ hj;simp only[] at hj ⊢;have hN:=Cr x (R.take j) (x.gone,[]);rw[Sv] at hN;change (ef x (R.take j)).2.length<=0+_ at hN;refine qb (gS (gM rR (gM rR (gV (qY OK rR) (gV (qH rR rR) (qc ?_))))));refine qd rfl ?_ ?_ <;> intro h26
  ·simp at h26;have V:j<R.length:=(by omega);obtain ⟨r,hr⟩:∃r,R[j]? =some r:=⟨_,S6 V⟩;have S:j<(ah R).length:=(by rw[qx];exact V);have hst:=JC (c:=x) hr;generalize ef x (R.take j)=z at*;refine qf (qb (qg (qb (qb ?_))));refine eT jJ (by kernel_rfl) (by kernel_rfl) rR (by kernel_rfl) ?_;refine dM rR rR rR (dV rR (wb rR) (dM rR rR rR (dJ rR rR rR (qn rR) (dJ rR rR rR (qn rR) (dJ rR rR rR (qv k OK OJ rR rR rR O D) (dJ rR rR rR (qE (j:=k) 0 OS rR rR ON (by decide) rR D) (dJ rR rR rR (yF (v:=ac x.key) OQ rR (yX hx) rR) (dJ rR rR rR (qn rR) (dJ rR rR rR (qn rR) (dJ rR rR rR (qv j OK OJ rR rR rR V S) (dJ rR rR rR (qE (j:=j) 0 OS rR rR ON (by decide) rR S) (dJ rR rR rR (yF (v:=ac r.key) OQ rR (yX hr) rR) (dJ rR rR rR (AU rR rR) (dV rR (bT rR rR) ?_))))))))))))));refine qI ?_;refine qd rfl ?_ ?_ <;> intro h43
   ·refine gS (gM rR (gM rR (gM rR (gV (qv k OK OJ rR rR rR O D) (gV (qZ (row:=ym x) O4 OJ rR (yX hx) rR) (gI (qj [ym x] OK OJ OR rR rR rR (by simp[ym]) (by decide) (by decide)) ?_))))));rintro _ _ ⟨b49,rfl,rfl⟩;refine gI (qN OK OJ OR rR Tryz.typeInfo174 (by decide) rR rR (qx _) rR (by simp[ym]) (by simp[ym,ones,one]) ⟨by omega,by decide,by decide⟩) ?_;rintro _ _ ⟨s50,c50,rfl,rfl⟩;rw[sQ];refine gQ rR (qo (gQ rR (qb ?_)));refine eT jE (by kernel_rfl) (by kernel_rfl) rR (by kernel_rfl) ?_;refine dM rR rR rR (dM rR rR rR (dV rR (qv j OK OJ rR rR rR V S) (dV rR (qE (j:=j) 0 OS rR rR ON (by decide) rR S) (dV rR (yF (v:=ac r.key) OQ rR (yX hr) rR) (dM rR rR rR (dM rR rR rR (dV rR (qv k OK OJ rR rR rR O D) (dV rR (qE (j:=k) 0 OS rR rR ON (by decide) rR D) (dV rR (yF (v:=ac x.key) OQ rR (yX hx) rR) (dV rR (iu rR rR) ?_))))))))));refine qI ?_;refine qd rfl ?_ ?_ <;> intro h
    ·simp at h;have h:r.key≠x.key:=h;refine qo (gM rR (gM rR (gM rR (gV (qv j OK OJ rR rR rR V S) (gV (qZ (row:=ym r) O4 OJ rR (yX hr) rR) (gI (qj [ym r] OK OJ OR rR rR rR (by simp[ym]) (by decide) (by decide)) ?_))))));rintro _ _ ⟨b67,rfl,rfl⟩;refine gI (qN OK OJ OR rR Tryz.typeInfo174 (by decide) rR rR (by simp[ah]) rR (by simp[ym]) (by simp[ym,ones,one]) ⟨by omega,by decide,by decide⟩) ?_;rintro _ _ ⟨s68,c68,rfl,rfl⟩;rw[sQ];refine gQ rR (qD (qo (gM rR (gP rR rR (by omega) (gQ rR ?_)))));have J:ef x (R.take (j+1))=_:=hst.trans (JN h43 h);rw[show z.2++ [x]++ [r]=(ef x (R.take (j+1))).2 by rw[J]];exact qk (j+1,s68,c68) (by simp only[];omega) (by simp only[];omega) [1,5,6,7,8,9] rfl (by rw[J] <;> simp[U])
    ·simp at h;have Y:¬r.key≠x.key:=λhh=>hh h;refine qf (qD (qo (gM rR (gP rR rR (by omega) (gQ rR ?_)))));have J:ef x (R.take (j+1))=_:=hst.trans (JO h43 Y);rw[show z.2++ [x]=(ef x (R.take (j+1))).2 by rw[J]];exact qk (j+1,s50,c50) (by simp only[];omega) (by simp only[];omega) [1,5,6,7,8,9] rfl (by rw[J] <;> simp[U])
   ·have h43':¬(!z.1 && (kl x.key r.key || decide (x.key=r.key)))=true:=(by rw[h43];simp);refine qf (qb ?_);refine eT jE (by kernel_rfl) (by kernel_rfl) rR (by kernel_rfl) ?_;refine dM rR rR rR (dM rR rR rR (dV rR (qv j OK OJ rR rR rR V S) (dV rR (qE (j:=j) 0 OS rR rR ON (by decide) rR S) (dV rR (yF (v:=ac r.key) OQ rR (yX hr) rR) (dM rR rR rR (dM rR rR rR (dV rR (qv k OK OJ rR rR rR O D) (dV rR (qE (j:=k) 0 OS rR rR ON (by decide) rR D) (dV rR (yF (v:=ac x.key) OQ rR (yX hx) rR) (dV rR (iu rR rR) ?_))))))))));refine qI ?_;refine qd rfl ?_ ?_ <;> intro h
    ·simp at h;have h:r.key≠x.key:=h;refine qo (gM rR (gM rR (gM rR (gV (qv j OK OJ rR rR rR V S) (gV (qZ (row:=ym r) O4 OJ rR (yX hr) rR) (gI (qj [ym r] OK OJ OR rR rR rR (by simp[ym]) (by decide) (by decide)) ?_))))));rintro _ _ ⟨b67,rfl,rfl⟩;refine gI (qN OK OJ OR rR Tryz.typeInfo174 (by decide) rR rR (by simp[ah]) rR (by simp[ym]) (by simp[ym,ones,one]) ⟨by omega,by decide,by decide⟩) ?_;rintro _ _ ⟨s68,c68,rfl,rfl⟩;rw[sQ];refine gQ rR (qD (qo (gM rR (gP rR rR (by omega) (gQ rR ?_)))));have J:ef x (R.take (j+1))=_:=hst.trans (JP h43' h);rw[show z.2++ [r]=(ef x (R.take (j+1))).2 by rw[J]];exact qk (j+1,s68,c68) (by simp only[];omega) (by simp only[];omega) [1,5,6,7,8,9] rfl (by rw[J] <;> simp[U])
    ·simp at h;have Y:¬r.key≠x.key:=λhh=>hh h;refine qf (qD (qo (gM rR (gP rR rR (by omega) (gQ rR ?_)))));rw[show z=ef x (R.take (j+1)) by rw[hst,JQ h43' Y]];exact qk (j+1,sN,cN) (by simp only[];omega) (by simp only[];omega) [1,5,6,7,8,9] rfl rfl
  ·simp at h26;obtain rfl:j=R.length:=(by omega);have hA:=JD hRs x;rw[S7] at hN ⊢;generalize ef x R=z at*;refine qw rR ?_;refine qb (gS (gM rR (gV (wb rR) (qc ?_))));refine qd rfl ?_ ?_ <;> intro Z
   ·simp at Z;have hE1:wS l (cs.take (k+1))=z.2++ [x]:=(by rw[hnx,<-hA];unfold kV;rw[RJ (by rw[Z];simp)]);refine qo (gM rR (gM rR (gM rR (gV (qv k OK OJ rR rR rR O D) (gV (qZ (row:=ym x) O4 OJ rR (yX hx) rR) (gI (qj [ym x] OK OJ OR rR rR rR (by simp[ym]) (by decide) (by decide)) ?_))))));rintro _ _ ⟨b76,rfl,rfl⟩;refine gI (qN OK OJ OR rR Tryz.typeInfo174 (by decide) rR rR (qx _) rR (by simp[ym]) (by simp[ym,ones,one]) ⟨by omega,by decide,by decide⟩) ?_;rintro _ _ ⟨s77,c77,rfl,rfl⟩;rw[sQ];refine gQ rR (qo (gM rR (gQ rR (qD (qo (gM rR (gP rR rR (by omega) (gQ rR ?_))))))));rw[show z.2.length+1=(wS l (cs.take (k+1))).length by rw[hE1];simp,show z.2++ [x]=wS l (cs.take (k+1)) from hE1.symm];exact qk (k+1,s77,c77) (by simp only[];omega) (by simp only[];omega) [1,5,6] rfl rfl
   ·simp at Z;have hE1:wS l (cs.take (k+1))=z.2:=(by rw[hnx,<-hA];unfold kV;rw[RI Z]);refine qf (qo (gM rR (gQ rR (qD (qo (gM rR (gP rR rR (by omega) (gQ rR ?_))))))));rw[show z.2=wS l (cs.take (k+1)) from hE1.symm];exact qk (k+1,sN,cN) (by simp only[];omega) (by simp only[];omega) [1,5,6] rfl rfl
 ·simp at h15;obtain rfl:k=cs.length:=(by omega);rw[S7];refine qw rR ?_;refine gS (gM rR (gQ rR ?_));exact wk rfl rfl rfl rfl
end Go.Proofs.YthdjckbjjfiopabGreatDoor
namespace Go.Proofs.YthdjckbjjfiopabGreatDoor
open Go.Sl Go.Proofs
structure HdM where
 ep:Nat
 side:Nat
 size:Nat
 first:Nat
deriving DecidableEq
def HdM.no:HdM:=⟨0,0,0,0⟩
def wN (h:HdM):List Value:=[I h.ep,I h.side,I h.size,I h.first]
def wx (h:HdM):ab:=[72]++yb h.ep++yb h.side++yb h.size++yb h.first
def lJ (s:ab):Nat:=(sk s 0).toNat+2 ^ 8*(sk s 1).toNat+2 ^ 16*(sk s 2).toNat+2 ^ 24*(sk s 3).toNat
def aW (s:ab):HdM:=⟨lJ ((s.take 5).drop 1),lJ ((s.take 9).drop 5),lJ ((s.take 13).drop 9),lJ ((s.take 17).drop 13)⟩
def dl (s:ab):Prop:=sk s 0≠72\/1<(aW s).side\/4800<(aW s).size\/(aW s).first<1
instance (s:ab):Decidable (dl s):=by unfold dl;infer_instance
def wU (s:ab):HdM:=if dl s then HdM.no else aW s
def sT (x:UInt8):x.toNat<256:=x.toNat_lt
def mT {n:Nat}(h:n<4294967296):lJ (yb n)=n:=by
 unfold lJ yb;simp only[sk,Uj,List.getElem?_cons_succ,Tb,UInt8.toNat_ofNat'];omega
def w9 (h:HdM):(wx h).length=17:=by simp[wx,yb]
def JS {h:HdM}(O:h.ep<4294967296)(R:h.side<4294967296)(S:h.size<4294967296)(V:h.first<4294967296):aW (yx (wx h))=h/\sk (yx (wx h)) 0=72:=by
 have e:yx (wx h)=72::(yb h.ep++(yb h.side++(yb h.size++(yb h.first++dW (80 - (wx h).length))))):=by
  unfold yx wx;simp
 rw[e];generalize dW (80 - (wx h).length)=z;have l:∀n,(yb n).length=4:=λn=>rfl;refine ⟨?_,rfl⟩;unfold aW;have f1:(List.drop 1 (List.take 5 (72::(yb h.ep++(yb h.side++(yb h.size++(yb h.first++z)))))))=yb h.ep:=(by simp[yb]);have f2:(List.drop 5 (List.take 9 (72::(yb h.ep++(yb h.side++(yb h.size++(yb h.first++z)))))))=yb h.side:=(by simp[yb]);have D:(List.drop 9 (List.take 13 (72::(yb h.ep++(yb h.side++(yb h.size++(yb h.first++z)))))))=yb h.size:=(by simp[yb]);have J:(List.drop 13 (List.take 17 (72::(yb h.ep++(yb h.side++(yb h.size++(yb h.first++z)))))))=yb h.first:=(by simp[yb]);rw[f1,f2,D,J,mT O,mT R,mT S,mT V]
def Cs {h:HdM}(O:h.ep<4294967296)(S:h.side<=1)(V:h.size<=4800)(R:1<=h.first/\h.first<4294967296):wU (yx (wx h))=h:=by
 obtain ⟨D,J⟩:=JS (h:=h) O (by omega) (by omega) R.2;unfold wU;rw[RJ,D];unfold dl;rw[D,J];rintro (h | h | h | h)
 ·exact h rfl
 ·omega
 ·omega
 ·omega
def iH (r:ChangeM):ab:=[UInt8.ofNat r.key.length,UInt8.ofNat r.val.length,UInt8.ofNat (r.val.length / 256)]++r.key++r.val
def yG (l:List ChangeM):ab:=l.flatMap iH
def eJ (r:ChangeM):Prop:=aS r=0/\r.gone=false
def sU {r:ChangeM}(h:eJ r):(iH r).length<=59/\4<=(iH r).length:=by
 obtain ⟨D,_,J,O⟩:=mL h.1;unfold iH;have:r.key.length≠0:=λe=>D (RP.1 e);simp;omega
def lK:∀{l:List ChangeM},(∀r∈l,eJ r)->(yG l).length<=59*l.length
 | [],_=>by simp[yG]
 | r::l,h=>by
  have J:=sU (h r (by simp));have D:=lK (l:=l) λx hx=>h x (Th _ hx);simp only[yG,TY,Sx,RX] at D ⊢;omega
def JT (r:ChangeM)(l:List ChangeM):yG (r::l)=iH r++yG l:=rfl
def JU (l:List ChangeM)(r:ChangeM):yG (l++ [r])=yG l++iH r:=by simp[yG]
def JV {l:List ChangeM}{r:ChangeM}(h:srt (l++ [r]))(J:r.gone=false):fu l r=l++ [r]:=by
 have D:=RD.1 h;unfold fu;rw[oB (λx hx=>D.2.2 x hx r (by simp)),oD (λx hx=>jh (D.2.2 x hx r (by simp))),J];simp
def Cu {l:List ChangeM}(h:srt l)(k:Nat):srt (l.take k):=h.sublist (UC k l)
def bC (t:ab)(k:Nat):ab:=(t.drop (80*k)).take 80
def yq (t:ab):Nat:=(t.length+79) / 80
def bu (side:Nat)(t:ab):Nat->Nat->List bq
 | k,0=>[]
 | k,f+1=>some (2+side*60+k,bC t k)::bu side t (k+1) f
def sV (side:Nat)(t:ab):∀f k,(bu side t k f).length=f
 | 0,_=>rfl
 | f+1,k=>by simp[bu,sV side t f]
def cW (h:HdM)(t:ab):List bq:=bu h.side t 0 (yq t)++ [none,some (h.ep % 2,wx h),none]
def aq (h:HdM)(rows:List ChangeM)(many:Nat):HdM:=⟨h.ep+1,1 - h.side,(yG rows).length,h.first+many⟩
def Cv (t:ab)(k:Nat):(bC t k).length<=80:=by unfold bC;rw[Sv];omega
def eX (L:List ab):Nat->HdM
 | 0=>HdM.no
 | k+1=>if (eX L k).ep<(wU (L.getD k [])).ep then wU (L.getD k []) else eX L k
def gp (L:List ab):HdM:=eX L 2
def JW (L:List ab)(side:Nat):ab:=((L.drop (2+side*60)).take 60).flatten
structure Good (L:List ab) (h:HdM) (r0:List ChangeM) (ds:an) (used:Nat):Prop where
 best:gp L=h
 ep:1<=h.ep
 side:h.side<=1
 first:1<=h.first/\h.first<=1000000000
 size:h.size=(yG r0).length
 text:(JW L h.side).take h.size=yG r0
 hsrt:srt r0
 hok:∀r∈r0,eJ r
 len:r0.length<=80
 log:wu h.first (λi=>L.getD (122+i) []) (L.length - 122) 0 [] [] 0=(ds,used)
 lens:∀d∈ds,d.length<=72
 chk:∀d∈ds,∀x∈d,aS x=0
 fits:∀k,((ds.take k).foldl wS r0).length<=80
def cur (r0:List ChangeM)(ds:an):List ChangeM:=ds.foldl wS r0
def dm (many:Nat)(rows c:List ChangeM):Int:=if 72<c.length then 2 else if cP c≠0 then cP c else if 80<(wS rows c).length\/many<c.length+1 then 8 else 0
open _root_.Go.Proofs.Tryz
def JX (w:World):(Instr.build 183 #[]).run Tryz.prog w= .ok (.agg #[ac [],I 0]) w:=by
 simp[Instr.build,PE,Q6,Instr.fill,qW,sl]
def Cw (w:World):(Instr.build 187 #[]).run Tryz.prog w= .ok (.agg #[I 0,I 0,I 0,I 0,I 0]) w:=by
 simp[Instr.build,Py,QU,Instr.fill,qW,sl]
def oK (w:World):(Instr.build 195 #[]).run Tryz.prog w= .ok (.agg #[I 0,I 0,I 0,I 0]) w:=by
 simp[Instr.build,P7,Q7,Instr.fill,qW,sl]
def lL (q x:Nat)(h:q<=24)(hx:x<256):IntKind.i64.wrap ((x:Int)*2 ^ (min ((q:Nat):Int).toNat IntKind.i64.bits))=((2 ^ q*x:Nat):Int):=by
 rw[show ((q:Nat):Int).toNat=q from rfl,show min q IntKind.i64.bits=q from Sw (by show q<=64;omega)];have D:2 ^ q*x<2 ^ 24*256:=Nat.lt_of_le_of_lt (R9 x (SG (by decide) h)) (Nat.mul_lt_mul_of_pos_left hx (by decide));rw[show (x:Int)*2 ^ q=((2 ^ q*x:Nat):Int) by rw[R4];push_cast;rfl];exact ao (by omega)
abbrev bc (bd:Nat)(h:HdM)(bl:Nat)(s:Option Addr)(n cap:Nat):Array Value:=#[ptr bd 0,I h.ep,I h.side,I h.size,I h.first,ptr bl 0,sl s n cap]
def sW (n:Nat)(F:List aa):Ct Tryz.prog 239 [I n] (F) (R1 (ac (yb n)) F):=by
 refine Ct.of func239 rR 16 ntmps239 (by simp) λw0=>?_;refine gS (gQ rR (gS (gM rR (gV (yS (r:=((n % 256:Nat):Int)) OL OU rR (gn _)) (gM rR (gV (fA (r:=((n / 256:Nat):Int)) rR rR (by decide) (kS n 256)) (gV (yS (r:=((n / 256 % 256:Nat):Int)) OL OU rR (gn _)) (gM rR (gV (fA (r:=((n / 65536:Nat):Int)) rR rR (by decide) (kS n 65536)) (gV (yS (r:=((n / 65536 % 256:Nat):Int)) OL OU rR (gn _)) (gM rR (gV (fA (r:=((n / 16777216:Nat):Int)) rR rR (by decide) (kS n 16777216)) (gV (yS (r:=((n / 16777216 % 256:Nat):Int)) OL OU rR (gn _)) (gI (qj (qq (yb n)) OW Pi Pu rR rR (Ce n) (by simp[qq]) (by decide) (by decide)) ?_))))))))))))));rintro _ _ ⟨h,rfl,rfl⟩;refine gV (yg (l:=yb n) OW OU OM rR rR rR) (gQ rR ?_);refine ql rR rR ?_;exact rfl
def yp (s:ab)(R:s.length=4)(F:List aa):Ct Tryz.prog 182 [ac s] (F) (R1 (I (lJ s)) F):=by
 refine Ct.of func182 rR 21 ntmps182 (by simp) λw0=>?_;have h:=sT (sk s 0);have D:=sT (sk s 1);have J:=sT (sk s 2);have O:=sT (sk s 3);refine gS (gQ rR (qb ?_));refine eT jO (by kernel_rfl) (by kernel_rfl) rR (by kernel_rfl) ?_;refine dM rR rR rR (dV rR (yo (r:=sk s 0) 0 OM rR rR rR (fY (by omega))) (dV rR (yS (r:=(((sk s 0).toNat:Nat):Int)) OU OL rR (ao (by omega))) (dM rR rR rR (dV rR (yo (r:=sk s 1) 1 OM rR rR rR (fY (by omega))) (dV rR (yS (r:=(((sk s 1).toNat:Nat):Int)) OU OL rR (ao (by omega))) (dV rR (uN (r:=((2 ^ 8*(sk s 1).toNat:Nat):Int)) rR rR (by decide) (lL 8 _ (by decide) (by omega))) (dV rR (vi (sk s 0).toNat 8 _ rR rR (by omega) (by omega)) (dM rR rR rR (dV rR (yo (r:=sk s 2) 2 OM rR rR rR (fY (by omega))) (dV rR (yS (r:=(((sk s 2).toNat:Nat):Int)) OU OL rR (ao (by omega))) (dV rR (uN (r:=((2 ^ 16*(sk s 2).toNat:Nat):Int)) rR rR (by decide) (lL 16 _ (by decide) (by omega))) (dV rR (vi ((sk s 0).toNat+2 ^ 8*(sk s 1).toNat) 16 _ rR rR (by omega) (by omega)) (dM rR rR rR (dV rR (yo (r:=sk s 3) 3 OM rR rR rR (fY (by omega))) (dV rR (yS (r:=(((sk s 3).toNat:Nat):Int)) OU OL rR (ao (by omega))) (dV rR (uN (r:=((2 ^ 24*(sk s 3).toNat:Nat):Int)) rR rR (by decide) (lL 24 _ (by decide) (by omega))) (dV rR (vi ((sk s 0).toNat+2 ^ 8*(sk s 1).toNat+2 ^ 16*(sk s 2).toNat) 24 _ rR rR (by omega) (by omega)) (dV rR (qt rR) ?_))))))))))))))))));refine qI ?_;refine ql rR rR ?_;exact rfl
def Cy (h:HdM)(F:List aa):Ct Tryz.prog 177 [.agg (wN h).toArray] (F) (R1 (ac (wx h)) F):=by
 refine Ct.of func177 rR 19 ntmps177 (by simp) λw0=>?_;refine gS (gI (wR (wN h).toArray rR rR) ?_);rintro _ _ ⟨b1,rfl,rfl⟩;refine gQ rfl (qb (gG [(0,false),(1,false),(4,false),(5,false),(8,false),(9,false),(12,false),(13,false),(2,true),(3,false),(6,true),(7,false),(10,true),(11,false),(14,true),(15,false),(16,false)] (dF rfl 0 Pk rfl OH rfl (dL rfl (I h.ep) OI rfl (dF rfl 1 Pk rfl OH rfl (dL rfl (I h.side) OI rfl (dF rfl 2 Pk rfl OH rfl (dL rfl (I h.size) OI rfl (dF rfl 3 Pk rfl OH rfl (dL rfl (I h.first) OI rfl (av rfl (uA call239 rfl (sW h.ep)) rfl ?_)))))))))));rintro _ _ ⟨rfl,rfl⟩;refine dV rR (wj rR rR (by simp[yb])) (av rR (uA call239 rR (sW h.side)) rR ?_);rintro _ _ ⟨rfl,rfl⟩;refine dV rR (wj rR rR (by simp[yb])) (av rR (uA call239 rR (sW h.size)) rR ?_);rintro _ _ ⟨rfl,rfl⟩;refine dV rfl (wj rfl rfl (by simp[yb])) (av rfl (uA call239 rfl (sW h.first)) rfl ?_);rintro _ _ ⟨rfl,rfl⟩;refine dV rR (wj rR rR (by simp[yb])) (dV rR (qt rR) ?_);refine qI ?_;refine ql rR rR ?_;exact rfl
def JY (s:ab)(S:s.length=80)(F:List aa):Ct Tryz.prog 114 [ac s] (F) (R1 (.agg (wN (wU s)).toArray) F):=by
 refine Ct.of func114 rR 37 ntmps114 (by simp) λw0=>?_;refine gS (gI (qA #[I 0,I 0,I 0,I 0] P7) ?_);rintro _ _ ⟨R,rfl,rfl⟩;refine qc (qb ?_);refine mF (Lf:=[]) (.q 0 (.q 1 (.q 3 (.q 4 (.q 6 (.q 7 (.q 9 (.q 10 (.alt (.l 2 (.alt (.l 5 (.alt (.l 8 (.alt (.l 11 (.q 12 (.l 13 (.l 14 (.nil))))) (.l 13 (.l 11 (.q 12 (.l 14 (.nil))))))) (.l 13 (.l 8 (.l 11 (.q 12 (.l 14 (.nil)))))))) (.l 13 (.l 5 (.l 8 (.l 11 (.q 12 (.l 14 (.nil))))))))) (.l 13 (.l 2 (.l 5 (.l 8 (.l 11 (.q 12 (.l 14 (.nil))))))))))))))))) (by kernel_rfl) (by kernel_rfl) (by kernel_rfl) ?_;refine ar rR (qn rR) rR ?_;refine ar rR (ix (l:=1) (h:=5) OM rR rR rR rR rR (by decide) (by omega)) rR ?_;refine ar rR (qn rR) rR ?_;refine ar rR (ix (l:=5) (h:=9) OM rR rR rR rR rR (by decide) (by omega)) rR ?_;refine ar rR (qn rR) rR ?_;refine ar rR (ix (l:=9) (h:=13) OM rR rR rR rR rR (by decide) (by omega)) rR ?_;refine ar rR (qn rR) rR ?_;refine ar rR (ix (l:=13) (h:=17) OM rR rR rR rR rR (by decide) (by omega)) rR ?_;refine gh ?_ ?_
 ·refine be rR (uA call182 rR (yp ((s.take 5).drop 1) (by simp only[Ul,Sv];omega))) rR ?_;rintro _ _ ⟨rfl,rfl⟩;refine gh ?_ ?_
  ·refine be rR (uA call182 rR (yp ((s.take 9).drop 5) (by simp only[Ul,Sv];omega))) rR ?_;rintro _ _ ⟨rfl,rfl⟩;refine gh ?_ ?_
   ·refine be rR (uA call182 rR (yp ((s.take 13).drop 9) (by simp only[Ul,Sv];omega))) rR ?_;rintro _ _ ⟨rfl,rfl⟩;refine gh ?_ ?_
    ·refine be rR (uA call182 rR (yp ((s.take 17).drop 13) (by simp only[Ul,Sv];omega))) rR ?_;rintro _ _ ⟨rfl,rfl⟩;refine ar rR (qF rR (wE _ rR _ rR _ rR _ rR)) rR ?_;refine be rR (qA #[I 0,I 0,I 0,I 0] P7) rR ?_;rintro _ _ ⟨O,rfl,rfl⟩;refine lA rR (qp (cs:=#[I 0,I 0,I 0,I 0]) (vs:=wN (aW s)) (wN (aW s)).toArray OX rR rR rR rR (by decide) (qV rR)) ?_;rintro _ _ rfl;refine eE ?_;refine qb (gS (gM rfl (gV (yo (r:=sk s 0) 0 OM rfl rfl rfl (fY (by omega))) (gV (da rfl rfl) (gM rfl (gK rfl rfl (qm 1 Pk rfl rfl OH (by decide) rfl) (gK rfl rfl (qu (v:=I (aW s).side) OI rfl rfl) (gK rfl rfl (qX rfl rfl) (gV (aD rfl rfl) (gM rfl (gK rfl rfl (qm 2 Pk rfl rfl OH (by decide) rfl) (gK rfl rfl (qu (v:=I (aW s).size) OI rfl rfl) (gK rfl rfl (qX rfl rfl) (gV (aD rfl rfl) (gM rfl (gK rfl rfl (qm 3 Pk rfl rfl OH (by decide) rfl) (gK rfl rfl (qu (v:=I (aW s).first) OI rfl rfl) (gK rfl rfl (qH rfl rfl) (gV (aD rfl rfl) (qc ?_))))))))))))))))))));refine qd rfl ?_ ?_ <;> intro J
     ·have D:dl s:=by
       unfold dl;simp at J;rcases J with ((h | h) | h) | h
       ·exact .inl (λe=>h (by rw[e];rfl))
       ·exact .inr (.inl (by omega))
       ·exact .inr (.inr (.inl (by omega)))
       ·exact .inr (.inr (.inr (by omega)))
      refine gS (gV (qF rR (oK)) (gU (qp (cs:=#[I 0,I 0,I 0,I 0]) (vs:=wN HdM.no) (wN HdM.no).toArray OX rR rR rR rR (by decide) (qV rR)) (qc ?_)))
      first
      | exact d7 (wN HdM.no) (by unfold wU;rw[RI D]) rfl rfl Pp OX rfl qQ
      | exact d7 (wN (aW s)) (by unfold wU;rw[RJ D]) rfl rfl Pp OX rfl qQ
     ·have D:¬dl s:=by
       unfold dl;simp at J;rintro (h | h | h | h)
       ·exact h (UInt8.toNat_inj.1 (by rw[show (72:UInt8).toNat=72 from rfl];omega))
       ·omega
       ·omega
       ·omega
      refine qf (gS (gV (qJ (vs:=wN (aW s)) Pp OX rR rR qQ) (gU (qp (cs:=#[I 0,I 0,I 0,I 0]) (vs:=wN (aW s)) (wN (aW s)).toArray OX rR rR rR rR (by decide) (qV rR)) (qc ?_))))
      first
      | exact d7 (wN HdM.no) (by unfold wU;rw[RI D]) rfl rfl Pp OX rfl qQ
      | exact d7 (wN (aW s)) (by unfold wU;rw[RJ D]) rfl rfl Pp OX rfl qQ
    ·refine be rR (qA #[I 0,I 0,I 0,I 0] P7) rR ?_;rintro _ _ ⟨O,rfl,rfl⟩;refine be rR (uA call182 rR (yp ((s.take 17).drop 13) (by simp only[Ul,Sv];omega))) rR ?_;rintro _ _ ⟨rfl,rfl⟩;refine ar rR (qF rR (wE _ rR _ rR _ rR _ rR)) rR ?_;refine lA rR (qp (cs:=#[I 0,I 0,I 0,I 0]) (vs:=wN (aW s)) (wN (aW s)).toArray OX rR rR rR rR (by decide) (qV rR)) ?_;rintro _ _ rfl;refine eE ?_;refine qb (gS (gM rfl (gV (yo (r:=sk s 0) 0 OM rfl rfl rfl (fY (by omega))) (gV (da rfl rfl) (gM rfl (gK rfl rfl (qm 1 Pk rfl rfl OH (by decide) rfl) (gK rfl rfl (qu (v:=I (aW s).side) OI rfl rfl) (gK rfl rfl (qX rfl rfl) (gV (aD rfl rfl) (gM rfl (gK rfl rfl (qm 2 Pk rfl rfl OH (by decide) rfl) (gK rfl rfl (qu (v:=I (aW s).size) OI rfl rfl) (gK rfl rfl (qX rfl rfl) (gV (aD rfl rfl) (gM rfl (gK rfl rfl (qm 3 Pk rfl rfl OH (by decide) rfl) (gK rfl rfl (qu (v:=I (aW s).first) OI rfl rfl) (gK rfl rfl (qH rfl rfl) (gV (aD rfl rfl) (qc ?_))))))))))))))))))));refine qd rfl ?_ ?_ <;> intro J
     ·have D:dl s:=by
       unfold dl;simp at J;rcases J with ((h | h) | h) | h
       ·exact .inl (λe=>h (by rw[e];rfl))
       ·exact .inr (.inl (by omega))
       ·exact .inr (.inr (.inl (by omega)))
       ·exact .inr (.inr (.inr (by omega)))
      refine gS (gV (qF rR (oK)) (gU (qp (cs:=#[I 0,I 0,I 0,I 0]) (vs:=wN HdM.no) (wN HdM.no).toArray OX rR rR rR rR (by decide) (qV rR)) (qc ?_)))
      first
      | exact d7 (wN HdM.no) (by unfold wU;rw[RI D]) rfl rfl Pp OX rfl qQ
      | exact d7 (wN (aW s)) (by unfold wU;rw[RJ D]) rfl rfl Pp OX rfl qQ
     ·have D:¬dl s:=by
       unfold dl;simp at J;rintro (h | h | h | h)
       ·exact h (UInt8.toNat_inj.1 (by rw[show (72:UInt8).toNat=72 from rfl];omega))
       ·omega
       ·omega
       ·omega
      refine qf (gS (gV (qJ (vs:=wN (aW s)) Pp OX rR rR qQ) (gU (qp (cs:=#[I 0,I 0,I 0,I 0]) (vs:=wN (aW s)) (wN (aW s)).toArray OX rR rR rR rR (by decide) (qV rR)) (qc ?_))))
      first
      | exact d7 (wN HdM.no) (by unfold wU;rw[RI D]) rfl rfl Pp OX rfl qQ
      | exact d7 (wN (aW s)) (by unfold wU;rw[RJ D]) rfl rfl Pp OX rfl qQ
   ·refine be rR (qA #[I 0,I 0,I 0,I 0] P7) rR ?_;rintro _ _ ⟨O,rfl,rfl⟩;refine be rR (uA call182 rR (yp ((s.take 13).drop 9) (by simp only[Ul,Sv];omega))) rR ?_;rintro _ _ ⟨rfl,rfl⟩;refine be rR (uA call182 rR (yp ((s.take 17).drop 13) (by simp only[Ul,Sv];omega))) rR ?_;rintro _ _ ⟨rfl,rfl⟩;refine ar rR (qF rR (wE _ rR _ rR _ rR _ rR)) rR ?_;refine lA rR (qp (cs:=#[I 0,I 0,I 0,I 0]) (vs:=wN (aW s)) (wN (aW s)).toArray OX rR rR rR rR (by decide) (qV rR)) ?_;rintro _ _ rfl;refine eE ?_;refine qb (gS (gM rfl (gV (yo (r:=sk s 0) 0 OM rfl rfl rfl (fY (by omega))) (gV (da rfl rfl) (gM rfl (gK rfl rfl (qm 1 Pk rfl rfl OH (by decide) rfl) (gK rfl rfl (qu (v:=I (aW s).side) OI rfl rfl) (gK rfl rfl (qX rfl rfl) (gV (aD rfl rfl) (gM rfl (gK rfl rfl (qm 2 Pk rfl rfl OH (by decide) rfl) (gK rfl rfl (qu (v:=I (aW s).size) OI rfl rfl) (gK rfl rfl (qX rfl rfl) (gV (aD rfl rfl) (gM rfl (gK rfl rfl (qm 3 Pk rfl rfl OH (by decide) rfl) (gK rfl rfl (qu (v:=I (aW s).first) OI rfl rfl) (gK rfl rfl (qH rfl rfl) (gV (aD rfl rfl) (qc ?_))))))))))))))))))));refine qd rfl ?_ ?_ <;> intro J
    ·have D:dl s:=by
      unfold dl;simp at J;rcases J with ((h | h) | h) | h
      ·exact .inl (λe=>h (by rw[e];rfl))
      ·exact .inr (.inl (by omega))
      ·exact .inr (.inr (.inl (by omega)))
      ·exact .inr (.inr (.inr (by omega)))
     refine gS (gV (qF rR (oK)) (gU (qp (cs:=#[I 0,I 0,I 0,I 0]) (vs:=wN HdM.no) (wN HdM.no).toArray OX rR rR rR rR (by decide) (qV rR)) (qc ?_)))
     first
     | exact d7 (wN HdM.no) (by unfold wU;rw[RI D]) rfl rfl Pp OX rfl qQ
     | exact d7 (wN (aW s)) (by unfold wU;rw[RJ D]) rfl rfl Pp OX rfl qQ
    ·have D:¬dl s:=by
      unfold dl;simp at J;rintro (h | h | h | h)
      ·exact h (UInt8.toNat_inj.1 (by rw[show (72:UInt8).toNat=72 from rfl];omega))
      ·omega
      ·omega
      ·omega
     refine qf (gS (gV (qJ (vs:=wN (aW s)) Pp OX rR rR qQ) (gU (qp (cs:=#[I 0,I 0,I 0,I 0]) (vs:=wN (aW s)) (wN (aW s)).toArray OX rR rR rR rR (by decide) (qV rR)) (qc ?_))))
     first
     | exact d7 (wN HdM.no) (by unfold wU;rw[RI D]) rfl rfl Pp OX rfl qQ
     | exact d7 (wN (aW s)) (by unfold wU;rw[RJ D]) rfl rfl Pp OX rfl qQ
  ·refine be rR (qA #[I 0,I 0,I 0,I 0] P7) rR ?_;rintro _ _ ⟨O,rfl,rfl⟩;refine be rR (uA call182 rR (yp ((s.take 9).drop 5) (by simp only[Ul,Sv];omega))) rR ?_;rintro _ _ ⟨rfl,rfl⟩;refine be rR (uA call182 rR (yp ((s.take 13).drop 9) (by simp only[Ul,Sv];omega))) rR ?_;rintro _ _ ⟨rfl,rfl⟩;refine be rR (uA call182 rR (yp ((s.take 17).drop 13) (by simp only[Ul,Sv];omega))) rR ?_;rintro _ _ ⟨rfl,rfl⟩;refine ar rR (qF rR (wE _ rR _ rR _ rR _ rR)) rR ?_;refine lA rR (qp (cs:=#[I 0,I 0,I 0,I 0]) (vs:=wN (aW s)) (wN (aW s)).toArray OX rR rR rR rR (by decide) (qV rR)) ?_;rintro _ _ rfl;refine eE ?_;refine qb (gS (gM rfl (gV (yo (r:=sk s 0) 0 OM rfl rfl rfl (fY (by omega))) (gV (da rfl rfl) (gM rfl (gK rfl rfl (qm 1 Pk rfl rfl OH (by decide) rfl) (gK rfl rfl (qu (v:=I (aW s).side) OI rfl rfl) (gK rfl rfl (qX rfl rfl) (gV (aD rfl rfl) (gM rfl (gK rfl rfl (qm 2 Pk rfl rfl OH (by decide) rfl) (gK rfl rfl (qu (v:=I (aW s).size) OI rfl rfl) (gK rfl rfl (qX rfl rfl) (gV (aD rfl rfl) (gM rfl (gK rfl rfl (qm 3 Pk rfl rfl OH (by decide) rfl) (gK rfl rfl (qu (v:=I (aW s).first) OI rfl rfl) (gK rfl rfl (qH rfl rfl) (gV (aD rfl rfl) (qc ?_))))))))))))))))))));refine qd rfl ?_ ?_ <;> intro J
   ·have D:dl s:=by
     unfold dl;simp at J;rcases J with ((h | h) | h) | h
     ·exact .inl (λe=>h (by rw[e];rfl))
     ·exact .inr (.inl (by omega))
     ·exact .inr (.inr (.inl (by omega)))
     ·exact .inr (.inr (.inr (by omega)))
    refine gS (gV (qF rR (oK)) (gU (qp (cs:=#[I 0,I 0,I 0,I 0]) (vs:=wN HdM.no) (wN HdM.no).toArray OX rR rR rR rR (by decide) (qV rR)) (qc ?_)))
    first
    | exact d7 (wN HdM.no) (by unfold wU;rw[RI D]) rfl rfl Pp OX rfl qQ
    | exact d7 (wN (aW s)) (by unfold wU;rw[RJ D]) rfl rfl Pp OX rfl qQ
   ·have D:¬dl s:=by
     unfold dl;simp at J;rintro (h | h | h | h)
     ·exact h (UInt8.toNat_inj.1 (by rw[show (72:UInt8).toNat=72 from rfl];omega))
     ·omega
     ·omega
     ·omega
    refine qf (gS (gV (qJ (vs:=wN (aW s)) Pp OX rR rR qQ) (gU (qp (cs:=#[I 0,I 0,I 0,I 0]) (vs:=wN (aW s)) (wN (aW s)).toArray OX rR rR rR rR (by decide) (qV rR)) (qc ?_))))
    first
    | exact d7 (wN HdM.no) (by unfold wU;rw[RI D]) rfl rfl Pp OX rfl qQ
    | exact d7 (wN (aW s)) (by unfold wU;rw[RJ D]) rfl rfl Pp OX rfl qQ
 ·refine be rR (qA #[I 0,I 0,I 0,I 0] P7) rR ?_;rintro _ _ ⟨O,rfl,rfl⟩;refine be rR (uA call182 rR (yp ((s.take 5).drop 1) (by simp only[Ul,Sv];omega))) rR ?_;rintro _ _ ⟨rfl,rfl⟩;refine be rR (uA call182 rR (yp ((s.take 9).drop 5) (by simp only[Ul,Sv];omega))) rR ?_;rintro _ _ ⟨rfl,rfl⟩;refine be rR (uA call182 rR (yp ((s.take 13).drop 9) (by simp only[Ul,Sv];omega))) rR ?_;rintro _ _ ⟨rfl,rfl⟩;refine be rR (uA call182 rR (yp ((s.take 17).drop 13) (by simp only[Ul,Sv];omega))) rR ?_;rintro _ _ ⟨rfl,rfl⟩;refine ar rR (qF rR (wE _ rR _ rR _ rR _ rR)) rR ?_;refine lA rR (qp (cs:=#[I 0,I 0,I 0,I 0]) (vs:=wN (aW s)) (wN (aW s)).toArray OX rR rR rR rR (by decide) (qV rR)) ?_;rintro _ _ rfl;refine eE ?_;refine qb (gS (gM rfl (gV (yo (r:=sk s 0) 0 OM rfl rfl rfl (fY (by omega))) (gV (da rfl rfl) (gM rfl (gK rfl rfl (qm 1 Pk rfl rfl OH (by decide) rfl) (gK rfl rfl (qu (v:=I (aW s).side) OI rfl rfl) (gK rfl rfl (qX rfl rfl) (gV (aD rfl rfl) (gM rfl (gK rfl rfl (qm 2 Pk rfl rfl OH (by decide) rfl) (gK rfl rfl (qu (v:=I (aW s).size) OI rfl rfl) (gK rfl rfl (qX rfl rfl) (gV (aD rfl rfl) (gM rfl (gK rfl rfl (qm 3 Pk rfl rfl OH (by decide) rfl) (gK rfl rfl (qu (v:=I (aW s).first) OI rfl rfl) (gK rfl rfl (qH rfl rfl) (gV (aD rfl rfl) (qc ?_))))))))))))))))))));refine qd rfl ?_ ?_ <;> intro J
  ·have D:dl s:=by
    unfold dl;simp at J;rcases J with ((h | h) | h) | h
    ·exact .inl (λe=>h (by rw[e];rfl))
    ·exact .inr (.inl (by omega))
    ·exact .inr (.inr (.inl (by omega)))
    ·exact .inr (.inr (.inr (by omega)))
   refine gS (gV (qF rR (oK)) (gU (qp (cs:=#[I 0,I 0,I 0,I 0]) (vs:=wN HdM.no) (wN HdM.no).toArray OX rR rR rR rR (by decide) (qV rR)) (qc ?_)))
   first
   | exact d7 (wN HdM.no) (by unfold wU;rw[RI D]) rfl rfl Pp OX rfl qQ
   | exact d7 (wN (aW s)) (by unfold wU;rw[RJ D]) rfl rfl Pp OX rfl qQ
  ·have D:¬dl s:=by
    unfold dl;simp at J;rintro (h | h | h | h)
    ·exact h (UInt8.toNat_inj.1 (by rw[show (72:UInt8).toNat=72 from rfl];omega))
    ·omega
    ·omega
    ·omega
   refine qf (gS (gV (qJ (vs:=wN (aW s)) Pp OX rR rR qQ) (gU (qp (cs:=#[I 0,I 0,I 0,I 0]) (vs:=wN (aW s)) (wN (aW s)).toArray OX rR rR rR rR (by decide) (qV rR)) (qc ?_))))
   first
   | exact d7 (wN HdM.no) (by unfold wU;rw[RI D]) rfl rfl Pp OX rfl qQ
   | exact d7 (wN (aW s)) (by unfold wU;rw[RJ D]) rfl rfl Pp OX rfl qQ
-- (*counterfoil/store.Store).Room is not in this seat
def JZ (bs D:Nat)(h:HdM)(bl:Nat)(s:Option Addr)(cap:Nat)(rows:List ChangeM)(O:rows.length<=400)(F:List aa):Ct Tryz.prog 43 [ptr bs 0] (pt bs (.cells (bc D h bl s (rows.length) cap) 198 (0,0))::roL 3 s (ah rows)::F) (dU 174 3 rows.length (ah rows) (pt bs (.cells (bc D h bl s (rows.length) cap) 198 (0,0))::roL 3 s (ah rows)::F)):=by
 refine Ct.of func43 rR 8 ntmps43 (by simp) λw0=>?_;refine gS (gQ rR (gS (gM rR (gV (qa rR) (gF 6 Pq rR PF rR (gL (sl s rows.length cap) P2 rR (gI (uB call121 rR (Cp rows s cap (by omega))) ?_)))))));rintro _ _ ⟨R,J,rfl,rfl⟩;refine gQ rR ?_;exact wk rfl rfl rfl rfl
end Go.Proofs.YthdjckbjjfiopabGreatDoor