/- Several texts in one: walks and rules used by them. No condition. -/
import Derived.Test.YthdjckbjjfiopabGreatDoorPartE
import Derived.Test.YthdjckbjjfiopabGreatDoorPartD
import Derived.Test.YthdjckbjjfiopabGreatDoorPartB
set_option linter.unusedSimpArgs false
set_option linter.unusedVariables false
set_option linter.defProp false
set_option maxHeartbeats 800000
namespace Go.Proofs.YthdjckbjjfiopabGreatDoor
open Go.Sl Go.Proofs
def y5 (x:UInt8)(a b:ab):kl (x::a) (x::b)=kl a b:=by
 show (decide (x<x) || (x==x && Op.bytesLess a b))=Op.bytesLess a b;simp
def y6 {a b:Nat}(h:a<10)(D:b<10):(bw a<bw b) ↔ a<b:=by
 rw[UInt8.lt_iff_toNat_lt,gw h,gw D];omega
def y7 {a b:Nat}(h:a<10)(D:b<10):(bw a=bw b) ↔ a=b:=by
 rw[<-UInt8.toNat_inj,gw h,gw D];omega
def y8 {a b:Int}(h:0<=a/\a<=999)(D:0<=b/\b<=999):kl (aN a) (aN b)=true ↔ a<b:=by
 obtain ⟨u,rfl⟩:∃u:Nat,a=u:=⟨a.toNat,by omega⟩;obtain ⟨v,rfl⟩:∃v:Nat,b=v:=⟨b.toNat,by omega⟩;rw[pk (by omega),pk (by omega)];simp only[kl,Op.bytesLess,SN,Ru,decide_eq_true_eq,beq_iff_eq];rw[y6 (by omega) (by omega),y6 (by omega) (by omega),y6 (by omega) (by omega),y7 (by omega) (by omega),y7 (by omega) (by omega),y7 (by omega) (by omega)];simp only[Rp,and_false,or_false];omega
def po (a b:ab):kl (98::a) (110::b)=true:=rfl
def pp (a b:ab):kl (98::a) (112::b)=true:=rfl
def pq (a b:ab):kl (98::a) (120::b)=true:=rfl
def pr (a b:ab):kl (110::a) (112::b)=true:=rfl
def pu (a b:ab):kl (110::a) (120::b)=true:=rfl
def pw (a b:ab):kl (112::a) (120::b)=true:=rfl
def Et {ρ:Type}{m n:Nat}{B:Int->Option ρ}(O:m<=n)(h:bh m B):aj n B=aj m B:=by
 unfold aj;rw[show n=m+(n - m) by omega,List.range'_append_1.symm,TA];have:(List.range' (1+m) (n - m)).filter (λk:Nat=>(B (k:Int)).isSome)=[]:=Ur.2 λj J D=>by
  rw[TF] at J;obtain ⟨x,hx⟩:=UG.1 D;have:=h _ x hx;omega
 rw[this,T6]
def tQ {ρ:Type}{enc:ρ->Value}{m n:Nat}{B:Int->Option ρ}(J:m<=n)(h:bh m B):tb enc n B=tb enc m B:=by
 unfold tb iA;rw[show n=m+(n - m) by omega,List.range'_append_1.symm,List.filterMap_append];have:(List.range' (1+m) (n - m)).filterMap (λk:Nat=>(B (k:Int)).map λx=>((k:Int),enc x))=[]:=List.filterMap_eq_nil_iff.2 λj D=>by
  rw[TF] at D;cases hx:B (j:Int) with
  | none=>rfl
  | some x=>have:=h _ x hx;omega
 rw[this,T6]
def y9 (st:PS)(hx:Bool):List ChangeM:=wQ 999 st.B++bQ 999 st.N++st.L.map de++if hx then [ga st.n] else []
structure InvP (pre:List ChangeM) (st:PS) (hx:Bool):Prop where
 e:pre=y9 st hx
 x:hx=false->st.n=0
 ok:Pok st
 srt:st.L.Pairwise λa b=>a.id<b.id
def Eu {l:List Int}(h:∀q,q ∉ l):l=[]:=List.eq_nil_iff_forall_not_mem.2 h
def LJ {st J:PS}{c:ChangeM}(hx:c.key≠ [120])(e:cq st c=some J):∃id y,(1<=id/\id<=999)/\c.key=y::aN id/\c.gone=false/\ie st id c=some J:=by
 unfold cq at e;rw[RJ hx] at e;split at e
 ·cases e
 ·rename_i S;split at e
  ·rename_i id O;split at e
   ·cases e
   ·have D:=(wW O);have Y:=D.2 id (by simp);have h:c.key.length=4:=(by omega);obtain ⟨y,r,R⟩:∃y r,c.key=y::r:=by
     cases X:c.key with
     | nil=>rw[X] at h;simp at h
     | cons y r=>exact ⟨y,r,rfl⟩
    rw[R] at D h;simp only[T8,SX,TY,UW,T6] at D;rw[T5 (by simp at h;omega),T6] at D;refine ⟨id,y,by omega,by rw[R,<-D.1],?_,e⟩;cases V:c.gone with
    | false=>rfl
    | true=>exact absurd (.inr V) S
  ·cases e
def LK (l:List ChangeM)(st:Nat->PS)(hs:srt l)(h:∀k c,l[k]? =some c->c.gone=false/\cq (st k) c=some (st (k+1))):cX none (st 0) l=some (st l.length):=by
 have key:∀(m k:Nat) (S:Option ab),m+k=l.length->(∀p,S=some p->∀c,l[k]? =some c->kl p c.key=true)->cX S (st k) (l.drop k)=some (st l.length):=by
  intro m
  induction m with
  | zero=>intro k S hk _;rw[T5 (by omega)];simp only[cX];rw[show k=l.length by omega]
  | succ m ih=>
   intro k S hk X;have J:k<l.length:=(by omega);have hc:l[k]? =some l[k]:=S6 J;obtain ⟨h1,h2⟩:=h k _ hc;rw[Uc J];simp only[cX];rw[RJ,h2]
   ·simp only;refine ih (k+1) _ (by omega) λp O c R=>?_;injection O with O;subst O;exact Rf.1 hs k (k+1) J (Re.1 R).1 (by omega) |> λY=>by rw[(Re.1 R).2] at Y;exact Y
   ·intro D;rcases D with D | D
    ·cases S with
     | none=>cases D
     | some p=>
      have V:=X p rfl _ hc;have Z:(kl l[k].key p || decide (l[k].key=p))=true:=D;rw[jh V,TN,decide_eq_true_eq] at Z;rw[Z,jf] at V;cases V
    ·rw[h1] at D;cases D
 exact key l.length 0 none (by omega) (λp X=>by cases X)
def fI {ρ:Type}(B:Int->Option ρ)(l:List Int):Int->Option ρ:=λq=>if q∈l then B q else none
def LL {ρ:Type}(B:Int->Option ρ):fI B []=λ_=>none:=funext λq=>by simp[fI]
def Ew {ρ:Type}{n:Nat}{B:Int->Option ρ}(h:bh n B):fI B (aj n B)=B:=funext λq=>by
 unfold fI;split
 ·rfl
 ·rename_i D;cases e:B q with
  | none=>rfl
  | some x=>exact absurd (mem_ids.2 ⟨h q x e,by rw[e];rfl⟩) D
def Ex {ρ:Type}{B:Int->Option ρ}{l:List Int}{q:Int}:qy (fI B l) q (B q)=fI B (l++ [q]):=funext λp=>by
 unfold qy fI;by_cases h:p=q
 ·subst h;simp
 ·simp[h]
def l9 {id:Int}(h:0<=id/\id<=999)(t:ab):bR 1 (aN id++t)=some [id]:=by
 unfold bR;have:=wg h;rw[RJ (by simp;omega)];have:=tL (l:=[id]) (k:=1) t rfl (by intro v D;simp at D;subst D;exact h);simpa using this
def zc {st:PS}{c:ChangeM}{id:Int}{y:UInt8}(R:1<=id/\id<=999)(J:c.key=y::aN id)(O:c.gone=false):cq st c=ie st id c:=by
 have h:=wg (n:=id) (by omega);unfold cq;rw[RJ (by rw[J];intro D;injection D with _ D;rw[D] at h;simp at h),RJ (by rw[J,O];simp[h]),J];simp only[T8,SX];have:=l9 (id:=id) (by omega) [];rw[T6] at this;rw[this];simp only;rw[RJ (by omega)]
structure Wr (S:SI) (L:List Pt) (n:Int):Prop where
 sB:bh 40 S.B
 sN:bh 24 S.N
 b:∀q x,S.B q=some x->(0<x.2/\x.2<=999)/\x.1≠ []/\x.1.length<=6
 nd:∀q m,S.N q=some m->(0<m.refs/\m.refs<=999)/\∀k∈kd m,0<=k/\k<=999
 p:∀p∈L,(1<=p.id/\p.id<=999)/\(0<p.disk/\p.disk<=999)/\(0<p.size/\p.size<=16)/\(0<=p.root/\p.root<=999)
 n1:0<=n/\n<=1000
 srt:L.Pairwise λa b=>a.id<b.id
def k9 {S:SI}{L:List Pt}{n:Int}(h:Wr S L n):srt (yf S L n):=by
 unfold yf srt;have V:∀c∈wQ 40 S.B,∃q,c.key=98::aN q:=λc R=>by
  unfold wQ at R;obtain ⟨q,_,rfl⟩:=SR.1 R;exact ⟨q,rfl⟩
 have X:∀c∈bQ 24 S.N,∃q,c.key=110::aN q:=λc R=>by
  unfold bQ at R;obtain ⟨q,_,rfl⟩:=SR.1 R;exact ⟨q,rfl⟩
 have hp:∀c∈L.map de,∃q,c.key=112::aN q:=λc R=>by
  obtain ⟨q,_,rfl⟩:=SR.1 R;exact ⟨q.id,rfl⟩
 rw[RD,RD,RD];refine ⟨⟨⟨?_,?_,λa J b D=>?_⟩,?_,λa J b D=>?_⟩,US _ _,λa J b D=>?_⟩
 ·unfold wQ;rw[RE];refine UX ?_ (vg 40 S.B);intro a b J D O;have Y:=(mem_ids.1 J).1;have Z:=(mem_ids.1 D).1;show kl (98::aN a) (98::aN b)=true;rw[y5];exact (y8 (by omega) (by omega)).2 O
 ·unfold bQ;rw[RE];refine UX ?_ (vg 24 S.N);intro a b J D O;have Y:=(mem_ids.1 J).1;have Z:=(mem_ids.1 D).1;show kl (110::aN a) (110::aN b)=true;rw[y5];exact (y8 (by omega) (by omega)).2 O
 ·obtain ⟨q,e⟩:=V a J;obtain ⟨r,e'⟩:=X b D;rw[e,e',po]
 ·rw[RE];refine UX ?_ h.srt;intro a b J D O;have Y:=(h.p a J).1;have Z:=(h.p b D).1;show kl (112::aN a.id) (112::aN b.id)=true;rw[y5];exact (y8 (by omega) (by omega)).2 O
 ·obtain ⟨r,e'⟩:=hp b D;rcases Sc.1 J with J | J
  ·obtain ⟨q,e⟩:=V a J;rw[e,e',pp]
  ·obtain ⟨q,e⟩:=X a J;rw[e,e',pr]
 ·rw[Ub] at D;subst D;rcases Sc.1 J with J | J
  ·rcases Sc.1 J with J | J
   ·obtain ⟨q,e⟩:=V a J;rw[e];exact pq _ _
   ·obtain ⟨q,e⟩:=X a J;rw[e];exact pu _ _
  ·obtain ⟨q,e⟩:=hp a J;rw[e];exact pw _ _
def gb (S:SI)(L:List Pt)(n:Int)(k:Nat):PS:=
 ⟨fI S.B ((aj 40 S.B).take k),fI S.N ((aj 24 S.N).take (k - (aj 40 S.B).length)),L.take (k - (aj 40 S.B).length - (aj 24 S.N).length),if (aj 40 S.B).length+(aj 24 S.N).length+L.length<k then n else 0⟩
def zd {α:Type}{l:List α}{k:Nat}{x:α}(h:l[k]? =some x):l.take (k+1)=l.take k++ [x]:=by
 rw[UY,h];rfl
def LM {S:SI}{L:List Pt}{n:Int}(h:Wr S L n):cX none ps0 (yf S L n)=some ⟨S.B,S.N,L,n⟩:=by
 have hz:ps0=gb S L n 0:=by
  unfold gb ps0;simp[LL]
 have he:gb S L n (yf S L n).length=⟨S.B,S.N,L,n⟩:=by
  unfold gb;have hl:=show (yf S L n).length=(aj 40 S.B).length+(aj 24 S.N).length+L.length+1 by rw[tM]
  rw[hl,T4 (by omega),T4 (by omega),T4 (by omega),RI (by omega),Ew h.sB,Ew h.sN]
 rw[hz,<-he];refine LK _ _ (k9 h) λk c D=>?_;unfold yf at D;have hbl:(wQ 40 S.B).length=(aj 40 S.B).length:=(by simp[wQ]);have hnl:(bQ 24 S.N).length=(aj 24 S.N).length:=(by simp[bQ]);by_cases h1:k<(aj 40 S.B).length
 ·rw[Sr,Sr,Ri (by omega)] at D;unfold wQ at D;rw[Rc] at D;obtain ⟨q,hq,rfl⟩:=Rb.1 D;have X:=mem_ids.1 (R5 hq);obtain ⟨x,hx⟩:=UG.1 X.2;have V:gB S.B q=x:=(by unfold gB;rw[hx];rfl);have R:=h.b q x hx;refine ⟨rfl,?_⟩;rw[V,zc (id:=q) (y:=98) (by omega) rfl rfl];rw[tN rfl];unfold bF;show (match bR 1 (aN x.2++x.1) with | some [r]=>_ | _=>_)=_;rw[l9 (by omega)];simp only;have Y:=wg (n:=x.2) (by omega);have hne:0<x.1.length:=List.length_pos_iff.2 R.2.1;rw[RI (by show 0<x.2/\3<(aN x.2++x.1).length/\(aN x.2++x.1).length<=9;rw[Sx];omega)];show some (PS.mk (qy (fI S.B ((aj 40 S.B).take k)) q (some ((aN x.2++x.1).drop 3,x.2))) (fI S.N ((aj 24 S.N).take (k - (aj 40 S.B).length))) (L.take (k - (aj 40 S.B).length - (aj 24 S.N).length)) (if (aj 40 S.B).length+(aj 24 S.N).length+L.length<k then n else 0))=some (gb S L n (k+1));unfold gb;rw[UB (by omega),T5 (by omega),SK,show ((x.1,x.2):Bk)=x from rfl,<-hx,Ex,zd hq,RJ (by omega),RJ (by omega),show k+1 - (aj 40 S.B).length=k - (aj 40 S.B).length by omega]
 ·rw[Sr,Sr,Rj (by omega),hbl] at D;by_cases h2:k - (aj 40 S.B).length<(aj 24 S.N).length
  ·rw[Ri (by omega)] at D;unfold bQ at D;rw[Rc] at D;obtain ⟨q,hq,rfl⟩:=Rb.1 D;have X:=mem_ids.1 (R5 hq);obtain ⟨x,hx⟩:=UG.1 X.2;have V:gN S.N q=x:=(by unfold gN;rw[hx];rfl);have R:=h.nd q x hx;refine ⟨rfl,?_⟩;rw[V,zc (id:=q) (y:=110) (by omega) rfl rfl];rw[tO rfl];unfold nF;have O:bR 5 (ic x)=some [x.refs,x.k0,x.k1,x.k2,x.k3]/\(ic x).length=15:=by
    have J:∀v∈ [x.refs,x.k0,x.k1,x.k2,x.k3],0<=v/\v<=999:=by
     intro v J;simp only[RR,Uf,or_false] at J;rcases J with rfl | J
     ·omega
     ·exact R.2 v (by simp only[kd,RR,Uf,or_false];exact J)
    have Z:=tL (l:=[x.refs,x.k0,x.k1,x.k2,x.k3]) (k:=5) [] rfl J;rw[T6] at Z;have e:ic x=[x.refs,x.k0,x.k1,x.k2,x.k3].flatMap aN:=(by simp[ic,kd]);have hl:(ic x).length=15:=by
     rw[e];simp only[TY,UW,Sx,Uh];rw[wg (J _ (by simp)),wg (J x.k0 (by simp)),wg (J x.k1 (by simp)),wg (J x.k2 (by simp)),wg (J x.k3 (by simp))]
    refine ⟨?_,hl⟩;unfold bR;rw[RJ (by omega),e];exact Z
   show (match bR 5 (ic x) with | some [r,k0,k1,k2,k3]=>_ | _=>_)=_;rw[O.1];simp only;rw[RI (by show 0<x.refs/\(ic x).length=15;exact ⟨by omega,O.2⟩)];show some (PS.mk (fI S.B ((aj 40 S.B).take k)) (qy (fI S.N ((aj 24 S.N).take (k - (aj 40 S.B).length))) q (some x)) (L.take (k - (aj 40 S.B).length - (aj 24 S.N).length)) (if (aj 40 S.B).length+(aj 24 S.N).length+L.length<k then n else 0))=some (gb S L n (k+1));unfold gb;rw[<-hx,Ex,RJ (by omega),RJ (by omega),show k+1 - (aj 40 S.B).length=(k - (aj 40 S.B).length)+1 by omega,zd hq,T4 (l:=aj 40 S.B) (i:=k) (by omega),T4 (l:=aj 40 S.B) (i:=k+1) (by omega),show k - (aj 40 S.B).length+1 - (aj 24 S.N).length=k - (aj 40 S.B).length - (aj 24 S.N).length by omega]
  ·rw[Rj (by omega),hnl] at D;by_cases Y:k - (aj 40 S.B).length - (aj 24 S.N).length<L.length
   ·rw[Ri (by simp;omega)] at D;rw[Rc] at D;obtain ⟨x,hx,rfl⟩:=Rb.1 D;have R:=h.p x (R5 hx);refine ⟨rfl,?_⟩;rw[zc (id:=x.id) (y:=112) (by omega) rfl rfl];rw[tP rfl];unfold pF;have O:bR 3 (de x).val=some [x.disk,x.size,x.root]/\(de x).val.length=9:=by
     have J:∀v∈ [x.disk,x.size,x.root],0<=v/\v<=999:=by
      intro v J;simp only[RR,Uf,or_false] at J;rcases J with rfl | rfl | rfl <;> omega
     have Z:=tL (l:=[x.disk,x.size,x.root]) (k:=3) [] rfl J;rw[T6] at Z;have e:(de x).val=[x.disk,x.size,x.root].flatMap aN:=(by simp[de]);have hl:(de x).val.length=9:=by
      rw[e];simp only[TY,UW,Sx,Uh];rw[wg (J x.disk (by simp)),wg (J x.size (by simp)),wg (J x.root (by simp))]
     refine ⟨?_,hl⟩;unfold bR;rw[RJ (by omega),e];exact Z
    rw[O.1];simp only;rw[RI ⟨O.2,by omega⟩];show some (PS.mk (fI S.B ((aj 40 S.B).take k)) (fI S.N ((aj 24 S.N).take (k - (aj 40 S.B).length))) (L.take (k - (aj 40 S.B).length - (aj 24 S.N).length)++ [x]) (if (aj 40 S.B).length+(aj 24 S.N).length+L.length<k then n else 0))=some (gb S L n (k+1));unfold gb;rw[RJ (by omega),RJ (by omega),show k+1 - (aj 40 S.B).length - (aj 24 S.N).length=(k - (aj 40 S.B).length - (aj 24 S.N).length)+1 by omega,zd hx,T4 (l:=aj 40 S.B) (i:=k) (by omega),T4 (l:=aj 40 S.B) (i:=k+1) (by omega),T4 (l:=aj 24 S.N) (i:=k - (aj 40 S.B).length) (by omega),T4 (l:=aj 24 S.N) (i:=k+1 - (aj 40 S.B).length) (by omega)]
   ·rw[Rj (by simp;omega),TD] at D;have hk0:k - (aj 40 S.B).length - (aj 24 S.N).length - L.length=0:=by
     have:=(Re.1 D).1;simp at this;omega
    rw[hk0] at D;injection D with D;subst D;refine ⟨rfl,?_⟩;have hfin:gb S L n (k+1)={gb S L n k with n:=n}:=by
     unfold gb;rw[RI (by omega),T4 (l:=aj 40 S.B) (i:=k) (by omega),T4 (l:=aj 40 S.B) (i:=k+1) (by omega),T4 (l:=aj 24 S.N) (i:=k - (aj 40 S.B).length) (by omega),T4 (l:=aj 24 S.N) (i:=k+1 - (aj 40 S.B).length) (by omega),T4 (l:=L) (i:=k - (aj 40 S.B).length - (aj 24 S.N).length) (by omega),T4 (l:=L) (i:=k+1 - (aj 40 S.B).length - (aj 24 S.N).length) (by omega)]
    rw[hfin];show (if (ga n).key=[120] then xF (gb S L n k) (ga n) else _)=_;rw[RI (show (ga n).key=[120] from rfl)];unfold xF;show (if aN n=[49,48,48,48] then _ else _)=_;by_cases hn:n=1000
    ·subst hn;rw[RI LD]
    ·have hn1:=h.n1;have Y:=wg (n:=n) (by omega);rw[RJ (by intro hh;rw[hh] at Y;simp at Y)];show (match bR 1 (aN n) with | some [v]=>if (aN n).length=3 then _ else _ | _=>_)=_;have:=l9 (id:=n) (by omega) [];rw[T6] at this;rw[this];simp only;rw[RI Y]
def dH (N:aB)(F:IM)(o:Bool)(id kind:Int):Bool:=if id=0 then o else o && ((N id).isSome && (decide ((li F id).getD 0=0) || decide ((li F id).getD 0=kind)))
def eZ (F:IM)(id kind:Int):IM:=if id=0 then F else gi F id kind
def isR_snoc {L:List Pt}{p:Pt}{q:Int}:bk (L++ [p]) q ↔ bk L q\/(q≠0/\q=p.root):=by
 unfold bk;simp only[Sc,Ub];constructor
 ·rintro ⟨h,x,hx | hx,e⟩
  ·exact .inl ⟨h,x,hx,e⟩
  ·subst hx;exact .inr ⟨h,e.symm⟩
 ·rintro (⟨h,x,hx,e⟩ | ⟨h,e⟩)
  ·exact ⟨h,x, .inl hx,e⟩
  ·exact ⟨h,p, .inr rfl,e.symm⟩
def Ey (q:Int):¬bk [] q:=λh=>by obtain ⟨_,p,D,_⟩:=h;cases D
structure K1 (N:aB) (L:List Pt) (o:Bool) (F:IM):Prop where
 o:o=true ↔ ∀q,bk L q->(N q).isSome=true
 f:∀q,li F q=if bk L q then some 1 else none
def LN (N:aB):K1 N [] true []:=⟨⟨λ_ q h=>absurd h (Ey q),λ_=>rfl⟩,λq=>by rw[RJ (Ey q)];rfl⟩
def LO {N:aB}{L:List Pt}{o:Bool}{F:IM}(h:K1 N L o F)(p:Pt):K1 N (L++ [p]) (dH N F o p.root 1) (eZ F p.root 1):=by
 unfold dH eZ;by_cases O:p.root=0
 ·rw[RI O,RI O];have e:∀q,bk (L++ [p]) q ↔ bk L q:=λq=>by
   rw[isR_snoc];exact ⟨λJ=>J.elim (λx=>x) λJ=>absurd (J.2.trans O) J.1, .inl⟩
  exact ⟨by rw[h.o];simp only[e],λq=>by rw[h.f];simp only[e]⟩
 ·rw[RJ O,RJ O];have S:(li F p.root).getD 0=0\/(li F p.root).getD 0=1:=by
   rw[h.f];split
   ·exact .inr rfl
   ·exact .inl rfl
  have X:(decide ((li F p.root).getD 0=0) || decide ((li F p.root).getD 0=1))=true:=by
   rcases S with e | e <;> simp[e]
  rw[X,Bool.and_true];refine ⟨?_,λq=>?_⟩
  ·rw[Ru,h.o];constructor
   ·rintro ⟨R,V⟩ q D;rcases isR_snoc.1 D with D | ⟨_,rfl⟩
    ·exact R q D
    ·exact V
   ·intro R;exact ⟨λq D=>R q (isR_snoc.2 (.inl D)),R _ (isR_snoc.2 (.inr ⟨O,rfl⟩))⟩
  ·rw[mI];by_cases D:p.root=q
   ·rw[RI D,RI (isR_snoc.2 (.inr ⟨by rw[<-D];exact O,D.symm⟩))]
   ·rw[RJ D,h.f];have e:bk (L++ [p]) q ↔ bk L q:=by
     rw[isR_snoc];exact ⟨λJ=>J.elim (λx=>x) λJ=>absurd J.2.symm D, .inl⟩
    simp only[e]
def dn (N:aB)(L:List Pt)(done:List Int)(ks:List Int)(q:Int):Prop:=q≠0/\((∃r m,r∈done/\bk L r/\N r=some m/\q∈kd m)\/q∈ks)
structure KP (N:aB) (L:List Pt):Prop where
 r:∀q,bk L q->(N q).isSome=true
 l:∀q,ig N L q->(N q).isSome=true
 dj:∀q,bk L q->¬ig N L q
structure K2 (N:aB) (L:List Pt) (done ks:List Int) (o:Bool) (F:IM):Prop where
 no:o=false->¬KP N L
 r:o=true->∀q,bk L q->(N q).isSome=true
 l:o=true->∀q,dn N L done ks q->(N q).isSome=true/\¬bk L q
 f1:o=true->∀q,bk L q->li F q=some 1
 f2:o=true->∀q,¬bk L q->dn N L done ks q->li F q=some 2
 f0:o=true->∀q,¬bk L q->¬dn N L done ks q->li F q=none
def Ez (N:aB)(L:List Pt)(q:Int):¬dn N L [] [] q:=λh=>by
 rcases h.2 with ⟨r,m,D,_⟩ | h
 ·cases D
 ·cases h
def LP {N:aB}{L:List Pt}{o:Bool}{F:IM}(h:K1 N L o F):K2 N L [] [] o F:=
 ⟨(λJ O=>by have:=h.o.2 O.r;rw[this] at J;cases J),λJ=>h.o.1 J,λ_ q D=>absurd D (Ez N L q),λ_ q D=>by rw[h.f,RI D],λ_ q _ D=>absurd D (Ez N L q),λ_ q D _=>by rw[h.f,RJ D]⟩
def LQ {N:aB}{L:List Pt}{done:List Int}{id:Int}(h:¬bk L id)(q:Int):dn N L (id::done) [] q ↔ dn N L done [] q:=by
 unfold dn;constructor
 ·rintro ⟨D,⟨r,m,J,O,R⟩ | S⟩
  ·rcases RR.1 J with rfl | J
   ·exact absurd O h
   ·exact ⟨D, .inl ⟨r,m,J,O,R⟩⟩
  ·exact ⟨D, .inr S⟩
 ·rintro ⟨D,⟨r,m,J,O,R⟩ | S⟩
  ·exact ⟨D, .inl ⟨r,m,Th _ J,O,R⟩⟩
  ·exact ⟨D, .inr S⟩
def ze {N:aB}{L:List Pt}{d R k S:List Int}{o:Bool}{F:IM}(h:K2 N L d k o F)(e:∀q,dn N L R S q ↔ dn N L d k q):K2 N L R S o F:=
 ⟨h.no,h.r,λD q X=>h.l D q ((e q).1 X),h.f1,λD q J O=>h.f2 D q J ((e q).1 O),λD q J O=>h.f0 D q J λV=>O ((e q).2 V)⟩
def tS {N:aB}{L:List Pt}{d D k J:List Int}{F F':IM}(h:K2 N L d k false F):K2 N L D J false F':=
 ⟨h.no,(λh=>by cases h),(λh=>by cases h),(λh=>by cases h),(λh=>by cases h),(λh=>by cases h)⟩
def LS {N:aB}{L:List Pt}{done:List Int}{id:Int}{o:Bool}{F:IM}(h:K2 N L done [] o F)(D:(li F id).getD 0≠1):K2 N L (id::done) [] o F:=by
 cases o with
 | false=>exact tS h
 | true=>
  refine ze h (LQ λJ=>D ?_);rw[h.f1 rfl id J];rfl
def LU {N:aB}{L:List Pt}{done:List Int}{id:Int}{F:IM}(h:K2 N L done [] true F)(D:(li F id).getD 0=1):bk L id:=by
 refine Decidable.byContradiction λJ=>?_;by_cases hd:dn N L done [] id
 ·rw[h.f2 rfl id J hd] at D;cases D
 ·rw[h.f0 rfl id J hd] at D;cases D
def dn_ks {N:aB}{L:List Pt}{done J:List Int}{k q:Int}:dn N L done (J++ [k]) q ↔ dn N L done J q\/(q≠0/\q=k):=by
 unfold dn;simp only[Sc,Ub];constructor
 ·rintro ⟨D,h | h | h⟩
  ·exact .inl ⟨D, .inl h⟩
  ·exact .inl ⟨D, .inr h⟩
  ·exact .inr ⟨D,h⟩
 ·rintro (⟨D,h | h⟩ | ⟨D,h⟩)
  ·exact ⟨D, .inl h⟩
  ·exact ⟨D, .inr (.inl h)⟩
  ·exact ⟨D, .inr (.inr h)⟩
def LV {N:aB}{L:List Pt}{done Y:List Int}{id k:Int}{m:Nd}{o:Bool}{F:IM}(h:K2 N L done Y o F)(hr:o=true->bk L id)(hN:N id=some m)(hk:k∈kd m):K2 N L done (Y++ [k]) (dH N F o k 2) (eZ F k 2):=by
 cases o with
 | false=>
  have:dH N F false k 2=false:=(by unfold dH;split <;> simp);rw[this];exact tS h
 | true=>
  by_cases R:k=0
  ·rw[show dH N F true k 2=true by unfold dH;rw[RI R],show eZ F k 2=F by unfold eZ;rw[RI R]];refine ze h λq=>?_;rw[dn_ks];exact ⟨λS=>S.elim (λx=>x) λS=>absurd (S.2.trans R) S.1, .inl⟩
  ·have hL:ig N L k:=⟨R,id,m,hr rfl,hN,hk⟩;have e1:eZ F k 2=gi F k 2:=(by unfold eZ;rw[RJ R]);rw[e1];cases O:dH N F true k 2 with
   | false=>
    refine tS (h:=(⟨λ_ V=>?_,(λh=>by cases h),(λh=>by cases h),(λh=>by cases h),(λh=>by cases h),(λh=>by cases h)⟩:K2 N L done Y false F));unfold dH at O;rw[RJ R,TM,V.l k hL,TM,UZ] at O;have J:=λS=>V.dj k S hL;by_cases hd:dn N L done Y k
    ·have:=h.f2 rfl k J hd;rw[this] at O;simp at O
    ·have:=h.f0 rfl k J hd;rw[this] at O;simp at O
   | true=>
    unfold dH at O;rw[RJ R,TM,Ru] at O;have J:¬bk L k:=λS=>by
     rw[h.f1 rfl k S] at O;simp at O
    refine ⟨(λh=>by cases h),λ_=>h.r rfl,λ_ q D=>?_,λ_ q D=>?_,λ_ q Z D=>?_,λ_ q Z D=>?_⟩
    ·rcases dn_ks.1 D with D | ⟨_,rfl⟩
     ·exact h.l rfl q D
     ·exact ⟨O.1,J⟩
    ·rw[mI,RJ (λe=>J (by rw[e];exact D))];exact h.f1 rfl q D
    ·rw[mI];split
     ·rfl
     ·rename_i hne;rcases dn_ks.1 D with D | ⟨_,rfl⟩
      ·exact h.f2 rfl q Z D
      ·exact absurd rfl hne
    ·have X:¬dn N L done Y q/\¬(q≠0/\q=k):=⟨λh=>D (dn_ks.2 (.inl h)),λh=>D (dn_ks.2 (.inr h))⟩;rw[mI,RJ (λe=>X.2 ⟨by rw[<-e];exact R,e.symm⟩)];exact h.f0 rfl q Z X.1
def LW {N:aB}{L:List Pt}{done:List Int}{id:Int}{m:Nd}{o:Bool}{F:IM}(h:K2 N L done (kd m) o F)(Y:o=true->bk L id)(X:N id=some m):K2 N L (id::done) [] o F:=by
 cases o with
 | false=>exact tS h
 | true=>
  refine ze h λq=>?_;unfold dn;constructor
  ·rintro ⟨O,⟨r,m',D,S,J,R⟩ | V⟩
   ·rcases RR.1 D with rfl | D
    ·rw[X] at J;injection J with J;subst J;exact ⟨O, .inr R⟩
    ·exact ⟨O, .inl ⟨r,m',D,S,J,R⟩⟩
   ·cases V
  ·rintro ⟨O,⟨r,m',D,S,J,R⟩ | V⟩
   ·exact ⟨O, .inl ⟨r,m',Th _ D,S,J,R⟩⟩
   ·exact ⟨O, .inl ⟨id,m,by simp,Y rfl,X,V⟩⟩
def LX {N:aB}{L:List Pt}{done:List Int}(S:∀r,(N r).isSome=true->r∈done)(q:Int):dn N L done [] q ↔ ig N L q:=by
 unfold dn ig;constructor
 ·rintro ⟨D,⟨r,m,_,J,h,O⟩ | R⟩
  ·exact ⟨D,r,m,J,h,O⟩
  ·cases R
 ·rintro ⟨D,r,m,J,h,O⟩;exact ⟨D, .inl ⟨r,m,S r (by rw[h];rfl),J,h,O⟩⟩
def LY {N:aB}{L:List Pt}{done:List Int}{o:Bool}{F:IM}(h:K2 N L done [] o F)(ha:∀r,(N r).isSome=true->r∈done)(hs:bh 24 N)(hF:(F.map (·.1)).Nodup):((o && decide ((F.length:Int)=((aj 24 N).length:Int)))=true ↔ KindsP N L)/\(o=true->∀q,(li F q).getD 0=1 ↔ bk L q):=by
 have J:=LX (L:=L) ha;cases o with
 | false=>
  refine ⟨⟨(λX=>by cases X),λY=>absurd ⟨Y.r,Y.l,Y.dj⟩ (h.no rfl)⟩,(λX=>by cases X)⟩
 | true=>
  have O:∀q,q∈F.map (·.1) ↔ bk L q\/ig N L q:=λq=>by
   rw[<-su];by_cases D:bk L q
   ·rw[h.f1 rfl q D];simp[D]
   ·by_cases R:ig N L q
    ·rw[h.f2 rfl q D ((J q).2 R)];simp[R]
    ·rw[h.f0 rfl q D λX=>R ((J q).1 X)];simp[D,R]
  have hsub:∀q∈F.map (·.1),q∈aj 24 N:=λq V=>by
   have Z:(N q).isSome=true:=by
    rcases (O q).1 V with D | R
    ·exact h.r rfl q D
    ·exact (h.l rfl q ((J q).2 R)).1
   obtain ⟨x,hx⟩:=UG.1 Z;exact mem_ids.2 ⟨hs q x hx,Z⟩
  have S:=BN hF (ids_nodup 24 N) hsub;rw[TD] at S;refine ⟨?_,λ_ q=>?_⟩
  ·rw[TM,decide_eq_true_eq];constructor
   ·intro R;have h2:=S.1 (by omega);refine ⟨h.r rfl,λq V=>(h.l rfl q ((J q).2 V)).1,λq D R=>(h.l rfl q ((J q).2 R)).2 D,λq V=>?_⟩;obtain ⟨x,hx⟩:=UG.1 V;exact (O q).1 (h2 q (mem_ids.2 ⟨hs q x hx,V⟩))
   ·intro Y;have:=S.2 λq V=>(O q).2 (Y.all q (mem_ids.1 V).2);omega
  ·by_cases D:bk L q
   ·rw[h.f1 rfl q D];simp[D]
   ·by_cases R:ig N L q
    ·rw[h.f2 rfl q D ((J q).2 R)];simp[D]
    ·rw[h.f0 rfl q D λX=>R ((J q).1 X)];simp[D]
def cm (F:IM)(c:Int->Int):Prop:=(∀q,(li F q).getD 0=c q)/\(∀q,(li F q).isSome=true ↔ c q≠0)/\∀q,0<=c q
def EA:cm [] λ_=>0:=⟨λq=>rfl,λq=>by simp[li],λq=>by simp⟩
def zf {F:IM}{c:Int->Int}(h:cm F c)(k:Int):cm (gi F k (c k+1)) (del c k 1):=by
 obtain ⟨O,R,J⟩:=h;refine ⟨λq=>?_,λq=>?_,λq=>?_⟩
 ·rw[mI];by_cases D:k=q
  ·subst D;rw[RI rfl,mZ];rfl
  ·rw[RJ D,O,tx _ _ (Ne.symm D)]
 ·rw[mI];by_cases D:k=q
  ·subst D;rw[RI rfl,mZ];have:=J k;simp;omega
  ·rw[RJ D,R,tx _ _ (Ne.symm D)]
 ·have:=J q;unfold del;split <;> omega
def EB {F:IM}{c:Int->Int}(h:cm F c):cm (dy F 0) λq=>if q=0 then 0 else c q:=by
 obtain ⟨J,O,R⟩:=h;refine ⟨λq=>?_,λq=>?_,λq=>?_⟩
 ·rw[BM];by_cases D:0=q
  ·subst D;rfl
  ·rw[RJ D,J];simp only;rw[RJ (Ne.symm D)]
 ·rw[BM];by_cases D:0=q
  ·subst D;simp
  ·rw[RJ D,O];simp only;rw[RJ (Ne.symm D)]
 ·have:=R q;simp only;split <;> omega
def cA (l:List Int)(q:Int):Int:=(l.count q:Int)
def LZ (q:Int):cA [] q=0:=rfl
def L3 (l:List Int)(k q:Int):cA (l++ [k]) q=del (cA l) k 1 q:=by
 unfold cA del;rw[UK,UH];by_cases h:q=k
 ·subst h;simp
 ·simp[h,Ne.symm h]
def px (l:List Int)(k q:Int):cA (k::l) q=cA l q+if q=k then 1 else 0:=by
 unfold cA;rw[UH];by_cases h:q=k
 ·subst h;simp
 ·simp[h,Ne.symm h]
def EC (l:List Int)(q:Int):0<=cA l q:=by unfold cA;omega
def ED (l:List Int)(q:Int):cA l q<=l.length:=by unfold cA;have:=UL (l:=l) (a:=q);omega
def L4 {l:List Int}{q:Int}(h:q≠0):cA l q=aL l q:=by unfold cA aL;rw[RJ h]
def L5 (m:Nd)(q:Int):bA (some m) q=cA (kd m) q:=by
 unfold kd;simp only[px,LZ,bA]
 (repeat' split) <;> omega
def kR (m:Nd)(i:Nat)(q:Int):Int:=cA ((kd m).drop i) q
def py (m:Nd)(q:Int):kR m 0 q=bA (some m) q:=by rw[L5];rfl
def pz (m:Nd)(q:Int):kR m 4 q=0:=rfl
def pA (m:Nd)(q:Int):∀i,i<4->kR m i q=kR m (i+1) q+if q=ak m i then 1 else 0
 | 0,_=>px _ _ _
 | 1,_=>px _ _ _
 | 2,_=>px _ _ _
 | 3,_=>px _ _ _
 | i+4,h=>absurd h (by omega)
def pB (m:Nd)(i:Nat)(q:Int):0<=kR m i q:=EC _ _
def fR (N:aB)(L:List Pt)(q:Int)(p:Int×Value):Int:=if bk L p.1 then bA (N p.1) q else 0
def fL (N:aB)(L:List Pt)(q:Int)(p:Int×Value):Int:=if bk L p.1 then 0 else bA (N p.1) q
def pC (N:aB)(L:List Pt)(q:Int)(p:Int×Value):0<=fR N L q p:=by unfold fR;split;exact oW _ _;exact UJ _
def pE (N:aB)(L:List Pt)(q:Int)(p:Int×Value):0<=fL N L q p:=by unfold fL;split;exact UJ _;exact oW _ _
def zg {f:Int×Value->Int}(h:∀p,0<=f p):∀M,0<=eF f M
 | []=>UJ _
 | p::M=>by have:=zg h M;have:=h p;simp only[eF];omega
def zh {N:aB}{f:Int×Value->Int}{A:aB}{q:Int}(h:∀k v,f (k,v)=if (N k).isSome then bA (A k) q else f (k,v))(J:∀k,N k=none->A k=none):∀l:List Nat,eF f (iA we l N)=dD A q l
 | []=>rfl
 | k::l=>by
  unfold iA;rw[List.filterMap_cons];simp only[dD];have D:=zh h J l;unfold iA at D;cases O:N (k:Int) with
  | none=>simp only[SE];rw[D,J _ O];simp[bA]
  | some m=>
   simp only[Option.map_some,eF];rw[D,h,O]
   rfl
def pG (N:aB)(L:List Pt)(q:Int):eF (fR N L q) (tb we 24 N)=aF (iR N L) q:=by
 refine zh (λk v=>?_) (λk h=>?_) _
 ·cases h:N k with
  | none=>rfl
  | some m=>
   show fR N L q (k,v)=if true=true then bA (iR N L k) q else _
   rw[RI rfl];unfold fR iR;simp only;split <;> rfl
 ·unfold iR;split;exact h;rfl
def pH (N:aB)(L:List Pt)(q:Int):eF (fL N L q) (tb we 24 N)=aF (fH N L) q:=by
 refine zh (λk v=>?_) (λk h=>?_) _
 ·cases h:N k with
  | none=>rfl
  | some m=>
   show fL N L q (k,v)=if true=true then bA (fH N L k) q else _
   rw[RI rfl];unfold fL fH;simp only;split <;> rfl
 ·unfold fH;split;rfl;exact h
structure Cnt (N:aB) (L:List Pt) (rest:MM) (c1 c2:Int->Int):Prop where
 r:∀q,c1 q+eF (fR N L q) rest=cA (L.map (·.root)) q+aF (iR N L) q
 l:∀q,c2 q+eF (fL N L q) rest=aF (fH N L) q
structure Cni (N:aB) (L:List Pt) (rest:MM) (id:Int) (m:Nd) (i:Nat) (c1 c2:Int->Int):Prop where
 r:∀q,c1 q+(if bk L id then kR m i q else 0)+eF (fR N L q) rest=cA (L.map (·.root)) q+aF (iR N L) q
 l:∀q,c2 q+(if bk L id then 0 else kR m i q)+eF (fL N L q) rest=aF (fH N L) q
def L6 {N:aB}{L:List Pt}:Cnt N L (tb we 24 N) (cA (L.map (·.root))) λ_=>0:=⟨λq=>by rw[pG],λq=>by rw[pH,Int.zero_add]⟩
def L7 {N:aB}{L:List Pt}{rest D:MM}{id:Int}{v:Value}{m:Nd}{c1 c2:Int->Int}(h:Cnt N L rest c1 c2)(O:rest.Perm ((id,v)::D))(J:N id=some m):Cni N L D id m 0 c1 c2:=by
 refine ⟨λq=>?_,λq=>?_⟩
 ·have:=h.r q;rw[BO O] at this;simp only[eF,fR,J] at this;rw[py];omega
 ·have:=h.l q;rw[BO O] at this;simp only[eF,fL,J] at this;rw[py];omega
def pI {N:aB}{L:List Pt}{rest:MM}{id:Int}{m:Nd}{i:Nat}{c1 c2:Int->Int}(h:Cni N L rest id m i c1 c2)(J:i<4)(D:bk L id):Cni N L rest id m (i+1) (del c1 (ak m i) 1) c2:=by
 refine ⟨λq=>?_,λq=>?_⟩
 ·have:=h.r q;rw[RI D,pA m q i J] at this;rw[RI D];unfold del;split <;> simp_all <;> omega
 ·have:=h.l q;rw[RI D] at this ⊢;exact this
def pJ {N:aB}{L:List Pt}{rest:MM}{id:Int}{m:Nd}{i:Nat}{c1 c2:Int->Int}(h:Cni N L rest id m i c1 c2)(J:i<4)(D:¬bk L id):Cni N L rest id m (i+1) c1 (del c2 (ak m i) 1):=by
 refine ⟨λq=>?_,λq=>?_⟩
 ·have:=h.r q;rw[RJ D] at this ⊢;exact this
 ·have:=h.l q;rw[RJ D,pA m q i J] at this;rw[RJ D];unfold del;split <;> simp_all <;> omega
def L8 {N:aB}{L:List Pt}{rest:MM}{id:Int}{m:Nd}{c1 c2:Int->Int}(h:Cni N L rest id m 4 c1 c2):Cnt N L rest c1 c2:=by
 refine ⟨λq=>?_,λq=>?_⟩
 ·have:=h.r q;rw[pz] at this;split at this <;> omega
 ·have:=h.l q;rw[pz] at this;split at this <;> omega
def EE {N:aB}{L:List Pt}{rest:MM}{id:Int}{m:Nd}{i:Nat}{c1 c2:Int->Int}(h:Cni N L rest id m i c1 c2)(Z:L.length<=6)(q:Int):c1 q<=102/\c2 q<=96:=by
 have D:=h.r q;have J:=h.l q;have R:=zg (λp=>pC N L q p) rest;have S:=zg (λp=>pE N L q p) rest;have V:=pB m i q;have O:=ED (L.map (·.root)) q;have X:=tt (iR N L) q;have Y:=tt (fH N L) q;rw[TD] at O;constructor
 ·split at D <;> omega
 ·split at J <;> omega
def L9 {N:aB}{L:List Pt}{c1 c2:Int->Int}(h:Cnt N L [] c1 c2):(∀q,c1 q=cA (L.map (·.root)) q+aF (iR N L) q)/\∀q,c2 q=aF (fH N L) q:=by
 refine ⟨λq=>?_,λq=>?_⟩
 ·have:=h.r q;simp only[eF] at this;omega
 ·have:=h.l q;simp only[eF] at this;omega
def ng {N:aB}{L:List Pt}{c1 c2:Int->Int}(h:Cnt N L [] c1 c2){q:Int}(D:q≠0):(λq=>if q=0 then 0 else c1 q) q=cN N L q/\(λq=>if q=0 then 0 else c2 q) q=aF (fH N L) q:=by
 obtain ⟨J,O⟩:=L9 h;simp only;rw[RJ D,RJ D,J,O,L4 D];exact ⟨rfl,rfl⟩
def tT {B:bV}{N:aB}{L:List Pt}{c1 c2:Int->Int}{F:IM}(h:Cnt N L [] c1 c2)(hz:∀q m,N q=some m->¬dc m)(hn:∀q m,N q=some m->(λq=>if q=0 then 0 else c1 q) q=m.refs)(hb:∀q x,B q=some x->(λq=>if q=0 then 0 else c2 q) q=x.2)(Z:bh 40 B)(hN:bh 24 N)(R:∀q x,B q=some x->0<x.2)(X:cm F λq=>if q=0 then 0 else c2 q)(hd:(F.map (·.1)).Nodup):(decide ((F.length:Int)=((aj 40 B).length:Int))=true) ↔ CountP B N L:=by
 have S:∀q∈aj 40 B,q∈F.map (·.1):=λq J=>by
  have Y:=mem_ids.1 J;obtain ⟨x,hx⟩:=UG.1 Y.2;rw[<-su,X.2.1];have:=hb q x hx;have:=R q x hx;omega
 have D:=BN (ids_nodup 40 B) hd S;rw[TD] at D;rw[decide_eq_true_eq];constructor
 ·intro e;have h2:=D.1 (by omega);refine ⟨hz,λq m hm=>?_,λq x hx=>?_,λq O J=>?_⟩
  ·rw[<-(ng h (by have:=hN q m hm;omega)).1];exact hn q m hm
  ·rw[<-(ng h (by have:=Z q x hx;omega)).2];exact hb q x hx
  ·have V:q∈F.map (·.1):=by
    rw[<-su,X.2.1,(ng h O).2];exact J
   exact (mem_ids.1 (h2 q V)).2
 ·intro hc;have:=D.2 λq J=>by
   rw[<-su,X.2.1] at J;by_cases O:q=0
   ·subst O;exact absurd rfl J
   ·rw[(ng h O).2] at J;have V:=hc.all q O J;obtain ⟨x,hx⟩:=UG.1 V;exact mem_ids.2 ⟨Z q x hx,V⟩
  omega
def tU {B:bV}{N:aB}{L:List Pt}{c1 c2:Int->Int}(h:Cnt N L [] c1 c2)(O:bh 24 N){q:Int}{m:Nd}(J:N q=some m)(D:(λq=>if q=0 then 0 else c1 q) q≠m.refs):¬CountP B N L:=λR=>D (by
 rw[(ng h (by have:=O q m J;omega)).1];exact R.n q m J)
def tV {B:bV}{N:aB}{L:List Pt}{c1 c2:Int->Int}(h:Cnt N L [] c1 c2)(J:bh 40 B){q:Int}{x:Bk}(hx:B q=some x)(D:(λq=>if q=0 then 0 else c2 q) q≠x.2):¬CountP B N L:=λO=>D (by
 rw[(ng h (by have:=J q x hx;omega)).2];exact O.b q x hx)
open _root_.Go.Proofs.Tryz
def Ma (l:List Pt)(id:Int){i:Nat}(h:∀j,j<i->∀t,l[j]? =some t->t.id≠id){s:Pt}(J:l[i]? =some s)(S:s.id=id):(l.take (i+1)).filter (λx=>!decide (x.id=id))=l.take i:=by
 have V:=(Re.1 J).1;rw[UY,J,TA];have O:(l.take i).filter (λx=>!decide (x.id=id))=l.take i:=Tt.2 λa R=>by
  obtain ⟨j,D,rfl⟩:=U4.1 R;have:=h j (by simp at D;omega) (l.take i)[j] (by simp at D ⊢);simpa using this
 rw[O];simp[S]
structure Dl (l R:List Pt) (id:Int) (w j:Nat):Prop where
 len:R.length=l.length
 lj:j<=l.length
 lw:w<=j
 pre:R.take w=(l.take j).filter λx=>!decide (x.id=id)
 suf:R.drop j=l.drop j
def EF {l R:List Pt}{id:Int}{w j:Nat}(h:Dl l R id w j){x:Pt}(hx:R[j]? =some x):l[j]? =some x:=by
 have D:(R.drop j)[0]? =some x:=(by simpa using hx);rw[h.suf] at D;simpa using D
def Mb {l R:List Pt}{id:Int}{w j:Nat}(h:Dl l R id w j){x:Pt}(hx:R[j]? =some x)(D:x.id=id):Dl l R id w (j+1):=by
 have J:=EF h hx;have O:=(Re.1 J).1;refine ⟨h.len,O,by have:=h.lw;omega,?_,?_⟩
 ·rw[UY,J,TA,h.pre];simp[D]
 ·rw[<-UV,<-UV,h.suf]
def Mc {l R:List Pt}{id:Int}{w j:Nat}(h:Dl l R id w j)(V:w<j){x:Pt}(hx:R[j]? =some x)(J:x.id≠id):Dl l (R.set w x) id (w+1) (j+1):=by
 have O:=EF h hx;have S:=(Re.1 O).1;have D:=h.len;refine ⟨by simp[D],S,by omega,?_,?_⟩
 ·rw[UY (l:=l),O,TA,<-h.pre,UY,U5 (Ra _),Ry (by omega)];simp[J]
 ·rw[U6 (by omega),<-UV,<-UV,h.suf]
def EG {l R:List Pt}{id:Int}{w:Nat}(h:Dl l R id w l.length):R.take w=l.filter λx=>!decide (x.id=id):=by rw[h.pre,S7]
def Md {l:List Pt}{id:Int}(h:∀j,j<l.length->∀t,l[j]? =some t->t.id≠id):l.filter (λx=>!decide (x.id=id))=l:=Tt.2 λa J=>by
 obtain ⟨j,D,rfl⟩:=U4.1 J;have:=h j D l[j] (S6 D);simpa using this
def EH {l:List Pt}{id:Int}(h:fG l id<0):∀j,j<l.length->∀t,l[j]? =some t->t.id≠id:=λj R t O D=>by
 unfold fG at h;split at h
 ·omega
 ·rename_i J;exact J (UQ ⟨t,R5 O,by simpa using D⟩)
def Me {l:List Pt}{id:Int}(h:fG l id<0):fG l id= -1:=tG (EH h)
def Mf {l:List Pt}{id:Int}{i:Nat}(h:∀j,j<i->∀t,l[j]? =some t->t.id≠id){s:Pt}(D:l[i]? =some s)(J:s.id=id):Dl l l id i (i+1):=
 ⟨rfl,(Re.1 D).1,by omega,(Ma l id h D J).symm,rfl⟩
def Mg (l:List Pt)(w:Nat)(x:Pt):(az l).set w (qL x)=az (l.set w x):=by simp[az,T1]
def Mh (l:List Pt)(w:Nat):(az l).take w=az (l.take w):=by simp[az,TR]
def zi (x:Nat)(w:World):(Instr.build 123 #[(0,ptr x 0),(2,I 1)]).run Tryz.prog w= .ok (.agg #[ptr x 0,sl none 0 0,I 1]) w:=by
 simp[Instr.build,QW,QX,OH,Pd,O2,Instr.fill,qW,show (I 1).cells=#[I 1] from rfl,show (ptr x 0).cells=#[ptr x 0] from rfl,sl]
def pK (x:Nat)(s:Option Addr)(n c:Nat)(k:Int)(w:World):(Instr.build 123 #[(0,ptr x 0),(1,sl s n c),(2,I k)]).run Tryz.prog w= .ok (.agg #[ptr x 0,sl s n c,I k]) w:=by
 simp[Instr.build,QW,QX,OH,Pd,O2,Instr.fill,qW,show (I k).cells=#[I k] from rfl,show (ptr x 0).cells=#[ptr x 0] from rfl,show (sl s n c).cells=#[sl s n c] from rfl]
def zj (a b c d:Int)(w:World):(Instr.build 162 #[(0,I a),(1,I b),(2,I c),(3,I d)]).run Tryz.prog w= .ok (.agg (qL ⟨a,b,c,d⟩).toArray) w:=by
 simp[Instr.build,Pc,Q8,OH,Instr.fill,qW,show ∀k:Int,(I k).cells=#[I k] from λ_=>rfl]
def EI (w:World):(Instr.build 162 #[]).run Tryz.prog w= .ok (.agg (qL aM).toArray) w:=by
 simp[Instr.build,Pc,Q8,Instr.fill,qW,aM]
def kj {α:Type}{l:List α}{k:Nat}{x:α}(h:l[k]? =some x):l.drop k=x::l.drop (k+1):=by
 obtain ⟨D,e⟩:=Re.1 h;rw[<-e];exact Uc D
def tW {a m:Nat}(h:a<m):List.range' a (m - a)=a::List.range' (a+1) (m - (a+1)):=by
 rw[show m - a=(m - (a+1))+1 by omega,List.range'_succ]
def EJ {a m:Nat}(h:m<=a):List.range' a (m - a)=[]:=by rw[show m - a=0 by omega];rfl
def Mi (x:Pt)(q:Nat)(id:Int)(F:List aa):Ct Tryz.prog 166 [.agg (qL x).toArray,ptr q 0] (pt q (.cells #[I id] 3 (0,0))::F) (R1 (Bo (decide (x.id=id))) (pt q (.cells #[I id] 3 (0,0))::F)):=by
 refine Ct.of func166 rR 8 ntmps166 (by simp) λw0=>?_;refine gS (gI (wR (qL x).toArray rR rR) ?_);rintro _ _ ⟨h,rfl,rfl⟩;refine gQ rR (gS (gF 0 O6 rR OH rR (gL (I x.id) OI rR (gL (I id) OI rR (gV (yD rR rR) (gQ rR ?_))))));refine ql rR rR ?_;exact rfl
def EK (x:Pt)(q:Nat)(id:Int)(F:List aa):Ct Tryz.prog 198 [.agg (qL x).toArray,ptr q 0] (pt q (.cells #[I id] 3 (0,0))::F) (R1 (Bo (decide (x.id=id))) (pt q (.cells #[I id] 3 (0,0))::F)):=by
 refine Ct.of func198 rR 8 ntmps198 (by simp) λw0=>?_;refine gS (gI (wR (qL x).toArray rR rR) ?_);rintro _ _ ⟨h,rfl,rfl⟩;refine gQ rR (gS (gF 0 O6 rR OH rR (gL (I x.id) OI rR (gL (I id) OI rR (gV (yD rR rR) (gQ rR ?_))))));refine ql rR rR ?_;exact rfl
def Mj (l:List Pt)(s:Option Addr)(c q:Nat)(id:Int)(Y:l.length<=1000000)(F:List aa):Ct Tryz.prog 165 [sl s l.length c, .func (.func 166) #[] #[ptr q 0]] (ai 162 4 s c (az (l))::pt q (.cells #[I id] 3 (0,0))::F) (R1 (I (fG l id)) (ai 162 4 s c (az (l))::pt q (.cells #[I id] 3 (0,0))::F)):=by
 refine Ct.of func165 rR 19 ntmps165 (by simp) λw0=>?_;refine gS (gQ rR (qb (gS (gM rR (gV (qY OZ rR) (gM rR (qc (qg ?_))))))));refine qC (α:=Nat) (λk=>k<=l.length/\∀j,j<k->∀t,l[j]? =some t->t.id≠id) (λk=>U [(0,sl s l.length c),(1, .func (.func 166) #[] #[ptr q 0]),(7,I l.length),(8,I k)]) (λ_=>ai 162 4 s c (az (l))::pt q (.cells #[I id] 3 (0,0))::F) (λk=>l.length - k) 0 ⟨by simp,λj V=>absurd V (by omega)⟩ [0,1,7,8] rfl rR ?_;rintro k ⟨X,O⟩;refine gS (gV (qH rR rR) (qc (qb ?_)));refine qd rfl ?_ ?_ <;> intro S
 ·simp at S;have J:k<l.length:=(by omega);obtain ⟨x,hx⟩:∃x,l[k]? =some x:=⟨_,S6 J⟩;refine qf (qb (qg (gS (gM rR (gQ rR (gS (gM rR (gM rR (gM rR (gV (qv (k) OZ OP rR rR rR J (by rw[yI];exact J)) (gV (qZ (row:=qL x) PH OP rR (eO hx) rR) (gI (fC (fi:=[]) (cap:=[ptr q 0]) (Pre:=[pt q (.cells #[I id] 3 (0,0))]) call166 rR rR (Mi x q id)) ?_))))))))))));rintro _ _ ⟨rfl,rfl⟩;refine qc ?_;refine qd rfl ?_ ?_ <;> intro D
  ·simp at D;refine gS (gM rR (gQ rR ?_));refine ql rR rR ?_;show I _=I _;rw[tF O hx D]
  ·simp at D;refine qf (qD (qo (gP rR rR (by omega) (gM rR (qc ?_)))));exact qk (k+1) ⟨by omega,λj V t R=>by
    rcases Rq j k with h | h
    ·exact O j h t R
    ·obtain rfl:j=k:=(by omega);rw[hx] at R;injection R with R;rw[<-R];exact D⟩ (by omega) [0,1,7,8] rfl rfl
 ·simp at S;obtain rfl:k=l.length:=(by omega);refine qw rR ?_;refine gS (gQ rR ?_);refine ql rR rR ?_;show I _=I _;rw[tG O]
def Mk (l:List Pt)(s:Option Addr)(c q:Nat)(id:Int)(Y:l.length<=1000000)(F:List aa):Ct Tryz.prog 165 [sl s l.length c, .func (.func 198) #[] #[ptr q 0]] (ai 162 4 s c (az (l))::pt q (.cells #[I id] 3 (0,0))::F) (R1 (I (fG l id)) (ai 162 4 s c (az (l))::pt q (.cells #[I id] 3 (0,0))::F)):=by
 refine Ct.of func165 rR 19 ntmps165 (by simp) λw0=>?_;refine gS (gQ rR (qb (gS (gM rR (gV (qY OZ rR) (gM rR (qc (qg ?_))))))));refine qC (α:=Nat) (λk=>k<=l.length/\∀j,j<k->∀t,l[j]? =some t->t.id≠id) (λk=>U [(0,sl s l.length c),(1, .func (.func 198) #[] #[ptr q 0]),(7,I l.length),(8,I k)]) (λ_=>ai 162 4 s c (az (l))::pt q (.cells #[I id] 3 (0,0))::F) (λk=>l.length - k) 0 ⟨by simp,λj V=>absurd V (by omega)⟩ [0,1,7,8] rfl rR ?_;rintro k ⟨X,O⟩;refine gS (gV (qH rR rR) (qc (qb ?_)));refine qd rfl ?_ ?_ <;> intro S
 ·simp at S;have J:k<l.length:=(by omega);obtain ⟨x,hx⟩:∃x,l[k]? =some x:=⟨_,S6 J⟩;refine qf (qb (qg (gS (gM rR (gQ rR (gS (gM rR (gM rR (gM rR (gV (qv (k) OZ OP rR rR rR J (by rw[yI];exact J)) (gV (qZ (row:=qL x) PH OP rR (eO hx) rR) (gI (fC (fi:=[]) (cap:=[ptr q 0]) (Pre:=[pt q (.cells #[I id] 3 (0,0))]) call198 rR rR (EK x q id)) ?_))))))))))));rintro _ _ ⟨rfl,rfl⟩;refine qc ?_;refine qd rfl ?_ ?_ <;> intro D
  ·simp at D;refine gS (gM rR (gQ rR ?_));refine ql rR rR ?_;show I _=I _;rw[tF O hx D]
  ·simp at D;refine qf (qD (qo (gP rR rR (by omega) (gM rR (qc ?_)))));exact qk (k+1) ⟨by omega,λj V t R=>by
    rcases Rq j k with h | h
    ·exact O j h t R
    ·obtain rfl:j=k:=(by omega);rw[hx] at R;injection R with R;rw[<-R];exact D⟩ (by omega) [0,1,7,8] rfl rfl
 ·simp at S;obtain rfl:k=l.length:=(by omega);refine qw rR ?_;refine gS (gQ rR ?_);refine ql rR rR ?_;show I _=I _;rw[tG O]
def EL (l:List Pt)(s:Option Addr)(c:Nat)(Y:l.length<=1000000)(F:List aa):Ct Tryz.prog 140 [sl s l.length c] (ai 162 4 s c (az (l))::F) (dU 162 4 l.length (az l) (ai 162 4 s c (az (l))::F)):=by
 refine Ct.of func140 rR 8 ntmps140 (by simp) λw0=>?_;refine uM (φ:=s=none->l=[]) (λw R S=>by
  rcases wa R with ⟨_,h,_,_⟩ | ⟨b,cs,h,_⟩
  ·exact List.map_eq_nil_iff.1 h
  ·rw[S] at h;cases h) (λD=>?_)
 refine gS (gQ rR (qb (gS (gM rR (gV (u0 OZ rR) (qc ?_))))));refine qd rfl ?_ ?_ <;> intro O
 ·have J:=D (by simpa using O);subst J;refine yi 162 4 (az []) rR ?_;refine gS (gQ rR ?_);exact wk rfl rfl rfl rfl
 ·refine qf (gS (gI (uX OZ OP) ?_));rintro _ _ ⟨V,rfl,rfl⟩;refine gM rR (gI (qN OZ OP Pc rR Tryz.typeInfo162 (by decide) rR rR rR (yI l) (by simp[az]) (by simp[az,Go.Sl.ones,Go.Sl.one]) ⟨by omega,by decide,by decide⟩) ?_);rintro _ _ ⟨Z,X,rfl,rfl⟩;rw[Sa];simp only[SK];refine gQ rR ?_;exact wk rfl rfl rfl rfl
def Ml (F:List aa):Ct Tryz.prog 105 [] (F) (λv L'=>∃b,v=ptr b 0/\L'=aI b (ag gZ) [] 1::F):=by
 refine Ct.of func105 rR 4 ntmps105 (by simp) λw0=>?_;refine gS (gQ rR (gS (gI (uA call118 rR (Dy)) ?_)));rintro _ _ ⟨x,rfl,rfl⟩;rw[<-pb];refine gV (qF rR (zi x)) (gI (wR #[ptr x 0,sl none 0 0,I 1] rfl rR) ?_);rintro _ _ ⟨h,rfl,rfl⟩;refine gQ rR ?_;refine yi 162 4 (az []) rR ?_;refine yA h x none 0 (ag gZ) [] 1 ?_;exact λa w D J=>wp_ret (yu (qB (vs:=[ptr h 0]) rfl D J ⟨h,rfl,rfl⟩))
def yT (b:Nat)(S:SI)(L:List Pt)(n:Int)(id:Int)(X:L.length<=1000000)(F:List aa):Ct Tryz.prog 92 [ptr b 0,I id] (aI b S L n::F) (R1 (.tuple #[.agg (qL ((qS L id).getD aM)).toArray,Bo (qS L id).isSome]) (aI b S L n::F)):=by
 refine Ct.of func92 rR 23 ntmps92 (by simp) λw0=>?_;refine f9 b S L n ?_;intro x s c;refine gS (gI (wR #[I id] rfl rR) ?_);rintro _ _ ⟨O,rfl,rfl⟩;refine gI (qA #[I 0,I 0,I 0,I 0] Pc) ?_;rintro _ _ ⟨Z,rfl,rfl⟩;refine gQ rR (gS (gM rR (gV (qa rR) (gF 1 OV rR O2 rR (gL (sl s (L).length c) Pf rR (gV (ju rR rR) (gR (vC call165 rR (Mj L s c O id X)) (gQ rR (qb (gS (gM rR (gV (qH rR rR) (qc ?_)))))))))))));refine qd rfl ?_ ?_ <;> intro h
 ·simp at h;have J:qS L id=none:=D4 h;rw[J];refine gS (gV (qF rR EI) (gU (qp (cs:=#[I 0,I 0,I 0,I 0]) (vs:=qL (aM)) (qL (aM)).toArray OP rR rR rR rR (by simp) (qs rR)) (gQ rR ?_)));refine yA b x s c (S) (L) (n) ?_;exact kI (qL aM) rfl rfl rfl rfl PH OP rfl qQ
 ·simp at h;obtain ⟨i,p,R,Y,V,D,J,_⟩:=xN (l:=L) (id:=id) (by omega);rw[R,J];refine qf (gS (gM rR (gV (qa rR) (gF 1 OV rR O2 rR (gL (sl s (L).length c) Pf rR (gM rR (gV (qv (i) OZ OP rR rR rR D (by rw[yI];exact D)) (gV (qZ (row:=qL p) PH OP rR (eO Y) rR) (gU (qp (cs:=#[I 0,I 0,I 0,I 0]) (vs:=qL (p)) (qL (p)).toArray OP rR rR rR rR (by simp) (qs rR)) (gQ rR ?_))))))))));refine yA b x s c (S) (L) (n) ?_;exact kI (qL p) rfl rfl rfl rfl PH OP rfl qQ
def EM (b:Nat)(S:SI)(L:List Pt)(n:Int)(disk size root:Int)(V:L.length<=6)(X: -9223372036854775808<=n/\n<=1000000)(F:List aa):Ct Tryz.prog 171 [ptr b 0,I disk,I size,I root] (aI b S L n::F) (R1 (.tuple #[I (cu L n),bg 117 (cn L n)]) (aI b S (ei L n disk size root) (em L n)::F)):=by
 refine Ct.of func171 rR 51 ntmps171 (by simp) λw0=>?_;refine f9 b S L n ?_;intro x s c;refine gS (gA rR (gQ rR (qb (gS (gM rR (gV (qa rR) (gF 1 OV rR O2 rR (gL (sl s (L).length c) Pf rR (gV (qY OZ rR) (gV (yD rR rR) (gM rR (gK rR rR (qn rR) (gK rR rR (qa rR) (gK rR rR (qm 2 OV rR rR OH (by decide) rR) (gK rR rR (qu (v:=I n) OI rR rR) (gK rR rR (qX rR rR) (gV (aD rR rR) (qc ?_))))))))))))))))));refine qd rfl ?_ ?_ <;> intro J
 ·simp at J;have h:cn L n=8:=(by unfold cn;rw[RI (by omega)]);refine gS (gV (qP OY rR rR) (gA rR (gQ rR ?_)));rw[h,show cu L n=0 by unfold cu;rw[RJ (by omega)],show ei L n disk size root=L by unfold ei;rw[RJ (by omega)],show em L n=n by unfold em;rw[RJ (by omega)]];refine yA b x s c (S) (L) (n) ?_;exact ql rfl rfl rfl
 ·simp at J;have h:cn L n=0:=(by unfold cn;rw[RJ (by omega)]);refine qf (gS (gM rR (gV (qa rR) (gF 2 OV rR OH rR (gL (I n) OI rR (gQ rR (gS (gM rR (gV (qa rR) (gF 2 OV rR OH rR (gL (I n) OI rR (gP rR rR (by omega) (gV (qa rR) (gF 2 OV rR OH rR (gU (qG #[ptr x 0,sl s L.length c,I (n+1)] OH rR rR rR (by simp) rR) (qc (gS (gM rR (gM rR (gV (qa rR) (gF 1 OV rR O2 rR (gL (sl s (L).length c) Pf rR (gM rR (gM rR (gM rR (gM rR (gV (qF rR (zj n disk size root)) (gI (qj [qL ⟨n,disk,size,root⟩] OZ OP Pc rR rR rR (by simp) (by decide) (by decide)) ?_))))))))))))))))))))))))))));rintro _ _ ⟨R,rfl,rfl⟩;refine gI (qN OZ OP Pc rR Tryz.typeInfo162 (by decide) rR rR (yI _) rR (by simp) (by simp[Go.Sl.ones,Go.Sl.one]) ⟨by omega,by decide,by decide⟩) ?_;rintro _ _ ⟨O,D,rfl,rfl⟩;rw[show az L++ [qL ⟨n,disk,size,root⟩]=az (L++ [⟨n,disk,size,root⟩]) by simp[az]];refine gV (qa rR) (gF 1 OV rR O2 rR (gU (qG #[ptr x 0,sl O (L.length+1) D,I (n+1)] O2 rR rR rR (by simp) rR) (qc (gS (gM rR (gA rR (gQ rR ?_)))))));rw[h,show cu L n=n by unfold cu;rw[RI h],show ei L n disk size root=L++ [⟨n,disk,size,root⟩] by unfold ei;rw[RI h],show em L n=n+1 by unfold em;rw[RI h],show L.length+1=(L++ [(⟨n,disk,size,root⟩:Pt)]).length by simp];refine yA b x O D (S) (L++ [⟨n,disk,size,root⟩]) (n+1) ?_;exact ql rfl rfl rfl
def Mm (b:Nat)(S:SI)(L:List Pt)(n:Int)(base disk size:Int)(G0:Gh)(Z:Vok S L n G0)(hsz:1<=size/\size<=16)(F:List aa):Ct Tryz.prog 168 [ptr b 0,I base,I disk,I size] (aI b S L n::F) (vR aI (bg 117) b F (lX S L n base disk size)):=by
 have hok:=gv Z;have hll:=Z.len;have hrl:(L.map (·.root)).length<=8:=(by simp;omega);refine Ct.of func168 rR 67 ntmps168 (by simp) λw0=>?_;refine gS (gA rR (gQ rR (qb (gS (gM rR (gV (yD rR rR) (qc ?_)))))));refine qd rfl ?_ ?_ <;> intro h
 ·simp at h;refine gS (gA rR (gQ rR ?_));exact k8 (S:=S) (P:=L) (n:=n) rfl (by unfold lX dE;rw[RI h]) rfl rfl
 ·simp at h;refine qf (gS (gM rR (gM rR (gR (vB call92 rR (yT b S L n base (by omega))) (gM rR (gX (.agg (qL ((qS L base).getD aM)).toArray) rR (gX (Bo (qS L base).isSome) rR (gI (qA #[I 0,I 0,I 0,I 0] Pc) ?_))))))));rintro _ _ ⟨X,rfl,rfl⟩;refine gU (qp (cs:=#[I 0,I 0,I 0,I 0]) (vs:=qL (((qS L base).getD aM))) (qL (((qS L base).getD aM))).toArray OP rR rR rR rR (by simp) (qs rR)) (gQ rR (qb (gS (gM rR (gV (wb rR) (qc ?_))))));refine qd rfl ?_ ?_ <;> intro O
  ·simp at O;refine gS (gV (qP OY rR rR) (gA rR (gQ rR ?_)));exact wL rfl (by unfold lX dE;rw[RJ h,O]) rfl rfl
  ·simp at O;obtain ⟨p,hf⟩:=UG.1 O;have hpm:=wd hf;have hps:=Z.pts p hpm.1;rw[show (qS L base).getD aM=p by rw[hf];rfl];refine qf (qb (gS (gF 1 O6 rR OH rR (gL (I p.disk) OI rR (gM rR (gV (da rR rR) (qc ?_)))))));refine qd rfl ?_ ?_ <;> intro Y
   ·simp at Y;refine gS (gV (qP OY rR rR) (gA rR (gQ rR ?_)));exact wL rfl (by unfold lX dE;rw[RJ h,hf];simp only;rw[RI Y]) rfl rfl
   ·simp at Y;refine qf (qb ?_);refine f9 b S L n ?_;intro x s c;refine yO (Lf:=[pt b (.cells #[ptr x 0,sl s (L).length c,I (n)] 123 (0,0)),pt X (.cells (qL (p)).toArray 162 (0,0))]) jC (by kernel_rfl) (by kernel_rfl) rR (by kernel_rfl) ?_;refine dM rR rR rR (dV rR (qa rR) (dF rR 0 OV rR Pd rR (dL rR (ptr x 0) Pg rR (dF rR 3 O6 rR OH rR (dL rR (I p.root) OI rR (av rR (uB call196 rR (DA x S p.root 200 hok (by decide) (k5 Z.rt.V (dS Z.rt (wz hf))).2)) rR ?_))))));rintro _ _ ⟨rfl,rfl⟩;obtain ⟨G1,R,hR1,_⟩:=pg Z.rt (wz hf);have R:wX S p.root=ag G1:=(by rw[Z.e];exact R);rw[R];refine dV rR (qt rR) ?_;refine qI ?_;refine qb (gS (gM rR (gQ rR ?_)));obtain ⟨sz,rfl⟩:∃k:Nat,size=k:=⟨size.toNat,by omega⟩;refine qg ?_;refine qC (α:=Nat×Gh×Int) (λz=>z.1<=16/\Rt z.2.1 (z.2.2::L.map (·.root))/\dY (ag z.2.1,z.2.2) (List.range' z.1 (p.size.toNat - z.1))=dY (wX S p.root,p.root) (List.range' sz (p.size.toNat - sz))) (λz=>U [(0,ptr b 0),(10,ptr X 0),(12,I z.2.2),(13,I z.1)]) (λz=>pt X (.cells (qL (p)).toArray 162 (0,0))::pt b (.cells #[ptr x 0,sl s (L).length c,I (n)] 123 (0,0))::aX x (ag z.2.1)::ai 162 4 s c (az (L))::F) (λz=>16 - z.1) (sz,G1,p.root) ⟨by simp only[];omega,hR1,by rw[R]⟩ [0,10,12,13] rfl rR ?_;rintro ⟨a,G,root⟩ ⟨ha,hR,D⟩;simp only[] at ha hR D ⊢;refine qb (gS (gM rR (gF 2 O6 rR OH rR (gL (I p.size) OI rR (gV (qH rR rR) (qc ?_))))));refine qd rfl ?_ ?_ <;> intro h43
    ·simp at h43;refine qf (qb (qg (gS (gM rR (gV (qa rR) (gF 0 OV rR Pd rR (gL (ptr x 0) Pg rR (gM rR (gM rR (gR (vB call169 rR (DB x (ag G) root a [] 200 (na hR (by simp;omega)) (by decide) (by omega) (by decide) (tD hR.V (dS hR (by simp))))) (gM rR (gX (I (aP (ag G) root a []).1) rR (gX (bg 117 (aP (ag G) root a []).2) rR (gA rR (gQ rR (qb (gS (gM rR (gV (yP OT rR) (qc ?_))))))))))))))))))));refine qd rfl ?_ ?_ <;> intro J
     ·simp at J;refine gS (gM rR (gA rR (gQ rR ?_)));exact wL rfl (by
       unfold lX dE;rw[RJ h,hf];simp only;rw[RJ (by omega),Ui,<-D,tW (by omega)];simp only[dY,put1];rw[RJ J]) rfl rfl
     ·simp at J;obtain ⟨G1,G2,hu1,o1,r1,v1,hu2,hR2,_,_⟩:=k7 hR hrl (by omega) J;rw[hu1];refine qf (gS (gM rR (gV (qa rR) (gF 0 OV rR Pd rR (gL (ptr x 0) Pg rR (gM rR (gR (vB call170 rR (xr x (ag G1) root 200 o1 (by decide))) (qc (qo (gM rR (gQ rR (qD (qo (gM rR (gP rR rR (by omega) (gQ rR ?_))))))))))))))));rw[hu2];exact qk (a+1,G2,(aP (ag G) root a []).1) ⟨by simp only[];omega,hR2,by
       rw[<-D,tW (a:=a) (m:=p.size.toNat) (by omega)];simp only[dY,put1];rw[RI J,hu1,hu2]⟩ (by simp only[];omega) [0,10,12,13] rfl rfl
    ·simp at h43;refine qw rR ?_;refine gS (gM rR (gA rR (gQ rR ?_)));refine yA b x s c (ag G) (L) (n) ?_;exact k8 (S:=ag G) (P:=L) (n:=n) rfl (by
      unfold lX dE;rw[RJ h,hf];simp only;rw[RJ (by omega),Ui,<-D,EJ (by omega)];simp only[dY]) rfl rfl
def nh {l:List Pt}{k:Nat}{x:Pt}(disk:Int)(hx:l[k]? =some x):((l.take (k+1)).filter λp=>decide (p.disk=disk)).map (·.id)=((l.take k).filter λp=>decide (p.disk=disk)).map (·.id)++if x.disk=disk then [x.id] else []:=by
 rw[UY,hx,TA,RA];congr 1;by_cases h:x.disk=disk <;> simp[h]
def tX (l:List Pt)(k:Nat)(disk:Int):(((l.take k).filter λp=>decide (p.disk=disk)).map (·.id)).length<=l.length:=by
 rw[TD];exact Rh (TG _ _) (by simp;omega)
def Mn (b:Nat)(S:SI)(L:List Pt)(n:Int)(id:Int)(X:Gh)(J:Vok S L n X)(F:List aa):Ct Tryz.prog 122 [ptr b 0,I id] (aI b S L n::F) (vR aI (bg 117) b F (dq S L n id)):=by
 have hok:=gv J;have Z:=J.len;have hn1:=J.n1;refine Ct.of func122 rR 41 ntmps122 (by simp) λw0=>?_;refine gS (gA rR (gQ rR (gS (gM rR (gM rR (gR (vB call92 rR (yT b S L n id (by omega))) (gM rR (gX (.agg (qL ((qS L id).getD aM)).toArray) rR (gX (Bo (qS L id).isSome) rR (gI (qA #[I 0,I 0,I 0,I 0] Pc) ?_))))))))));rintro _ _ ⟨Y,rfl,rfl⟩;refine gU (qp (cs:=#[I 0,I 0,I 0,I 0]) (vs:=qL (((qS L id).getD aM))) (qL (((qS L id).getD aM))).toArray OP rR rR rR rR (by simp) (qs rR)) (gQ rR (qb (gS (gM rR (gV (wb rR) (qc ?_))))));refine qd rfl ?_ ?_ <;> intro D
 ·simp at D;refine gS (gV (qP OY rR rR) (gA rR (gQ rR ?_)));exact wL rfl (by unfold dq;rw[D]) rfl rfl
 ·simp at D;obtain ⟨p,O⟩:=UG.1 D;have R:=wd O;have hps:=J.pts p R.1;rw[show (qS L id).getD aM=p by rw[O];rfl];refine qf (gS (gM rR (gF 1 O6 rR OH rR (gL (I p.disk) OI rR (gF 2 O6 rR OH rR (gL (I p.size) OI rR (gF 3 O6 rR OH rR (gL (I p.root) OI rR (gR (vB call171 rR (EM b S L n p.disk p.size p.root (by omega) (by omega))) (gM rR (gX (I (cu L n)) rR (gX (bg 117 (cn L n)) rR (gA rR (gQ rR (qb (gS (gM rR (gV (eA OT rR) (qc ?_)))))))))))))))))));refine qd rfl ?_ ?_ <;> intro h
  ·simp at h;rw[show cu L n=n by unfold cu;rw[RI h],show ei L n p.disk p.size p.root=L++ [(⟨n,p.disk,p.size,p.root⟩:Pt)] by unfold ei;rw[RI h],show em L n=n+1 by unfold em;rw[RI h],h];refine f9 b S (L++ [(⟨n,p.disk,p.size,p.root⟩:Pt)]) (n+1) ?_;intro x s c;refine yO (Lf:=[pt b (.cells #[ptr x 0,sl s (L++ [(⟨n,p.disk,p.size,p.root⟩:Pt)]).length c,I (n+1)] 123 (0,0)),pt Y (.cells (qL (p)).toArray 162 (0,0))]) jA (by kernel_rfl) (by kernel_rfl) rR (by kernel_rfl) ?_;refine dM rR rR rR (dV rR (qa rR) (dF rR 0 OV rR Pd rR (dL rR (ptr x 0) Pg rR (dF rR 3 O6 rR OH rR (dL rR (I p.root) OI rR (av rR (uB call196 rR (DA x S p.root 200 hok (by decide) (k5 J.rt.V (dS J.rt (wz O))).2)) rR ?_))))));rintro _ _ ⟨rfl,rfl⟩;refine qI ?_;refine gS (gM rR (gM rR (gA rR (gQ rR ?_))));refine yA b x s c (wX S p.root) (L++ [(⟨n,p.disk,p.size,p.root⟩:Pt)]) (n+1) ?_;exact k8 (S:=wX S p.root) (P:=L++ [(⟨n,p.disk,p.size,p.root⟩:Pt)]) (n:=n+1) rfl (by unfold dq;rw[O];simp only;rw[RJ (by omega)]) rfl rfl
  ·simp at h;rw[show cu L n=0 by unfold cu;rw[RJ h]];refine qf (gS (gM rR (gM rR (gA rR (gQ rR ?_)))));exact wL rfl (by unfold dq;rw[O];simp only;rw[RI h]) rfl rfl
def Mo (L:List Pt)(s:Option Addr)(c q:Nat)(id:Int)(hl:L.length<=1000000)(F:List aa):Ct Tryz.prog 197 [sl s L.length c, .func (.func 198) #[] #[ptr q 0]] (ai 162 4 s c (az (L))::pt q (.cells #[I id] 3 (0,0))::F) (R1 (sl s (L.filter λx=>!decide (x.id=id)).length c) (ai 162 4 s c (az ((L.filter λx=>!decide (x.id=id))))::pt q (.cells #[I id] 3 (0,0))::F)):=by
 refine Ct.of func197 rR 42 ntmps197 (by simp) λw0=>?_;refine kH s (λX=>?_);rw[yI] at X;refine gS (gQ rR (gS (gM rR (gM rR (gR (vC call165 rR (Mk L s c q id hl)) (gQ rR (qb (gS (gM rR (gV (yD rR rR) (qc ?_)))))))))));refine qd rfl ?_ ?_ <;> intro O
 ·simp at O;rw[show (L.filter λx=>!decide (x.id=id))=L from Md (EH (by omega))];refine gS (gM rR (gQ rR ?_));exact ql rfl rfl rfl
 ·simp at O;obtain ⟨i,p,hi,hp,hid,hil,hf,hno⟩:=xN (l:=L) (id:=id) (λh=>O (Me h));rw[hi];refine qf (qb (gS (gM rR (gP rR rR (by omega) (gQ rR ?_)))));rw[show ((i:Nat):Int)+1=((i+1:Nat):Int) by omega];refine qg ?_;refine qC (α:=Nat×Nat×List Pt) (λz=>Dl L z.2.2 id z.2.1 z.1/\z.2.1<z.1) (λz=>U [(0,sl s L.length c),(1, .func (.func 198) #[] #[ptr q 0]),(5,I z.2.1),(6,I z.1)]) (λz=>ai 162 4 s c (az z.2.2)::pt q (.cells #[I id] 3 (0,0))::F) (λz=>L.length - z.1) (i+1,i,L) ⟨Mf hno hp hid,by simp only[];omega⟩ [0,1,5,6] rfl rR ?_;rintro ⟨j,w,R⟩ ⟨D,Y⟩;simp only[] at D Y ⊢;have hjl0:=D.lj;refine qb (gS (gM rR (gM rR (gV (qY OZ rR) (gV (qH rR rR) (qc ?_))))));refine qd rfl ?_ ?_ <;> intro V
  ·simp at V;have S:j<L.length:=(by omega);have Z:w<L.length:=(by omega);obtain ⟨x,hx⟩:∃x,R[j]? =some x:=⟨_,S6 (by rw[D.len];exact S)⟩;refine qf (qb (qg (gS (gM rR (gM rR (gV (qv (j) OZ OP rR rR rR S (by rw[yI,D.len];exact S)) (gV (qZ (row:=qL x) PH OP rR (eO hx) rR) (gI (qA #[I 0,I 0,I 0,I 0] Pc) ?_))))))));rintro _ _ ⟨b7,rfl,rfl⟩;refine gU (qp (cs:=#[I 0,I 0,I 0,I 0]) (vs:=qL (x)) (qL (x)).toArray OP rR rR rR rR (by simp) (qs rR)) (qc (gS (gM rR (gV (qJ (vs:=qL x) PH OP rR rR qQ) (gI (fC (fi:=[]) (cap:=[ptr q 0]) (Pre:=[pt q (.cells #[I id] 3 (0,0))]) call198 rR rR (EK x q id)) ?_)))));rintro _ _ ⟨rfl,rfl⟩;refine gV (wb rR) (qc ?_);refine qd rfl ?_ ?_ <;> intro J
   ·simp at J;refine gS (gM rR (gM rR (gV (qJ (vs:=qL x) PH OP rR rR qQ) (gV (qv (w) OZ OP rR rR rR Z (by rw[yI,D.len];exact Z)) (cl (va (j:=w) (vs:=qL x) OP rR rR rR rR (by rw[yI,D.len];omega) (by decide)) ?_)))));rintro _ _ rfl;rw[Mg];refine qc (qo (gM rR (gP rR rR (by omega) (gQ rR (qD (qo (gM rR (gP rR rR (by omega) (gQ rR ?_)))))))));exact qk (j+1,w+1,R.set w x) ⟨Mc D Y hx J,by simp only[];omega⟩ (by simp only[];omega) [0,1,5,6] rfl rfl
   ·simp at J;refine qf (qD (qo (gM rR (gP rR rR (by omega) (gQ rR ?_)))));exact qk (j+1,w,R) ⟨Mb D hx J,by simp only[];omega⟩ (by simp only[];omega) [0,1,5,6] rfl rfl
  ·simp at V;obtain rfl:j=L.length:=(by omega);refine qw rR ?_;refine qb ?_;refine pj s w ?_;rw[Mh,EG D];have hfl:(L.filter λx=>!decide (x.id=id)).length=w:=(by rw[<-EG D,Sv];have:=D.len;omega);refine qo (gM rR (gM rR (gV (fN (l:=w) OZ OP rR rR rR (by omega)) (cl (u5 (sz:=4) (l:=w) s OZ Pc rR rR rR (by unfold At;split;exact .inr (.inr (by omega));exact .inr (.inl rR)) (by rw[yI];omega) (by omega)) ?_))));rintro _ _ ⟨rfl,rfl⟩;refine qc (gS (gM rR (gM rR (gV (jV (h:=w) OZ OP rR rR rR (by omega)) (gQ rR ?_)))));exact ql rfl rfl (by rw[hfl];rfl)
def Mp (b:Nat)(S:SI)(L:List Pt)(n:Int)(id:Int)(X:Gh)(O:Vok S L n X)(F:List aa):Ct Tryz.prog 124 [ptr b 0,I id] (aI b S L n::F) (nc aI (bg 117) b F (dG S L n id)):=by
 have hok:=gv O;have hll:=O.len;have hn1:=O.n1;refine Ct.of func124 rR 33 ntmps124 (by simp) λw0=>?_;refine gS (gI (wR #[I id] rfl rR) ?_);rintro _ _ ⟨Y,rfl,rfl⟩;refine gQ rR (gS (gM rR (gL (I id) OI rR (gR (vB call92 rR (yT b S L n id (by omega))) (gM rR (gX (.agg (qL ((qS L id).getD aM)).toArray) rR (gX (Bo (qS L id).isSome) rR (gI (qA #[I 0,I 0,I 0,I 0] Pc) ?_))))))));rintro _ _ ⟨Z,rfl,rfl⟩;refine gU (qp (cs:=#[I 0,I 0,I 0,I 0]) (vs:=qL (((qS L id).getD aM))) (qL (((qS L id).getD aM))).toArray OP rR rR rR rR (by simp) (qs rR)) (gQ rR (qb (gS (gM rR (gV (wb rR) (qc ?_))))));refine qd rfl ?_ ?_ <;> intro h
 ·simp at h;refine gS (gV (qP OY rR rR) (gQ rR ?_));exact Eg rfl (by unfold dG;rw[h]) rfl rfl
 ·simp at h;obtain ⟨p,R⟩:=UG.1 h;have V:=wd R;have hps:=O.pts p V.1;rw[show (qS L id).getD aM=p by rw[R];rfl];refine qf (qb ?_);refine f9 b S L n ?_;intro x s c;refine yO (Lf:=[pt b (.cells #[ptr x 0,sl s (L).length c,I (n)] 123 (0,0)),pt Z (.cells (qL (p)).toArray 162 (0,0))]) jA (by kernel_rfl) (by kernel_rfl) rR (by kernel_rfl) ?_;refine dM rR rR rR (dV rR (qa rR) (dF rR 0 OV rR Pd rR (dL rR (ptr x 0) Pg rR (dF rR 3 O6 rR OH rR (dL rR (I p.root) OI rR (av rR (uB call170 rR (xr x S p.root 200 hok (by decide))) rR ?_))))));rintro _ _ ⟨rfl,rfl⟩;refine qI ?_;refine gS (gM rR (gM rR (gV (qa rR) (gF 1 OV rR O2 rR (gL (sl s (L).length c) Pf rR (gI (uB call140 rR (EL L s c (by omega))) ?_))))));rintro _ _ ⟨J,D,rfl,rfl⟩;refine gV (ju rR rR) (gR (vC call197 rR (Mo L J D Y id (by omega))) (gV (qa rR) (gF 1 OV rR O2 rR (gU (qG #[ptr x 0,sl J (L.filter λx=>!decide (x.id=id)).length D,I n] O2 rR rR rR (by simp) rR) (qc (gS (gQ rR ?_)))))));refine yA b x J D (cj S p.root) ((L.filter λx=>!decide (x.id=id))) (n) ?_;exact Eh (S:=cj S p.root) (P:=(L.filter λx=>!decide (x.id=id))) (n:=n) (r:=0) rfl (by unfold dG;rw[R]) rfl rfl
def EN (b:Nat)(S:SI)(L:List Pt)(n:Int)(id at_:Int)(V:Gh)(O:Vok S L n V)(F:List aa):Ct Tryz.prog 34 [ptr b 0,I id,I at_] (aI b S L n::F) (R1 (.tuple #[ac (bS S L id at_).1,bg 117 (bS S L id at_).2]) (aI b S L n::F)):=by
 have hok:=gv O;have Y:=O.len;refine Ct.of func34 rR 36 ntmps34 (by simp) λw0=>?_;refine gS (gA rR (gQ rR (gS (gM rR (gM rR (gR (vB call92 rR (yT b S L n id (by omega))) (gM rR (gX (.agg (qL ((qS L id).getD aM)).toArray) rR (gX (Bo (qS L id).isSome) rR (gI (qA #[I 0,I 0,I 0,I 0] Pc) ?_))))))))));rintro _ _ ⟨X,rfl,rfl⟩;refine gU (qp (cs:=#[I 0,I 0,I 0,I 0]) (vs:=qL (((qS L id).getD aM))) (qL (((qS L id).getD aM))).toArray OP rR rR rR rR (by simp) (qs rR)) (gQ rR (qb (gS (gM rR (gV (wb rR) (qc ?_))))));refine qd rfl ?_ ?_ <;> intro h
 ·simp at h;refine gS (gV (qP OY rR rR) (gA rR (gQ rR ?_)));rw[show bS S L id at_=([],5) by unfold bS;rw[h]];exact ql rfl rfl rfl
 ·simp at h;obtain ⟨p,J⟩:=UG.1 h;have R:=wd J;have Z:=O.pts p R.1;rw[show (qS L id).getD aM=p by rw[J];rfl];refine qf (qb (gS (gM rR (gV (qH rR rR) (gM rR (gK rR rR (qn rR) (gK rR rR (qm 2 O6 rR rR OH (by decide) rR) (gK rR rR (qu (v:=I p.size) OI rR rR) (gK rR rR (jt rR rR) (gV (aD rR rR) (qc ?_)))))))))));refine qd rfl ?_ ?_ <;> intro D
  ·simp at D;refine gS (gV (qP OY rR rR) (gA rR (gQ rR ?_)));rw[show bS S L id at_=([],1) by unfold bS;rw[J];simp only;rw[RI (by omega)]];exact ql rfl rfl rfl
  ·simp at D;obtain ⟨a,rfl⟩:∃a:Nat,at_=a:=⟨at_.toNat,by omega⟩;refine qf (qb ?_);refine f9 b S L n ?_;intro x s c;refine yO (Lf:=[pt b (.cells #[ptr x 0,sl s (L).length c,I (n)] 123 (0,0)),pt X (.cells (qL (p)).toArray 162 (0,0))]) jG (by kernel_rfl) (by kernel_rfl) rR (by kernel_rfl) ?_;refine dM rR rR rR (dV rR (qa rR) (dF rR 0 OV rR Pd rR (dL rR (ptr x 0) Pg rR (dF rR 3 O6 rR OH rR (dL rR (I p.root) OI rR (dM rR rR rR (av rR (uB call98 rR (xw x S p.root a 200 hok (by decide) (by omega))) rR ?_)))))));rintro _ _ ⟨rfl,rfl⟩;refine dV rR (qt rR) (dV rR (qt rR) ?_);refine qI ?_;rw[show bS S L id a=(ct S p.root a,0) by unfold bS;rw[J];simp only;rw[RJ (by omega)];rfl];refine yA b x s c (S) (L) (n) ?_;exact ql rfl rfl rfl
def tY (b:Nat)(S:SI)(L:List Pt)(n:Int)(X:L.length<=1000000)(F:List aa):Ct Tryz.prog 66 [ptr b 0] (aI b S L n::F) (λv L'=>∃q,v=ptr q 0/\L'=aI q S L n::aI b S L n::F):=by
 refine Ct.of func66 rR 19 ntmps66 (by simp) λw0=>?_;refine f9 b S L n ?_;intro x s c;refine gS (gQ rR (qb (gD (Lf:=[pt b (.cells #[ptr x 0,sl s (L).length c,I (n)] 123 (0,0))]) [(0,false),(1,false),(2,false),(3,false),(5,false),(6,false),(7,false),(8,false),(10,false),(11,false),(12,false),(13,false),(4,true),(9,true),(14,false),(15,true),(16,false)] (dM rR rR rR (dV rR (qa rR) (dF rR 0 OV rR Pd rR (dL rR (ptr x 0) Pg rR (dM rR rR rR (dV rR (qa rR) (dF rR 1 OV rR O2 rR (dL rR (sl s (L).length c) Pf rR (dM rR rR rR (dV rR (qa rR) (dF rR 2 OV rR OH rR (dL rR (I n) OI rR (av rR (uB call139 rR (K3 x S)) rR ?_))))))))))))))));rintro _ _ ⟨O,rfl,rfl⟩;refine av rR (uB call140 rR (EL L s c X)) rR ?_;rintro _ _ ⟨J,D,rfl,rfl⟩;refine dV rR (qF rR (pK O J L.length D n)) (av rR (wR #[ptr O 0,sl J L.length D,I n] rfl rR) rR ?_);rintro _ _ ⟨h,rfl,rfl⟩;refine dV rR (qt rR) ?_;refine qI ?_;refine yA h O J D S L n ?_;refine yA b x s c (S) (L) (n) ?_;refine dK (L2:=aI h S L n::aI b S L n::F) ?_;exact λa w R V=>wp_ret (yu (qB (vs:=[ptr h 0]) rfl R V ⟨h,rfl,rfl⟩))
def Mq (b:Nat)(S:SI)(L:List Pt)(n:Int)(disk keep:Int)(hl:L.length<=1000000)(hk:keep<=9223372036854775807)(F:List aa):Ct Tryz.prog 125 [ptr b 0,I disk,I keep] (aI b S L n::F) (dU 3 1 (aZ L disk keep).length (yC (aZ L disk keep)) (aI b S L n::F)):=by
 refine Ct.of func125 rR 37 ntmps125 (by simp) λw0=>?_;refine f9 b S L n ?_;intro x s c;refine yi 3 1 (yC (((L.take 0).filter λp=>decide (p.disk=disk)).map (·.id))) rR ?_;refine gS (gQ rR (gS (gQ rR (qb (gS (gM rR (gV (qa rR) (gF 1 OV rR O2 rR (gL (sl s (L).length c) Pf rR (gV (qY OZ rR) (gM rR (qc (qg ?_)))))))))))));refine qC (α:=Nat×Option Addr×Nat) (λz=>z.1<=L.length) (λz=>U [(1,I disk),(2,I keep),(7,sl z.2.1 (((L.take z.1).filter λp=>decide (p.disk=disk)).map (·.id)).length z.2.2),(13,sl s L.length c),(14,I L.length),(15,I z.1)]) (λz=>ai 3 1 z.2.1 z.2.2 (yC (((L.take z.1).filter λp=>decide (p.disk=disk)).map (·.id)))::pt b (.cells #[ptr x 0,sl s (L).length c,I (n)] 123 (0,0))::aX x S::ai 162 4 s c (az (L))::F) (λz=>L.length - z.1) (0,none,0) (by simp) [1,2,7,13,14,15] rfl rR ?_;rintro ⟨k,s7,c7⟩ Y;simp only[] at Y ⊢;refine gS (gV (qH rR rR) (qc (qb ?_)));refine qd rfl ?_ ?_ <;> intro O
 ·simp at O;have J:k<L.length:=(by omega);obtain ⟨p,V⟩:∃p,L[k]? =some p:=⟨_,S6 J⟩;refine qf (qb (qg (gS (gV (qv (k) OZ OP rR rR rR J (by rw[yI];exact J)) (gV (qZ (row:=qL p) PH OP rR (eO V) rR) (gI (qA #[I 0,I 0,I 0,I 0] Pc) ?_))))));rintro _ _ ⟨b9,rfl,rfl⟩;refine gU (qp (cs:=#[I 0,I 0,I 0,I 0]) (vs:=qL (p)) (qL (p)).toArray OP rR rR rR rR (by simp) (qs rR)) (qc (gS (gF 1 O6 rR OH rR (gL (I p.disk) OI rR (gM rR (gV (yD rR rR) (qc ?_)))))));refine qd rfl ?_ ?_ <;> intro D
  ·simp at D;refine qo (gM rR (gF 0 O6 rR OH rR (gL (I p.id) OI rR (gI (qj [[I p.id]] OO OH Pe rR rR rR (by simp) (by decide) (by decide)) ?_))));rintro _ _ ⟨b26,rfl,rfl⟩;refine gI (qN OO OH Pe rfl Tryz.typeInfo3 (by decide) rfl rfl (yh _) rfl (by simp) (by intro r hr;simp at hr;subst hr;rfl) ⟨by have:=tX L k disk;omega,by decide,by decide⟩) ?_;rintro _ _ ⟨Z,X,rfl,rfl⟩;refine gQ rR (qD (qo (gP rR rR (by omega) (gM rR (qc ?_)))));rw[show yC (((L.take k).filter λp=>decide (p.disk=disk)).map (·.id))++ [[I p.id]]=yC (((L.take (k+1)).filter λp=>decide (p.disk=disk)).map (·.id)) by rw[nh disk V,RI D];simp[yC],show (((L.take k).filter λp=>decide (p.disk=disk)).map (·.id)).length+1=(((L.take (k+1)).filter λp=>decide (p.disk=disk)).map (·.id)).length by rw[nh disk V,RI D];simp];exact qk (k+1,Z,X) (by simp only[];omega) (by simp only[];omega) [1,2,7,13,14,15] rfl rfl
  ·simp at D;refine qf (qD (qo (gP rR rR (by omega) (gM rR (qc ?_)))));rw[show ((L.take k).filter λp=>decide (p.disk=disk)).map (·.id)=((L.take (k+1)).filter λp=>decide (p.disk=disk)).map (·.id) by rw[nh disk V,RJ D,T6]];exact qk (k+1,s7,c7) (by simp only[];omega) (by simp only[];omega) [1,2,7,13,14,15] rfl rfl
 ·simp at O;obtain rfl:k=L.length:=(by omega);refine kH s7 (λR=>?_);rw[yh] at R;refine qw rR ?_;refine gS (gM rfl (gM rfl (gV (qY OO rfl) (gM rfl (gV (rQ rfl rfl) (gV (cZ (r:=((((L.take L.length).filter λp=>decide (p.disk=disk)).map (·.id)).length:Int) - (keep.toNat:Int)) rfl rfl (by rw[show (if (0:Int)<keep then keep else 0)=(keep.toNat:Int) by split <;> omega];exact ao (by have:=tX L L.length disk;omega))) (gV (rQ rfl rfl) (gV (jV (h:=(((L.take L.length).filter λp=>decide (p.disk=disk)).map (·.id)).length - keep.toNat) OO OH rfl rfl (by split <;> omega) (by omega)) (gQ rfl ?_)))))))));refine pj s7 ((((L.take L.length).filter λp=>decide (p.disk=disk)).map (·.id)).length - keep.toNat) ?_;have he:aZ L disk keep=(((L.take L.length).filter λp=>decide (p.disk=disk)).map (·.id)).take ((((L.take L.length).filter λp=>decide (p.disk=disk)).map (·.id)).length - keep.toNat):=(by unfold aZ;rw[S7]);rw[show (yC (((L.take L.length).filter λp=>decide (p.disk=disk)).map (·.id))).take ((((L.take L.length).filter λp=>decide (p.disk=disk)).map (·.id)).length - keep.toNat)=yC (aZ L disk keep) by rw[he];simp[yC,TR]];refine yA b x s c (S) (L) (n) ?_;exact wk rfl rfl rfl (by rw[he,Sv];omega)
def zk {S:SI}{L:List Pt}{n id e:Int}(h:dq S L n id= .error e):0<e:=by
 unfold dq at h;split at h
 ·injection h with h;omega
 ·split at h
  ·injection h with h;have:=Eb L n;omega
  ·cases h
def blk (S:SI)(p:Pt):List ab:=(List.range p.size.toNat).map (ct S p.root)
section
variable {c:Cx}{E:ap}{L:List aa}{K:List KI}
end
def Nz (S:SI):Prop:=(∀q m,S.N q=some m->¬dc m)/\∀q x,S.B q=some x->x.1≠ []/\x.1.length<=6
def Mr (m:Nd)(r:Int):dc (rf m r) ↔ dc m:=Iff.rfl
def zl:Nz (ag gZ):=⟨(λq m h=>by cases h),λq x h=>by cases h⟩
def zn {S:SI}(h:Nz S)(q n:Int):Nz ⟨bj S.B q n,S.N⟩:=by
 refine ⟨h.1,λp x e=>?_⟩;change bj S.B q n p=some x at e;unfold bj at e;cases D:S.B q with
 | none=>rw[D] at e;exact h.2 p x e
 | some y=>
  rw[D] at e;unfold qy at e;simp only at e;split at e
  ·split at e
   ·cases e
   ·injection e with e;subst e;exact h.2 q y D
  ·exact h.2 p x e
def tZ {S:SI}(h:Nz S){q:Int}{x:Option Nd}(hx:∀m,x=some m->¬dc m):Nz ⟨S.B,qy S.N q x⟩:=⟨λp m e=>by
 change qy S.N q x p=some m at e;unfold qy at e;split at e
 ·exact hx m e
 ·exact h.1 p m e,h.2⟩
def Ms {S:SI}(h:Nz S)(d:ab):Nz (qe S d):=by
 unfold qe;split
 ·exact h
 ·refine ⟨h.1,λp x e=>?_⟩;change dp S.B d p=some x at e;unfold dp at e;by_cases hd:6<d.length\/d=[]
  ·rw[RI hd] at e;exact h.2 p x e
  ·rw[RJ hd] at e;cases D:wK 40 S.B with
   | none=>rw[D] at e;exact h.2 p x e
   | some k=>
    rw[D] at e;simp only at e;unfold qy at e;split at e
    ·injection e with e;subst e;exact ⟨λJ=>hd (.inr J),by simp only;omega⟩
    ·exact h.2 p x e
def Mt {S:SI}(h:Nz S)(k:Int):Nz (aG true S k):=by
 unfold aG;split
 ·exact h
 ·rw[RI rfl];exact zn h k 1
def Mu {S:SI}(h:Nz S)(n:Nd):Nz (qU true S n):=by
 unfold qU;split
 ·exact h
 ·rename_i J;split
  ·exact h
  ·exact oT (P:=Nz) (λa b D=>Mt D b) _ _ (tZ h λm e=>by injection e with e;subst e;exact J)
def Mv {S:SI}(h:Nz S)(k:Int):Nz (bU S k):=by
 unfold bU;split
 ·exact h
 ·exact zn h k (-1)
def Mw {S:SI}(h:Nz S)(k:Int):Nz (aR S k):=by
 unfold aR;split
 ·exact zn h k (-1)
 ·exact h
def EO {S:SI}{f:SI->Int->SI}(R:∀S k,Nz S->Nz (f S k))(h:Nz S)(q:Int):Nz (cR f S q):=by
 unfold cR;split
 ·exact h
 ·split
  ·rename_i J;refine tZ h λm e=>?_;injection e with e;subst e;cases D:S.N q with
   | none=>unfold gN at J;rw[D] at J;simp[dC] at J
   | some y=>rw[show gN S.N q=y by unfold gN;rw[D];rfl];exact h.1 q y D
  ·exact oT (P:=Nz) (λa b O=>R a b O) _ _ (tZ h λm e=>by cases e)
def EP {S:SI}(h:Nz S)(q:Int):Nz (aY S q):=EO (λS k h=>Mv h k) h q
def EQ {S:SI}(h:Nz S)(q:Int):Nz (cj S q):=EO (λS k h=>EP h k) h q
def Mx {S:SI}(h:Nz S){q:Int}(D:∃x,S.N q=some x):Nz ⟨S.B,jm S.N q⟩:=by
 obtain ⟨x,hx⟩:=D;refine tZ h λm e=>?_;injection e with e;subst e;rw[show gN S.N q=x by unfold gN;rw[hx];rfl];exact h.1 q x hx
def ER {G:Gh}(V:Val G)(h:Nz (ag G)){q:Int}(J:rt G q):Nz (wX (ag G) q):=by
 unfold wX;split
 ·refine Mx h ?_;obtain ⟨m,D⟩:=J.resolve_left (by omega);exact ⟨_,iN D⟩
 ·exact h
def My {G:Gh}(V:Val G){q:Int}(h:lf G q):q=0\/∃x,(ag G).N q=some x:=h.imp (λh=>h) λ⟨m,D⟩=>⟨_,jn V D⟩
def Mz (S:SI)(k:Int):(aG true S k).N=S.N:=by
 unfold aG;split
 ·rfl
 ·rw[RI rfl]
def zo:∀(l:List Int) (S:SI),(l.foldl (aG true) S).N=S.N
 | [],S=>rfl
 | k::l,S=>by rw[SF,zo l,Mz]
def ua (S:SI)(d:ab):(qe S d).N=S.N:=by unfold qe;split <;> rfl
def pM (S:SI)(b:Int):(aR S b).N=S.N:=by unfold aR;split <;> rfl
def MA {G:Gh}(V:Val G){root:Int}{at_:Nat}{d:ab}{out:Int}(hr:rt G root)(ha:at_<16)(hz:Nz (ag G))(h:aP (ag G) root at_ d=(out,0)):Nz (ck (ag G) root at_ d):=by
 obtain ⟨b,k,hb,hl,ho,hS⟩:=DY h;rw[hS];refine EP ?_ k;have J:Nz (aR (qU true (qe (ag G) d) (yz (qe (ag G) d) root at_ b)) b):=Mw (Mu (Ms hz d) _) b;have S:(aR (qU true (qe (ag G) d) (yz (qe (ag G) d) root at_ b)) b).N=(qU true (qe (ag G) d) (yz (qe (ag G) d) root at_ b)).N:=pM _ _
 -- what was there is there still,and so is the new leaf
 have R:∀q x,(ag G).N q=some x->∃y,(qU true (qe (ag G) d) (yz (qe (ag G) d) root at_ b)).N q=some y:=λq x hx=>by
  rcases pa hl with ⟨_,_,e⟩ | ⟨j,_,_,_,_,e⟩
  ·rw[e true,ua];exact ⟨x,hx⟩
  ·rw[e true,zo];show ∃y,qy (qe (ag G) d).N k _ q=some y;unfold qy;split
   ·exact ⟨_,rfl⟩
   ·rw[ua];exact ⟨x,hx⟩
 have O:k=0\/∃y,(qU true (qe (ag G) d) (yz (qe (ag G) d) root at_ b)).N k=some y:=by
  rcases pa hl with ⟨e0,_,_⟩ | ⟨j,_,_,_,_,e⟩
  ·exact .inl e0
  ·refine .inr ?_;rw[e true,zo];exact ⟨_,by show qy _ k _ k=_;unfold qy;rw[RI rfl]⟩
 rcases pa ho with ⟨_,_,e⟩ | ⟨j,hk,hjr,Y,X,e⟩
 ·rw[e false];exact J
 ·rw[e false,tB]
  ·refine ⟨λq m hm=>?_,J.2⟩;change (qy _ out _ q).map _=some m at hm;obtain ⟨m0,D,rfl⟩:=Rb.1 hm;rw[Mr];unfold qy at D;split at D
   ·injection D with D;subst D;exact X
   ·exact J.1 q m0 D
  ·intro q hq;obtain ⟨i,Z,rfl⟩:=o9 hq;have key:ak (aT (qe (ag G) d) root at_ k) i=0\/∃y,(aR (qU true (qe (ag G) d) (yz (qe (ag G) d) root at_ b)) b).N (ak (aT (qe (ag G) d) root at_ k) i)=some y:=by
    unfold aT;rw[tC _ _ _ _ (by omega) Z,S];split
    ·exact O
    ·rw[ua];rcases My V (kg V hr Z) with h0 | ⟨x,hx⟩
     ·exact .inl h0
     ·exact .inr (R _ x hx)
   refine key.imp (λh=>h) λ⟨y,hy⟩=>?_;show ∃x,qy _ out _ _=some x;unfold qy;split
   ·exact ⟨_,rfl⟩
   ·exact ⟨y,hy⟩
def ES {G:Gh}{root:Int}{rs:List Int}{at_:Nat}{d:ab}{z:SI×Int}(h:Rt G (root::rs))(J:at_<16)(O:Nz (ag G))(e:put1 (ag G,root) at_ d= .ok z):Nz z.1:=by
 unfold put1 at e;split at e
 ·rename_i D;injection e with e;subst e;exact EQ (MA h.V (dS h (TQ ..)) J O (Prod.ext rfl D)) root
 ·cases e
def ET {G:Gh}{root:Int}{rs:List Int}{at_:Nat}{d:ab}{z:SI×Int}(h:Rt G (root::rs))(Y:rs.length<=8)(X:at_<16)(e:put1 (ag G,root) at_ d= .ok z):∃D,z.1=ag D/\Rt D (z.2::rs):=by
 unfold put1 at e;split at e
 ·rename_i V;injection e with e;obtain ⟨Z,O,J,o1,r1,v1,R,S,_⟩:=k7 h Y X V;simp only at e J;rw[J,R] at e;subst e;exact ⟨O,rfl,S⟩
 ·cases e
def EU {rs:List Int}(X:rs.length<=8):∀(l:List Nat) {G:Gh} {root:Int} {z:SI×Int},Rt G (root::rs)->(∀a∈l,a<16)->Nz (ag G)->dY (ag G,root) l= .ok z->Nz z.1
 | [],G,root,z,h,_,R,e=>by simp only[dY] at e;injection e with e;subst e;exact R
 | a::l,G,root,z,h,O,R,e=>by
  unfold dY at e;cases J:put1 (ag G,root) a [] with
  | error e'=>rw[J] at e;cases e
  | ok Z=>
   rw[J] at e;simp only at e;obtain ⟨z1,z2⟩:=Z;obtain ⟨G',S,V⟩:=ET h X (O a (by simp)) J;have D:=ES h (O a (by simp)) R J;simp only at S D V;subst S;exact EU X l V (λb Y=>O b (Th _ Y)) D e
def zp {size:Int}(X:size<=16){rs:List Int}(R:rs.length<=8):∀(l:List PutM) {G:Gh} {root:Int} {z:SI×Int},Rt G (root::rs)->Nz (ag G)->cf size (ag G,root) l= .ok z->Nz z.1
 | [],G,root,z,h,O,e=>by simp only[cf] at e;injection e with e;subst e;exact O
 | p::l,G,root,z,h,O,e=>by
  unfold cf at e;split at e
  ·cases e
  ·rename_i hb;split at e
   ·exact zp X R l h O e
   ·cases J:put1 (ag G,root) p.at_.toNat p.data with
    | error e'=>rw[J] at e;cases e
    | ok Y=>
     rw[J] at e;simp only at e;obtain ⟨z1,z2⟩:=Y;obtain ⟨Z,S,V⟩:=ET h R (by omega) J;have D:=ES h (by omega) O J;simp only at S D V;subst S;exact zp X R l V D e
def MB {S:SI}{L:List Pt}{n base disk size:Int}{G:Gh}{z:SI×Int}(h:Vok S L n G)(hs:1<=size/\size<=16)(R:Nz S)(e:dE S L base disk size= .ok z):Nz z.1:=by
 have D:(L.map (·.root)).length<=8:=(by have:=h.len;simp;omega);have Z:=h.e;subst Z;unfold dE at e;split at e
 ·injection e with e;subst e;exact R
 ·split at e
  ·cases e
  ·rename_i p O;split at e
   ·cases e
   ·have hps:=(h.pts p (wd O).1).2.2;obtain ⟨G1,X,Y,_⟩:=pg h.rt (wz O);have J:=ER h.rt.V R (dS h.rt (wz O));rw[X] at e J;exact EU D _ Y (λa ha=>by rw[TF] at ha;omega) J e
def MC {S:SI}{L:List Pt}{n base disk size:Int}{puts:List PutM}{G:Gh}{Y:SI}{L':List Pt}{n' r:Int}(h:Vok S L n G)(hz:Nz S)(e:bW S L n base disk size puts= .ok (Y,L',n',r)):Nz Y:=by
 unfold bW at e;split at e
 ·cases e
 ·rename_i hbd;have D:(L.map (·.root)).length<=8:=(by have:=h.len;simp;omega);cases R:dE S L base disk size with
  | error e'=>rw[R] at e;cases e
  | ok z=>
   rw[R] at e;simp only at e;have J:=MB h (by omega) hz R;obtain ⟨G1,O,Z,_⟩:=xR h (by omega) R;obtain ⟨z1,z2⟩:=z;simp only at J O Z;subst O;cases V:cf size (ag G1,z2) puts with
   | error e'=>rw[V] at e;cases e
   | ok z'=>
    rw[V] at e;simp only at e;have X:=zp (by omega) D puts Z J V;split at e
    ·cases e
    ·injection e with e;injection e with e1 e;subst e1;exact X
def MD {S:SI}{L:List Pt}{n id:Int}{G:Gh}{D:SI}{L':List Pt}{Y r:Int}(h:Vok S L n G)(X:Nz S)(e:dq S L n id= .ok (D,L',Y,r)):Nz D:=by
 unfold dq at e;split at e
 ·cases e
 ·rename_i p R;split at e
  ·cases e
  ·injection e with e;injection e with J e;have O:=h.e;subst O;subst J;exact ER h.rt.V X (dS h.rt (wz R))
def ME {S:SI}{L:List Pt}{n id:Int}{h:SI}{L':List Pt}{O r:Int}(J:Nz S)(e:dG S L n id= .ok (h,L',O,r)):Nz h:=by
 unfold dG at e;split at e
 ·cases e
 ·injection e with e;injection e with D e;subst D;exact EQ J _
structure Con (S:SI) (L:List Pt) (n:Int) (G:Gh):Prop where
 v:Vok S L n G
 z:Nz S
 t:fy S L
def Con_z:Con (ag gZ) [] 1 gZ:=⟨ph,zl,pi⟩
def pN {S:SI}{L:List Pt}{n base disk size:Int}{puts:List PutM}{G:Gh}{J:SI}{L':List Pt}{O r:Int}(h:Con S L n G)(e:bW S L n base disk size puts= .ok (J,L',O,r)):∃D,Con J L' O D:=
 let ⟨D,_,hv,_⟩:=xT h.v e
 ⟨D,hv,MC h.v h.z e,Lu h.v h.t e⟩
def pO {S:SI}{L:List Pt}{n id:Int}{G:Gh}{J:SI}{L':List Pt}{O r:Int}(h:Con S L n G)(e:dq S L n id= .ok (J,L',O,r)):∃D,Con J L' O D:=
 let ⟨D,_,hv,_⟩:=xU h.v e
 ⟨D,hv,MD h.v h.z e,Lv h.v h.t e⟩
def zq {S:SI}{L:List Pt}{n id:Int}{G:Gh}{J:SI}{L':List Pt}{O r:Int}(h:Con S L n G)(e:dG S L n id= .ok (J,L',O,r)):∃D,Con J L' O D:=
 let ⟨D,_,hv,_⟩:=Ee h.v e
 ⟨D,hv,ME h.z e,Lw h.v h.t e⟩
def MF {G:Gh}(V:Val G){q:Int}{m:Nd}(h:(ag G).N q=some m){i:Nat}(J:i<4):0<=ak m i/\ak m i<=40:=by
 simp only[ag,dQ] at h;cases e:G.R q with
 | some n=>
  rw[e] at h;injection h with h;subst h;rcases V.kidR e J with S | ⟨y,D⟩
  ·have:ak (rf n (G.eR q)) i=ak n i:=(by unfold ak rf;split <;> rfl);rw[this];omega
  ·have X:=V.sL _ y D;have:ak (rf n (G.eR q)) i=ak n i:=(by unfold ak rf;split <;> rfl);rw[this];omega
 | none=>
  rw[e] at h;simp only at h;obtain ⟨n,Y,rfl⟩:=Rb.1 h;have O:ak (rf n (G.eL q+aF G.R q)) i=ak n i:=(by unfold ak rf;split <;> rfl);rw[O];rcases V.kidL Y J with S | ⟨y,D⟩
  ·omega
  ·have X:=V.sD _ y D;omega
theorem Con.wr {S:SI}{L:List Pt}{n:Int}{G:Gh}(h:Con S L n G):Wr S L n:=by
 have hok:=gv h.v;refine ⟨hok.1,hok.2.2.1,λq x e=>?_,λq m e=>?_,λp D=>?_,?_,h.v.srt⟩
 ·have:=hok.2.1 q x e;exact ⟨by omega,h.z.2 q x e⟩
 ·have:=hok.2.2.2 q m e;refine ⟨by omega,λk R=>?_⟩;obtain ⟨i,O,rfl⟩:=o9 R;have J:=h.v.e;subst J;have:=MF h.v.rt.V e O;omega
 ·have X:=h.v.pts p D;have Y:=h.v.n1;have Z:=k5 h.v.rt.V (dS h.v.rt (SR.2 ⟨p,D,rfl⟩));omega
 ·have:=h.v.n1;omega
theorem Con.sm {S:SI}{L:List Pt}{n:Int}{G:Gh}(h:Con S L n G):Sm S L n:=by
 have w:=h.wr;exact ⟨lR (gv h.v) (by decide),λq x e=>(w.b q x e).2.2,λq m e=>(w.nd q m e).2,λp D=>by have:=w.p p D;omega,h.v.len,w.n1⟩
def MG {L:List Pt}{q:Int}(D:q≠0):bk L q ↔ 0<aL (L.map (·.root)) q:=by
 unfold bk aL;rw[RJ D];have:(0:Int)<((L.map (·.root)).count q:Int) ↔ 0<(L.map (·.root)).count q:=(by omega);rw[this,UM,SR];exact ⟨λh=>h.2,λh=>⟨D,h⟩⟩
def MH {N:aB}{q:Int}(h:0<aF N q):∃r m,N r=some m/\q∈kd m:=by
 refine Classical.byContradiction λR=>?_;have:aF N q=0:=xz λk _=>by
  cases e:N (k:Int) with
  | none=>rfl
  | some m=>
   have J:=oW (some m) q;rcases U7 J with D | D
   ·obtain ⟨i,O,rfl⟩:=xy D;exact absurd ⟨_,m,e,pn O⟩ R
   ·exact D.symm
 omega
def EV {A B:aB}{q:Int}:∀{l:List Nat},(∀k∈l,bA (A (k:Int)) q=bA (B (k:Int)) q)->dD A q l=dD B q l
 | [],_=>rfl
 | k::l,h=>by simp only[dD];rw[h k (by simp),EV λj D=>h j (Th _ D)]
def zt {A B:aB}{q:Int}(h:∀k,bA (A k) q=bA (B k) q):aF A q=aF B q:=EV λk _=>h k
theorem Con.whole {S:SI}{L:List Pt}{n:Int}{G:Gh}(h:Con S L n G):WholeP ⟨S.B,S.N,L,n⟩:=by
 have hS:=h.v.e;subst hS;have V:=h.v.rt.V;have hok:=gv h.v;have hR:∀q,bk L q ↔ q≠0/\∃m,G.R q=some m:=λq=>by
  by_cases O:q=0
  ·subst O;exact ⟨λhh=>absurd rfl hh.1,λhh=>absurd rfl hh.1⟩
  ·rw[MG O,<-h.v.rt.eR,<-V.pR q O];exact ⟨λhh=>⟨O,UG.1 hh⟩,λhh=>UG.2 hh.2⟩
 have hLf:∀q,ig (ag G).N L q ↔ q≠0/\∃m,G.L q=some m:=λq=>by
  constructor
  ·rintro ⟨O,r,m,X,J,Y⟩;obtain ⟨_,m',hm'⟩:=(hR r).1 X;rw[iN hm'] at J;injection J with J;subst J;obtain ⟨i,hi,rfl⟩:=o9 Y;have ek:ak (rf m' (G.eR r)) i=ak m' i:=(by unfold ak rf;split <;> rfl);rw[ek] at O ⊢;exact ⟨O,(V.kidR hm' hi).resolve_left O⟩
  ·rintro ⟨O,m,J⟩;have h1:=(V.pL q O).1 (by rw[J];rfl);rw[h.v.rt.eL,Int.zero_add] at h1;obtain ⟨r,m',X,Y⟩:=MH h1;refine ⟨O,r,_,(hR r).2 ⟨gt V.sR X,m',X⟩,iN X,Y⟩
 have dj:∀q m m',G.R q=some m->G.L q=some m'->False:=λq m m' h1 Z=>by
  rcases V.dj q with h3 | h3
  ·rw[h1] at h3;cases h3
  ·rw[Z] at h3;cases h3
 have hk:KindsP (ag G).N L:=by
  refine ⟨λq Y=>?_,λq Y=>?_,λq X hl=>?_,λq Y=>?_⟩
  ·obtain ⟨_,m,J⟩:=(hR q).1 Y;rw[iN J];rfl
  ·obtain ⟨_,m,J⟩:=(hLf q).1 Y;rw[jn V J];rfl
  ·obtain ⟨_,m,J⟩:=(hR q).1 X;obtain ⟨_,m',hm'⟩:=(hLf q).1 hl;exact dj q m m' J hm'
  ·obtain ⟨x,hx⟩:=UG.1 Y;have O:=gt hok.2.2.1 hx;cases e:G.R q with
   | some m=>exact .inl ((hR q).2 ⟨O,m,e⟩)
   | none=>cases e2:G.L q with
    | some m=>exact .inr ((hLf q).2 ⟨O,m,e2⟩)
    | none=>rw[lT e e2] at hx;cases hx
 have hrO:∀q p,bA (iR (ag G).N L q) p=bA (G.R q) p:=λq p=>by
  unfold iR;split
  ·rename_i X;obtain ⟨_,m,J⟩:=(hR q).1 X;rw[iN J,J];rfl
  ·rename_i X;cases e:G.R q with
   | none=>rfl
   | some m=>exact absurd ((hR q).2 ⟨gt V.sR e,m,e⟩) X
 have hlO:∀q p,bA (fH (ag G).N L q) p=bA (G.L q) p:=λq p=>by
  unfold fH;split
  ·rename_i X;obtain ⟨_,m,J⟩:=(hR q).1 X;cases e:G.L q with
   | none=>rfl
   | some m'=>exact (dj q m m' J e).elim
  ·rename_i X;cases e:G.L q with
   | some m=>rw[jn V e];rfl
   | none=>cases e2:G.R q with
    | none=>rw[lT e2 e]
    | some m=>exact absurd ((hR q).2 ⟨gt V.sR e2,m,e2⟩) X
 refine ⟨h.v.len,h.v.n1.1,λp hp=>(h.v.pts p (List.mem_of_getLast? hp)).1.2,hok.2.2.1,hok.1,hk,⟨h.z.1,λq m J=>?_,λq x hx=>?_,λq O Y=>?_⟩,h.t⟩
 ·change (ag G).N q=some m at J;show cN (ag G).N L q=m.refs;unfold cN;rw[zt λk=>hrO k q,<-h.v.rt.eR];have O:=gt hok.2.2.1 J;cases e:G.R q with
  | some m'=>
   rw[iN e] at J;injection J with J;subst J;have:aF G.R q=0:=by
    have h1:=iL G.R q;rcases U7 h1 with Z | Z
    ·obtain ⟨x,hx⟩:=UG.1 ((V.pL q O).2 (by have:=V.nL q;omega));exact (dj q m' x e hx).elim
    ·exact Z.symm
   rw[this];simp[rf]
  | none=>cases e2:G.L q with
   | none=>rw[lT e e2] at J;cases J
   | some m'=>
    rw[jn V e2] at J;injection J with J;subst J;have:G.eR q=0:=by
     have h1:=V.nR q;rcases U7 h1 with Z | Z
     ·have:=(V.pR q O).2 Z;rw[e] at this;cases this
     ·exact Z.symm
    rw[this,h.v.rt.eL];simp[rf]
 ·change (ag G).B q=some x at hx;show aF (fH (ag G).N L) q=x.2;rw[zt λk=>hlO k q];cases e:G.D q with
  | none=>rw[oX e] at hx;cases hx
  | some d=>
   rw[ke e,h.v.rt.eB] at hx;injection hx with hx;subst hx;simp
 ·change aF (fH (ag G).N L) q≠0 at Y;rw[zt λk=>hlO k q] at Y;have h1:=iL G.L q;have Z:=(V.pD q O).2 (by have:=V.nB q;omega);obtain ⟨d,hd⟩:=UG.1 Z;show ((ag G).B q).isSome=true;rw[ke hd];rfl
def zu {S:SI}{L:List Pt}{n:Int}{G:Gh}(h:Con S L n G):cX none ps0 (yf S L n)=some ⟨S.B,S.N,L,n⟩/\WholeP ⟨S.B,S.N,L,n⟩:=⟨LM h.wr,h.whole⟩
section
variable {c:Cx}{g:Option (Nat×Bool)}{E:ap}{L L':List aa}{d:Option Tmp}{ty:TypeId}{pos:String}{af:Array Edge}{gu:Option (Nat×Bool)}{K:List KI}
variable {x y:Operand}
def MI {k:IntKind}{p q r:Int}{ats:Array TypeId}(hx:ev g E x=some (.int k p))(D:ev g E y=some (.int k q))(h:(if p<q then q else p)=r):OpV c g E L ⟨d, .call {callee:= .builtin .max,args:=#[x,y],argTypes:=ats},ty,pos,af,gu⟩ (.int k r):=h ▸ rQ hx D
end
def jo (k:Nat)(s:ab)(F:List aa):Value->List aa->Prop:=λv L'=>match bR k s with
 | none=>v= .tuple #[sl none 0 0,Bo false]/\L'=F
 | some l=>∃s' c',v= .tuple #[sl s' k c',Bo true]/\L'=ai 3 1 s' c' (yC l)::F
section
variable {c:Cx}{E:ap}{L:List aa}{K:List KI}
def zw {F:List aa}{k:Nat}{s:ab}{vs:List Value}(D:c.R=jo k s F)(O:bR k s=none)(V:du E c.fn.results.toList=some vs)(X:cG vs= .tuple #[sl none 0 0,Bo false])[S:Sub L F](hds:c.n.ds=[]:=by rfl):G c (.code .ret::K) E L:=
 λa w h J=>wp_ret (yu (qB (hds:=hds) V h (S.sat J) (by rw[D];unfold jo;rw[O];exact ⟨X,rfl⟩)))
def MJ {F:List aa}{k h:Nat}{s:ab}{l:List Int}{D:Option Addr}{vs:List Value}(O:c.R=jo k s F)(X:bR k s=some l)(Y:du E c.fn.results.toList=some vs)(Z:cG vs= .tuple #[sl D k h,Bo true])[S:Sub L (ai 3 1 D h (yC l)::F)](hds:c.n.ds=[]:=by rfl):G c (.code .ret::K) E L:=
 λa w J V=>wp_ret (yu (qB (hds:=hds) Y J (S.sat V) (by rw[O];unfold jo;rw[X];exact ⟨D,h,Z,rfl⟩)))
end
def EW (m:Nat)(B:bV):(wQ m B).length=(aj m B).length:=by simp[wQ]
def EX (m:Nat)(N:aB):(bQ m N).length=(aj m N).length:=by simp[bQ]
def EY {m k:Nat}{B:bV}{q:Int}(h:(aj m B)[k]? =some q):(wQ m B)[k]? =some (lY q (gB B q)):=by simp[wQ,h]
def EZ {m k:Nat}{N:aB}{q:Int}(h:(aj m N)[k]? =some q):(bQ m N)[k]? =some (lZ q (gN N q)):=by simp[bQ,h]
def wT (l:List ChangeM)(c:ChangeM):ah l++ [ym c]=ah (l++ [c]):=by simp[ah]
def e9 {α:Type}{l:List α}{k:Nat}{x:α}(h:l[k]? =some x):l.take k++ [x]=l.take (k+1):=by
 rw[UY,h];rfl
def zx {B:bV}(h:bh 40 B)(q:Int):(lk (tb am 40 B) q).getD (.agg #[ac [],I 0])=am (gB B q):=by
 rw[fw h];unfold gB;cases B q <;> rfl
def ii (n:Nd)(i:Nat):ab:=aN n.refs++((kd n).take i).flatMap aN
def E0 (n:Nd):∀i,i<4->ii n i++aN (ak n i)=ii n (i+1)
 | 0,_=>by simp[ii,kd,ak]
 | 1,_=>by simp[ii,kd,ak]
 | 2,_=>by simp[ii,kd,ak]
 | 3,_=>by simp[ii,kd,ak]
 | i+4,h=>absurd h (by omega)
def zy (n:Nd):ii n 4=ic n:=by simp[ii,ic,kd]
def E2 (n:Nd):ii n 0=aN n.refs:=by simp[ii]
def ub {n:Nd}(h: -999<=n.refs/\n.refs<=1000)(D:∀k∈kd n, -999<=k/\k<=1000):∀i,i<=4->(ii n i).length<=4+4*i
 | 0,_=>by rw[E2];exact ye h
 | i+1,R=>by
  rw[<-E0 n i (by omega),Sx];have J:=ub h D i (by omega);have O:=ye (D _ (pn (n:=n) (i:=i) (by omega)));omega
def zz {S:SI}{L:List Pt}{n:Int}(h:Sm S L n)(q:Int):(0<=(gB S.B q).2/\(gB S.B q).2<=999)/\(gB S.B q).1.length<=6:=by
 unfold gB;cases e:S.B q with
 | none=>simp
 | some x=>have D:=h.ok.2.1 q x e;have J:=h.dat q x e;simp only[Tb];omega
def uc {S:SI}{L:List Pt}{n:Int}(h:Sm S L n)(q:Int):(0<=(gN S.N q).refs/\(gN S.N q).refs<=999)/\∀k∈kd (gN S.N q),0<=k/\k<=999:=by
 unfold gN;cases e:S.N q with
 | none=>simp[dC,kd]
 | some x=>have J:=h.ok.2.2.2 q x e;have D:=h.kid q x e;simp only[Tb];exact ⟨by omega,D⟩
def yR {ee:Bool}(n:Int)(h: -999<=n/\n<=1000)(F:List aa):Ct Tryz.prog 181 [I n] (yn ee::F) (R1 (ac (aN n)) (yn ee::F)):=by
 have D:=xW h;refine Ct.of func181 rR 13 ntmps181 (by simp) λw0=>?_;refine gS (gQ rR (gS (gM rR (gR (vB (A0:=yn ee) call217 rR (LA n (by omega) (by omega))) (gQ rR (gS (gM rR (gV (yZ OM rR) (gV (cZ rR rR (ao (by omega))) (gV (MI (r:=((3 - (Lib.itoa n).length:Nat):Int)) rR rR (by split <;> omega)) (gR (vA call244 rR (LB (3 - (Lib.itoa n).length) (by omega))) (gM rR (gV (wj rR rR (by rw[Lib.repeatL_length];simp;omega)) (gQ rR ?_))))))))))))));refine ql rR rR ?_;exact rfl
def pP (s:ab)(k:Nat)(hk:k<=5)(hs:s.length<=9223372036854775807)(F:List aa):Ct Tryz.prog 192 [ac s,I k] (zck::F) (jo k s (zck::F)):=by
 refine Ct.of func192 rR 50 ntmps192 (by simp) λw0=>?_;refine gS (gA rR (gQ rR (qb (gS (gM rR (gV (yZ OM rR) (gM rR (gV (ey rR rR (ao (by omega))) (gV (qH rR rR) (qc ?_))))))))));refine qd rfl ?_ ?_ <;> intro X
 ·simp at X;refine gS (gA rR (gQ rR ?_));exact zw rfl (by unfold bR;rw[RI (by omega)]) rfl rfl
 ·simp at X;refine qf (gS (gQ rR (qb (qb ?_))));refine yi 3 1 (yC []) rR ?_;refine qo (gM rR (gM rR (qc (qg ?_))));refine qC (α:=Nat×List Int×Option Addr×Nat) (λz=>z.1<=k/\dr z.1 s=some z.2.1) (λz=>U [(0,ac s),(6,sl z.2.2.1 z.1 z.2.2.2),(15,I k),(16,I z.1)]) (λz=>ai 3 1 z.2.2.1 z.2.2.2 (yC z.2.1)::zck::F) (λz=>k - z.1) (0,[],none,0) ⟨by simp,rfl⟩ [0,6,15,16] rfl rR ?_;rintro ⟨i,l,s6,c6⟩ ⟨hi,O⟩;simp only[] at hi O ⊢;have hll:=tK O;refine gS (gV (qH rR rR) (qc (qb ?_)));refine qd rfl ?_ ?_ <;> intro Y
  ·simp at Y;have hik:i<k:=(by omega);refine qf (qb (qg (gS (gM rR (gQ rR (qb ?_))))));have J:((s.take (3*i+3)).drop (3*i)).length=3:=(by simp;omega);have S:((s.take (3*i+3)).drop (3*i))=(s.drop (3*i)).take 3:=(by rw[List.drop_take];congr 1;omega);refine qo (gM rR (gM rR (gV (ey rR rR (ao (by omega))) (gM rR (gV (ey rR rR (ao (by omega))) (gP rR rR (by omega) (gV (ix (l:=3*i) (h:=3*i+3) OM rR rR (by omega) rR (by omega) (by omega) (by omega)) (gI (uB (A0:=zck) call219 rR (LC ((s.take (3*i+3)).drop (3*i)) J)) ?_))))))));rintro _ _ ⟨rfl,⟨v,Z,rfl⟩ | ⟨Z,t0,p0,rfl⟩⟩
   ·have hvr:=En J Z;refine gM rR (gX (I v) rR (gX (bg 0 0) rR (gA rR (gQ rR (qb (qb (gG [(0,false),(1,false),(2,false),(3,false),(5,false),(6,false),(7,false),(8,false),(9,false),(10,false),(11,false),(4,true),(12,false),(13,false)] (dM rR rR rR (dV rR (yP (T:=0) (f:=0) OT rR) (dM rR rR rR (qz rR rR rR rR (qn rR) rR (qz rR rR rR rR (qn rR) rR (qz rR rR rR rR (qn rR) rR (qz rR rR rR rR (ey rR rR (ao (by omega))) rR (qz rR rR rR rR (qn rR) rR (qz rR rR rR rR (ey rR rR (ao (by omega))) rR (qz rR rR rR rR (yr rR rR (ao (by omega))) rR (qz rR rR rR rR (ix (l:=3*i) (h:=3*i+3) OM rR rR (by omega) rR (by omega) (by omega) (by omega)) rR ?_))))))))))))))))));refine lx rR rR rR rR (yW (Pre:=[zck]) call181 rR (yR (v) (by omega))) rR ?_;rintro _ _ ⟨rfl,rfl⟩;refine qz rR rR rR rR (iu rR rR) rR (dV rR (aD rR rR) ?_);refine qI ?_;refine qd rfl ?_ ?_ <;> intro D
    ·have V:¬aN v=((s.take (3*i+3)).drop (3*i)):=(by simpa using D);refine gS (gA rR (gQ rR ?_));exact zw rfl (by
      unfold bR;rw[RJ (by omega)];have R:dr (i+1) s=none:=(by rw[x9 O,<-S];unfold iQ;rw[Z];simp only;rw[RJ V];rfl);have:=Ep (k:=k - (i+1)) R
      rwa [show i+1+(k - (i+1))=k by omega] at this) rfl rfl
    ·have V:aN v=((s.take (3*i+3)).drop (3*i)):=(by simpa using D);refine qf (qo (gM rR (gM rR (gI (qj [[I v]] OO OH Pe rR rR rR (by simp) (by decide) (by decide)) ?_))));rintro _ _ ⟨b46,rfl,rfl⟩;refine gI (qN OO OH Pe rfl Tryz.typeInfo3 (by decide) rfl rfl (by rw[yh];exact tK O) rfl (by simp) (by intro r hr;simp at hr;subst hr;rfl) ⟨by omega,by decide,by decide⟩) ?_;rintro _ _ ⟨s47,c47,rfl,rfl⟩;rw[show yC l++ [[I v]]=yC (l++ [v]) by simp[yC]];refine gQ rR (qD (qo (gP rR rR (by omega) (gM rR (qc ?_)))));exact qk (i+1,l++ [v],s47,c47) ⟨by simp only[];omega,by simp only[];rw[x9 O,<-S];unfold iQ;rw[Z];simp only;rw[RI V];rfl⟩ (by simp only[];omega) [0,6,15,16] rfl rfl
   ·refine gM rR (gX (I 0) rR (gX (.iface t0 (ptr p0 0)) rR (gA rR (gQ rR (qb (qb ?_))))));refine eT jK (by kernel_rfl) (by kernel_rfl) rR (by kernel_rfl) ?_;refine dM rR rR rR (dV rR (oa OT rR) (dM rR rR rR (qO rR rR rR rR rR (qO rR rR rR rR rR (qO rR rR rR rR rR (qO rR rR rR rR rR (qO rR rR rR rR rR (qO rR rR rR rR rR (qO rR rR rR rR rR (qO rR rR rR rR rR (qO rR rR rR rR rR (qO rR rR rR rR rR (dV rR (cw rR rR rR) ?_)))))))))))));refine qI ?_;refine qd rfl ?_ ?_ <;> intro D
    ·refine gS (gA rR (gQ rR ?_));exact zw rfl (by
      unfold bR;rw[RJ (by omega)];have R:dr (i+1) s=none:=(by rw[x9 O,<-S];unfold iQ;rw[Z];rfl);have:=Ep (k:=k - (i+1)) R
      rwa [show i+1+(k - (i+1))=k by omega] at this) rfl rfl
    ·cases D
  ·simp at Y;obtain rfl:i=k:=(by omega);refine qw rR ?_;refine gS (gM rR (gA rR (gQ rR ?_)));exact MJ rfl (by unfold bR;rw[RJ (by omega)];exact O) rfl rfl
def zA {ee:Bool}(b:Nat)(S:SI)(L:List Pt)(n:Int)(h:Sm S L n)(F:List aa):Ct Tryz.prog 104 [ptr b 0] (yn ee::aI b S L n::F) (dU 174 3 (yf S L n).length (ah (yf S L n)) (yn ee::aI b S L n::F)):=by
 have hok:=h.ok;have hll:=h.len;have hib:=wh 40 S.B;have hin:=wh 24 S.N;refine Ct.of func104 rR 133 ntmps104 (by simp) λw0=>?_;refine f9 b S L n ?_;intro x s c;refine eK x S ?_;intro p r;refine yi 174 3 (ah ((wQ 40 S.B).take 0)) rR ?_;refine gS (gQ rR (gS (gQ rR (qb (gS (gM rR (gV (qa rR) (gF 0 OV rR Pd rR (gL (ptr x 0) Pg rR (gV (qa rR) (gF 0 O5 rR PM rR (gL (ptr p 0) PQ rR (gI (uB call137 rR (Dn p S.B)) ?_)))))))))))));rintro _ _ ⟨s22,c22,rfl,rfl⟩;refine yv s22 ?_;refine iJ p S.B ?_;intro r2;refine gV (qY OO rR) (gM rR (qc (qg ?_)));refine qC (α:=Nat×Option Addr×Nat) (λz=>z.1<=(aj 40 S.B).length) (λz=>U [(0,ptr b 0),(3,sl z.2.1 z.1 z.2.2),(22,sl s22 (aj 40 S.B).length c22),(23,I (aj 40 S.B).length),(24,I z.1)]) (λz=>ai 174 3 z.2.1 z.2.2 (ah ((wQ 40 S.B).take z.1))::roL 1 s22 (yC (aj 40 S.B))::yn ee::pt b (.cells #[ptr x 0,sl s (L).length c,I (n)] 123 (0,0))::pt x (.cells #[ptr p 0, .map (some r)] 231 (0,0))::pt p (.cells #[.map (some r2)] 234 (0,0))::mp r2 (tb am 40 S.B)::mp r (tb we 24 S.N)::ai 162 4 s c (az (L))::F) (λz=>(aj 40 S.B).length - z.1) (0,none,0) (by simp) [0,3,22,23,24] rfl rR ?_;rintro ⟨k,Y,c3⟩ hk;simp only[] at hk ⊢;refine gS (gV (qH rR rR) (qc (qb ?_)));refine qd rfl ?_ ?_ <;> intro h25
 ·simp at h25;have O:k<(aj 40 S.B).length:=(by omega);obtain ⟨q,hq⟩:∃q,(aj 40 S.B)[k]? =some q:=⟨_,S6 O⟩;obtain ⟨hqr,hqs⟩:=mem_ids.1 (R5 hq);have hgb:=zz h q;refine qf (qb (qg (gS (gV (qv k OO OH rR rR rR O (by rw[yh];exact O)) (gV (qM (v:=I q) OI rR (wt hq) rR) (gQ rR (gS (gM rR (gV (qa rR) (gF 0 OV rR Pd rR (gL (ptr x 0) Pg rR (gV (qa rR) (gF 0 O5 rR PM rR (gL (ptr p 0) PQ rR (gV (qa rR) (gF 0 PI rR PG rR (gL (.map (some r2)) PJ rR (gM rR (gV (yE (v:=am (gB S.B q)) PB OL PE rR rR (zx hok.1 q)) (gI (qA #[ac [],I 0] PE) ?_))))))))))))))))))));rintro _ _ ⟨b6,rfl,rfl⟩;refine gU (qp (cs:=#[ac [],I 0]) (vs:=[ac (gB S.B q).1,I (gB S.B q).2]) #[ac (gB S.B q).1,I (gB S.B q).2] Po rR rR rR rR (by simp) (qs rR)) (qc (gD (Lf:=[pt b6 (.cells #[ac (gB S.B q).1,I (gB S.B q).2] 183 (0,0))]) [(0,false),(1,false),(4,false),(5,false),(7,false),(8,false),(2,true),(3,false),(6,true),(9,false),(10,false),(11,true),(12,true),(13,false)] (dM rR rR rR (dM rR rR rR (dF rR 1 PC rR OH rR (dL rR (I (gB S.B q).2) OI rR (dF rR 0 PC rR ON rR (dL rR (ac (gB S.B q).1) OQ rR (av rR (uB (A0:=yn ee) call181 rR (yR (q) (by omega))) rR ?_)))))))));rintro _ _ ⟨rfl,rfl⟩;refine dV rR (wj rR rR (by have:=ye (n:=q) (by omega);simp;omega)) (av rR (uB (A0:=yn ee) call181 rR (yR ((gB S.B q).2) (by omega))) rR ?_);rintro _ _ ⟨rfl,rfl⟩;refine dV rfl (wj rfl rfl (by have:=ye (n:=(gB S.B q).2) (by omega);omega)) (dV rfl (qF rfl (kF _ rfl _ rfl)) (av rfl (qj [ym (lY q (gB S.B q))] OK OJ OR rfl rfl rfl (by intro r D;simp at D;subst D;rfl) (by decide) (by decide)) rfl ?_));rintro _ _ ⟨b51,rfl,rfl⟩;refine av rfl (qN OK OJ OR rfl Tryz.typeInfo174 (by decide) rfl rfl (by rw[qx];simp[wQ,bQ];omega) rfl (by intro r D;simp at D;subst D;rfl) (by intro r D;simp at D;subst D;rfl) ⟨by omega,by decide,by decide⟩) rfl ?_;rintro _ _ ⟨s52,c52,rfl,rfl⟩;rw[wT,e9 (EY hq)];refine dV rR (qt rR) ?_;refine qI ?_;refine qD (qo (gP rR rR (by omega) (gM rR (qc ?_))));exact qk (k+1,s52,c52) (by simp only[];omega) (by simp only[];omega) [0,3,22,23,24] rfl rfl
 ·simp at h25;obtain rfl:k=(aj 40 S.B).length:=(by omega);rw[T4 (by rw[EW];omega)];refine qw rR ?_;refine qb (qb ?_);refine ww r2 p S.B (.refl _) ?_;refine yw p r x S (.refl _) ?_;refine qo (gM rR (gV (qa rR) (gF 0 OV rR Pd rR (gL (ptr x 0) Pg rR (gI (uB call138 rR (DC x S)) ?_)))));rintro _ _ ⟨V,c58,rfl,rfl⟩;refine yv V ?_;refine eK x S ?_;intro p r;refine gV (qY OO rR) (gM rR (qc ?_));refine gg Y (ah (wQ 40 S.B++(bQ 24 S.N).take 0)) (by simp) ?_;refine qg ?_;refine qC (α:=Nat×Option Addr×Nat) (λz=>z.1<=(aj 24 S.N).length) (λz=>U [(0,ptr b 0),(3,sl z.2.1 ((aj 40 S.B).length+z.1) z.2.2),(58,sl V (aj 24 S.N).length c58),(59,I (aj 24 S.N).length),(60,I z.1)]) (λz=>ai 174 3 z.2.1 z.2.2 (ah (wQ 40 S.B++(bQ 24 S.N).take z.1))::roL 1 V (yC (aj 24 S.N))::yn ee::pt b (.cells #[ptr x 0,sl s (L).length c,I (n)] 123 (0,0))::pt x (.cells #[ptr p 0, .map (some r)] 231 (0,0))::bi p S.B::mp r (tb we 24 S.N)::ai 162 4 s c (az (L))::F) (λz=>(aj 24 S.N).length - z.1) (0,Y,c3) (by simp) [0,3,58,59,60] rfl rR ?_;rintro ⟨k,Y,c3⟩ hk;simp only[] at hk ⊢;refine gS (gV (qH rR rR) (qc (qb ?_)));refine qd rfl ?_ ?_ <;> intro h61
  ·simp at h61;have O:k<(aj 24 S.N).length:=(by omega);obtain ⟨q,hq⟩:∃q,(aj 24 S.N)[k]? =some q:=⟨_,S6 O⟩;obtain ⟨hqr,hqs⟩:=mem_ids.1 (R5 hq);have Z:=uc h q;refine qf (qb (qg (gS (gV (qv k OO OH rR rR rR O (by rw[yh];exact O)) (gV (qM (v:=I q) OI rR (wt hq) rR) (gQ rR (gS (gM rR (gV (qa rR) (gF 0 OV rR Pd rR (gL (ptr x 0) Pg rR (gV (qa rR) (gF 1 O5 rR Pn rR (gL (.map (some r)) Pr rR (gM rR (gV (yE (v:=we (gN S.N q)) Ps OL Py rR rR (iK hok.2.2.1 _)) (gI (qA #[I 0,I 0,I 0,I 0,I 0] Py) ?_)))))))))))))))));rintro _ _ ⟨b9,rfl,rfl⟩;refine gU (qp (cs:=#[I 0,I 0,I 0,I 0,I 0]) (vs:=aV (gN S.N q)) (aV (gN S.N q)).toArray O7 rR rR rR rR (by simp) (qs rR)) (qc (gS (gF 4 O3 rR OH rR (gL (I (gN S.N q).refs) OI rR (gR (vB (A0:=yn ee) call181 rR (yR ((gN S.N q).refs) (by omega))) (gQ rR (qb (gS (gF 0 O3 rR O0 rR (gV (qJ (vs:=aA (gN S.N q)) Pw O0 rR rR mX) (gM rR (qc (qg ?_)))))))))))));refine qC (α:=Nat) (λi=>i<=4) (λi=>U [(0,ptr b 0),(3,sl Y ((aj 40 S.B).length+k) c3),(58,sl V (aj 24 S.N).length c58),(59,I (aj 24 S.N).length),(60,I k),(8,I q),(10,ac (ii (gN S.N q) i)),(77, .agg (aA (gN S.N q)).toArray),(78,I i)]) (λi=>ai 174 3 Y c3 (ah (wQ 40 S.B++(bQ 24 S.N).take k))::roL 1 V (yC (aj 24 S.N))::yn ee::pt b (.cells #[ptr x 0,sl s (L).length c,I (n)] 123 (0,0))::pt x (.cells #[ptr p 0, .map (some r)] 231 (0,0))::bi p S.B::mp r (tb we 24 S.N)::ai 162 4 s c (az (L))::F) (λi=>4 - i) 0 (by omega) [0,3,58,59,60,8,10,77,78] rfl (by rw[E2];rfl) ?_;intro i hi;refine gS (gV (qH rR rR) (qc (qb ?_)));refine qd rfl ?_ ?_ <;> intro h79
   ·simp at h79;have R:i<4:=(by omega);refine qf (qb (qg (gS (gV (kE (v:=I (ak (gN S.N q) i)) i Pa OH OI rR rR rR R (by simpa using eM (gN S.N q) i R)) (gQ rR (qo (gM rR (gM rR (gR (vB (A0:=yn ee) call181 rR (yR (ak (gN S.N q) i) (by have:=Z.2 _ (pn (n:=gN S.N q) R);omega))) (gV (wj rR rR (by have h1:=ub (n:=gN S.N q) (by omega) (λk hk=>by have:=Z.2 k hk;omega) i hi;have:=ye (n:=ak (gN S.N q) i) (by have:=Z.2 _ (pn (n:=gN S.N q) R);omega);omega)) (gQ rR (qD (qo (gP rR rR (by omega) (gM rR (qc ?_))))))))))))))));refine qk (i+1) (by omega) (by omega) [0,3,58,59,60,8,10,77,78] rfl ?_;rw[<-E0 _ i R]
    rfl
   ·simp at h79;obtain rfl:i=4:=(by omega);rw[zy];refine qw rR ?_;refine qo (gM rfl (gM rfl (gR (vB (A0:=yn ee) call181 rfl (yR (q) (by omega))) (gV (wj rfl rfl (by have:=ye (n:=q) (by omega);simp;omega)) (gM rfl (gV (qF rfl (kF _ rfl _ rfl)) (gI (qj [ym (lZ q (gN S.N q))] OK OJ OR rfl rfl rfl (by intro r D;simp at D;subst D;rfl) (by decide) (by decide)) ?_)))))));rintro _ _ ⟨b92,rfl,rfl⟩;refine gI (qN OK OJ OR rfl Tryz.typeInfo174 (by decide) rfl rfl (by rw[qx];simp[wQ,bQ];omega) rfl (by intro r D;simp at D;subst D;rfl) (by intro r D;simp at D;subst D;rfl) ⟨by omega,by decide,by decide⟩) ?_;rintro _ _ ⟨s93,c93,rfl,rfl⟩;rw[wT,Sr,e9 (EZ hq)];refine gQ rR (qD (qo (gP rR rR (by omega) (gM rR (qc ?_)))));exact qk (k+1,s93,c93) (by simp only[];omega) (by simp only[];omega) [0,3,58,59,60] rfl rfl
  ·simp at h61;obtain rfl:k=(aj 24 S.N).length:=(by omega);rw[T4 (l:=bQ 24 S.N) (by rw[EX];omega)];refine qw rR ?_;refine qb (gS (gM rR (gV (qa rR) (gF 1 OV rR O2 rR (gL (sl s (L).length c) Pf rR (gV (qY OZ rR) (gM rR (qc ?_))))))));refine gg Y (ah (wQ 40 S.B++bQ 24 S.N++(L.map de).take 0)) (by simp) ?_;refine qg ?_;refine qC (α:=Nat×Option Addr×Nat) (λz=>z.1<=L.length) (λz=>U [(0,ptr b 0),(3,sl z.2.1 ((aj 40 S.B).length+(aj 24 S.N).length+z.1) z.2.2),(98,sl s L.length c),(99,I L.length),(100,I z.1)]) (λz=>ai 174 3 z.2.1 z.2.2 (ah (wQ 40 S.B++bQ 24 S.N++(L.map de).take z.1))::yn ee::pt b (.cells #[ptr x 0,sl s (L).length c,I (n)] 123 (0,0))::pt x (.cells #[ptr p 0, .map (some r)] 231 (0,0))::bi p S.B::mp r (tb we 24 S.N)::ai 162 4 s c (az (L))::F) (λz=>L.length - z.1) (0,Y,c3) (by simp) [0,3,98,99,100] rfl rR ?_;rintro ⟨k,Y,c3⟩ hk;simp only[] at hk ⊢;refine gS (gV (qH rR rR) (qc (qb ?_)));refine qd rfl ?_ ?_ <;> intro X
   ·simp at X;have hkn:k<L.length:=(by omega);obtain ⟨J,hp⟩:∃J,L[k]? =some J:=⟨_,S6 hkn⟩;have hps:=h.pts J (R5 hp);refine qf (qb (qg (gS (gV (qv (k) OZ OP rR rR rR hkn (by rw[yI];exact hkn)) (gV (qZ (row:=qL J) PH OP rR (eO hp) rR) (gI (qA #[I 0,I 0,I 0,I 0] Pc) ?_))))));rintro _ _ ⟨b14,rfl,rfl⟩;refine gU (qp (cs:=#[I 0,I 0,I 0,I 0]) (vs:=qL (J)) (qL (J)).toArray OP rR rR rR rR (by simp) (qs rR)) (qc ?_);refine yO (Lf:=[pt b14 (.cells (qL J).toArray 162 (0,0))]) jR (by kernel_rfl) (by kernel_rfl) rR (by kernel_rfl) ?_;refine dM rR rR rR (dF rR 0 O6 rR OH rR (dL rR (I J.id) OI rR (dF rR 1 O6 rR OH rR (dL rR (I J.disk) OI rR (dF rR 2 O6 rR OH rR (dL rR (I J.size) OI rR (dF rR 3 O6 rR OH rR (dL rR (I J.root) OI rR (av rR (uB (A0:=yn ee) call181 rR (yR (J.id) (by omega))) rR ?_)))))))));rintro _ _ ⟨rfl,rfl⟩;refine dV rR (wj rR rR (by have:=ye (n:=J.id) (by omega);simp;omega)) (av rR (uB (A0:=yn ee) call181 rR (yR (J.disk) (by omega))) rR ?_);rintro _ _ ⟨rfl,rfl⟩;refine av rR (uB (A0:=yn ee) call181 rR (yR (J.size) (by omega))) rR ?_;rintro _ _ ⟨rfl,rfl⟩;refine dV rR (wj rR rR (by have:=ye (n:=J.disk) (by omega);have:=ye (n:=J.size) (by omega);omega)) (av rR (uB (A0:=yn ee) call181 rR (yR (J.root) (by omega))) rR ?_);rintro _ _ ⟨rfl,rfl⟩;refine dV rfl (wj rfl rfl (by have:=ye (n:=J.disk) (by omega);have:=ye (n:=J.size) (by omega);have:=ye (n:=J.root) (by omega);simp;omega)) (dV rfl (qF rfl (kF _ rfl _ rfl)) (av rfl (qj [ym (de J)] OK OJ OR rfl rfl rfl (by intro r D;simp at D;subst D;rfl) (by decide) (by decide)) rfl ?_));rintro _ _ ⟨b121,rfl,rfl⟩;refine av rfl (qN OK OJ OR rfl Tryz.typeInfo174 (by decide) rfl rfl (by rw[qx];simp[wQ,bQ];omega) rfl (by intro r D;simp at D;subst D;rfl) (by intro r D;simp at D;subst D;rfl) ⟨by omega,by decide,by decide⟩) rfl ?_;rintro _ _ ⟨s122,c122,rfl,rfl⟩;rw[wT,Sr (wQ 40 S.B++bQ 24 S.N),e9 (show (L.map de)[k]? =some (de J) by simp[hp])];refine dV rR (qt rR) ?_;refine qI ?_;refine qD (qo (gP rR rR (by omega) (gM rR (qc ?_))));exact qk (k+1,s122,c122) (by simp only[];omega) (by simp only[];omega) [0,3,98,99,100] rfl rfl
   ·simp at X;obtain rfl:k=L.length:=(by omega);rw[T4 (l:=L.map de) (by simp)];refine qw rR ?_;refine gS (gM rfl (gM rfl (gV (qa rfl) (gF 2 OV rfl OH rfl (gL (I n) OI rfl (gR (vB (A0:=yn ee) call181 rfl (yR (n) (by have:=h.n1;omega))) (gV (qF rfl (kF _ rfl _ rfl)) (gI (qj [ym (ga n)] OK OJ OR rfl rfl rfl (by intro r D;simp at D;subst D;rfl) (by decide) (by decide)) ?_))))))));rintro _ _ ⟨b131,rfl,rfl⟩;refine gI (qN OK OJ OR rfl Tryz.typeInfo174 (by decide) rfl rfl (by rw[qx];simp[wQ,bQ];omega) rfl (by intro r D;simp at D;subst D;rfl) (by intro r D;simp at D;subst D;rfl) ⟨by omega,by decide,by decide⟩) ?_;rintro _ _ ⟨s132,c132,rfl,rfl⟩;rw[wT,show wQ 40 S.B++bQ 24 S.N++L.map de++ [ga n]=yf S L n from rfl];refine gQ rR ?_;refine yw p r x S (.refl _) ?_;refine yA b x s c (S) (L) (n) ?_;exact wk rfl rfl rfl (by rw[tM])
def E3 (b:Nat)(st:PS)(z:Nat×Nat×Nat×Nat×Option Addr×Nat):List aa:=[pt b (.cells #[ptr z.1 0,sl z.2.2.2.2.1 st.L.length z.2.2.2.2.2,I st.n] 123 (0,0)),pt z.1 (.cells #[ptr z.2.1 0, .map (some z.2.2.1)] 231 (0,0)),pt z.2.1 (.cells #[.map (some z.2.2.2.1)] 234 (0,0)),mp z.2.2.1 (tb we 999 st.N),mp z.2.2.2.1 (tb am 999 st.B),ai 162 4 z.2.2.2.2.1 z.2.2.2.2.2 (az st.L)]
def iU (b:Nat)(st:PS):aa:=hx (E3 b st)
def pQ (b:Nat)(st':Option PS)(F:List aa):Value->List aa->Prop:=λv L'=>match st' with
 | none=>v=Bo false/\L'=F
 | some st=>v=Bo true/\L'=iU b st::F
section
variable {c:Cx}{E:ap}{L:List aa}{K:List KI}
def ma {F:List aa}(b:Nat)(st:PS)[R:Rem L (iU b st) F](k:∀x p r r2 s h,G c K E (pt b (.cells #[ptr x 0,sl s st.L.length h,I st.n] 123 (0,0))::pt x (.cells #[ptr p 0, .map (some r)] 231 (0,0))::pt p (.cells #[.map (some r2)] 234 (0,0))::mp r (tb we 999 st.N)::mp r2 (tb am 999 st.B)::ai 162 4 s h (az st.L)::F)):G c K E L:=fP (iU b st) rfl λz=>k z.1 z.2.1 z.2.2.1 z.2.2.2.1 z.2.2.2.2.1 z.2.2.2.2.2
def mb {F:List aa}(b x p r r2:Nat)(s:Option Addr)(h:Nat)(st:PS)[D:Split L [pt b (.cells #[ptr x 0,sl s st.L.length h,I st.n] 123 (0,0)),pt x (.cells #[ptr p 0, .map (some r)] 231 (0,0)),pt p (.cells #[.map (some r2)] 234 (0,0)),mp r (tb we 999 st.N),mp r2 (tb am 999 st.B),ai 162 4 s h (az st.L)] F](k:G c K E (iU b st::F)):G c K E L:=
 eU (A:=E3 b st) [pt b (.cells #[ptr x 0,sl s st.L.length h,I st.n] 123 (0,0)),pt x (.cells #[ptr p 0, .map (some r)] 231 (0,0)),pt p (.cells #[.map (some r2)] 234 (0,0)),mp r (tb we 999 st.N),mp r2 (tb am 999 st.B),ai 162 4 s h (az st.L)] (iU b st) (x,p,r,r2,s,h) rfl rfl k
def ij {F:List aa}{b:Nat}{R:Option PS}{vs:List Value}(D:c.R=pQ b R F)(O:R=none)(V:du E c.fn.results.toList=some vs)(X:cG vs=Bo false)[S:Sub L F](hds:c.n.ds=[]:=by rfl):G c (.code .ret::K) E L:=
 λa w h J=>wp_ret (yu (qB (hds:=hds) V h (S.sat J) (by rw[D,O];exact ⟨X,rfl⟩)))
def ni {F:List aa}{b:Nat}{R:Option PS}{st:PS}{vs:List Value}(D:c.R=pQ b R F)(O:R=some st)(V:du E c.fn.results.toList=some vs)(X:cG vs=Bo true)[S:Sub L (iU b st::F)](hds:c.n.ds=[]:=by rfl):G c (.code .ret::K) E L:=
 λa w h J=>wp_ret (yu (qB (hds:=hds) V h (S.sat J) (by rw[D,O];exact ⟨X,rfl⟩)))
end
def MK (n:Nd)(r:Int)(w:World):(Instr.build 187 #[(0, .agg (aA n).toArray),(1,I r)]).run Tryz.prog w= .ok (we (rf n r)) w:=by
 simp[Instr.build,Py,QU,O0,OH,Instr.fill,qW,show (I r).cells=#[I r] from rfl,rf]
def pS {r k0 k1 k2 k3:Int}:∀k v,(aA ⟨k0,k1,k2,k3,r⟩)[k]? =some v->(yC [r,k0,k1,k2,k3])[1+k]? =some [v]
 | 0,v,h=>by simpa [yC] using h
 | 1,v,h=>by simpa [yC] using h
 | 2,v,h=>by simpa [yC] using h
 | 3,v,h=>by simpa [yC] using h
 | k+4,v,h=>by simp at h
def mc {y:UInt8}{n:Nat}(D:n<256)(h:(y.toNat:Int)=n):y=UInt8.ofNat n:=by
 rw[<-UInt8.toNat_inj,UInt8.toNat_ofNat'];omega
def ud {b:Bool}{P:Prop}(h:b=true ↔ P)(D:P):cG [Bo b]=Bo true:=by rw[h.2 D];rfl
def ue {b:Bool}{P:Prop}(h:b=true ↔ P)(D:¬P):cG [Bo b]=Bo false:=by
 cases b with
 | true=>exact absurd (h.1 rfl) D
 | false=>rfl
def E4 (b:Nat)(st:PS)(c:ChangeM)(hL:st.L.length<=1000000)(hkl:c.key.length<=9223372036854775807)(hvl:c.val.length<=9223372036854775807)(F:List aa):Ct Tryz.prog 119 [ptr b 0, .agg (ym c).toArray] (zck::iU b st::F) (pQ b (cq st c) (zck::F)):=by
 refine Ct.of func119 rR 214 ntmps119 (by simp) λw0=>?_;refine gS (gI (wR (ym c).toArray rR rR) ?_);rintro _ _ ⟨b3,rfl,rfl⟩;refine gQ rR (qb (gS (gF 0 OS rR ON rR (gL (ac c.key) OQ rR (gV (wl rR rR) (qc ?_))))));refine qd rfl ?_ ?_ <;> intro h17
 ·have hX:c.key=[120]:=(by simpa using h17);refine gS (gF 1 OS rR ON rR (gL (ac c.val) OQ rR (gI (uB (A0:=zck) call192 rR (pP (c.val) 1 (by decide) hvl)) ?_)));rintro _ _ hnv;unfold jo at hnv;rcases hn1:bR 1 (c.val) with _ | l1 <;> rw[hn1] at hnv
  ·obtain ⟨rfl,rfl⟩:=hnv;refine gM rR (gX (sl none 0 0) rR (gX (Bo false) rR (gA rR (gQ rR (qb (gS (gF 1 OS rR ON rR (gL (ac c.val) OQ rR (gV (wl rR rR) (qc ?_))))))))));refine qd rfl ?_ ?_ <;> intro h26
   ·have h26:c.val=[49,48,48,48]:=(by simpa using h26);refine qb ?_;refine ma b st ?_;intro x p r r2 s cc;refine qo (gM rR (gV (qa rR) (gF 2 OV rR OH rR (gU (qG #[ptr x 0,sl s st.L.length cc,I 1000] OH rR rR rR (by simp) rR) (qc (gS (gQ rR ?_)))))));refine mb b x p r r2 s cc ({st with n:=1000}) ?_;exact ni (st:={st with n:=1000}) rfl (by unfold cq;rw[RI hX];unfold xF;rw[RI h26]) rfl rfl
   ·have h26:¬c.val=[49,48,48,48]:=(by simpa using h26);refine qf (qb (gS (gM rR (qc ?_))));refine wo rR ?_;refine qf (gS (gM rR (gM rR (yL rR rR rR rR (yL rR rR rR rR (yL rR rR rR rR (yL rR rR rR rR (gV (bZ rR rR rR) (gQ rR ?_)))))))));exact ij rfl (by unfold cq;rw[RI hX];unfold xF;rw[RJ h26,hn1]) rfl rfl
  ·obtain ⟨sa1,ca1,rfl,rfl⟩:=hnv;obtain ⟨v,rfl⟩:=l6 (iT hn1).1;have hvr1:=(wW hn1).2;have hln1:=(iT hn1).2;refine gM rR (gX (sl sa1 1 ca1) rR (gX (Bo true) rR (gA rR (gQ rR (qb (gS (gF 1 OS rR ON rR (gL (ac c.val) OQ rR (gV (wl rR rR) (qc ?_))))))))));refine qd rfl ?_ ?_ <;> intro h26
   ·have h26:c.val=[49,48,48,48]:=(by simpa using h26);refine qb ?_;refine ma b st ?_;intro x p r r2 s cc;refine qo (gM rR (gV (qa rR) (gF 2 OV rR OH rR (gU (qG #[ptr x 0,sl s st.L.length cc,I 1000] OH rR rR rR (by simp) rR) (qc (gS (gQ rR ?_)))))));refine mb b x p r r2 s cc ({st with n:=1000}) ?_;exact ni (st:={st with n:=1000}) rfl (by unfold cq;rw[RI hX];unfold xF;rw[RI h26]) rfl rfl
   ·have h26:¬c.val=[49,48,48,48]:=(by simpa using h26);refine qf (qb (gS (gM rR (qc ?_))));refine wZ rR ?_;refine ma b st ?_;intro x p r r2 s cc;refine qo (gM rR (gM rR (gV (qv 0 OO OH rR rR rR (by decide) (by simp[yC])) (gV (qM (v:=I v) OI rR rR rR) (gV (qa rR) (gF 2 OV rR OH rR (gU (qG #[ptr x 0,sl s st.L.length cc,I v] OH rR rR rR (by simp) rR) (qc (gS (gM rR (gM rR (yc rR rR rR (qm 1 OS rR rR ON (by decide) rR) rR (yc rR rR rR (qu (v:=ac c.val) OQ rR rR) rR (yc rR rR rR (yZ OM rR) rR (yc rR rR rR (yD rR rR) rR (gV (bT rR rR) (gQ rR ?_)))))))))))))))));by_cases h3:c.val.length=3
    ·refine mb b x p r r2 s cc ({st with n:=v}) ?_;exact ni (st:={st with n:=v}) rfl (by unfold cq;rw[RI hX];unfold xF;rw[RJ h26,hn1];simp only;rw[RI h3]) rfl (ud (by simp;omega) h3)
    ·exact ij rfl (by unfold cq;rw[RI hX];unfold xF;rw[RJ h26,hn1];simp only;rw[RJ h3]) rfl (ue (P:=c.val.length=3) (by simp;omega) h3)
 ·have hX:¬c.key=[120]:=(by simpa using h17);refine qf (qb (gS (gF 0 OS rR ON rR (gL (ac c.key) OQ rR (gV (yZ OM rR) (gV (da rR rR) (gM rR (gK rR rR (qm 2 OS rR rR Pv (by decide) rR) (gK rR rR (qu (v:=Bo c.gone) PO rR rR) (gV (aD rR rR) (qc ?_)))))))))));refine qd rfl ?_ ?_ <;> intro h51
  ·have hk4:c.key.length≠4\/c.gone=true:=(by simp at h51;rcases h51 with h | h;exact .inl (by omega);exact .inr h);refine gS (gQ rR ?_);exact ij rfl (by unfold cq;rw[RJ hX,RI hk4]) rfl rfl
  ·have hk4:¬(c.key.length≠4\/c.gone=true):=(by simp at h51;rintro (h | h);exact h (by omega);rw[h51.2] at h;cases h);have hk44:c.key.length=4:=(by omega);refine qf (gS (gF 0 OS rR ON rR (gL (ac c.key) OQ rR (gV (rW (l:=1) OM rR rR rR (by omega)) (gI (uB (A0:=zck) call192 rR (pP (c.key.drop 1) 1 (by decide) (by simp;omega))) ?_)))));rintro _ _ hnv;unfold jo at hnv;rcases hn0:bR 1 (c.key.drop 1) with _ | l0 <;> rw[hn0] at hnv
   ·obtain ⟨rfl,rfl⟩:=hnv;refine gM rR (gX (sl none 0 0) rR (gX (Bo false) rR (gA rR (gQ rR (qb (gS (gM rR (gV (wb rR) (gM rR (yL rR rR rR rR (yL rR rR rR rR (yL rR rR rR rR (yL rR rR rR rR (gV (cw rR rR rR) (qc ?_)))))))))))))));refine qd rfl ?_ ?_ <;> intro h66
    ·refine gS (gQ rR ?_);exact ij rfl (by unfold cq;rw[RJ hX,RJ hk4,hn0]) rfl rfl
    ·cases h66
   ·obtain ⟨sa0,ca0,rfl,rfl⟩:=hnv;obtain ⟨id,rfl⟩:=l6 (iT hn0).1;have hvr0:=(wW hn0).2;have hln0:=(iT hn0).2;refine gM rR (gX (sl sa0 1 ca0) rR (gX (Bo true) rR (gA rR (gQ rR (qb (gS (gM rR (gV (wb rR) (gM rR (yc rR rR rR (qn rR) rR (yc rR rR rR (qv 0 OO OH rR rR rR (by decide) (by simp[yC])) rR (yc rR rR rR (qM (v:=I id) OI rR rR rR) rR (yc rR rR rR (qH rR rR) rR (gV (aD rR rR) (qc ?_)))))))))))))));refine qd rfl ?_ ?_ <;> intro h66
    ·have hid0:id<1:=(by simpa using h66);refine gS (gQ rR ?_);exact ij rfl (by unfold cq;rw[RJ hX,RJ hk4,hn0];simp only;rw[RI hid0]) rfl rfl
    ·have hid1:¬id<1:=(by simpa using h66);have hidr:=hvr0 id (by simp);obtain ⟨y,hy⟩:∃y,c.key[0]? =some y:=⟨_,S6 (by omega)⟩;have hyh:c.key.head? =some y:=(by rw[List.head?_eq_getElem?];exact hy);refine qf (qb (gS (gF 0 OS rR ON rR (gL (ac c.key) OQ rR (gV (yo 0 OM rR rR rR hy) (qc (qg (gS (gV (yD rR rR) (gQ rR ?_))))))))));refine qd rfl ?_ ?_ <;> intro h70
     ·have h98:y=98:=mc (n:=98) (by decide) (by simpa using h70);subst h98;refine gS (gF 1 OS rR ON rR (gL (ac c.val) OQ rR (gI (uB (A0:=zck) call192 rR (pP (c.val) 1 (by decide) hvl)) ?_)));rintro _ _ hnv;unfold jo at hnv;rcases hn2:bR 1 (c.val) with _ | l2 <;> rw[hn2] at hnv
      ·obtain ⟨rfl,rfl⟩:=hnv;refine gM rR (gX (sl none 0 0) rR (gX (Bo false) rR (gA rR (gQ rR (qb (gS (gM rR (qc ?_))))))));refine wo rR ?_;refine qf (gS (gM rR (gM rR (yL rR rR rR rR (yL rR rR rR rR (yL rR rR rR rR (yL rR rR rR rR (gV (bZ rR rR rR) (gM rR (yL rR rR rR rR (yL rR rR rR rR (yL rR rR rR rR (yL rR rR rR rR (gV (bZ rR rR rR) (gM rR (yL rR rR rR rR (yL rR rR rR rR (yL rR rR rR rR (yL rR rR rR rR (gV (bZ rR rR rR) (gQ rR ?_)))))))))))))))))))));exact ij rfl (by unfold cq;rw[RJ hX,RJ hk4,hn0];simp only;rw[RJ hid1,tN hyh];unfold bF;rw[show bR 1 c.val=none from hn2]) rfl rfl
      ·obtain ⟨sa2,ca2,rfl,rfl⟩:=hnv;obtain ⟨rr,rfl⟩:=l6 (iT hn2).1;have hvr2:=(wW hn2).2;have hln2:=(iT hn2).2;refine gM rR (gX (sl sa2 1 ca2) rR (gX (Bo true) rR (gA rR (gQ rR (qb (gS (gM rR (qc ?_))))))));refine wZ rR ?_;refine ma b st ?_;intro x p r r2 s cc;refine fm (Lf:=[pt b (.cells #[ptr x 0,sl s st.L.length cc,I st.n] 123 (0,0)),pt x (.cells #[ptr p 0, .map (some r)] 231 (0,0)),pt p (.cells #[.map (some r2)] 234 (0,0)),pt b3 (.cells (ym c).toArray 174 (0,0)),ai 3 1 sa0 ca0 (yC [id]),ai 3 1 sa2 ca2 (yC [rr]),mp r2 (tb am 999 st.B)]) [(0,false),(1,false),(2,false),(3,false),(4,false),(5,false),(6,false),(7,false),(8,false),(9,false),(10,false),(11,false),(12,false),(13,false),(14,false),(15,false),(16,false),(17,false),(18,false),(19,false)] 20 rR (by kernel_rfl) (by kernel_rfl) rR (by kernel_rfl) (by kernel_rfl) ?_;refine dM rR rR rR (dV rR (qa rR) (dF rR 0 OV rR Pd rR (dL rR (ptr x 0) Pg rR (dV rR (qa rR) (dF rR 0 O5 rR PM rR (dL rR (ptr p 0) PQ rR (dV rR (qa rR) (dF rR 0 PI rR PG rR (dL rR (.map (some r2)) PJ rR (dM rR rR rR (dV rR (qv 0 OO OH rR rR rR (by decide) (by simp[yC])) (dV rR (qM (v:=I id) OI rR rR rR) (dF rR 1 OS rR ON rR (dL rR (ac c.val) OQ rR (dV rR (rW (l:=3) OM rR rR rR (by omega)) (dM rR rR rR (dV rR (qv 0 OO OH rR rR rR (by decide) (by simp[yC])) (dV rR (qM (v:=I rr) OI rR rR rR) (dV rR (qF rR (uU _ rR _ rR)) ?_)))))))))))))))))));refine qI ?_;refine cl (yk PB OL rR rR rR) ?_;rintro _ _ rfl;refine qc ?_;refine gY r2 (tb am 999 (qy st.B id (some (c.val.drop 3,rr)))) (ja am (x:=(c.val.drop 3,rr)) ⟨by omega,by omega⟩) ?_;refine mb b x p r r2 s cc ({st with B:=qy st.B id (some (c.val.drop 3,rr))}) ?_;refine gS (gM rR (gM rR (yc rR rR rR (qn rR) rR (yc rR rR rR (qv 0 OO OH rR rR rR (by decide) (by simp[yC])) rR (yc rR rR rR (qM (v:=I rr) OI rR rR rR) rR (yc rR rR rR (qX rR rR) rR (gV (bT rR rR) (gM rR (gK rR rR (qm 1 OS rR rR ON (by decide) rR) (gK rR rR (qu (v:=ac c.val) OQ rR rR) (gK rR rR (yZ OM rR) (gK rR rR (qX rR rR) (gV (bT rR rR) (gM rR (gK rR rR (qm 1 OS rR rR ON (by decide) rR) (gK rR rR (qu (v:=ac c.val) OQ rR rR) (gK rR rR (yZ OM rR) (gK rR rR (kD rR rR) (gV (bT rR rR) (gQ rR ?_))))))))))))))))))));by_cases hcnd:0<rr/\3<c.val.length/\c.val.length<=9
       ·exact ni (st:={st with B:=qy st.B id (some (c.val.drop 3,rr))}) rfl (by unfold cq;rw[RJ hX,RJ hk4,hn0];simp only;rw[RJ hid1,tN hyh];unfold bF;rw[show bR 1 c.val=some [rr] from hn2];simp only;rw[RI hcnd]) rfl (ud (by simp;omega) hcnd)
       ·exact ij rfl (by unfold cq;rw[RJ hX,RJ hk4,hn0];simp only;rw[RJ hid1,tN hyh];unfold bF;rw[show bR 1 c.val=some [rr] from hn2];simp only;rw[RJ hcnd]) rfl (ue (P:=0<rr/\3<c.val.length/\c.val.length<=9) (by simp;omega) hcnd)
     ·have h70:¬((y.toNat:Int)=98):=(by simpa using h70);refine gS (gV (yD rR rR) (gQ rR ?_));refine qd rfl ?_ ?_ <;> intro h118
      ·have h110:y=110:=mc (n:=110) (by decide) (by simpa using h118);subst h110;refine gS (gF 1 OS rR ON rR (gL (ac c.val) OQ rR (gI (uB (A0:=zck) call192 rR (pP (c.val) 5 (by decide) hvl)) ?_)));rintro _ _ hnv;unfold jo at hnv;rcases hn2:bR 5 (c.val) with _ | l2 <;> rw[hn2] at hnv
       ·obtain ⟨rfl,rfl⟩:=hnv;refine gM rR (gX (sl none 0 0) rR (gX (Bo false) rR (gA rR (gQ rR (qb (gS (gM rR (qc ?_))))))));refine wo rR ?_;refine qf (gS (gM rR (gM rR (yL rR rR rR rR (yL rR rR rR rR (yL rR rR rR rR (yL rR rR rR rR (gV (bZ rR rR rR) (gM rR (yL rR rR rR rR (yL rR rR rR rR (yL rR rR rR rR (yL rR rR rR rR (gV (bZ rR rR rR) (gQ rR ?_)))))))))))))));exact ij rfl (by unfold cq;rw[RJ hX,RJ hk4,hn0];simp only;rw[RJ hid1,tO hyh];unfold nF;rw[show bR 5 c.val=none from hn2]) rfl rfl
       ·obtain ⟨sa2,ca2,rfl,rfl⟩:=hnv;obtain ⟨rr,k0,k1,k2,k3,rfl⟩:=y4 (iT hn2).1;have hvr2:=(wW hn2).2;have hln2:=(iT hn2).2;refine kH sa2 λhcap=>?_;have hcap2:1<ca2:=(by simp[yC] at hcap;omega);refine gM rR (gX (sl sa2 5 ca2) rR (gX (Bo true) rR (gA rR (gQ rR (qb (gS (gM rR (qc ?_))))))));refine wZ rR ?_;refine ma b st ?_;intro x p r r2 s cc;refine fm (Lf:=[pt b (.cells #[ptr x 0,sl s st.L.length cc,I st.n] 123 (0,0)),pt x (.cells #[ptr p 0, .map (some r)] 231 (0,0)),ai 3 1 sa0 ca0 (yC [id]),ai 3 1 sa2 ca2 (yC [rr,k0,k1,k2,k3]),mp r (tb we 999 st.N)]) [(0,false),(1,false),(2,false),(3,false),(4,false),(5,false),(6,false),(7,false),(8,false),(9,false),(10,false),(11,false),(12,false),(13,false),(14,false),(15,false),(16,false),(17,false)] 18 rR (by kernel_rfl) (by kernel_rfl) rR (by kernel_rfl) (by kernel_rfl) ?_;refine dM rR rR rR (dV rR (qa rR) (dF rR 0 OV rR Pd rR (dL rR (ptr x 0) Pg rR (dV rR (qa rR) (dF rR 1 O5 rR Pn rR (dL rR (.map (some r)) Pr rR (dM rR rR rR (dV rR (qv 0 OO OH rR rR rR (by decide) (by simp[yC])) (dV rR (qM (v:=I id) OI rR rR rR) (dM rR rR rR (dV rR (IQ (l:=1) OO OH rR rR rR (by decide) hcap2) (dV rR (IP Pa rR (by decide)) (dV rR (IR (s:=sa2) (vs:=aA ⟨k0,k1,k2,k3,rr⟩) 1 Pw O0 rR rR (by decide) pS) (dM rR rR rR (dV rR (qv 0 OO OH rR rR rR (by decide) (by simp[yC])) (dV rR (qM (v:=I rr) OI rR rR rR) (dV rR (qF rR (MK ⟨k0,k1,k2,k3,rr⟩ rr)) ?_)))))))))))))))));refine qI ?_;refine cl (yk Ps OL rR rR rR) ?_;rintro _ _ rfl;refine qc ?_;refine gY r (tb we 999 (qy st.N id (some ⟨k0,k1,k2,k3,rr⟩))) (ja we (x:=⟨k0,k1,k2,k3,rr⟩) ⟨by omega,by omega⟩) ?_;refine mb b x p r r2 s cc ({st with N:=qy st.N id (some ⟨k0,k1,k2,k3,rr⟩)}) ?_;refine gS (gM rR (gM rR (yc rR rR rR (qn rR) rR (yc rR rR rR (qv 0 OO OH rR rR rR (by decide) (by simp[yC])) rR (yc rR rR rR (qM (v:=I rr) OI rR rR rR) rR (yc rR rR rR (qX rR rR) rR (gV (bT rR rR) (gM rR (gK rR rR (qm 1 OS rR rR ON (by decide) rR) (gK rR rR (qu (v:=ac c.val) OQ rR rR) (gK rR rR (yZ OM rR) (gK rR rR (yD rR rR) (gV (bT rR rR) (gQ rR ?_))))))))))))));by_cases hcnd:0<rr/\c.val.length=15
        ·exact ni (st:={st with N:=qy st.N id (some ⟨k0,k1,k2,k3,rr⟩)}) rfl (by unfold cq;rw[RJ hX,RJ hk4,hn0];simp only;rw[RJ hid1,tO hyh];unfold nF;rw[show bR 5 c.val=some [rr,k0,k1,k2,k3] from hn2];simp only;rw[RI hcnd]) rfl (ud (by simp;omega) hcnd)
        ·exact ij rfl (by unfold cq;rw[RJ hX,RJ hk4,hn0];simp only;rw[RJ hid1,tO hyh];unfold nF;rw[show bR 5 c.val=some [rr,k0,k1,k2,k3] from hn2];simp only;rw[RJ hcnd]) rfl (ue (P:=0<rr/\c.val.length=15) (by simp;omega) hcnd)
      ·have h118:¬((y.toNat:Int)=110):=(by simpa using h118);refine gS (gV (yD rR rR) (gQ rR ?_));refine qd rfl ?_ ?_ <;> intro h158
       ·have h112:y=112:=mc (n:=112) (by decide) (by simpa using h158);subst h112;refine gS (gF 1 OS rR ON rR (gL (ac c.val) OQ rR (gI (uB (A0:=zck) call192 rR (pP (c.val) 3 (by decide) hvl)) ?_)));rintro _ _ hnv;unfold jo at hnv;rcases hn2:bR 3 (c.val) with _ | l2 <;> rw[hn2] at hnv
        ·obtain ⟨rfl,rfl⟩:=hnv;refine gM rR (gX (sl none 0 0) rR (gX (Bo false) rR (gA rR (gQ rR (qb (gS (gM rR (qc ?_))))))));refine wo rR ?_;refine qf (gS (gM rR (gM rR (yL rR rR rR rR (yL rR rR rR rR (yL rR rR rR rR (yL rR rR rR rR (gV (bZ rR rR rR) (gM rR (yL rR rR rR rR (yL rR rR rR rR (yL rR rR rR rR (yL rR rR rR rR (gV (bZ rR rR rR) (gM rR (yL rR rR rR rR (yL rR rR rR rR (yL rR rR rR rR (yL rR rR rR rR (gV (bZ rR rR rR) (gM rR (yL rR rR rR rR (yL rR rR rR rR (yL rR rR rR rR (yL rR rR rR rR (gV (bZ rR rR rR) (gQ rR ?_)))))))))))))))))))))))))));exact ij rfl (by unfold cq;rw[RJ hX,RJ hk4,hn0];simp only;rw[RJ hid1,tP hyh];unfold pF;rw[show bR 3 c.val=none from hn2]) rfl rfl
        ·obtain ⟨sa2,ca2,rfl,rfl⟩:=hnv;obtain ⟨d0,z0,r0,rfl⟩:=y0 (iT hn2).1;have hvr2:=(wW hn2).2;have hln2:=(iT hn2).2;refine gM rR (gX (sl sa2 3 ca2) rR (gX (Bo true) rR (gA rR (gQ rR (qb (gS (gM rR (qc ?_))))))));refine wZ rR ?_;refine ma b st ?_;intro x p r r2 s cc;refine fm (Lf:=[pt b (.cells #[ptr x 0,sl s st.L.length cc,I st.n] 123 (0,0)),ai 3 1 sa0 ca0 (yC [id]),ai 3 1 sa2 ca2 (yC [d0,z0,r0])]) [(0,false),(1,false),(2,false),(3,false),(4,false),(5,false),(6,false),(7,false),(8,false),(9,false),(10,false),(11,false),(12,false),(13,false),(14,false),(15,false),(16,false),(17,false),(18,true),(19,true),(20,false),(21,false)] 22 rR (by kernel_rfl) (by kernel_rfl) rR (by kernel_rfl) (by kernel_rfl) ?_;refine dM rR rR rR (dM rR rR rR (dV rR (qa rR) (dF rR 1 OV rR O2 rR (dL rR (sl s st.L.length cc) Pf rR (dM rR rR rR (dV rR (qv 0 OO OH rR rR rR (by decide) (by simp[yC])) (dV rR (qM (v:=I id) OI rR rR rR) (dM rR rR rR (dV rR (qv 0 OO OH rR rR rR (by decide) (by simp[yC])) (dV rR (qM (v:=I d0) OI rR rR rR) (dM rR rR rR (dV rR (qv 1 OO OH rR rR rR (by decide) (by simp[yC])) (dV rR (qM (v:=I z0) OI rR rR rR) (dM rR rR rR (dV rR (qv 2 OO OH rR rR rR (by decide) (by simp[yC])) (dV rR (qM (v:=I r0) OI rR rR rR) (dV rR (qF rR (zj id d0 z0 r0)) (av rR (qj [qL ⟨id,d0,z0,r0⟩] OZ OP Pc rR rR rR (by simp) (by decide) (by decide)) rR ?_))))))))))))))))));rintro _ _ ⟨b185,rfl,rfl⟩;refine av rR (qN OZ OP Pc rR Tryz.typeInfo162 (by decide) rR rR (yI _) rR (by simp) (by simp[Go.Sl.ones,Go.Sl.one]) ⟨by omega,by decide,by decide⟩) rR ?_;rintro _ _ ⟨s186,c186,rfl,rfl⟩;rw[show az st.L++ [qL ⟨id,d0,z0,r0⟩]=az (st.L++ [⟨id,d0,z0,r0⟩]) by simp[az]];refine dV rR (qa rR) (dF rR 1 OV rR O2 rR ?_);refine qI ?_;refine gU (qG #[ptr x 0,sl s186 (st.L.length+1) c186,I st.n] O2 rR rR rR (by simp) rR) (qc ?_);rw[show st.L.length+1=(st.L++ [(⟨id,d0,z0,r0⟩:Pt)]).length by simp];refine mb b x p r r2 s186 c186 ({st with L:=st.L++ [⟨id,d0,z0,r0⟩]}) ?_;refine gS (gM rR (gM rR (yc rR rR rR (qm 1 OS rR rR ON (by decide) rR) rR (yc rR rR rR (qu (v:=ac c.val) OQ rR rR) rR (yc rR rR rR (yZ OM rR) rR (yc rR rR rR (yD rR rR) rR (gV (bT rR rR) (gM rR (gK rR rR (qn rR) (gK rR rR (qv 0 OO OH rR rR rR (by decide) (by simp[yC])) (gK rR rR (qM (v:=I d0) OI rR rR rR) (gK rR rR (qX rR rR) (gV (bT rR rR) (gM rR (gK rR rR (qn rR) (gK rR rR (qv 1 OO OH rR rR rR (by decide) (by simp[yC])) (gK rR rR (qM (v:=I z0) OI rR rR rR) (gK rR rR (qX rR rR) (gV (bT rR rR) (gM rR (gK rR rR (qn rR) (gK rR rR (qv 1 OO OH rR rR rR (by decide) (by simp[yC])) (gK rR rR (qM (v:=I z0) OI rR rR rR) (gK rR rR (kD rR rR) (gV (bT rR rR) (gQ rR ?_))))))))))))))))))))))))))
         by_cases hcnd:c.val.length=9/\0<d0/\0<z0/\z0<=16
         ·exact ni (st:={st with L:=st.L++ [⟨id,d0,z0,r0⟩]}) rfl (by unfold cq;rw[RJ hX,RJ hk4,hn0];simp only;rw[RJ hid1,tP hyh];unfold pF;rw[show bR 3 c.val=some [d0,z0,r0] from hn2];simp only;rw[RI hcnd]) rfl (ud (by simp;omega) hcnd)
         ·exact ij rfl (by unfold cq;rw[RJ hX,RJ hk4,hn0];simp only;rw[RJ hid1,tP hyh];unfold pF;rw[show bR 3 c.val=some [d0,z0,r0] from hn2];simp only;rw[RJ hcnd]) rfl (ue (P:=c.val.length=9/\0<d0/\0<z0/\z0<=16) (by simp;omega) hcnd)
       ·have h158:¬((y.toNat:Int)=112):=(by simpa using h158);refine qf (qD (gS (gQ rR ?_)));exact ij rfl (by unfold cq;rw[RJ hX,RJ hk4,hn0];simp only;rw[RJ hid1];unfold ie;rw[hyh,RJ (λhh=>h70 (by injection hh with hh;rw[hh];rfl)),RJ (λhh=>h118 (by injection hh with hh;rw[hh];rfl)),RJ (λhh=>h158 (by injection hh with hh;rw[hh];rfl))]) rfl rfl
end Go.Proofs.YthdjckbjjfiopabGreatDoor