/- Several texts in one: walks and rules used by them. No condition. -/
import Derived.Test.YthdjckbjjfiopabGreatDoorCartF
import Derived.Test.YthdjckbjjfiopabGreatDoorCartE
import Derived.Test.YthdjckbjjfiopabGreatDoorCartC
set_option linter.unusedSimpArgs false
set_option linter.unusedVariables false
set_option synthInstance.maxSize 9999
set_option synthInstance.maxHeartbeats 0
set_option linter.defProp false
set_option maxHeartbeats 800000
namespace Go.Proofs.YthdjckbjjfiopabGreatDoor
open Go.Sl Go.Proofs
theorem CR (x:UInt8)(a b:ak):kl (x::a) (x::b)=kl a b:=by
 grind[Op.bytesLess]
def GJ {a b:Nat}(J:a<10)(O:b<10):(mL a<mL b) ↔ a<b:=by
 grind[UInt8.lt_iff_toNat_lt,ko]
def GK {a b:Nat}(J:a<10)(O:b<10):(mL a=mL b) ↔ a=b:=by
 grind[ko]
theorem GL {a b:Int}(J:0<=a/\a<=999)(O:0<=b/\b<=999):kl (jd a) (jd b)=true ↔ a<b:=by
 obtain ⟨u,rfl⟩:∃u:Nat,a=u:=⟨a.toNat,by omega⟩;obtain ⟨v,rfl⟩:∃v:Nat,b=v:=⟨b.toNat,by omega⟩;rw[y8 (by omega),y8 (by omega)];simp only[kl,Op.bytesLess,Zi,Yr,decide_eq_true_eq,beq_iff_eq];rw[GJ (by omega) (by omega),GJ (by omega) (by omega),GJ (by omega) (by omega),GK (by omega) (by omega),GK (by omega) (by omega),GK (by omega) (by omega)]
 grind
theorem TD (a b:ak):kl (98::a) (110::b)=true:=rfl
theorem TE (a b:ak):kl (98::a) (112::b)=true:=rfl
def TF (a b:ak):kl (98::a) (120::b)=true:=rfl
theorem TG (a b:ak):kl (110::a) (112::b)=true:=rfl
def TH (a b:ak):kl (110::a) (120::b)=true:=rfl
def TI (a b:ak):kl (112::a) (120::b)=true:=rfl
def Ij {ρ:Type}{m n:Nat}{B:Int->Option ρ}(J:m<=n)(h:l9 m B):bZ n B=bZ m B:=by
 unfold bZ;rw[show n=m+(n - m) by omega,List.range'_append_1.symm,ZR];have:(List.range' (1+m) (n - m)).filter (λk:Nat=>(B (k:Int)).isSome)=[]:=kak.2 λj hj hh=>by
  rw[ZZ] at hj;obtain ⟨x,hx⟩:=kaG.1 hh;have:=h _ x hx;omega
 grind
def CS {ρ:Type}{enc:ρ->Value}{m n:Nat}{B:Int->Option ρ}(J:m<=n)(h:l9 m B):tb enc n B=tb enc m B:=by
 unfold tb Lg;rw[show n=m+(n - m) by omega,List.range'_append_1.symm,List.filterMap_append];have:(List.range' (1+m) (n - m)).filterMap (λk:Nat=>(B (k:Int)).map λx=>((k:Int),enc x))=[]:=List.filterMap_eq_nil_iff.2 λj hj=>by
  rw[ZZ] at hj;cases hx:B (j:Int) with
  | none=>rfl
  | some x=>have:=h _ x hx;omega
 grind
def UH (st:PS)(hx:Bool):List ChangeM:=dI 999 st.B++d6 999 st.N++st.L.map mM++if hx then [vq st.n] else []
structure InvP (pre:List ChangeM) (st:PS) (hx:Bool):Prop where
 e:pre=UH st hx
 x:hx=false->st.n=0
 ok:Pok st
 srt:st.L.Pairwise λa b=>a.id<b.id
def QE {l:List Int}(h:∀q,q ∉ l):l=[]:=List.eq_nil_iff_forall_not_mem.2 h
theorem Mj {st J:PS}{c:ChangeM}(hx:c.key≠ [120])(e:je st c=some J):∃id y,(1<=id/\id<=999)/\c.key=y::jd id/\c.gone=false/\KE st id c=some J:=by
 unfold je at e;rw[YC hx] at e;split at e
 ·cases e
 ·rename_i V;split at e
  ·rename_i id O;split at e
   ·cases e
   ·have R:=(fm O);have X:=R.2 id (by simp);have S:c.key.length=4:=(by omega);obtain ⟨y,r,hy⟩:∃y r,c.key=y::r:=by
     cases hk:c.key with
     | nil=>grind
     | cons y r=>exact ⟨y,r,rfl⟩
    grind
  ·cases e
def J8 (l:List ChangeM)(st:Nat->PS)(hs:srt l)(h:∀k c,l[k]? =some c->c.gone=false/\je (st k) c=some (st (k+1))):io none (st 0) l=some (st l.length):=by
 have key:∀(m k:Nat) (R:Option ak),m+k=l.length->(∀p,R=some p->∀c,l[k]? =some c->kl p c.key=true)->io R (st k) (l.drop k)=some (st l.length):=by
  intro m
  induction m with
  | zero=>grind[io]
  | succ m Y=>
   intro k R hk hp;have J:k<l.length:=(by omega);have V:l[k]? =some l[k]:=Zu J;obtain ⟨h1,X⟩:=h k _ V;rw[kae J];simp only[io];rw[YC,X]
   ·simp only;refine Y (k+1) _ (by omega) λp O c S=>?_;injection O with O;subst O;exact Yi.1 hs k (k+1) J (Yh.1 S).1 (by omega) |> λh9=>by grind
   ·intro hh;rcases hh with hh | hh
    ·cases R with
     | none=>cases hh
     | some p=>
      have Z:=hp p rfl _ V;have hb:(kl l[k].key p || decide (l[k].key=p))=true:=hh
      grind[lI]
    grind
 exact key l.length 0 none (by omega) (λp hp=>by cases hp)
def GM {ρ:Type}(B:Int->Option ρ)(l:List Int):Int->Option ρ:=λq=>if q∈l then B q else none
theorem Pk {ρ:Type}(B:Int->Option ρ):GM B []=λ_=>none:=funext λq=>by simp[GM]
def Ik {ρ:Type}{n:Nat}{B:Int->Option ρ}(h:l9 n B):GM B (bZ n B)=B:=funext λq=>by
 unfold GM;split
 ·rfl
 ·rename_i hq;cases e:B q with
  | none=>rfl
  | some x=>exact absurd (mem_ids.2 ⟨h q x e,by rw[e];rfl⟩) hq
def E5 {ρ:Type}{B:Int->Option ρ}{l:List Int}{q:Int}:aB (GM B l) q (B q)=GM B (l++ [q]):=funext λp=>by
 grind[aB,GM]
def RX {id:Int}(h:0<=id/\id<=999)(t:ak):eh 1 (jd id++t)=some [id]:=by
 unfold eh;have:=iN h;rw[YC (by simp;omega)];have:=tO (l:=[id]) (k:=1) t rfl (by grind);simpa using this
def CT {st:PS}{c:ChangeM}{id:Int}{y:UInt8}(R:1<=id/\id<=999)(hk:c.key=y::jd id)(O:c.gone=false):je st c=KE st id c:=by
 have J:=iN (n:=id) (by omega);unfold je;rw[YC (by grind),YC (by rw[hk,O];simp[J]),hk];simp only[kaz,Zp];have:=RX (id:=id) (by omega) []
 grind
structure Wr (S:SI) (L:List Pt) (n:Int):Prop where
 sB:l9 40 S.B
 sN:l9 24 S.N
 b:∀q x,S.B q=some x->(0<x.2/\x.2<=999)/\x.1≠ []/\x.1.length<=6
 nd:∀q m,S.N q=some m->(0<m.refs/\m.refs<=999)/\∀k∈kd m,0<=k/\k<=999
 p:∀p∈L,(1<=p.id/\p.id<=999)/\(0<p.disk/\p.disk<=999)/\(0<p.size/\p.size<=16)/\(0<=p.root/\p.root<=999)
 n1:0<=n/\n<=1000
 srt:L.Pairwise λa b=>a.id<b.id
def lc {S:SI}{L:List Pt}{n:Int}(h:Wr S L n):srt (bD S L n):=by
 unfold bD srt;have Y:∀c∈dI 40 S.B,∃q,c.key=98::jd q:=λc R=>by
  unfold dI at R;obtain ⟨q,_,rfl⟩:=Zz.1 R;exact ⟨q,rfl⟩
 have hn:∀c∈d6 24 S.N,∃q,c.key=110::jd q:=λc R=>by
  unfold d6 at R;obtain ⟨q,_,rfl⟩:=Zz.1 R;exact ⟨q,rfl⟩
 have hp:∀c∈L.map mM,∃q,c.key=112::jd q:=λc R=>by
  obtain ⟨q,_,rfl⟩:=Zz.1 R;exact ⟨q.id,rfl⟩
 rw[kan,kan,kan];refine ⟨⟨⟨?_,?_,λa O b J=>?_⟩,?_,λa O b J=>?_⟩,kaN _ _,λa O b J=>?_⟩
 ·unfold dI;rw[kaS];refine kaT ?_ (rZ 40 S.B);intro a b O J V;have h1:=(mem_ids.1 O).1;have X:=(mem_ids.1 J).1;show kl (98::jd a) (98::jd b)=true
  grind[CR,GL]
 ·unfold d6;rw[kaS];refine kaT ?_ (rZ 24 S.N);intro a b O J V;have h1:=(mem_ids.1 O).1;have X:=(mem_ids.1 J).1;show kl (110::jd a) (110::jd b)=true
  grind[CR,GL]
 ·grind[TD]
 ·rw[kaS];refine kaT ?_ h.srt;intro a b O J V;have h1:=(h.p a O).1;have X:=(h.p b J).1;show kl (112::jd a.id) (112::jd b.id)=true
  grind[CR,GL]
 ·grind[TE,TG]
 ·rw[kad] at J;subst J;rcases Zn.1 O with O | O
  ·rcases Zn.1 O with O | O
   ·obtain ⟨q,e⟩:=Y a O;rw[e];exact TF _ _
   ·obtain ⟨q,e⟩:=hn a O;rw[e];exact TH _ _
  ·obtain ⟨q,e⟩:=hp a O;rw[e];exact TI _ _
def Il (S:SI)(L:List Pt)(n:Int)(k:Nat):PS:=
 ⟨GM S.B ((bZ 40 S.B).take k),GM S.N ((bZ 24 S.N).take (k - (bZ 40 S.B).length)),L.take (k - (bZ 40 S.B).length - (bZ 24 S.N).length),if (bZ 40 S.B).length+(bZ 24 S.N).length+L.length<k then n else 0⟩
def zf {α:Type}{l:List α}{k:Nat}{x:α}(h:l[k]? =some x):l.take (k+1)=l.take k++ [x]:=by
 rw[kaU,h];rfl
def Pm {S:SI}{L:List Pt}{n:Int}(h:Wr S L n):io none ps0 (bD S L n)=some ⟨S.B,S.N,L,n⟩:=by
 have hz:ps0=Il S L n 0:=by
  grind[Il,ps0,Pk]
 have he:Il S L n (bD S L n).length=⟨S.B,S.N,L,n⟩:=by
  unfold Il;have hl:=show (bD S L n).length=(bZ 40 S.B).length+(bZ 24 S.N).length+L.length+1 by rw[qY]
  rw[hl,kaq (by omega),kaq (by omega),kaq (by omega),YB (by omega),Ik h.sB,Ik h.sN]
 rw[hz,<-he];refine J8 _ _ (lc h) λk c J=>?_;unfold bD at J;have Z:(dI 40 S.B).length=(bZ 40 S.B).length:=(by simp[dI]);have hnl:(d6 24 S.N).length=(bZ 24 S.N).length:=(by simp[d6]);by_cases h1:k<(bZ 40 S.B).length
 ·rw[Zf,Zf,Yy (by omega)] at J;unfold dI at J;rw[Zw] at J;obtain ⟨q,hq,rfl⟩:=Ym.1 J;have X:=mem_ids.1 (YW hq);obtain ⟨x,hx⟩:=kaG.1 X.2;have V:gB S.B q=x:=(by unfold gB;rw[hx];rfl);have R:=h.b q x hx;refine ⟨rfl,?_⟩;rw[V,CT (id:=q) (y:=98) (by omega) rfl rfl];rw[Ii rfl];unfold bF;show (match eh 1 (jd x.2++x.1) with | some [r]=>_ | _=>_)=_;rw[RX (by omega)];simp only;have h3:=iN (n:=x.2) (by omega);have hne:0<x.1.length:=List.length_pos_iff.2 R.2.1;rw[YB (by show 0<x.2/\3<(jd x.2++x.1).length/\(jd x.2++x.1).length<=9;grind)];show some (PS.mk (aB (GM S.B ((bZ 40 S.B).take k)) q (some ((jd x.2++x.1).drop 3,x.2))) (GM S.N ((bZ 24 S.N).take (k - (bZ 40 S.B).length))) (L.take (k - (bZ 40 S.B).length - (bZ 24 S.N).length)) (if (bZ 40 S.B).length+(bZ 24 S.N).length+L.length<k then n else 0))=some (Il S L n (k+1));unfold Il;rw[kaR (by omega),Z9 (by omega),Zg,show ((x.1,x.2):Bk)=x from rfl,<-hx,E5,zf hq,YC (by omega),YC (by omega),show k+1 - (bZ 40 S.B).length=k - (bZ 40 S.B).length by omega]
 ·rw[Zf,Zf,YJ (by omega),Z] at J;by_cases h2:k - (bZ 40 S.B).length<(bZ 24 S.N).length
  ·rw[Yy (by omega)] at J;unfold d6 at J;rw[Zw] at J;obtain ⟨q,hq,rfl⟩:=Ym.1 J;have X:=mem_ids.1 (YW hq);obtain ⟨x,hx⟩:=kaG.1 X.2;have V:gN S.N q=x:=(by unfold gN;rw[hx];rfl);have R:=h.nd q x hx;refine ⟨rfl,?_⟩;rw[V,CT (id:=q) (y:=110) (by omega) rfl rfl];rw[CP rfl];unfold nF;have O:eh 5 (wD x)=some [x.refs,x.k0,x.k1,x.k2,x.k3]/\(wD x).length=15:=by
    have hv:∀v∈ [x.refs,x.k0,x.k1,x.k2,x.k3],0<=v/\v<=999:=by
     grind[kd]
    have h5:=tO (l:=[x.refs,x.k0,x.k1,x.k2,x.k3]) (k:=5) [] rfl hv;rw[kaE] at h5;have e:wD x=[x.refs,x.k0,x.k1,x.k2,x.k3].flatMap jd:=(by simp[wD,kd]);have hl:(wD x).length=15:=by
     simp_all[iN]
    grind[eh]
   show (match eh 5 (wD x) with | some [r,k0,k1,k2,k3]=>_ | _=>_)=_;rw[O.1];simp only;rw[YB (by show 0<x.refs/\(wD x).length=15;exact ⟨by omega,O.2⟩)];show some (PS.mk (GM S.B ((bZ 40 S.B).take k)) (aB (GM S.N ((bZ 24 S.N).take (k - (bZ 40 S.B).length))) q (some x)) (L.take (k - (bZ 40 S.B).length - (bZ 24 S.N).length)) (if (bZ 40 S.B).length+(bZ 24 S.N).length+L.length<k then n else 0))=some (Il S L n (k+1));unfold Il;rw[<-hx,E5,YC (by omega),YC (by omega),show k+1 - (bZ 40 S.B).length=(k - (bZ 40 S.B).length)+1 by omega,zf hq,kaq (l:=bZ 40 S.B) (i:=k) (by omega),kaq (l:=bZ 40 S.B) (i:=k+1) (by omega),show k - (bZ 40 S.B).length+1 - (bZ 24 S.N).length=k - (bZ 40 S.B).length - (bZ 24 S.N).length by omega]
  ·rw[YJ (by omega),hnl] at J;by_cases h3:k - (bZ 40 S.B).length - (bZ 24 S.N).length<L.length
   ·rw[Yy (by simp;omega)] at J;rw[Zw] at J;obtain ⟨x,hx,rfl⟩:=Ym.1 J;have R:=h.p x (YW hx);refine ⟨rfl,?_⟩;rw[CT (id:=x.id) (y:=112) (by omega) rfl rfl];rw[CQ rfl];unfold pF;have O:eh 3 (mM x).val=some [x.disk,x.size,x.root]/\(mM x).val.length=9:=by
     have hv:∀v∈ [x.disk,x.size,x.root],0<=v/\v<=999:=by
      grind
     have h5:=tO (l:=[x.disk,x.size,x.root]) (k:=3) [] rfl hv
     grind[mM,iN,eh]
    rw[O.1];simp only;rw[YB ⟨O.2,by omega⟩];show some (PS.mk (GM S.B ((bZ 40 S.B).take k)) (GM S.N ((bZ 24 S.N).take (k - (bZ 40 S.B).length))) (L.take (k - (bZ 40 S.B).length - (bZ 24 S.N).length)++ [x]) (if (bZ 40 S.B).length+(bZ 24 S.N).length+L.length<k then n else 0))=some (Il S L n (k+1));unfold Il;rw[YC (by omega),YC (by omega),show k+1 - (bZ 40 S.B).length - (bZ 24 S.N).length=(k - (bZ 40 S.B).length - (bZ 24 S.N).length)+1 by omega,zf hx,kaq (l:=bZ 40 S.B) (i:=k) (by omega),kaq (l:=bZ 40 S.B) (i:=k+1) (by omega),kaq (l:=bZ 24 S.N) (i:=k - (bZ 40 S.B).length) (by omega),kaq (l:=bZ 24 S.N) (i:=k+1 - (bZ 40 S.B).length) (by omega)]
   ·rw[YJ (by simp;omega),ZU] at J;have hk0:k - (bZ 40 S.B).length - (bZ 24 S.N).length - L.length=0:=by
     grind
    rw[hk0] at J;injection J with J;subst J;refine ⟨rfl,?_⟩;have Y:Il S L n (k+1)={Il S L n k with n:=n}:=by
     grind[Il,List.take_of_length_le]
    rw[Y];show (if (vq n).key=[120] then xF (Il S L n k) (vq n) else _)=_;rw[YB (show (vq n).key=[120] from rfl)];unfold xF;show (if jd n=[49,48,48,48] then _ else _)=_;by_cases hn:n=1000
    ·grind[Mh]
    ·have hn1:=h.n1;have h3:=iN (n:=n) (by omega);rw[YC (by grind)];show (match eh 1 (jd n) with | some [v]=>if (jd n).length=3 then _ else _ | _=>_)=_;have:=RX (id:=n) (by omega) []
     grind
def nu (N:fU)(F:IM)(o:Bool)(id kind:Int):Bool:=if id=0 then o else o && ((N id).isSome && (decide ((li F id).getD 0=0) || decide ((li F id).getD 0=kind)))
def qh (F:IM)(id kind:Int):IM:=if id=0 then F else Jv F id kind
theorem isR_snoc {L:List Pt}{p:Pt}{q:Int}:mN (L++ [p]) q ↔ mN L q\/(q≠0/\q=p.root):=by
 grind[mN]
def Im (q:Int):¬mN [] q:=λh=>by obtain ⟨_,p,hp,_⟩:=h;cases hp
structure K1 (N:fU) (L:List Pt) (o:Bool) (F:IM):Prop where
 o:o=true ↔ ∀q,mN L q->(N q).isSome=true
 f:∀q,li F q=if mN L q then some 1 else none
def RY (N:fU):K1 N [] true []:=⟨⟨λ_ q h=>absurd h (Im q),λ_=>rfl⟩,λq=>by rw[YC (Im q)];rfl⟩
def Pn {N:fU}{L:List Pt}{o:Bool}{F:IM}(h:K1 N L o F)(p:Pt):K1 N (L++ [p]) (nu N F o p.root 1) (qh F p.root 1):=by
 unfold nu qh;by_cases h0:p.root=0
 ·rw[YB h0,YB h0];have e:∀q,mN (L++ [p]) q ↔ mN L q:=λq=>by
   grind[isR_snoc]
  exact ⟨by rw[h.o];simp only[e],λq=>by rw[h.f];simp only[e]⟩
 ·rw[YC h0,YC h0];have J:(li F p.root).getD 0=0\/(li F p.root).getD 0=1:=by
   rw[h.f]
   grind
  have R:(decide ((li F p.root).getD 0=0) || decide ((li F p.root).getD 0=1))=true:=by
   grind
  rw[R,Bool.and_true];refine ⟨?_,λq=>?_⟩
  ·rw[Yr,h.o];constructor
   ·rintro ⟨h1,O⟩ q hq;rcases isR_snoc.1 hq with hq | ⟨_,rfl⟩
    ·exact h1 q hq
    ·exact O
   ·intro h1;exact ⟨λq hq=>h1 q (isR_snoc.2 (.inl hq)),h1 _ (isR_snoc.2 (.inr ⟨h0,rfl⟩))⟩
  ·rw[uX];by_cases hq:p.root=q
   ·rw[YB hq,YB (isR_snoc.2 (.inr ⟨by rw[<-hq];exact h0,hq.symm⟩))]
   ·rw[YC hq,h.f]
    grind[isR_snoc]
def dn (N:fU)(L:List Pt)(done:List Int)(ks:List Int)(q:Int):Prop:=q≠0/\((∃r m,r∈done/\mN L r/\N r=some m/\q∈kd m)\/q∈ks)
structure KP (N:fU) (L:List Pt):Prop where
 r:∀q,mN L q->(N q).isSome=true
 l:∀q,KF N L q->(N q).isSome=true
 dj:∀q,mN L q->¬KF N L q
structure K2 (N:fU) (L:List Pt) (done ks:List Int) (o:Bool) (F:IM):Prop where
 no:o=false->¬KP N L
 r:o=true->∀q,mN L q->(N q).isSome=true
 l:o=true->∀q,dn N L done ks q->(N q).isSome=true/\¬mN L q
 f1:o=true->∀q,mN L q->li F q=some 1
 f2:o=true->∀q,¬mN L q->dn N L done ks q->li F q=some 2
 f0:o=true->∀q,¬mN L q->¬dn N L done ks q->li F q=none
def Mk (N:fU)(L:List Pt)(q:Int):¬dn N L [] [] q:=λh=>by
 rcases h.2 with ⟨r,m,hr,_⟩ | h
 ·cases hr
 ·cases h
def Ml {N:fU}{L:List Pt}{o:Bool}{F:IM}(h:K1 N L o F):K2 N L [] [] o F:=
 ⟨(λho hk=>by have:=h.o.2 hk.r;rw[this] at ho;cases ho),λho=>h.o.1 ho,λ_ q hq=>absurd hq (Mk N L q),λ_ q hq=>by rw[h.f,YB hq],λ_ q _ hq=>absurd hq (Mk N L q),λ_ q hq _=>by rw[h.f,YC hq]⟩
def Po {N:fU}{L:List Pt}{done:List Int}{id:Int}(h:¬mN L id)(q:Int):dn N L (id::done) [] q ↔ dn N L done [] q:=by
 grind[dn]
theorem GN {N:fU}{L:List Pt}{d O k R:List Int}{o:Bool}{F:IM}(h:K2 N L d k o F)(e:∀q,dn N L O R q ↔ dn N L d k q):K2 N L O R o F:=
 ⟨h.no,h.r,λho q hq=>h.l ho q ((e q).1 hq),h.f1,λho q h1 J=>h.f2 ho q h1 ((e q).1 J),λho q h1 J=>h.f0 ho q h1 λS=>J ((e q).2 S)⟩
theorem CU {N:fU}{L:List Pt}{d J k O:List Int}{F F':IM}(h:K2 N L d k false F):K2 N L J O false F':=
 ⟨h.no,(λh=>by cases h),(λh=>by cases h),(λh=>by cases h),(λh=>by cases h),(λh=>by cases h)⟩
def Pp {N:fU}{L:List Pt}{done:List Int}{id:Int}{o:Bool}{F:IM}(h:K2 N L done [] o F)(hm:(li F id).getD 0≠1):K2 N L (id::done) [] o F:=by
 cases o with
 | false=>exact CU h
 | true=>
  refine GN h (Po λhr=>hm ?_);rw[h.f1 rfl id hr];rfl
def Pq {N:fU}{L:List Pt}{done:List Int}{id:Int}{F:IM}(h:K2 N L done [] true F)(hm:(li F id).getD 0=1):mN L id:=by
 refine Decidable.byContradiction λhr=>?_;by_cases hd:dn N L done [] id
 ·rw[h.f2 rfl id hr hd] at hm;cases hm
 ·rw[h.f0 rfl id hr hd] at hm;cases hm
theorem dn_ks {N:fU}{L:List Pt}{done J:List Int}{k q:Int}:dn N L done (J++ [k]) q ↔ dn N L done J q\/(q≠0/\q=k):=by
 grind[dn]
def RZ {N:fU}{L:List Pt}{done S:List Int}{id k:Int}{m:Nd}{o:Bool}{F:IM}(h:K2 N L done S o F)(hr:o=true->mN L id)(Y:N id=some m)(hk:k∈kd m):K2 N L done (S++ [k]) (nu N F o k 2) (qh F k 2):=by
 cases o with
 | false=>
  grind[nu,CU]
 | true=>
  by_cases h0:k=0
  ·grind[nu,qh,GN,dn_ks]
  ·have V:KF N L k:=⟨h0,id,m,hr rfl,Y,hk⟩;have X:qh F k 2=Jv F k 2:=(by grind[qh]);rw[X];cases hs:nu N F true k 2 with
   | false=>
    refine CU (h:=(⟨λ_ O=>?_,(λh=>by cases h),(λh=>by cases h),(λh=>by cases h),(λh=>by cases h),(λh=>by cases h)⟩:K2 N L done S false F));unfold nu at hs;rw[YC h0,Z0,O.l k V,Z0,kaV] at hs;have J:=λhh=>O.dj k hh V;by_cases hd:dn N L done S k
    ·have:=h.f2 rfl k J hd
     grind
    ·have:=h.f0 rfl k J hd
     grind
   | true=>
    unfold nu at hs;rw[YC h0,Z0,Yr] at hs;have J:¬mN L k:=λhh=>by
     rw[h.f1 rfl k hh] at hs;simp at hs
    refine ⟨(λh=>by cases h),λ_=>h.r rfl,λ_ q hq=>?_,λ_ q hq=>?_,λ_ q h1 hq=>?_,λ_ q h1 hq=>?_⟩
    ·rcases dn_ks.1 hq with hq | ⟨_,rfl⟩
     ·exact h.l rfl q hq
     ·exact ⟨hs.1,J⟩
    ·rw[uX,YC (λe=>J (by rw[e];exact hq))];exact h.f1 rfl q hq
    ·rw[uX];split
     ·rfl
     ·rename_i hne;rcases dn_ks.1 hq with hq | ⟨_,rfl⟩
      ·exact h.f2 rfl q h1 hq
      ·exact absurd rfl hne
    ·have R:¬dn N L done S q/\¬(q≠0/\q=k):=⟨λh=>hq (dn_ks.2 (.inl h)),λh=>hq (dn_ks.2 (.inr h))⟩;rw[uX,YC (λe=>R.2 ⟨by rw[<-e];exact h0,e.symm⟩)];exact h.f0 rfl q h1 R.1
def Pr {N:fU}{L:List Pt}{done:List Int}{id:Int}{m:Nd}{o:Bool}{F:IM}(h:K2 N L done (kd m) o F)(hr:o=true->mN L id)(J:N id=some m):K2 N L (id::done) [] o F:=by
 grind[CU,GN,dn]
def R3 {N:fU}{L:List Pt}{done:List Int}(J:∀r,(N r).isSome=true->r∈done)(q:Int):dn N L done [] q ↔ KF N L q:=by
 grind[dn,KF]
def R4 {N:fU}{L:List Pt}{done:List Int}{o:Bool}{F:IM}(h:K2 N L done [] o F)(Z:∀r,(N r).isSome=true->r∈done)(hs:l9 24 N)(Y:(F.map (·.1)).Nodup):((o && decide ((F.length:Int)=((bZ 24 N).length:Int)))=true ↔ KindsP N L)/\(o=true->∀q,(li F q).getD 0=1 ↔ mN L q):=by
 have J:=R3 (L:=L) Z;cases o with
 | false=>
  refine ⟨⟨(λhh=>by cases hh),λhk=>absurd ⟨hk.r,hk.l,hk.dj⟩ (h.no rfl)⟩,(λhh=>by cases hh)⟩
 | true=>
  have O:∀q,q∈F.map (·.1) ↔ mN L q\/KF N L q:=λq=>by
   rw[<-wX];by_cases hr:mN L q
   ·rw[h.f1 rfl q hr];simp[hr]
   ·by_cases hl:KF N L q
    ·rw[h.f2 rfl q hr ((J q).2 hl)];simp[hl]
    ·rw[h.f0 rfl q hr λhh=>hl ((J q).1 hh)];simp[hr,hl]
  have V:∀q∈F.map (·.1),q∈bZ 24 N:=λq hq=>by
   have S:(N q).isSome=true:=by
    rcases (O q).1 hq with hr | hl
    ·exact h.r rfl q hr
    ·exact (h.l rfl q ((J q).2 hl)).1
   obtain ⟨x,hx⟩:=kaG.1 S;exact mem_ids.2 ⟨hs q x hx,S⟩
  have R:=yg Y (ids_nodup 24 N) V;rw[ZU] at R;refine ⟨?_,λ_ q=>?_⟩
  ·rw[Z0,decide_eq_true_eq];constructor
   ·intro hl;have X:=R.1 (by omega);refine ⟨h.r rfl,λq hq=>(h.l rfl q ((J q).2 hq)).1,λq hr hl=>(h.l rfl q ((J q).2 hl)).2 hr,λq hq=>?_⟩;obtain ⟨x,hx⟩:=kaG.1 hq;exact (O q).1 (X q (mem_ids.2 ⟨hs q x hx,hq⟩))
   ·intro hk;have:=R.2 λq hq=>(O q).2 (hk.all q (mem_ids.1 hq).2);omega
  ·by_cases hr:mN L q
   ·rw[h.f1 rfl q hr];simp[hr]
   ·by_cases hl:KF N L q
    ·rw[h.f2 rfl q hr ((J q).2 hl)];simp[hr]
    ·rw[h.f0 rfl q hr λhh=>hl ((J q).1 hh)];simp[hr]
def cm (F:IM)(c:Int->Int):Prop:=(∀q,(li F q).getD 0=c q)/\(∀q,(li F q).isSome=true ↔ c q≠0)/\∀q,0<=c q
def Mm:cm [] λ_=>0:=⟨λq=>rfl,λq=>by simp[li],λq=>by simp⟩
def GO {F:IM}{c:Int->Int}(h:cm F c)(k:Int):cm (Jv F k (c k+1)) (del c k 1):=by
 obtain ⟨h1,J,O⟩:=h;refine ⟨λq=>?_,λq=>?_,λq=>?_⟩
 ·grind[uX,nW,CD]
 ·grind[uX,nW,CD]
 grind[del]
def Io {F:IM}{c:Int->Int}(h:cm F c):cm (yf F 0) λq=>if q=0 then 0 else c q:=by
 obtain ⟨h1,J,O⟩:=h;refine ⟨λq=>?_,λq=>?_,λq=>?_⟩
 ·grind[Lo]
 ·grind[Lo]
 grind
def cA (l:List Int)(q:Int):Int:=(l.count q:Int)
def R5 (q:Int):cA [] q=0:=rfl
def Ps (l:List Int)(k q:Int):cA (l++ [k]) q=del (cA l) k 1 q:=by
 grind[cA,del]
def tP (l:List Int)(k q:Int):cA (k::l) q=cA l q+if q=k then 1 else 0:=by
 grind[cA]
def QF (l:List Int)(q:Int):0<=cA l q:=by unfold cA;omega
def QG (l:List Int)(q:Int):cA l q<=l.length:=by grind[cA]
def R6 {l:List Int}{q:Int}(h:q≠0):cA l q=jc l q:=by grind[cA,jc]
def R7 (m:Nd)(q:Int):na (some m) q=cA (kd m) q:=by
 unfold kd;simp only[tP,R5,na]
 (repeat' split) <;> omega
def kR (m:Nd)(i:Nat)(q:Int):Int:=cA ((kd m).drop i) q
theorem TJ (m:Nd)(q:Int):kR m 0 q=na (some m) q:=by rw[R7];rfl
theorem TK (m:Nd)(q:Int):kR m 4 q=0:=rfl
theorem TM (m:Nd)(q:Int):∀i,i<4->kR m i q=kR m (i+1) q+if q=bU m i then 1 else 0
 | 0,_=>tP _ _ _
 | 1,_=>tP _ _ _
 | 2,_=>tP _ _ _
 | 3,_=>tP _ _ _
 | i+4,h=>absurd h (by omega)
def TN (m:Nd)(i:Nat)(q:Int):0<=kR m i q:=QF _ _
def fR (N:fU)(L:List Pt)(q:Int)(p:Int×Value):Int:=if mN L p.1 then na (N p.1) q else 0
def fL (N:fU)(L:List Pt)(q:Int)(p:Int×Value):Int:=if mN L p.1 then 0 else na (N p.1) q
def TO (N:fU)(L:List Pt)(q:Int)(p:Int×Value):0<=fR N L q p:=by unfold fR;split;exact yQ _ _;exact kaH _
def TP (N:fU)(L:List Pt)(q:Int)(p:Int×Value):0<=fL N L q p:=by unfold fL;split;exact kaH _;exact yQ _ _
def CV {f:Int×Value->Int}(h:∀p,0<=f p):∀M,0<=oI f M
 | []=>kaH _
 | p::M=>by have:=CV h M;grind[oI]
def CW {N:fU}{f:Int×Value->Int}{A:fU}{q:Int}(h:∀k v,f (k,v)=if (N k).isSome then na (A k) q else f (k,v))(hA:∀k,N k=none->A k=none):∀l:List Nat,oI f (Lg cl l N)=mu A q l
 | []=>rfl
 | k::l=>by
  unfold Lg;rw[List.filterMap_cons];simp only[mu];have J:=CW h hA l;unfold Lg at J;cases hk:N (k:Int) with
  | none=>grind[na]
  | some m=>
   grind[oI]
def TQ (N:fU)(L:List Pt)(q:Int):oI (fR N L q) (tb cl 24 N)=ie (Og N L) q:=by
 refine CW (λk v=>?_) (λk hk=>?_) _
 ·grind[fR,na,Og]
 grind[Og]
def TR (N:fU)(L:List Pt)(q:Int):oI (fL N L q) (tb cl 24 N)=ie (Ig N L) q:=by
 refine CW (λk v=>?_) (λk hk=>?_) _
 ·grind[fL,na,Ig]
 grind[Ig]
structure Cnt (N:fU) (L:List Pt) (rest:MM) (c1 c2:Int->Int):Prop where
 r:∀q,c1 q+oI (fR N L q) rest=cA (L.map (·.root)) q+ie (Og N L) q
 l:∀q,c2 q+oI (fL N L q) rest=ie (Ig N L) q
structure Cni (N:fU) (L:List Pt) (rest:MM) (id:Int) (m:Nd) (i:Nat) (c1 c2:Int->Int):Prop where
 r:∀q,c1 q+(if mN L id then kR m i q else 0)+oI (fR N L q) rest=cA (L.map (·.root)) q+ie (Og N L) q
 l:∀q,c2 q+(if mN L id then 0 else kR m i q)+oI (fL N L q) rest=ie (Ig N L) q
def J9 {N:fU}{L:List Pt}:Cnt N L (tb cl 24 N) (cA (L.map (·.root))) λ_=>0:=⟨λq=>by rw[TQ],λq=>by rw[TR,Int.zero_add]⟩
def R8 {N:fU}{L:List Pt}{rest J:MM}{id:Int}{v:Value}{m:Nd}{c1 c2:Int->Int}(h:Cnt N L rest c1 c2)(hp:rest.Perm ((id,v)::J))(hm:N id=some m):Cni N L J id m 0 c1 c2:=by
 refine ⟨λq=>?_,λq=>?_⟩
 ·have:=h.r q;rw[AO hp] at this
  grind[oI,fR,TJ]
 ·have:=h.l q;rw[AO hp] at this
  grind[oI,fL,TJ]
def TS {N:fU}{L:List Pt}{rest:MM}{id:Int}{m:Nd}{i:Nat}{c1 c2:Int->Int}(h:Cni N L rest id m i c1 c2)(hi:i<4)(hr:mN L id):Cni N L rest id m (i+1) (del c1 (bU m i) 1) c2:=by
 refine ⟨λq=>?_,λq=>?_⟩
 ·have:=h.r q
  grind[TM,del]
 ·have:=h.l q
  grind
def TU {N:fU}{L:List Pt}{rest:MM}{id:Int}{m:Nd}{i:Nat}{c1 c2:Int->Int}(h:Cni N L rest id m i c1 c2)(hi:i<4)(hr:¬mN L id):Cni N L rest id m (i+1) c1 (del c2 (bU m i) 1):=by
 refine ⟨λq=>?_,λq=>?_⟩
 ·have:=h.r q
  grind
 ·have:=h.l q
  grind[TM,del]
def Pu {N:fU}{L:List Pt}{rest:MM}{id:Int}{m:Nd}{c1 c2:Int->Int}(h:Cni N L rest id m 4 c1 c2):Cnt N L rest c1 c2:=by
 refine ⟨λq=>?_,λq=>?_⟩
 ·have:=h.r q
  grind[TK]
 ·have:=h.l q
  grind[TK]
def Mn {N:fU}{L:List Pt}{rest:MM}{id:Int}{m:Nd}{i:Nat}{c1 c2:Int->Int}(h:Cni N L rest id m i c1 c2)(hl:L.length<=6)(q:Int):c1 q<=102/\c2 q<=96:=by
 have h1:=h.r q;have J:=h.l q;have O:=CV (λp=>TO N L q p) rest;have R:=CV (λp=>TP N L q p) rest;have S:=TN m i q;have V:=QG (L.map (·.root)) q;have X:=CA (Og N L) q;have Y:=CA (Ig N L) q
 grind
def Pv {N:fU}{L:List Pt}{c1 c2:Int->Int}(h:Cnt N L [] c1 c2):(∀q,c1 q=cA (L.map (·.root)) q+ie (Og N L) q)/\∀q,c2 q=ie (Ig N L) q:=by
 refine ⟨λq=>?_,λq=>?_⟩
 ·have:=h.r q;grind[oI]
 ·have:=h.l q;grind[oI]
def Bj {N:fU}{L:List Pt}{c1 c2:Int->Int}(h:Cnt N L [] c1 c2){q:Int}(h0:q≠0):(λq=>if q=0 then 0 else c1 q) q=cN N L q/\(λq=>if q=0 then 0 else c2 q) q=ie (Ig N L) q:=by
 obtain ⟨h1,J⟩:=Pv h;simp only;rw[YC h0,YC h0,h1,J,R6 h0];exact ⟨rfl,rfl⟩
def qZ {B:pN}{N:fU}{L:List Pt}{c1 c2:Int->Int}{F:IM}(h:Cnt N L [] c1 c2)(hz:∀q m,N q=some m->¬fc m)(hn:∀q m,N q=some m->(λq=>if q=0 then 0 else c1 q) q=m.refs)(hb:∀q x,B q=some x->(λq=>if q=0 then 0 else c2 q) q=x.2)(X:l9 40 B)(hN:l9 24 N)(Y:∀q x,B q=some x->0<x.2)(S:cm F λq=>if q=0 then 0 else c2 q)(hd:(F.map (·.1)).Nodup):(decide ((F.length:Int)=((bZ 40 B).length:Int))=true) ↔ CountP B N L:=by
 have O:∀q∈bZ 40 B,q∈F.map (·.1):=λq hq=>by
  have V:=mem_ids.1 hq;obtain ⟨x,hx⟩:=kaG.1 V.2;rw[<-wX,S.2.1]
  grind
 have J:=yg (ids_nodup 40 B) hd O;rw[ZU] at J;rw[decide_eq_true_eq];constructor
 ·intro e;have Z:=J.1 (by omega);refine ⟨hz,λq m hm=>?_,λq x hx=>?_,λq h0 hq=>?_⟩
  ·rw[<-(Bj h (by have:=hN q m hm;omega)).1];exact hn q m hm
  ·rw[<-(Bj h (by have:=X q x hx;omega)).2];exact hb q x hx
  ·have R:q∈F.map (·.1):=by
    rw[<-wX,S.2.1,(Bj h h0).2];exact hq
   exact (mem_ids.1 (Z q R)).2
 ·intro hc;have:=J.2 λq hq=>by
   rw[<-wX,S.2.1] at hq;by_cases h0:q=0
   ·grind
   ·rw[(Bj h h0).2] at hq;have R:=hc.all q h0 hq;obtain ⟨x,hx⟩:=kaG.1 R;exact mem_ids.2 ⟨X q x hx,R⟩
  omega
def oY {B:pN}{N:fU}{L:List Pt}{c1 c2:Int->Int}(h:Cnt N L [] c1 c2)(J:l9 24 N){q:Int}{m:Nd}(hm:N q=some m)(hne:(λq=>if q=0 then 0 else c1 q) q≠m.refs):¬CountP B N L:=λO=>hne (by
 rw[(Bj h (by have:=J q m hm;omega)).1];exact O.n q m hm)
def oZ {B:pN}{N:fU}{L:List Pt}{c1 c2:Int->Int}(h:Cnt N L [] c1 c2)(J:l9 40 B){q:Int}{x:Bk}(hx:B q=some x)(hne:(λq=>if q=0 then 0 else c2 q) q≠x.2):¬CountP B N L:=λO=>hne (by
 rw[(Bj h (by have:=J q x hx;omega)).2];exact O.b q x hx)
open _root_.Go.Proofs.Tryz
def R9 (l:List Pt)(id:Int){i:Nat}(O:∀j,j<i->∀t,l[j]? =some t->t.id≠id){s:Pt}(hs:l[i]? =some s)(he:s.id=id):(l.take (i+1)).filter (λx=>!decide (x.id=id))=l.take i:=by
 have hi:=(Yh.1 hs).1;rw[kaU,hs,ZR];have h1:(l.take i).filter (λx=>!decide (x.id=id))=l.take i:=ZM.2 λa J=>by
  obtain ⟨j,hj,rfl⟩:=kaW.1 J
  grind
 rw[h1];simp[he]
structure Dl (l R:List Pt) (id:Int) (w j:Nat):Prop where
 len:R.length=l.length
 lj:j<=l.length
 lw:w<=j
 pre:R.take w=(l.take j).filter λx=>!decide (x.id=id)
 suf:R.drop j=l.drop j
def QH {l R:List Pt}{id:Int}{w j:Nat}(h:Dl l R id w j){x:Pt}(hx:R[j]? =some x):l[j]? =some x:=by
 have h1:(R.drop j)[0]? =some x:=(by simpa using hx);rw[h.suf] at h1;simpa using h1
def Pw {l R:List Pt}{id:Int}{w j:Nat}(h:Dl l R id w j){x:Pt}(hx:R[j]? =some x)(J:x.id=id):Dl l R id w (j+1):=by
 have hl:=QH h hx;have hj:=(Yh.1 hl).1;refine ⟨h.len,hj,by have:=h.lw;omega,?_,?_⟩
 ·rw[kaU,hl,ZR,h.pre];simp[J]
 ·rw[<-kaQ,<-kaQ,h.suf]
def Px {l R:List Pt}{id:Int}{w j:Nat}(h:Dl l R id w j)(S:w<j){x:Pt}(hx:R[j]? =some x)(O:x.id≠id):Dl l (R.set w x) id (w+1) (j+1):=by
 have hl:=QH h hx;have hj:=(Yh.1 hl).1;have J:=h.len;refine ⟨by simp[J],hj,by omega,?_,?_⟩
 ·rw[kaU (l:=l),hl,ZR,<-h.pre,kaU,kaX (Yf _),Ys (by omega)];simp[O]
 ·rw[kaY (by omega),<-kaQ,<-kaQ,h.suf]
def Mo {l R:List Pt}{id:Int}{w:Nat}(h:Dl l R id w l.length):R.take w=l.filter λx=>!decide (x.id=id):=by rw[h.pre,Y3]
def E6 {l:List Pt}{id:Int}(O:∀j,j<l.length->∀t,l[j]? =some t->t.id≠id):l.filter (λx=>!decide (x.id=id))=l:=ZM.2 λa J=>by
 obtain ⟨j,hj,rfl⟩:=kaW.1 J
 simp_all
def Ip {l:List Pt}{id:Int}(h:GH l id<0):∀j,j<l.length->∀t,l[j]? =some t->t.id≠id:=λj hj t ht he=>by
 unfold GH at h;split at h
 ·omega
 ·rename_i hl;exact hl (kaM ⟨t,YW ht,by simpa using he⟩)
def Mp {l:List Pt}{id:Int}(h:GH l id<0):GH l id= -1:=tL (Ip h)
def Mq {l:List Pt}{id:Int}{i:Nat}(J:∀j,j<i->∀t,l[j]? =some t->t.id≠id){s:Pt}(hs:l[i]? =some s)(he:s.id=id):Dl l l id i (i+1):=
 ⟨rfl,(Yh.1 hs).1,by omega,(R9 l id J hs he).symm,rfl⟩
def Py (l:List Pt)(w:Nat)(x:Pt):(fE l).set w (aY x)=fE (l.set w x):=by simp[fE,Y1]
def Mr (l:List Pt)(w:Nat):(fE l).take w=fE (l.take w):=by simp[fE,kaZ]
def UI (x:Nat)(w:World):(Instr.build 123 #[(0,ptr x 0),(2,I 1)]).run Tryz.prog w= .ok (.agg #[ptr x 0,sl none 0 0,I 1]) w:=by
 simp[Instr.build,X0,X4,Vb,VK,Vx,Instr.fill,bB,show (I 1).cells=#[I 1] from rfl,show (ptr x 0).cells=#[ptr x 0] from rfl,sl]
def TV (x:Nat)(s:Option Addr)(n c:Nat)(k:Int)(w:World):(Instr.build 123 #[(0,ptr x 0),(1,sl s n c),(2,I k)]).run Tryz.prog w= .ok (.agg #[ptr x 0,sl s n c,I k]) w:=by
 simp[Instr.build,X0,X4,Vb,VK,Vx,Instr.fill,bB,show (I k).cells=#[I k] from rfl,show (ptr x 0).cells=#[ptr x 0] from rfl,show (sl s n c).cells=#[sl s n c] from rfl]
def Ms (a b c d:Int)(w:World):(Instr.build 162 #[(0,I a),(1,I b),(2,I c),(3,I d)]).run Tryz.prog w= .ok (.agg (aY ⟨a,b,c,d⟩).toArray) w:=by
 simp[Instr.build,VJ,Yd,Vb,Instr.fill,bB,show ∀k:Int,(I k).cells=#[I k] from λ_=>rfl]
def Mt (w:World):(Instr.build 162 #[]).run Tryz.prog w= .ok (.agg (aY i6).toArray) w:=by
 simp[Instr.build,VJ,Yd,Instr.fill,bB,i6]
def iO {α:Type}{l:List α}{k:Nat}{x:α}(h:l[k]? =some x):l.drop k=x::l.drop (k+1):=by
 grind[List.drop_eq_getElem_cons]
def o9 {a m:Nat}(h:a<m):List.range' a (m - a)=a::List.range' (a+1) (m - (a+1)):=by
 rw[show m - a=(m - (a+1))+1 by omega,List.range'_succ]
def Bl {a m:Nat}(h:m<=a):List.range' a (m - a)=[]:=by grind
def zg (x:Pt)(q:Nat)(id:Int)(F:List ag):Ct Tryz.prog 166 [.agg (aY x).toArray,ptr q 0] (pt q (.cells #[I id] 3 (0,0))::F) (R1 (Bo (decide (x.id=id))) (pt q (.cells #[I id] 3 (0,0))::F)):=by
 refine Ct.of func166 rR 8 ntmps166 (by simp) λw0=>?_;refine gS (gI (di (aY x).toArray) ?_);rintro _ _ ⟨J,rfl,rfl⟩;refine gQ (gS (gF 0 VC rR Vb (gL (I x.id) Vc (gL (I id) Vc (gV bT (gQ ?_))))));refine ao rR rR ?_;exact rfl
def qi (x:Pt)(q:Nat)(id:Int)(F:List ag):Ct Tryz.prog 198 [.agg (aY x).toArray,ptr q 0] (pt q (.cells #[I id] 3 (0,0))::F) (R1 (Bo (decide (x.id=id))) (pt q (.cells #[I id] 3 (0,0))::F)):=by
 refine Ct.of func198 rR 8 ntmps198 (by simp) λw0=>?_;refine gS (gI (di (aY x).toArray) ?_);rintro _ _ ⟨J,rfl,rfl⟩;refine gQ (gS (gF 0 VC rR Vb (gL (I x.id) Vc (gL (I id) Vc (gV bT (gQ ?_))))));refine ao rR rR ?_;exact rfl
def rj (l:List Pt)(s:Option Addr)(c q:Nat)(id:Int)(hl:l.length<=1000000)(F:List ag):Ct Tryz.prog 165 [sl s l.length c, .func (.func 166) #[] #[ptr q 0]] (bi 162 4 s c (fE (l))::pt q (.cells #[I id] 3 (0,0))::F) (R1 (I (GH l id)) (bi 162 4 s c (fE (l))::pt q (.cells #[I id] 3 (0,0))::F)):=by
 refine Ct.of func165 rR 19 ntmps165 (by simp) λw0=>?_;refine gS (gQ (ac (gS (gM (gV (aX Vv) (gM (ab (al ?_))))))));refine aM (α:=Nat) (λk=>k<=l.length/\∀j,j<k->∀t,l[j]? =some t->t.id≠id) (λk=>U [(0,sl s l.length c),(1, .func (.func 166) #[] #[ptr q 0]),(7,I l.length),(8,I k)]) (λ_=>bi 162 4 s c (fE (l))::pt q (.cells #[I id] 3 (0,0))::F) (λk=>l.length - k) 0 ⟨by simp,λj hj=>absurd hj (by omega)⟩ [0,1,7,8] rfl ?_;rintro k ⟨hk,R⟩;refine gS (gV aI (ab (ac ?_)));apply ah<;>intro S
 ·simp at S;have O:k<l.length:=(by omega);obtain ⟨x,hx⟩:∃x,l[k]? =some x:=⟨_,Zu O⟩;refine ai (ac (al (gS (gM (gQ (gS (gM (gM (gM (gV (ay (k) Vv Vk O (by rw[cQ];exact O)) (gV (bJ (row:=aY x) Wp Vk (gC hx)) ?_)))))))))));refine gI (fW (fi:=[]) (cap:=[ptr q 0]) (Pre:=[pt q (.cells #[I id] 3 (0,0))]) call166 rR rR (zg x q id)) ?_;rintro _ _ ⟨rfl,rfl⟩;refine ab ?_;apply ah<;>intro J
  ·simp at J;refine gS (gM (gQ ?_));refine ao rR rR ?_;show I _=I _;rw[xq R hx J]
  ·simp at J;refine ai (aG (am (gP (gM (ab ?_)))));exact ap (k+1) ⟨by omega,λj hj t ht=>by
    rcases YL j k with h | h
    ·exact R j h t ht
    ·obtain rfl:j=k:=(by omega);rw[hx] at ht;injection ht with ht;rw[<-ht];exact J⟩ (by omega) [0,1,7,8] rfl
 ·simp at S;obtain rfl:k=l.length:=(by omega);refine aF ?_;refine gS (gQ ?_);refine ao rR rR ?_;show I _=I _;rw[tL R]
def rl (l:List Pt)(s:Option Addr)(c q:Nat)(id:Int)(hl:l.length<=1000000)(F:List ag):Ct Tryz.prog 165 [sl s l.length c, .func (.func 198) #[] #[ptr q 0]] (bi 162 4 s c (fE (l))::pt q (.cells #[I id] 3 (0,0))::F) (R1 (I (GH l id)) (bi 162 4 s c (fE (l))::pt q (.cells #[I id] 3 (0,0))::F)):=by
 refine Ct.of func165 rR 19 ntmps165 (by simp) λw0=>?_;refine gS (gQ (ac (gS (gM (gV (aX Vv) (gM (ab (al ?_))))))));refine aM (α:=Nat) (λk=>k<=l.length/\∀j,j<k->∀t,l[j]? =some t->t.id≠id) (λk=>U [(0,sl s l.length c),(1, .func (.func 198) #[] #[ptr q 0]),(7,I l.length),(8,I k)]) (λ_=>bi 162 4 s c (fE (l))::pt q (.cells #[I id] 3 (0,0))::F) (λk=>l.length - k) 0 ⟨by simp,λj hj=>absurd hj (by omega)⟩ [0,1,7,8] rfl ?_;rintro k ⟨hk,R⟩;refine gS (gV aI (ab (ac ?_)));apply ah<;>intro S
 ·simp at S;have O:k<l.length:=(by omega);obtain ⟨x,hx⟩:∃x,l[k]? =some x:=⟨_,Zu O⟩;refine ai (ac (al (gS (gM (gQ (gS (gM (gM (gM (gV (ay (k) Vv Vk O (by rw[cQ];exact O)) (gV (bJ (row:=aY x) Wp Vk (gC hx)) ?_)))))))))));refine gI (fW (fi:=[]) (cap:=[ptr q 0]) (Pre:=[pt q (.cells #[I id] 3 (0,0))]) call198 rR rR (qi x q id)) ?_;rintro _ _ ⟨rfl,rfl⟩;refine ab ?_;apply ah<;>intro J
  ·simp at J;refine gS (gM (gQ ?_));refine ao rR rR ?_;show I _=I _;rw[xq R hx J]
  ·simp at J;refine ai (aG (am (gP (gM (ab ?_)))));exact ap (k+1) ⟨by omega,λj hj t ht=>by
    rcases YL j k with h | h
    ·exact R j h t ht
    ·obtain rfl:j=k:=(by omega);rw[hx] at ht;injection ht with ht;rw[<-ht];exact J⟩ (by omega) [0,1,7,8] rfl
 ·simp at S;obtain rfl:k=l.length:=(by omega);refine aF ?_;refine gS (gQ ?_);refine ao rR rR ?_;show I _=I _;rw[tL R]
def wm (l:List Pt)(s:Option Addr)(c:Nat)(hl:l.length<=1000000)(F:List ag):Ct Tryz.prog 140 [sl s l.length c] (bi 162 4 s c (fE (l))::F) (ww 162 4 l.length (fE l) (bi 162 4 s c (fE (l))::F)):=by
 refine Ct.of func140 rR 8 ntmps140 (by simp) λw0=>?_;refine BR (φ:=s=none->l=[]) (λw S hn=>by
  rcases dz S with ⟨_,h,_,_⟩ | ⟨b,cs,h,_⟩
  ·exact List.map_eq_nil_iff.1 h
  ·rw[hn] at h;cases h) (λJ=>?_)
 refine gS (gQ (ac (gS (gM (gV (Gb Vv rR) (ab ?_))))));apply ah<;>intro R
 ·have O:=J (by simpa using R);subst O;refine bH 162 4 (fE []) ?_;refine gS (gQ ?_);exact df rfl rfl rfl rfl
 ·refine ai (gS (gI (xO Vv Vk) ?_));rintro _ _ ⟨V,rfl,rfl⟩;refine gM (gI (bo Vv Vk VJ Tryz.typeInfo162 (hm:=by exact cQ l) (by simp[fE]) (by simp[fE,Go.Sl.ones,Go.Sl.one]) ⟨by omega,by decide,by decide⟩) ?_);rintro _ _ ⟨Y,X,rfl,rfl⟩;rw[YR];simp only[Zg];refine gQ ?_;exact df rfl rfl rfl rfl
def CX (F:List ag):Ct Tryz.prog 105 [] (F) (λv L'=>∃b,v=ptr b 0/\L'=gO b (bu gZ) [] 1::F):=by
 refine Ct.of func105 rR 4 ntmps105 (by simp) λw0=>?_;refine gS (gQ (gS (gI (uA call118 (tG)) ?_)));rintro _ _ ⟨x,rfl,rfl⟩;rw[<-Tw];refine gV (aR (UI x)) (gI (di #[ptr x 0,sl none 0 0,I 1]) ?_);rintro _ _ ⟨J,rfl,rfl⟩;refine gQ ?_;refine bH 162 4 (fE []) ?_;refine cC J x none 0 (bu gZ) [] 1 ?_;exact λa w O R=>wp_ret (bX (aW (vs:=[ptr J 0]) rfl O R ⟨J,rfl,rfl⟩))
def dC (b:Nat)(S:SI)(L:List Pt)(n:Int)(id:Int)(hl:L.length<=1000000)(F:List ag):Ct Tryz.prog 92 [ptr b 0,I id] (gO b S L n::F) (R1 (.tuple #[.agg (aY ((bg L id).getD i6)).toArray,Bo (bg L id).isSome]) (gO b S L n::F)):=by
 refine Ct.of func92 rR 23 ntmps92 (by simp) λw0=>?_;refine ik b S L n ?_;intro x s c;refine gS (gI (di #[I id]) ?_);rintro _ _ ⟨V,rfl,rfl⟩;refine gI (aO #[I 0,I 0,I 0,I 0] VJ) ?_;rintro _ _ ⟨Y,rfl,rfl⟩;refine gQ (gS (gM (gV aa (gF 1 Vr rR Vx (gL (sl s (L).length c) VM (gV fK (gR (vC call165 (rj L s c V id hl)) (gQ (ac (gS (gM (gV aI (ab ?_)))))))))))));apply ah<;>intro J
 ·simp at J;have R:bg L id=none:=yX J;rw[R];refine gS (gV (aR Mt) (gU (ax (cs:=#[I 0,I 0,I 0,I 0]) (vs:=aY (i6)) (aY (i6)).toArray Vk (by simp) (hcs:=by exact aJ)) (gQ ?_)));refine cC b x s c (S) (L) (n) ?_;exact mV (aY i6) rfl rfl rfl rfl Wp Vk rfl bp
 ·simp at J;obtain ⟨i,p,hi,hp,X,O,R,_⟩:=CM (l:=L) (id:=id) (by omega);rw[hi,R];refine ai (gS (gM (gV aa (gF 1 Vr rR Vx (gL (sl s (L).length c) VM (gM (gV (ay (i) Vv Vk O (by rw[cQ];exact O)) (gV (bJ (row:=aY p) Wp Vk (gC hp)) (gU (ax (cs:=#[I 0,I 0,I 0,I 0]) (vs:=aY (p)) (aY (p)).toArray Vk (by simp) (hcs:=by exact aJ)) (gQ ?_))))))))));refine cC b x s c (S) (L) (n) ?_;exact mV (aY p) rfl rfl rfl rfl Wp Vk rfl bp
def mA (b:Nat)(S:SI)(L:List Pt)(n:Int)(disk size root:Int)(hl:L.length<=6)(hn: -9223372036854775808<=n/\n<=1000000)(F:List ag):Ct Tryz.prog 171 [ptr b 0,I disk,I size,I root] (gO b S L n::F) (R1 (.tuple #[I (jp L n),fv 117 (fg L n)]) (gO b S (jw L n disk size root) (nZ L n)::F)):=by
 refine Ct.of func171 rR 51 ntmps171 (by simp) λw0=>?_;refine ik b S L n ?_;intro x s c;refine gS (gA (gQ (ac (gS (gM (gV aa (gF 1 Vr rR Vx (gL (sl s (L).length c) VM (gV (aX Vv) (gV bT (gM (gK aq (gK aa (gK (aw 2 Vr rR Vb) (gK (az (v:=I n) Vc) (gK aT (gV cu (ab ?_))))))))))))))))));apply ah<;>intro R
 ·simp at R;have J:fg L n=8:=(by unfold fg;rw[YB (by omega)]);refine gS (gV (aZ Vn) (gA (gQ ?_)));rw[J,show jp L n=0 by unfold jp;rw[YC (by omega)],show jw L n disk size root=L by unfold jw;rw[YC (by omega)],show nZ L n=n by unfold nZ;rw[YC (by omega)]];refine cC b x s c (S) (L) (n) ?_;exact ao rfl rfl rfl
 ·simp at R;have J:fg L n=0:=(by unfold fg;rw[YC (by omega)]);refine ai (gS (gM (gV aa (gF 2 Vr rR Vb (gL (I n) Vc (gQ (gS (gM (gV aa (gF 2 Vr rR Vb (gL (I n) Vc (gP (gV aa (gF 2 Vr rR Vb (gU (aK #[ptr x 0,sl s L.length c,I (n+1)] Vb (by simp)) (ab (gS (gM (gM (gV aa (gF 1 Vr rR Vx (gL (sl s (L).length c) VM (gM (gM (gM (gM (gV (aR (Ms n disk size root)) (gI (av [aY ⟨n,disk,size,root⟩] Vv Vk VJ (by simp)) ?_))))))))))))))))))))))))))));rintro _ _ ⟨X,rfl,rfl⟩;refine gI (bo Vv Vk VJ Tryz.typeInfo162 (hn:=by exact cQ _) (by simp) (by simp[Go.Sl.ones,Go.Sl.one]) ⟨by omega,by decide,by decide⟩) ?_;rintro _ _ ⟨V,O,rfl,rfl⟩;rw[show fE L++ [aY ⟨n,disk,size,root⟩]=fE (L++ [⟨n,disk,size,root⟩]) by simp[fE]];refine gV aa (gF 1 Vr rR Vx (gU (aK #[ptr x 0,sl V (L.length+1) O,I (n+1)] Vx (by simp)) (ab (gS (gM (gA (gQ ?_)))))));rw[J,show jp L n=n by unfold jp;rw[YB J],show jw L n disk size root=L++ [⟨n,disk,size,root⟩] by unfold jw;rw[YB J],show nZ L n=n+1 by unfold nZ;rw[YB J],show L.length+1=(L++ [(⟨n,disk,size,root⟩:Pt)]).length by simp];refine cC b x V O (S) (L++ [⟨n,disk,size,root⟩]) (n+1) ?_;exact ao rfl rfl rfl
def rn (b:Nat)(S:SI)(L:List Pt)(n:Int)(base disk size:Int)(G0:Gh)(hV:Vok S L n G0)(hsz:1<=size/\size<=16)(F:List ag):Ct Tryz.prog 168 [ptr b 0,I base,I disk,I size] (gO b S L n::F) (vR gO (fv 117) b F (y5 S L n base disk size)):=by
 have hok:=kM hV;have hll:=hV.len;have hrl:(L.map (·.root)).length<=8:=(by simp;omega);refine Ct.of func168 rR 67 ntmps168 (by simp) λw0=>?_;refine gS (gA (gQ (ac (gS (gM (gV bT (ab ?_)))))));apply ah<;>intro J
 ·simp at J;refine gS (gA (gQ ?_));exact nc (S:=S) (P:=L) (n:=n) rfl (by unfold y5 iC;rw[YB J]) rfl rfl
 ·simp at J;refine ai (gS (gM (gM (gR (vB call92 (dC b S L n base (by omega))) (gM (gX (.agg (aY ((bg L base).getD i6)).toArray) (gX (Bo (bg L base).isSome) (gI (aO #[I 0,I 0,I 0,I 0] VJ) ?_))))))));rintro _ _ ⟨Z,rfl,rfl⟩;refine gU (ax (cs:=#[I 0,I 0,I 0,I 0]) (vs:=aY (((bg L base).getD i6))) (aY (((bg L base).getD i6))).toArray Vk (by simp) (hcs:=by exact aJ)) (gQ (ac (gS (gM (gV cE (ab ?_))))));apply ah<;>intro X
  ·simp at X;refine gS (gV (aZ Vn) (gA (gQ ?_)));exact ey rfl (by unfold y5 iC;rw[YC J,X]) rfl rfl
  ·simp at X;obtain ⟨p,hf⟩:=kaG.1 X;have hpm:=dS hf;have hps:=hV.pts p hpm.1;rw[show (bg L base).getD i6=p by rw[hf];rfl];refine ai (ac (gS (gF 1 VC rR Vb (gL (I p.disk) Vc (gM (gV fZ (ab ?_)))))));apply ah<;>intro h30
   ·simp at h30;refine gS (gV (aZ Vn) (gA (gQ ?_)));exact ey rfl (by unfold y5 iC;rw[YC J,hf];simp only;rw[YB h30]) rfl rfl
   ·simp at h30;refine ai (ac ?_);refine ik b S L n ?_;intro x s c;refine cO (Lf:=[pt b (.cells #[ptr x 0,sl s (L).length c,I (n)] 123 (0,0)),pt Z (.cells (aY (p)).toArray 162 (0,0))]) jD ?_;refine dM rR (dV rR aa (dF rR 0 Vr rR VK (dL rR (ptr x 0) VN (dF rR 3 VC rR Vb (dL rR (I p.root) Vc (d7 rR (uB call196 (lb x S p.root 200 hok (by decide) (qe hV.rt.V (mK hV.rt (eJ hf))).2)) ?_))))));rintro _ _ ⟨rfl,rfl⟩;obtain ⟨G1,Y,hR1,_⟩:=qf hV.rt (eJ hf);have Y:eI S p.root=bu G1:=(by rw[hV.e];exact Y);rw[Y];refine dV rR aD ?_;refine aP ?_;refine ac (gS (gM (gQ ?_)));obtain ⟨sz,rfl⟩:∃k:Nat,size=k:=⟨size.toNat,by omega⟩;refine al ?_;refine aM (α:=Nat×Gh×Int) (λz=>z.1<=16/\Rt z.2.1 (z.2.2::L.map (·.root))/\nt (bu z.2.1,z.2.2) (List.range' z.1 (p.size.toNat - z.1))=nt (eI S p.root,p.root) (List.range' sz (p.size.toNat - sz))) (λz=>U [(0,ptr b 0),(10,ptr Z 0),(12,I z.2.2),(13,I z.1)]) (λz=>pt Z (.cells (aY (p)).toArray 162 (0,0))::pt b (.cells #[ptr x 0,sl s (L).length c,I (n)] 123 (0,0))::kK x (bu z.2.1)::bi 162 4 s c (fE (L))::F) (λz=>16 - z.1) (sz,G1,p.root) ⟨by simp only[];omega,hR1,by rw[Y]⟩ [0,10,12,13] rfl ?_;rintro ⟨a,G,root⟩ ⟨ha,hR,O⟩;simp only[] at ha hR O ⊢;refine ac (gS (gM (gF 2 VC rR Vb (gL (I p.size) Vc (gV aI (ab ?_))))));apply ah<;>intro h43
    ·simp at h43;refine ai (ac (al (gS (gM (gV aa (gF 0 Vr rR VK (gL (ptr x 0) VN (gM (gM (gR (vB call169 (mr x (bu G) root a [] 200 (J0 hR (by simp;omega)) (by decide) (by omega) (by decide) (xo hR.V (mK hR (by simp))))) (gM (gX (I (dH (bu G) root a []).1) (gX (fv 117 (dH (bu G) root a []).2) (gA (gQ (ac (gS (gM (gV (ck Vl) (ab ?_))))))))))))))))))));apply ah<;>intro R
     ·simp at R;refine gS (gM (gA (gQ ?_)));exact ey rfl (by
       unfold y5 iC;rw[YC J,hf];simp only;rw[YC (by omega),kag,<-O,o9 (by omega)];simp only[nt,put1];rw[YC R]) rfl rfl
     ·simp at R;obtain ⟨G1,G2,hu1,o1,r1,v1,hu2,hR2,_,_⟩:=nb hR hrl (by omega) R;rw[hu1];refine ai (gS (gM (gV aa (gF 0 Vr rR VK (gL (ptr x 0) VN (gM (gR (vB call170 (iZ x (bu G1) root 200 o1 (by decide))) (ab (am (gM (gQ (aG (am (gM (gP (gQ ?_))))))))))))))));rw[hu2];exact ap (a+1,G2,(dH (bu G) root a []).1) ⟨by simp only[];omega,hR2,by
       rw[<-O,o9 (a:=a) (m:=p.size.toNat) (by omega)];simp only[nt,put1];rw[YB R,hu1,hu2]⟩ (by simp only[];omega) [0,10,12,13] rfl
    ·simp at h43;refine aF ?_;refine gS (gM (gA (gQ ?_)));refine cC b x s c (bu G) (L) (n) ?_;exact nc (S:=bu G) (P:=L) (n:=n) rfl (by
      unfold y5 iC;rw[YC J,hf];simp only;rw[YC (by omega),kag,<-O,Bl (by omega)];simp only[nt]) rfl rfl
def lQ {l:List Pt}{k:Nat}{x:Pt}(disk:Int)(hx:l[k]? =some x):((l.take (k+1)).filter λp=>decide (p.disk=disk)).map (·.id)=((l.take k).filter λp=>decide (p.disk=disk)).map (·.id)++if x.disk=disk then [x.id] else []:=by
 grind[List.take_add_one]
def tQ (l:List Pt)(k:Nat)(disk:Int):(((l.take k).filter λp=>decide (p.disk=disk)).map (·.id)).length<=l.length:=by
 grind
def qj (b:Nat)(S:SI)(L:List Pt)(n:Int)(id:Int)(Z:Gh)(R:Vok S L n Z)(F:List ag):Ct Tryz.prog 122 [ptr b 0,I id] (gO b S L n::F) (vR gO (fv 117) b F (lM S L n id)):=by
 have hok:=kM R;have hll:=R.len;have hn1:=R.n1;refine Ct.of func122 rR 41 ntmps122 (by simp) λw0=>?_;refine gS (gA (gQ (gS (gM (gM (gR (vB call92 (dC b S L n id (by omega))) (gM (gX (.agg (aY ((bg L id).getD i6)).toArray) (gX (Bo (bg L id).isSome) (gI (aO #[I 0,I 0,I 0,I 0] VJ) ?_))))))))));rintro _ _ ⟨b6,rfl,rfl⟩;refine gU (ax (cs:=#[I 0,I 0,I 0,I 0]) (vs:=aY (((bg L id).getD i6))) (aY (((bg L id).getD i6))).toArray Vk (by simp) (hcs:=by exact aJ)) (gQ (ac (gS (gM (gV cE (ab ?_))))));apply ah<;>intro O
 ·simp at O;refine gS (gV (aZ Vn) (gA (gQ ?_)));exact ey rfl (by unfold lM;rw[O]) rfl rfl
 ·simp at O;obtain ⟨p,X⟩:=kaG.1 O;have Y:=dS X;have hps:=R.pts p Y.1;rw[show (bg L id).getD i6=p by rw[X];rfl];refine ai (gS (gM (gF 1 VC rR Vb (gL (I p.disk) Vc (gF 2 VC rR Vb (gL (I p.size) Vc (gF 3 VC rR Vb (gL (I p.root) Vc (gR (vB call171 (mA b S L n p.disk p.size p.root (by omega) (by omega))) (gM (gX (I (jp L n)) (gX (fv 117 (fg L n)) (gA (gQ (ac (gS (gM (gV (fO Vl) (ab ?_)))))))))))))))))));apply ah<;>intro J
  ·simp at J;rw[show jp L n=n by unfold jp;rw[YB J],show jw L n p.disk p.size p.root=L++ [(⟨n,p.disk,p.size,p.root⟩:Pt)] by unfold jw;rw[YB J],show nZ L n=n+1 by unfold nZ;rw[YB J],J];refine ik b S (L++ [(⟨n,p.disk,p.size,p.root⟩:Pt)]) (n+1) ?_;intro x s c;refine cO (Lf:=[pt b (.cells #[ptr x 0,sl s (L++ [(⟨n,p.disk,p.size,p.root⟩:Pt)]).length c,I (n+1)] 123 (0,0)),pt b6 (.cells (aY (p)).toArray 162 (0,0))]) jA ?_;refine dM rR (dV rR aa (dF rR 0 Vr rR VK (dL rR (ptr x 0) VN (dF rR 3 VC rR Vb (dL rR (I p.root) Vc (d7 rR (uB call196 (lb x S p.root 200 hok (by decide) (qe R.rt.V (mK R.rt (eJ X))).2)) ?_))))));rintro _ _ ⟨rfl,rfl⟩;refine aP ?_;refine gS (gM (gM (gA (gQ ?_))));refine cC b x s c (eI S p.root) (L++ [(⟨n,p.disk,p.size,p.root⟩:Pt)]) (n+1) ?_;exact nc (S:=eI S p.root) (P:=L++ [(⟨n,p.disk,p.size,p.root⟩:Pt)]) (n:=n+1) rfl (by unfold lM;rw[X];simp only;rw[YC (by omega)]) rfl rfl
  ·simp at J;rw[show jp L n=0 by unfold jp;rw[YC J]];refine ai (gS (gM (gM (gA (gQ ?_)))));exact ey rfl (by unfold lM;rw[X];simp only;rw[YB J]) rfl rfl
def vr (L:List Pt)(s:Option Addr)(c q:Nat)(id:Int)(hl:L.length<=1000000)(F:List ag):Ct Tryz.prog 197 [sl s L.length c, .func (.func 198) #[] #[ptr q 0]] (bi 162 4 s c (fE (L))::pt q (.cells #[I id] 3 (0,0))::F) (R1 (sl s (L.filter λx=>!decide (x.id=id)).length c) (bi 162 4 s c (fE ((L.filter λx=>!decide (x.id=id))))::pt q (.cells #[I id] 3 (0,0))::F)):=by
 refine Ct.of func197 rR 42 ntmps197 (by simp) λw0=>?_;refine ta s (λY=>?_);rw[cQ] at Y;refine gS (gQ (gS (gM (gM (gR (vC call165 (rl L s c q id hl)) (gQ (ac (gS (gM (gV bT (ab ?_)))))))))));apply ah<;>intro S
 ·simp at S;rw[show (L.filter λx=>!decide (x.id=id))=L from E6 (Ip (by omega))];refine gS (gM (gQ ?_));exact ao rfl rfl rfl
 ·simp at S;obtain ⟨i,p,hi,hp,hid,hil,hf,hno⟩:=CM (l:=L) (id:=id) (λh=>S (Mp h));rw[hi];refine ai (ac (gS (gM (gP (gQ ?_)))));rw[show ((i:Nat):Int)+1=((i+1:Nat):Int) by omega];refine al ?_;refine aM (α:=Nat×Nat×List Pt) (λz=>Dl L z.2.2 id z.2.1 z.1/\z.2.1<z.1) (λz=>U [(0,sl s L.length c),(1, .func (.func 198) #[] #[ptr q 0]),(5,I z.2.1),(6,I z.1)]) (λz=>bi 162 4 s c (fE z.2.2)::pt q (.cells #[I id] 3 (0,0))::F) (λz=>L.length - z.1) (i+1,i,L) ⟨Mq hno hp hid,by simp only[];omega⟩ [0,1,5,6] rfl ?_;rintro ⟨j,w,R⟩ ⟨J,Z⟩;simp only[] at J Z ⊢;have hjl0:=J.lj;refine ac (gS (gM (gM (gV (aX Vv) (gV aI (ab ?_))))));apply ah<;>intro X
  ·simp at X;have V:j<L.length:=(by omega);have hwl:w<L.length:=(by omega);obtain ⟨x,hx⟩:∃x,R[j]? =some x:=⟨_,Zu (by rw[J.len];exact V)⟩;refine ai (ac (al (gS (gM (gM (gV (ay (j) Vv Vk V (by rw[cQ,J.len];exact V)) (gV (bJ (row:=aY x) Wp Vk (gC hx)) (gI (aO #[I 0,I 0,I 0,I 0] VJ) ?_))))))));rintro _ _ ⟨b7,rfl,rfl⟩;refine gU (ax (cs:=#[I 0,I 0,I 0,I 0]) (vs:=aY (x)) (aY (x)).toArray Vk (by simp) (hcs:=by exact aJ)) (ab (gS (gM (gV (aU (vs:=aY x) Wp Vk bp) ?_))));refine gI (fW (fi:=[]) (cap:=[ptr q 0]) (Pre:=[pt q (.cells #[I id] 3 (0,0))]) call198 rR rR (qi x q id)) ?_;rintro _ _ ⟨rfl,rfl⟩;refine gV cE (ab ?_);apply ah<;>intro O
   ·simp at O;refine gS (gM (gM (gV (aU (vs:=aY x) Wp Vk bp) (gV (ay (w) Vv Vk hwl (by rw[cQ,J.len];exact hwl)) (ir (uS (j:=w) (vs:=aY x) Vk rR rR rR rR (by rw[cQ,J.len];omega) (by decide)) ?_)))));rintro _ _ rfl;rw[Py];refine ab (am (gM (gP (gQ (aG (am (gM (gP (gQ ?_)))))))));exact ap (j+1,w+1,R.set w x) ⟨Px J Z hx O,by simp only[];omega⟩ (by simp only[];omega) [0,1,5,6] rfl
   ·simp at O;refine ai (aG (am (gM (gP (gQ ?_)))));exact ap (j+1,w,R) ⟨Pw J hx O,by simp only[];omega⟩ (by simp only[];omega) [0,1,5,6] rfl
  ·simp at X;obtain rfl:j=L.length:=(by omega);refine aF ?_;refine ac ?_;refine n0 s w ?_;rw[Mr,Mo J];have hfl:(L.filter λx=>!decide (x.id=id)).length=w:=(by rw[<-Mo J,Y8];have:=J.len;omega);refine am (gM (gM (gV (iU (l:=w) Vv Vk rR rR rR (by omega)) (ir (mU (sz:=4) (l:=w) s Vv VJ rR rR (by unfold At;split;exact .inr (.inr (by omega));exact .inr (.inl rR)) (by rw[cQ];omega) (by omega)) ?_))));rintro _ _ ⟨rfl,rfl⟩;refine ab (gS (gM (gM (gV (lX (h:=w) Vv Vk rR rR rR (by omega)) (gQ ?_)))));exact ao rfl rfl (by rw[hfl];rfl)
def rp (b:Nat)(S:SI)(L:List Pt)(n:Int)(id:Int)(Z:Gh)(V:Vok S L n Z)(F:List ag):Ct Tryz.prog 124 [ptr b 0,I id] (gO b S L n::F) (S0 gO (fv 117) b F (mz S L n id)):=by
 have hok:=kM V;have hll:=V.len;have hn1:=V.n1;refine Ct.of func124 rR 33 ntmps124 (by simp) λw0=>?_;refine gS (gI (di #[I id]) ?_);rintro _ _ ⟨b3,rfl,rfl⟩;refine gQ (gS (gM (gL (I id) Vc (gR (vB call92 (dC b S L n id (by omega))) (gM (gX (.agg (aY ((bg L id).getD i6)).toArray) (gX (Bo (bg L id).isSome) (gI (aO #[I 0,I 0,I 0,I 0] VJ) ?_))))))));rintro _ _ ⟨b5,rfl,rfl⟩;refine gU (ax (cs:=#[I 0,I 0,I 0,I 0]) (vs:=aY (((bg L id).getD i6))) (aY (((bg L id).getD i6))).toArray Vk (by simp) (hcs:=by exact aJ)) (gQ (ac (gS (gM (gV cE (ab ?_))))));apply ah<;>intro J
 ·simp at J;refine gS (gV (aZ Vn) (gQ ?_));exact EZ rfl (by unfold mz;rw[J]) rfl rfl
 ·simp at J;obtain ⟨p,X⟩:=kaG.1 J;have Y:=dS X;have hps:=V.pts p Y.1;rw[show (bg L id).getD i6=p by rw[X];rfl];refine ai (ac ?_);refine ik b S L n ?_;intro x s c;refine cO (Lf:=[pt b (.cells #[ptr x 0,sl s (L).length c,I (n)] 123 (0,0)),pt b5 (.cells (aY (p)).toArray 162 (0,0))]) jA ?_;refine dM rR (dV rR aa (dF rR 0 Vr rR VK (dL rR (ptr x 0) VN (dF rR 3 VC rR Vb (dL rR (I p.root) Vc (d7 rR (uB call170 (iZ x S p.root 200 hok (by decide))) ?_))))));rintro _ _ ⟨rfl,rfl⟩;refine aP ?_;refine gS (gM (gM (gV aa (gF 1 Vr rR Vx (gL (sl s (L).length c) VM (gI (uB call140 (wm L s c (by omega))) ?_))))));rintro _ _ ⟨R,O,rfl,rfl⟩;refine gV fK (gR (vC call197 (vr L R O b3 id (by omega))) (gV aa (gF 1 Vr rR Vx (gU (aK #[ptr x 0,sl R (L.filter λx=>!decide (x.id=id)).length O,I n] Vx (by simp)) (ab (gS (gQ ?_)))))));refine cC b x R O (rh S p.root) ((L.filter λx=>!decide (x.id=id))) (n) ?_;exact E0 (S:=rh S p.root) (P:=(L.filter λx=>!decide (x.id=id))) (n:=n) (r:=0) rfl (by unfold mz;rw[X]) rfl rfl
def lA (b:Nat)(S:SI)(L:List Pt)(n:Int)(id at_:Int)(Y:Gh)(V:Vok S L n Y)(F:List ag):Ct Tryz.prog 34 [ptr b 0,I id,I at_] (gO b S L n::F) (R1 (.tuple #[aC (py S L id at_).1,fv 117 (py S L id at_).2]) (gO b S L n::F)):=by
 have hok:=kM V;have hll:=V.len;refine Ct.of func34 rR 36 ntmps34 (by simp) λw0=>?_;refine gS (gA (gQ (gS (gM (gM (gR (vB call92 (dC b S L n id (by omega))) (gM (gX (.agg (aY ((bg L id).getD i6)).toArray) (gX (Bo (bg L id).isSome) (gI (aO #[I 0,I 0,I 0,I 0] VJ) ?_))))))))));rintro _ _ ⟨Z,rfl,rfl⟩;refine gU (ax (cs:=#[I 0,I 0,I 0,I 0]) (vs:=aY (((bg L id).getD i6))) (aY (((bg L id).getD i6))).toArray Vk (by simp) (hcs:=by exact aJ)) (gQ (ac (gS (gM (gV cE (ab ?_))))));apply ah<;>intro J
 ·simp at J;refine gS (gV (aZ Vn) (gA (gQ ?_)));rw[show py S L id at_=([],5) by unfold py;rw[J]];exact ao rfl rfl rfl
 ·simp at J;obtain ⟨p,R⟩:=kaG.1 J;have X:=dS R;have hps:=V.pts p X.1;rw[show (bg L id).getD i6=p by rw[R];rfl];refine ai (ac (gS (gM (gV aI (gM (gK aq (gK (aw 2 VC rR Vb) (gK (az (v:=I p.size) Vc) (gK j6 (gV cu (ab ?_)))))))))));apply ah<;>intro O
  ·simp at O;refine gS (gV (aZ Vn) (gA (gQ ?_)));rw[show py S L id at_=([],1) by unfold py;rw[R];simp only;rw[YB (by omega)]];exact ao rfl rfl rfl
  ·simp at O;obtain ⟨a,rfl⟩:∃a:Nat,at_=a:=⟨at_.toNat,by omega⟩;refine ai (ac ?_);refine ik b S L n ?_;intro x s c;refine cO (Lf:=[pt b (.cells #[ptr x 0,sl s (L).length c,I (n)] 123 (0,0)),pt Z (.cells (aY (p)).toArray 162 (0,0))]) jJ ?_;refine dM rR (dV rR aa (dF rR 0 Vr rR VK (dL rR (ptr x 0) VN (dF rR 3 VC rR Vb (dL rR (I p.root) Vc (dM rR (d7 rR (uB call98 (jo x S p.root a 200 hok (by decide) (by omega))) ?_)))))));rintro _ _ ⟨rfl,rfl⟩;refine dV rR aD (dV rR aD ?_);refine aP ?_;rw[show py S L id a=(jn S p.root a,0) by unfold py;rw[R];simp only;rw[YC (by omega)];rfl];refine cC b x s c (S) (L) (n) ?_;exact ao rfl rfl rfl
def fX (b:Nat)(S:SI)(L:List Pt)(n:Int)(hl:L.length<=1000000)(F:List ag):Ct Tryz.prog 66 [ptr b 0] (gO b S L n::F) (λv L'=>∃q,v=ptr q 0/\L'=gO q S L n::gO b S L n::F):=by
 refine Ct.of func66 rR 19 ntmps66 (by simp) λw0=>?_;refine ik b S L n ?_;intro x s c;refine gS (gQ (ac (gD (Lf:=[pt b (.cells #[ptr x 0,sl s (L).length c,I (n)] 123 (0,0))]) [(0,false),(1,false),(2,false),(3,false),(5,false),(6,false),(7,false),(8,false),(10,false),(11,false),(12,false),(13,false),(4,true),(9,true),(14,false),(15,true),(16,false)] (dM rR (dV rR aa (dF rR 0 Vr rR VK (dL rR (ptr x 0) VN (dM rR (dV rR aa (dF rR 1 Vr rR Vx (dL rR (sl s (L).length c) VM (dM rR (dV rR aa (dF rR 2 Vr rR Vb (dL rR (I n) Vc (d7 rR (uB call139 (ri x S)) ?_))))))))))))))));rintro _ _ ⟨V,rfl,rfl⟩;refine d7 rR (uB call140 (wm L s c hl)) ?_;rintro _ _ ⟨R,O,rfl,rfl⟩;refine dV rR (aR (TV V R L.length O n)) (d7 rR (di #[ptr V 0,sl R L.length O,I n]) ?_);rintro _ _ ⟨J,rfl,rfl⟩;refine dV rR aD ?_;refine aP ?_;refine cC J V R O S L n ?_;refine cC b x s c (S) (L) (n) ?_;refine iR (L2:=gO J S L n::gO b S L n::F) ?_;exact λa w X Y=>wp_ret (bX (aW (vs:=[ptr J 0]) rfl X Y ⟨J,rfl,rfl⟩))
def pM (b:Nat)(S:SI)(L:List Pt)(n:Int)(disk keep:Int)(hl:L.length<=1000000)(hk:keep<=9223372036854775807)(F:List ag):Ct Tryz.prog 125 [ptr b 0,I disk,I keep] (gO b S L n::F) (ww 3 1 (eP L disk keep).length (bz (eP L disk keep)) (gO b S L n::F)):=by
 refine Ct.of func125 rR 37 ntmps125 (by simp) λw0=>?_;refine ik b S L n ?_;intro x s c;refine bH 3 1 (bz (((L.take 0).filter λp=>decide (p.disk=disk)).map (·.id))) ?_;refine gS (gQ (gS (gQ (ac (gS (gM (gV aa (gF 1 Vr rR Vx (gL (sl s (L).length c) VM (gV (aX Vv) (gM (ab (al ?_)))))))))))));refine aM (α:=Nat×Option Addr×Nat) (λz=>z.1<=L.length) (λz=>U [(1,I disk),(2,I keep),(7,sl z.2.1 (((L.take z.1).filter λp=>decide (p.disk=disk)).map (·.id)).length z.2.2),(13,sl s L.length c),(14,I L.length),(15,I z.1)]) (λz=>bi 3 1 z.2.1 z.2.2 (bz (((L.take z.1).filter λp=>decide (p.disk=disk)).map (·.id)))::pt b (.cells #[ptr x 0,sl s (L).length c,I (n)] 123 (0,0))::kK x S::bi 162 4 s c (fE (L))::F) (λz=>L.length - z.1) (0,none,0) (by simp) [1,2,7,13,14,15] rfl ?_;rintro ⟨k,s7,c7⟩ Y;simp only[] at Y ⊢;refine gS (gV aI (ab (ac ?_)));apply ah<;>intro R
 ·simp at R;have O:k<L.length:=(by omega);obtain ⟨p,hp⟩:∃p,L[k]? =some p:=⟨_,Zu O⟩;refine ai (ac (al (gS (gV (ay (k) Vv Vk O (by rw[cQ];exact O)) (gV (bJ (row:=aY p) Wp Vk (gC hp)) (gI (aO #[I 0,I 0,I 0,I 0] VJ) ?_))))));rintro _ _ ⟨b9,rfl,rfl⟩;refine gU (ax (cs:=#[I 0,I 0,I 0,I 0]) (vs:=aY (p)) (aY (p)).toArray Vk (by simp) (hcs:=by exact aJ)) (ab (gS (gF 1 VC rR Vb (gL (I p.disk) Vc (gM (gV bT (ab ?_)))))));apply ah<;>intro J
  ·simp at J;refine am (gM (gF 0 VC rR Vb (gL (I p.id) Vc (gI (av [[I p.id]] Vi Vb VL (by simp)) ?_))));rintro _ _ ⟨b26,rfl,rfl⟩;refine gI (bo Vi Vb VL Tryz.typeInfo3 (hn:=by exact bW _) (by simp) (by intro r hr;simp at hr;subst hr;rfl) ⟨by have:=tQ L k disk;omega,by decide,by decide⟩) ?_;rintro _ _ ⟨Z,X,rfl,rfl⟩;refine gQ (aG (am (gP (gM (ab ?_)))));rw[show bz (((L.take k).filter λp=>decide (p.disk=disk)).map (·.id))++ [[I p.id]]=bz (((L.take (k+1)).filter λp=>decide (p.disk=disk)).map (·.id)) by rw[lQ disk hp,YB J];simp[bz],show (((L.take k).filter λp=>decide (p.disk=disk)).map (·.id)).length+1=(((L.take (k+1)).filter λp=>decide (p.disk=disk)).map (·.id)).length by rw[lQ disk hp,YB J];simp];exact ap (k+1,Z,X) (by simp only[];omega) (by simp only[];omega) [1,2,7,13,14,15] rfl
  ·simp at J;refine ai (aG (am (gP (gM (ab ?_)))));rw[show ((L.take k).filter λp=>decide (p.disk=disk)).map (·.id)=((L.take (k+1)).filter λp=>decide (p.disk=disk)).map (·.id) by rw[lQ disk hp,YC J,kaE]];exact ap (k+1,s7,c7) (by simp only[];omega) (by simp only[];omega) [1,2,7,13,14,15] rfl
 ·simp at R;obtain rfl:k=L.length:=(by omega);refine ta s7 (λV=>?_);rw[bW] at V;refine aF ?_;refine gS (gM (gM (gV (aX Vi) (gM (gV (AD rfl rfl) (gV (fe (r:=((((L.take L.length).filter λp=>decide (p.disk=disk)).map (·.id)).length:Int) - (keep.toNat:Int)) (by rw[show (if (0:Int)<keep then keep else 0)=(keep.toNat:Int) by split <;> omega];exact da (by have:=tQ L L.length disk;omega))) (gV (AD rfl rfl) (gV (lX (h:=(((L.take L.length).filter λp=>decide (p.disk=disk)).map (·.id)).length - keep.toNat) Vi Vb rfl rfl (by split <;> omega) (by omega)) (gQ ?_)))))))));refine n0 s7 ((((L.take L.length).filter λp=>decide (p.disk=disk)).map (·.id)).length - keep.toNat) ?_;have he:eP L disk keep=(((L.take L.length).filter λp=>decide (p.disk=disk)).map (·.id)).take ((((L.take L.length).filter λp=>decide (p.disk=disk)).map (·.id)).length - keep.toNat):=(by unfold eP;rw[Y3]);rw[show (bz (((L.take L.length).filter λp=>decide (p.disk=disk)).map (·.id))).take ((((L.take L.length).filter λp=>decide (p.disk=disk)).map (·.id)).length - keep.toNat)=bz (eP L disk keep) by rw[he];simp[bz,kaZ]];refine cC b x s c (S) (L) (n) ?_;exact df rfl rfl rfl (by rw[he,Y8];omega)
def zh {S:SI}{L:List Pt}{n id e:Int}(h:lM S L n id= .error e):0<e:=by
 grind[lM,H9]
def blk (S:SI)(p:Pt):List ak:=(List.range p.size.toNat).map (jn S p.root)
section
variable {c:Cx}{E:dr}{L:List ag}{K:List KI}
end
def Nz (S:SI):Prop:=(∀q m,S.N q=some m->¬fc m)/\∀q x,S.B q=some x->x.1≠ []/\x.1.length<=6
def Ka (m:Nd)(r:Int):fc (rf m r) ↔ fc m:=Iff.rfl
def UJ:Nz (bu gZ):=⟨(λq m h=>by cases h),λq x h=>by cases h⟩
theorem CY {S:SI}(h:Nz S)(q n:Int):Nz ⟨fo S.B q n,S.N⟩:=by
 refine ⟨h.1,λp x e=>?_⟩;change fo S.B q n p=some x at e;unfold fo at e;cases hq:S.B q with
 | none=>rw[hq] at e;exact h.2 p x e
 | some y=>
  rw[hq] at e;unfold aB at e;simp only at e;split at e
  ·split at e
   ·cases e
   ·injection e with e;subst e;exact h.2 q y hq
  ·exact h.2 p x e
def xr {S:SI}(h:Nz S){q:Int}{x:Option Nd}(hx:∀m,x=some m->¬fc m):Nz ⟨S.B,aB S.N q x⟩:=⟨λp m e=>by
 change aB S.N q x p=some m at e;unfold aB at e;split at e
 ·exact hx m e
 ·exact h.1 p m e,h.2⟩
def Mu {S:SI}(h:Nz S)(d:ak):Nz (aj S d):=by
 unfold aj;split
 ·exact h
 ·refine ⟨h.1,λp x e=>?_⟩;change lL S.B d p=some x at e;unfold lL at e;by_cases hd:6<d.length\/d=[]
  ·rw[YB hd] at e;exact h.2 p x e
  ·rw[YC hd] at e;cases J:d9 40 S.B with
   | none=>rw[J] at e;exact h.2 p x e
   | some k=>
    rw[J] at e;simp only at e;unfold aB at e;split at e
    ·grind
    ·exact h.2 p x e
def Mv {S:SI}(h:Nz S)(k:Int):Nz (dg true S k):=by
 grind[dg,CY]
def Mw {S:SI}(h:Nz S)(n:Nd):Nz (bf true S n):=by
 unfold bf;split
 ·exact h
 ·rename_i hn;split
  ·exact h
  ·exact p9 (P:=Nz) (λa b J=>Mv J b) _ _ (xr h λm e=>by injection e with e;subst e;exact hn)
def Mx {S:SI}(h:Nz S)(k:Int):Nz (eO S k):=by
 grind[eO,CY]
def Sa {S:SI}(h:Nz S)(k:Int):Nz (jY S k):=by
 grind[jY,CY]
def My {S:SI}{f:SI->Int->SI}(O:∀S k,Nz S->Nz (f S k))(h:Nz S)(q:Int):Nz (vh f S q):=by
 unfold vh;split
 ·exact h
 ·split
  ·rename_i hr;refine xr h λm e=>?_;injection e with e;subst e;cases hq:S.N q with
   | none=>grind[gN,yN]
   | some y=>rw[show gN S.N q=y by unfold gN;rw[hq];rfl];exact h.1 q y hq
  ·exact p9 (P:=Nz) (λa b J=>O a b J) _ _ (xr h λm e=>by cases e)
def Mz {S:SI}(h:Nz S)(q:Int):Nz (k9 S q):=My (λS k h=>Mx h k) h q
theorem MA {S:SI}(h:Nz S)(q:Int):Nz (rh S q):=My (λS k h=>Mz h k) h q
def MB {S:SI}(h:Nz S){q:Int}(hq:∃x,S.N q=some x):Nz ⟨S.B,rB S.N q⟩:=by
 obtain ⟨x,hx⟩:=hq;refine xr h λm e=>?_;injection e with e;subst e;rw[show gN S.N q=x by unfold gN;rw[hx];rfl];exact h.1 q x hx
def E7 {G:Gh}(V:Val G)(h:Nz (bu G)){q:Int}(hq:rt G q):Nz (eI (bu G) q):=by
 unfold eI;split
 ·refine MB h ?_;obtain ⟨m,hm⟩:=hq.resolve_left (by omega);exact ⟨_,qb hm⟩
 ·exact h
theorem Pz {G:Gh}(V:Val G){q:Int}(h:lf G q):q=0\/∃x,(bu G).N q=some x:=h.imp (λh=>h) λ⟨m,hm⟩=>⟨_,rD V hm⟩
def PA (S:SI)(k:Int):(dg true S k).N=S.N:=by
 grind[dg]
def CZ:∀(l:List Int) (S:SI),(l.foldl (dg true) S).N=S.N
 | [],S=>rfl
 | k::l,S=>by rw[kao,CZ l,PA]
theorem tS (S:SI)(d:ak):(aj S d).N=S.N:=by grind[aj]
def TW (S:SI)(b:Int):(jY S b).N=S.N:=by unfold jY;split <;> rfl
def Sb {G:Gh}(V:Val G){root:Int}{at_:Nat}{d:ak}{out:Int}(hr:rt G root)(ha:at_<16)(hz:Nz (bu G))(h:dH (bu G) root at_ d=(out,0)):Nz (iW (bu G) root at_ d):=by
 obtain ⟨b,k,hb,hl,ho,hS⟩:=EW h;rw[hS];refine Mz ?_ k;have O:Nz (jY (bf true (aj (bu G) d) (br (aj (bu G) d) root at_ b)) b):=Sa (Mw (Mu hz d) _) b;have hN3:(jY (bf true (aj (bu G) d) (br (aj (bu G) d) root at_ b)) b).N=(bf true (aj (bu G) d) (br (aj (bu G) d) root at_ b)).N:=TW _ _
 -- what was there is there still,and so is the new leaf
 have Y:∀q x,(bu G).N q=some x->∃y,(bf true (aj (bu G) d) (br (aj (bu G) d) root at_ b)).N q=some y:=λq x hx=>by
  rcases nY hl with ⟨_,_,e⟩ | ⟨j,_,_,_,_,e⟩
  ·grind[tS]
  ·rw[e true,CZ]
   grind[aB,tS]
 have X:k=0\/∃y,(bf true (aj (bu G) d) (br (aj (bu G) d) root at_ b)).N k=some y:=by
  rcases nY hl with ⟨Z,_,_⟩ | ⟨j,_,_,_,_,e⟩
  ·exact .inl Z
  simp_all[CZ,aB]
 rcases nY ho with ⟨_,_,e⟩ | ⟨j,hk,hjr,S,R,e⟩
 ·rw[e false];exact O
 ·rw[e false,oX]
  ·refine ⟨λq m hm=>?_,O.2⟩;change (aB _ out _ q).map _=some m at hm;obtain ⟨m0,J,rfl⟩:=Ym.1 hm;rw[Ka];unfold aB at J;split at J
   ·injection J with J;subst J;exact R
   ·exact O.1 q m0 J
  ·intro q hq;obtain ⟨i,hi,rfl⟩:=yW hq;have key:bU (ef (aj (bu G) d) root at_ k) i=0\/∃y,(jY (bf true (aj (bu G) d) (br (aj (bu G) d) root at_ b)) b).N (bU (ef (aj (bu G) d) root at_ k) i)=some y:=by
    grind[ef,tJ,tS,Pz,qd]
   grind[aB]
def Iq {G:Gh}{root:Int}{rs:List Int}{at_:Nat}{d:ak}{z:SI×Int}(h:Rt G (root::rs))(O:at_<16)(R:Nz (bu G))(e:put1 (bu G,root) at_ d= .ok z):Nz z.1:=by
 unfold put1 at e;split at e
 ·rename_i J;injection e with e;subst e;exact MA (Sb h.V (mK h (Z2 ..)) O R (Prod.ext rfl J)) root
 ·cases e
def Ir {G:Gh}{root:Int}{rs:List Int}{at_:Nat}{d:ak}{z:SI×Int}(h:Rt G (root::rs))(hl:rs.length<=8)(O:at_<16)(e:put1 (bu G,root) at_ d= .ok z):∃J,z.1=bu J/\Rt J (z.2::rs):=by
 grind[put1,nb]
theorem Is {rs:List Int}(hl:rs.length<=8):∀(l:List Nat) {G:Gh} {root:Int} {z:SI×Int},Rt G (root::rs)->(∀a∈l,a<16)->Nz (bu G)->nt (bu G,root) l= .ok z->Nz z.1
 | [],G,root,z,h,_,V,e=>by grind[nt]
 | a::l,G,root,z,h,O,V,e=>by
  unfold nt at e;cases hp:put1 (bu G,root) a [] with
  | error e'=>rw[hp] at e;cases e
  | ok Y=>
   rw[hp] at e;simp only at e;obtain ⟨z1,z2⟩:=Y;obtain ⟨Z,R,S⟩:=Ir h hl (O a (by simp)) hp;have J:=Iq h (O a (by simp)) V hp;simp only at R J S;subst R;exact Is hl l S (λb X=>O b (kac _ X)) J e
theorem zi {size:Int}(hs:size<=16){rs:List Int}(hl:rs.length<=8):∀(l:List PutM) {G:Gh} {root:Int} {z:SI×Int},Rt G (root::rs)->Nz (bu G)->eV size (bu G,root) l= .ok z->Nz z.1
 | [],G,root,z,h,O,e=>by grind[eV]
 | p::l,G,root,z,h,O,e=>by
  unfold eV at e;split at e
  ·cases e
  ·rename_i Y;split at e
   ·exact zi hs hl l h O e
   ·cases hp:put1 (bu G,root) p.at_.toNat p.data with
    | error e'=>rw[hp] at e;cases e
    | ok V=>
     rw[hp] at e;simp only at e;obtain ⟨Z,z2⟩:=V;obtain ⟨X,R,S⟩:=Ir h hl (by omega) hp;have J:=Iq h (by omega) O hp;simp only at R J S;subst R;exact zi hs hl l S J e
def MC {S:SI}{L:List Pt}{n base disk size:Int}{G:Gh}{z:SI×Int}(h:Vok S L n G)(hs:1<=size/\size<=16)(Y:Nz S)(e:iC S L base disk size= .ok z):Nz z.1:=by
 have O:(L.map (·.root)).length<=8:=(by have:=h.len;simp;omega);have R:=h.e;subst R;unfold iC at e;split at e
 ·grind
 ·split at e
  ·cases e
  ·rename_i p J;split at e
   ·cases e
   ·have X:=(h.pts p (dS J).1).2.2;obtain ⟨G1,e1,h1,_⟩:=qf h.rt (eJ J);have Z:=E7 h.rt.V Y (mK h.rt (eJ J))
    grind[Is]
def PB {S:SI}{L:List Pt}{n base disk size:Int}{puts:List PutM}{G:Gh}{V:SI}{L':List Pt}{n' r:Int}(h:Vok S L n G)(hz:Nz S)(e:ig S L n base disk size puts= .ok (V,L',n',r)):Nz V:=by
 unfold ig at e;split at e
 ·cases e
 ·rename_i Z;have X:(L.map (·.root)).length<=8:=(by have:=h.len;simp;omega);cases O:iC S L base disk size with
  | error e'=>rw[O] at e;cases e
  | ok z=>
   rw[O] at e;simp only at e;have R:=MC h (by omega) hz O;obtain ⟨Y,J,h1,_⟩:=y0 h (by omega) O;obtain ⟨z1,z2⟩:=z;simp only at R J h1;subst J;cases hp:eV size (bu Y,z2) puts with
   | error e'=>rw[hp] at e;cases e
   | ok z'=>
    grind[zi]
def PC {S:SI}{L:List Pt}{n id:Int}{G:Gh}{J:SI}{L':List Pt}{Z r:Int}(h:Vok S L n G)(Y:Nz S)(e:lM S L n id= .ok (J,L',Z,r)):Nz J:=by
 unfold lM at e;split at e
 ·cases e
 ·rename_i p X;split at e
  ·cases e
  ·injection e with e;injection e with O e;have R:=h.e;subst R;subst O;exact E7 h.rt.V Y (mK h.rt (eJ X))
def PD {S:SI}{L:List Pt}{n id:Int}{J:SI}{L':List Pt}{O r:Int}(R:Nz S)(e:mz S L n id= .ok (J,L',O,r)):Nz J:=by
 grind[mz,MA]
structure Con (S:SI) (L:List Pt) (n:Int) (G:Gh):Prop where
 v:Vok S L n G
 z:Nz S
 t:FS S L
def Con_z:Con (bu gZ) [] 1 gZ:=⟨Ty,UJ,Tz⟩
def qk {S:SI}{L:List Pt}{n base disk size:Int}{puts:List PutM}{G:Gh}{O:SI}{L':List Pt}{R r:Int}(h:Con S L n G)(e:ig S L n base disk size puts= .ok (O,L',R,r)):∃J,Con O L' R J:=
 let ⟨J,_,hv,_⟩:=CN h.v e
 ⟨J,hv,PB h.v h.z e,Mb h.v h.t e⟩
def ql {S:SI}{L:List Pt}{n id:Int}{G:Gh}{O:SI}{L':List Pt}{R r:Int}(h:Con S L n G)(e:lM S L n id= .ok (O,L',R,r)):∃J,Con O L' R J:=
 let ⟨J,_,hv,_⟩:=CO h.v e
 ⟨J,hv,PC h.v h.z e,Mc h.v h.t e⟩
def zj {S:SI}{L:List Pt}{n id:Int}{G:Gh}{O:SI}{L':List Pt}{R r:Int}(h:Con S L n G)(e:mz S L n id= .ok (O,L',R,r)):∃J,Con O L' R J:=
 let ⟨J,_,hv,_⟩:=Ic h.v e
 ⟨J,hv,PD h.z e,Md h.v h.t e⟩
def MD {G:Gh}(V:Val G){q:Int}{m:Nd}(h:(bu G).N q=some m){i:Nat}(hi:i<4):0<=bU m i/\bU m i<=40:=by
 simp only[bu,Ac] at h;cases e:G.R q with
 | some n=>
  rw[e] at h;injection h with h;subst h;rcases V.kidR e hi with h0 | ⟨y,hy⟩
  ·simp_all[bU,rf]
  ·have h1:=V.sL _ y hy;have:bU (rf n (G.eR q)) i=bU n i:=(by simp_all[bU,rf]);rw[this];omega
 | none=>
  rw[e] at h;simp only at h;obtain ⟨n,hn,rfl⟩:=Ym.1 h;have J:bU (rf n (G.eL q+ie G.R q)) i=bU n i:=(by simp_all[bU,rf]);rw[J];rcases V.kidL hn hi with h0 | ⟨y,hy⟩
  ·omega
  ·have h1:=V.sD _ y hy;omega
theorem Con.wr {S:SI}{L:List Pt}{n:Int}{G:Gh}(h:Con S L n G):Wr S L n:=by
 have hok:=kM h.v;refine ⟨hok.1,hok.2.2.1,λq x e=>?_,λq m e=>?_,λp hp=>?_,?_,h.v.srt⟩
 ·have:=hok.2.1 q x e;exact ⟨by omega,h.z.2 q x e⟩
 ·have:=hok.2.2.2 q m e;refine ⟨by omega,λk hk=>?_⟩;obtain ⟨i,hi,rfl⟩:=yW hk;have J:=h.v.e;subst J;have:=MD h.v.rt.V e hi;omega
 ·have h1:=h.v.pts p hp;have O:=h.v.n1;have R:=qe h.v.rt.V (mK h.v.rt (Zz.2 ⟨p,hp,rfl⟩));omega
 ·have:=h.v.n1;omega
theorem Con.sm {S:SI}{L:List Pt}{n:Int}{G:Gh}(h:Con S L n G):Sm S L n:=by
 have w:=h.wr;exact ⟨mo (kM h.v) (by decide),λq x e=>(w.b q x e).2.2,λq m e=>(w.nd q m e).2,λp hp=>by have:=w.p p hp;omega,h.v.len,w.n1⟩
def PE {L:List Pt}{q:Int}(h0:q≠0):mN L q ↔ 0<jc (L.map (·.root)) q:=by
 grind[mN,jc,List.count_pos_iff]
def PF {N:fU}{q:Int}(h:0<ie N q):∃r m,N r=some m/\q∈kd m:=by
 refine Classical.byContradiction λhn=>?_;have:ie N q=0:=vl λk _=>by
  cases e:N (k:Int) with
  | none=>rfl
  | some m=>
   have h1:=yQ (some m) q;rcases ka0 h1 with J | J
   ·grind[CC,ze]
   ·exact J.symm
 omega
def zk {A B:fU}{q:Int}:∀{l:List Nat},(∀k∈l,na (A (k:Int)) q=na (B (k:Int)) q)->mu A q l=mu B q l
 | [],_=>rfl
 | k::l,h=>by simp only[mu];rw[h k (by simp),zk λj hj=>h j (kac _ hj)]
def vt {A B:fU}{q:Int}(h:∀k,na (A k) q=na (B k) q):ie A q=ie B q:=zk λk _=>h k
theorem Con.whole {S:SI}{L:List Pt}{n:Int}{G:Gh}(h:Con S L n G):WholeP ⟨S.B,S.N,L,n⟩:=by
 have hS:=h.v.e;subst hS;have V:=h.v.rt.V;have hok:=kM h.v;have O:∀q,mN L q ↔ q≠0/\∃m,G.R q=some m:=λq=>by
  by_cases h0:q=0
  ·subst h0;exact ⟨λhh=>absurd rfl hh.1,λhh=>absurd rfl hh.1⟩
  ·rw[PE h0,<-h.v.rt.eR,<-V.pR q h0];exact ⟨λhh=>⟨h0,kaG.1 hh⟩,λhh=>kaG.2 hh.2⟩
 have Y:∀q,KF (bu G).N L q ↔ q≠0/\∃m,G.L q=some m:=λq=>by
  constructor
  ·rintro ⟨h0,r,m,hr,hm,hq⟩;obtain ⟨_,m',hm'⟩:=(O r).1 hr;rw[qb hm'] at hm;injection hm with hm;subst hm;obtain ⟨i,hi,rfl⟩:=yW hq;have ek:bU (rf m' (G.eR r)) i=bU m' i:=(by simp_all[bU,rf]);rw[ek] at h0 ⊢;exact ⟨h0,(V.kidR hm' hi).resolve_left h0⟩
  ·rintro ⟨h0,m,hm⟩;have h1:=(V.pL q h0).1 (by rw[hm];rfl);rw[h.v.rt.eL,Int.zero_add] at h1;obtain ⟨r,m',hr,hq⟩:=PF h1;refine ⟨h0,r,_,(O r).2 ⟨kL V.sR hr,m',hr⟩,qb hr,hq⟩
 have dj:∀q m m',G.R q=some m->G.L q=some m'->False:=λq m m' h1 J=>by
  rcases V.dj q with h3 | h3
  ·rw[h1] at h3;cases h3
  grind
 have hk:KindsP (bu G).N L:=by
  refine ⟨λq hq=>?_,λq hq=>?_,λq hr hl=>?_,λq hq=>?_⟩
  ·obtain ⟨_,m,hm⟩:=(O q).1 hq;rw[qb hm];rfl
  ·obtain ⟨_,m,hm⟩:=(Y q).1 hq;rw[rD V hm];rfl
  ·grind
  ·obtain ⟨x,hx⟩:=kaG.1 hq;have h0:=kL hok.2.2.1 hx;cases e:G.R q with
   | some m=>exact .inl ((O q).2 ⟨h0,m,e⟩)
   | none=>cases X:G.L q with
    | some m=>exact .inr ((Y q).2 ⟨h0,m,X⟩)
    | none=>grind[mw]
 have hrO:∀q p,na (Og (bu G).N L q) p=na (G.R q) p:=λq p=>by
  unfold Og;split
  ·rename_i hr;obtain ⟨_,m,hm⟩:=(O q).1 hr;rw[qb hm,hm];rfl
  ·rename_i hr;cases e:G.R q with
   | none=>rfl
   | some m=>exact absurd ((O q).2 ⟨kL V.sR e,m,e⟩) hr
 have Z:∀q p,na (Ig (bu G).N L q) p=na (G.L q) p:=λq p=>by
  unfold Ig;split
  ·rename_i hr;obtain ⟨_,m,hm⟩:=(O q).1 hr;cases e:G.L q with
   | none=>rfl
   | some m'=>exact (dj q m m' hm e).elim
  ·rename_i hr;cases e:G.L q with
   | some m=>rw[rD V e];rfl
   | none=>cases X:G.R q with
    | none=>rw[mw X e]
    | some m=>exact absurd ((O q).2 ⟨kL V.sR X,m,X⟩) hr
 refine ⟨h.v.len,h.v.n1.1,λp hp=>(h.v.pts p (List.mem_of_getLast? hp)).1.2,hok.2.2.1,hok.1,hk,⟨h.z.1,λq m hm=>?_,λq x hx=>?_,λq h0 hq=>?_⟩,h.t⟩
 ·change (bu G).N q=some m at hm;show cN (bu G).N L q=m.refs;unfold cN;rw[vt λk=>hrO k q,<-h.v.rt.eR];have h0:=kL hok.2.2.1 hm;cases e:G.R q with
  | some m'=>
   rw[qb e] at hm;injection hm with hm;subst hm;have:ie G.R q=0:=by
    have h1:=mv G.R q;rcases ka0 h1 with J | J
    ·obtain ⟨x,hx⟩:=kaG.1 ((V.pL q h0).2 (by have:=V.nL q;omega));exact (dj q m' x e hx).elim
    ·exact J.symm
   rw[this];simp[rf]
  | none=>cases X:G.L q with
   | none=>grind[mw]
   | some m'=>
    rw[rD V X] at hm;injection hm with hm;subst hm;have:G.eR q=0:=by
     have h1:=V.nR q;rcases ka0 h1 with J | J
     ·have:=(V.pR q h0).2 J;grind
     ·exact J.symm
    rw[this,h.v.rt.eL];simp[rf]
 ·change (bu G).B q=some x at hx;show ie (Ig (bu G).N L) q=x.2;rw[vt λk=>Z k q];cases e:G.D q with
  | none=>grind[qc]
  | some d=>
   rw[kn e,h.v.rt.eB] at hx
   grind
 ·change ie (Ig (bu G).N L) q≠0 at hq;rw[vt λk=>Z k q] at hq;have h1:=mv G.L q;have J:=(V.pD q h0).2 (by have:=V.nB q;omega);obtain ⟨d,hd⟩:=kaG.1 J;show ((bu G).B q).isSome=true;rw[kn hd];rfl
def zl {S:SI}{L:List Pt}{n:Int}{G:Gh}(h:Con S L n G):io none ps0 (bD S L n)=some ⟨S.B,S.N,L,n⟩/\WholeP ⟨S.B,S.N,L,n⟩:=⟨Pm h.wr,h.whole⟩
section
variable {c:Cx}{g:Option (Nat×Bool)}{E:dr}{L L':List ag}{d:Option Tmp}{ty:TypeId}{pos:String}{af:Array Edge}{gu:Option (Nat×Bool)}{K:List KI}
variable {x y:Operand}
def Sc {k:IntKind}{p q r:Int}{ats:Array TypeId}(hx:ev g E x=some (.int k p))(hy:ev g E y=some (.int k q))(hr:(if p<q then q else p)=r):OpV c g E L ⟨d, .call {callee:= .builtin .max,args:=#[x,y],argTypes:=ats},ty,pos,af,gu⟩ (.int k r):=hr ▸ AD hx hy
end
def rE (k:Nat)(s:ak)(F:List ag):Value->List ag->Prop:=λv L'=>match eh k s with
 | none=>v= .tuple #[sl none 0 0,Bo false]/\L'=F
 | some l=>∃s' c',v= .tuple #[sl s' k c',Bo true]/\L'=bi 3 1 s' c' (bz l)::F
section
variable {c:Cx}{E:dr}{L:List ag}{K:List KI}
def zn {F:List ag}{k:Nat}{s:ak}{vs:List Value}(V:c.R=rE k s F)(he:eh k s=none)(hr:gm E c.fn.results.toList=some vs)(hv:rN vs= .tuple #[sl none 0 0,Bo false])[S:Sub L F](hds:c.n.ds=[]:=by rfl):G c (.code .ret::K) E L:=
 λa w J O=>wp_ret (bX (aW (hds:=hds) hr J (S.sat O) (by simp_all[rE])))
def Kb {F:List ag}{k J:Nat}{s:ak}{l:List Int}{O:Option Addr}{vs:List Value}(X:c.R=rE k s F)(he:eh k s=some l)(hr:gm E c.fn.results.toList=some vs)(hv:rN vs= .tuple #[sl O k J,Bo true])[S:Sub L (bi 3 1 O J (bz l)::F)](hds:c.n.ds=[]:=by rfl):G c (.code .ret::K) E L:=
 λa w V Y=>wp_ret (bX (aW (hds:=hds) hr V (S.sat Y) (by rw[X];grind[rE])))
end
def Bm (m:Nat)(B:pN):(dI m B).length=(bZ m B).length:=by simp[dI]
def Bn (m:Nat)(N:fU):(d6 m N).length=(bZ m N).length:=by simp[d6]
def E8 {m k:Nat}{B:pN}{q:Int}(h:(bZ m B)[k]? =some q):(dI m B)[k]? =some (J6 q (gB B q)):=by simp[dI,h]
def E9 {m k:Nat}{N:fU}{q:Int}(h:(bZ m N)[k]? =some q):(d6 m N)[k]? =some (J7 q (gN N q)):=by simp[d6,h]
def fb (l:List ChangeM)(c:ChangeM):bx l++ [aV c]=bx (l++ [c]):=by simp[bx]
def fG {α:Type}{l:List α}{k:Nat}{x:α}(h:l[k]? =some x):l.take k++ [x]=l.take (k+1):=by
 rw[kaU,h];rfl
def UK {B:pN}(h:l9 40 B)(q:Int):(lk (tb cL 40 B) q).getD (.agg #[aC [],I 0])=cL (gB B q):=by
 rw[FR h];unfold gB;cases B q <;> rfl
def wE (n:Nd)(i:Nat):ak:=jd n.refs++((kd n).take i).flatMap jd
def ME (n:Nd):∀i,i<4->wE n i++jd (bU n i)=wE n (i+1)
 | 0,_=>by simp[wE,kd,bU]
 | 1,_=>by simp[wE,kd,bU]
 | 2,_=>by simp[wE,kd,bU]
 | 3,_=>by simp[wE,kd,bU]
 | i+4,h=>absurd h (by omega)
theorem GP (n:Nd):wE n 4=wD n:=by simp[wE,wD,kd]
def MF (n:Nd):wE n 0=jd n.refs:=by simp[wE]
def tT {n:Nd}(h: -999<=n.refs/\n.refs<=1000)(hk:∀k∈kd n, -999<=k/\k<=1000):∀i,i<=4->(wE n i).length<=4+4*i
 | 0,_=>by rw[MF];exact bY h
 | i+1,hi=>by
  rw[<-ME n i (by omega),Z1];have h1:=tT h hk i (by omega)
  grind[bY,ze]
def MG {S:SI}{L:List Pt}{n:Int}(h:Sm S L n)(q:Int):(0<=(gB S.B q).2/\(gB S.B q).2<=999)/\(gB S.B q).1.length<=6:=by
 unfold gB;cases e:S.B q with
 | none=>simp
 | some x=>have h1:=h.ok.2.1 q x e;have J:=h.dat q x e;grind
def It {S:SI}{L:List Pt}{n:Int}(h:Sm S L n)(q:Int):(0<=(gN S.N q).refs/\(gN S.N q).refs<=999)/\∀k∈kd (gN S.N q),0<=k/\k<=999:=by
 unfold gN;cases e:S.N q with
 | none=>simp[yN,kd]
 | some x=>have h1:=h.ok.2.2.2 q x e;have J:=h.kid q x e;grind
def dA {ee:Bool}(n:Int)(hn: -999<=n/\n<=1000)(F:List ag):Ct Tryz.prog 181 [I n] (bh ee::F) (R1 (aC (jd n)) (bh ee::F)):=by
 have J:=E4 hn;refine Ct.of func181 rR 13 ntmps181 (by simp) λw0=>?_;refine gS (gQ (gS (gM (gR (vB (A0:=bh ee) call217 (Pf n (by omega) (by omega))) (gQ (gS (gM (gV (cW Vg) (gV (fe (da (by omega))) (gV (Sc (r:=((3 - (Lib.itoa n).length:Nat):Int)) rR rR (by split <;> omega)) (gR (vA call244 (J3 (3 - (Lib.itoa n).length) (by omega))) (gM (gV (cS (by rw[Lib.repeatL_length];simp;omega)) (gQ ?_))))))))))))));refine ao rR rR ?_;exact rfl
def gg (s:ak)(k:Nat)(hk:k<=5)(hs:s.length<=9223372036854775807)(F:List ag):Ct Tryz.prog 192 [aC s,I k] (tabs::F) (rE k s (tabs::F)):=by
 refine Ct.of func192 rR 50 ntmps192 (by simp) λw0=>?_;refine gS (gA (gQ (ac (gS (gM (gV (cW Vg) (gM (gV (j5 (da (by omega))) (gV aI (ab ?_))))))))));apply ah<;>intro X
 ·simp at X;refine gS (gA (gQ ?_));exact zn rfl (by unfold eh;rw[YB (by omega)]) rfl rfl
 ·simp at X;refine ai (gS (gQ (ac (ac ?_))));refine bH 3 1 (bz []) ?_;refine am (gM (gM (ab (al ?_))));refine aM (α:=Nat×List Int×Option Addr×Nat) (λz=>z.1<=k/\im z.1 s=some z.2.1) (λz=>U [(0,aC s),(6,sl z.2.2.1 z.1 z.2.2.2),(15,I k),(16,I z.1)]) (λz=>bi 3 1 z.2.2.1 z.2.2.2 (bz z.2.1)::tabs::F) (λz=>k - z.1) (0,[],none,0) ⟨by simp,rfl⟩ [0,6,15,16] rfl ?_;rintro ⟨i,l,s6,c6⟩ ⟨hi,hl⟩;simp only[] at hi hl ⊢;have hll:=qX hl;refine gS (gV aI (ab (ac ?_)));apply ah<;>intro Y
  ·simp at Y;have hik:i<k:=(by omega);refine ai (ac (al (gS (gM (gQ (ac ?_))))));have O:((s.take (3*i+3)).drop (3*i)).length=3:=(by simp;omega);have S:((s.take (3*i+3)).drop (3*i))=(s.drop (3*i)).take 3:=(by rw[List.drop_take];congr 1;omega);refine am (gM (gM (gV (j5 (da (by omega))) (gM (gV (j5 (da (by omega))) (gP (gV (gc (l:=3*i) (h:=3*i+3) Vg (hm:=by omega) (hm2:=by omega) (by omega)) (gI (uB (A0:=tabs) call219 (Pg ((s.take (3*i+3)).drop (3*i)) O)) ?_))))))));rintro _ _ ⟨rfl,⟨v,hv,rfl⟩ | ⟨hv,t0,p0,rfl⟩⟩
   ·have hvr:=Ie O hv;refine gM (gX (I v) (gX (fv 0 0) (gA (gQ (ac (ac (gG [(0,false),(1,false),(2,false),(3,false),(5,false),(6,false),(7,false),(8,false),(9,false),(10,false),(11,false),(4,true),(12,false),(13,false)] (dM rR (dV rR (ck (T:=0) (f:=0) Vl) (dM rR (aN rR aq (aN rR aq (aN rR aq (aN rR (j5 (da (by omega))) (aN rR aq (aN rR (j5 (da (by omega))) (aN rR (bO (da (by omega))) (aN rR (gc (l:=3*i) (h:=3*i+3) Vg (hm:=by omega) (hm2:=by omega) (by omega)) ?_))))))))))))))))));refine Gc rR (cX (Pre:=[tabs]) call181 (dA (v) (by omega))) ?_;rintro _ _ ⟨rfl,rfl⟩;refine aN rR np (dV rR cu ?_);refine aP ?_;apply ah<;>intro J
    ·have V:¬jd v=((s.take (3*i+3)).drop (3*i)):=(by simpa using J);refine gS (gA (gQ ?_));exact zn rfl (by
      unfold eh;rw[YC (by omega)];have R:im (i+1) s=none:=(by rw[sj hl,<-S];unfold y9;rw[hv];simp only;rw[YC V];rfl);have:=zd (k:=k - (i+1)) R
      rwa [show i+1+(k - (i+1))=k by omega] at this) rfl rfl
    ·have V:jd v=((s.take (3*i+3)).drop (3*i)):=(by simpa using J);refine ai (am (gM (gM (gI (av [[I v]] Vi Vb VL (by simp)) ?_))));rintro _ _ ⟨b46,rfl,rfl⟩;refine gI (bo Vi Vb VL Tryz.typeInfo3 (hn:=by rw[bW];exact qX hl) (by simp) (by intro r hr;simp at hr;subst hr;rfl) ⟨by omega,by decide,by decide⟩) ?_;rintro _ _ ⟨s47,Z,rfl,rfl⟩;rw[show bz l++ [[I v]]=bz (l++ [v]) by simp[bz]];refine gQ (aG (am (gP (gM (ab ?_)))));exact ap (i+1,l++ [v],s47,Z) ⟨by simp only[];omega,by simp only[];rw[sj hl,<-S];unfold y9;rw[hv];simp only;rw[YB V];rfl⟩ (by simp only[];omega) [0,6,15,16] rfl
   ·refine gM (gX (I 0) (gX (.iface t0 (ptr p0 0)) (gA (gQ (ac (ac ?_))))));refine cV jG ?_;refine dM rR (dV rR (Ti Vl rR) (dM rR (aL rR (aL rR (aL rR (aL rR (aL rR (aL rR (aL rR (aL rR (aL rR (aL rR (dV rR fl ?_)))))))))))));refine aP ?_;apply ah<;>intro J
    ·refine gS (gA (gQ ?_));exact zn rfl (by
      unfold eh;rw[YC (by omega)];have R:im (i+1) s=none:=(by rw[sj hl,<-S];unfold y9;rw[hv];rfl);have:=zd (k:=k - (i+1)) R
      rwa [show i+1+(k - (i+1))=k by omega] at this) rfl rfl
    ·cases J
  ·simp at Y;obtain rfl:i=k:=(by omega);refine aF ?_;refine gS (gM (gA (gQ ?_)));exact Kb rfl (by unfold eh;rw[YC (by omega)];exact hl) rfl rfl
def nv {ee:Bool}(b:Nat)(S:SI)(L:List Pt)(n:Int)(h:Sm S L n)(F:List ag):Ct Tryz.prog 104 [ptr b 0] (bh ee::gO b S L n::F) (ww 174 3 (bD S L n).length (bx (bD S L n)) (bh ee::gO b S L n::F)):=by
 have hok:=h.ok;have hll:=h.len;have hib:=ea 40 S.B;have hin:=ea 24 S.N;refine Ct.of func104 rR 133 ntmps104 (by simp) λw0=>?_;refine ik b S L n ?_;intro x s c;refine fd x S ?_;intro p r;refine bH 174 3 (bx ((dI 40 S.B).take 0)) ?_;refine gS (gQ (gS (gQ (ac (gS (gM (gV aa (gF 0 Vr rR VK (gL (ptr x 0) VN (gV aa (gF 0 VA rR Wy (gL (ptr p 0) WC (gI (uB call137 (px p S.B)) ?_)))))))))))));rintro _ _ ⟨s22,c22,rfl,rfl⟩;refine bR s22 ?_;refine kj p S.B ?_;intro r2;refine gV (aX Vi) (gM (ab (al ?_)));refine aM (α:=Nat×Option Addr×Nat) (λz=>z.1<=(bZ 40 S.B).length) (λz=>U [(0,ptr b 0),(3,sl z.2.1 z.1 z.2.2),(22,sl s22 (bZ 40 S.B).length c22),(23,I (bZ 40 S.B).length),(24,I z.1)]) (λz=>bi 174 3 z.2.1 z.2.2 (bx ((dI 40 S.B).take z.1))::roL 1 s22 (bz (bZ 40 S.B))::bh ee::pt b (.cells #[ptr x 0,sl s (L).length c,I (n)] 123 (0,0))::pt x (.cells #[ptr p 0, .map (some r)] 231 (0,0))::pt p (.cells #[.map (some r2)] 234 (0,0))::mp r2 (tb cL 40 S.B)::mp r (tb cl 24 S.N)::bi 162 4 s c (fE (L))::F) (λz=>(bZ 40 S.B).length - z.1) (0,none,0) (by simp) [0,3,22,23,24] rfl ?_;rintro ⟨k,Y,c3⟩ hk;simp only[] at hk ⊢;refine gS (gV aI (ab (ac ?_)));apply ah<;>intro h25
 ·simp at h25;have O:k<(bZ 40 S.B).length:=(by omega);obtain ⟨q,hq⟩:∃q,(bZ 40 S.B)[k]? =some q:=⟨_,Zu O⟩;obtain ⟨hqr,hqs⟩:=mem_ids.1 (YW hq);have hgb:=MG h q;refine ai (ac (al (gS (gV (ay k Vi Vb O (by rw[bW];exact O)) (gV (bI (v:=I q) Vc (by exact dN hq) rR) (gQ (gS (gM (gV aa (gF 0 Vr rR VK (gL (ptr x 0) VN (gV aa (gF 0 VA rR Wy (gL (ptr p 0) WC (gV aa (gF 0 Ws rR Wm (gL (.map (some r2)) Wt (gM (gV (cI (v:=cL (gB S.B q)) We Vf Wk (UK hok.1 q)) (gI (aO #[aC [],I 0] Wk) ?_))))))))))))))))))));rintro _ _ ⟨b6,rfl,rfl⟩;refine gU (ax (cs:=#[aC [],I 0]) (vs:=[aC (gB S.B q).1,I (gB S.B q).2]) #[aC (gB S.B q).1,I (gB S.B q).2] VV (by simp) (hcs:=by exact aJ)) (ab (gD (Lf:=[pt b6 (.cells #[aC (gB S.B q).1,I (gB S.B q).2] 183 (0,0))]) [(0,false),(1,false),(4,false),(5,false),(7,false),(8,false),(2,true),(3,false),(6,true),(9,false),(10,false),(11,true),(12,true),(13,false)] (dM rR (dM rR (dF rR 1 Wf rR Vb (dL rR (I (gB S.B q).2) Vc (dF rR 0 Wf rR Vh (dL rR (aC (gB S.B q).1) Vj (d7 rR (uB (A0:=bh ee) call181 (dA (q) (by omega))) ?_)))))))));rintro _ _ ⟨rfl,rfl⟩;refine dV rR (cS (by have:=bY (n:=q) (by omega);simp;omega)) (d7 rR (uB (A0:=bh ee) call181 (dA ((gB S.B q).2) (by omega))) ?_);rintro _ _ ⟨rfl,rfl⟩;refine dV rfl (cS (by have:=bY (n:=(gB S.B q).2) (by omega);omega)) (dV rfl (aR (iu _ rfl _ rfl)) (d7 rfl (av [aV (J6 q (gB S.B q))] Ve Vd Vo (by intro r hr;simp at hr;subst hr;rfl)) ?_));rintro _ _ ⟨b51,rfl,rfl⟩;refine d7 rfl (bo Ve Vd Vo Tryz.typeInfo174 (hn:=by rw[aQ];simp[dI,d6];omega) (by intro r hr;simp at hr;subst hr;rfl) (by intro r hr;simp at hr;subst hr;rfl) ⟨by omega,by decide,by decide⟩) ?_;rintro _ _ ⟨s52,c52,rfl,rfl⟩;rw[fb,fG (E8 hq)];refine dV rR aD ?_;refine aP ?_;refine aG (am (gP (gM (ab ?_))));exact ap (k+1,s52,c52) (by simp only[];omega) (by simp only[];omega) [0,3,22,23,24] rfl
 ·simp at h25;obtain rfl:k=(bZ 40 S.B).length:=(by omega);rw[kaq (by rw[Bm];omega)];refine aF ?_;refine ac (ac ?_);refine dP r2 p S.B (.refl _) ?_;refine ct p r x S (.refl _) ?_;refine am (gM (gV aa (gF 0 Vr rR VK (gL (ptr x 0) VN (gI (uB call138 (nV x S)) ?_)))));rintro _ _ ⟨V,c58,rfl,rfl⟩;refine bR V ?_;refine fd x S ?_;intro p r;refine gV (aX Vi) (gM (ab ?_));refine kE Y (bx (dI 40 S.B++(d6 24 S.N).take 0)) (by simp) ?_;refine al ?_;refine aM (α:=Nat×Option Addr×Nat) (λz=>z.1<=(bZ 24 S.N).length) (λz=>U [(0,ptr b 0),(3,sl z.2.1 ((bZ 40 S.B).length+z.1) z.2.2),(58,sl V (bZ 24 S.N).length c58),(59,I (bZ 24 S.N).length),(60,I z.1)]) (λz=>bi 174 3 z.2.1 z.2.2 (bx (dI 40 S.B++(d6 24 S.N).take z.1))::roL 1 V (bz (bZ 24 S.N))::bh ee::pt b (.cells #[ptr x 0,sl s (L).length c,I (n)] 123 (0,0))::pt x (.cells #[ptr p 0, .map (some r)] 231 (0,0))::ml p S.B::mp r (tb cl 24 S.N)::bi 162 4 s c (fE (L))::F) (λz=>(bZ 24 S.N).length - z.1) (0,Y,c3) (by simp) [0,3,58,59,60] rfl ?_;rintro ⟨k,Y,c3⟩ hk;simp only[] at hk ⊢;refine gS (gV aI (ab (ac ?_)));apply ah<;>intro h61
  ·simp at h61;have O:k<(bZ 24 S.N).length:=(by omega);obtain ⟨q,hq⟩:∃q,(bZ 24 S.N)[k]? =some q:=⟨_,Zu O⟩;obtain ⟨hqr,hqs⟩:=mem_ids.1 (YW hq);have Z:=It h q;refine ai (ac (al (gS (gV (ay k Vi Vb O (by rw[bW];exact O)) (gV (bI (v:=I q) Vc (by exact dN hq) rR) (gQ (gS (gM (gV aa (gF 0 Vr rR VK (gL (ptr x 0) VN (gV aa (gF 1 VA rR VU (gL (.map (some r)) VY (gM (gV (cI (v:=cl (gN S.N q)) VZ Vf Wa (LY hok.2.2.1 _)) (gI (aO #[I 0,I 0,I 0,I 0,I 0] Wa) ?_)))))))))))))))));rintro _ _ ⟨b9,rfl,rfl⟩;refine gU (ax (cs:=#[I 0,I 0,I 0,I 0,I 0]) (vs:=km (gN S.N q)) (km (gN S.N q)).toArray VD (by simp) (hcs:=by exact aJ)) (ab (gS (gF 4 Vy rR Vb (gL (I (gN S.N q).refs) Vc (gR (vB (A0:=bh ee) call181 (dA ((gN S.N q).refs) (by omega))) (gQ (ac (gS (gF 0 Vy rR Vw (gV (aU (vs:=fQ (gN S.N q)) V7 Vw vj) (gM (ab (al ?_)))))))))))));refine aM (α:=Nat) (λi=>i<=4) (λi=>U [(0,ptr b 0),(3,sl Y ((bZ 40 S.B).length+k) c3),(58,sl V (bZ 24 S.N).length c58),(59,I (bZ 24 S.N).length),(60,I k),(8,I q),(10,aC (wE (gN S.N q) i)),(77, .agg (fQ (gN S.N q)).toArray),(78,I i)]) (λi=>bi 174 3 Y c3 (bx (dI 40 S.B++(d6 24 S.N).take k))::roL 1 V (bz (bZ 24 S.N))::bh ee::pt b (.cells #[ptr x 0,sl s (L).length c,I (n)] 123 (0,0))::pt x (.cells #[ptr p 0, .map (some r)] 231 (0,0))::ml p S.B::mp r (tb cl 24 S.N)::bi 162 4 s c (fE (L))::F) (λi=>4 - i) 0 (by omega) [0,3,58,59,60,8,10,77,78] rfl (he:=by rw[MF];rfl) ?_;intro i hi;refine gS (gV aI (ab (ac ?_)));apply ah<;>intro h79
   ·simp at h79;have R:i<4:=(by omega);refine ai (ac (al (gS (gV (kO (v:=I (bU (gN S.N q) i)) i VH Vb Vc R (by simpa using gz (gN S.N q) i R)) (gQ (am (gM (gM (gR (vB (A0:=bh ee) call181 (dA (bU (gN S.N q) i) (by have:=Z.2 _ (ze (n:=gN S.N q) R);omega))) (gV (cS (by have h1:=tT (n:=gN S.N q) (by omega) (λk hk=>by have:=Z.2 k hk;omega) i hi;have:=bY (n:=bU (gN S.N q) i) (by have:=Z.2 _ (ze (n:=gN S.N q) R);omega);omega)) (gQ (aG (am (gP (gM (ab ?_))))))))))))))));refine ap (i+1) (by omega) (by omega) [0,3,58,59,60,8,10,77,78] rfl (he:=?_);rw[<-ME _ i R]
    rfl
   ·simp at h79;obtain rfl:i=4:=(by omega);rw[GP];refine aF ?_;refine am (gM (gM (gR (vB (A0:=bh ee) call181 (dA (q) (by omega))) (gV (cS (by have:=bY (n:=q) (by omega);simp;omega)) (gM (gV (aR (iu _ rfl _ rfl)) (gI (av [aV (J7 q (gN S.N q))] Ve Vd Vo (by intro r hr;simp at hr;subst hr;rfl)) ?_)))))));rintro _ _ ⟨b92,rfl,rfl⟩;refine gI (bo Ve Vd Vo Tryz.typeInfo174 (hn:=by rw[aQ];simp[dI,d6];omega) (by intro r hr;simp at hr;subst hr;rfl) (by intro r hr;simp at hr;subst hr;rfl) ⟨by omega,by decide,by decide⟩) ?_;rintro _ _ ⟨s93,c93,rfl,rfl⟩;rw[fb,Zf,fG (E9 hq)];refine gQ (aG (am (gP (gM (ab ?_)))));exact ap (k+1,s93,c93) (by simp only[];omega) (by simp only[];omega) [0,3,58,59,60] rfl
  ·simp at h61;obtain rfl:k=(bZ 24 S.N).length:=(by omega);rw[kaq (l:=d6 24 S.N) (by rw[Bn];omega)];refine aF ?_;refine ac (gS (gM (gV aa (gF 1 Vr rR Vx (gL (sl s (L).length c) VM (gV (aX Vv) (gM (ab ?_))))))));refine kE Y (bx (dI 40 S.B++d6 24 S.N++(L.map mM).take 0)) (by simp) ?_;refine al ?_;refine aM (α:=Nat×Option Addr×Nat) (λz=>z.1<=L.length) (λz=>U [(0,ptr b 0),(3,sl z.2.1 ((bZ 40 S.B).length+(bZ 24 S.N).length+z.1) z.2.2),(98,sl s L.length c),(99,I L.length),(100,I z.1)]) (λz=>bi 174 3 z.2.1 z.2.2 (bx (dI 40 S.B++d6 24 S.N++(L.map mM).take z.1))::bh ee::pt b (.cells #[ptr x 0,sl s (L).length c,I (n)] 123 (0,0))::pt x (.cells #[ptr p 0, .map (some r)] 231 (0,0))::ml p S.B::mp r (tb cl 24 S.N)::bi 162 4 s c (fE (L))::F) (λz=>L.length - z.1) (0,Y,c3) (by simp) [0,3,98,99,100] rfl ?_;rintro ⟨k,Y,c3⟩ hk;simp only[] at hk ⊢;refine gS (gV aI (ab (ac ?_)));apply ah<;>intro X
   ·simp at X;have hkn:k<L.length:=(by omega);obtain ⟨J,hp⟩:∃J,L[k]? =some J:=⟨_,Zu hkn⟩;have hps:=h.pts J (YW hp);refine ai (ac (al (gS (gV (ay (k) Vv Vk hkn (by rw[cQ];exact hkn)) (gV (bJ (row:=aY J) Wp Vk (gC hp)) (gI (aO #[I 0,I 0,I 0,I 0] VJ) ?_))))));rintro _ _ ⟨b14,rfl,rfl⟩;refine gU (ax (cs:=#[I 0,I 0,I 0,I 0]) (vs:=aY (J)) (aY (J)).toArray Vk (by simp) (hcs:=by exact aJ)) (ab ?_);refine cO (Lf:=[pt b14 (.cells (aY J).toArray 162 (0,0))]) jU ?_;refine dM rR (dF rR 0 VC rR Vb (dL rR (I J.id) Vc (dF rR 1 VC rR Vb (dL rR (I J.disk) Vc (dF rR 2 VC rR Vb (dL rR (I J.size) Vc (dF rR 3 VC rR Vb (dL rR (I J.root) Vc (d7 rR (uB (A0:=bh ee) call181 (dA (J.id) (by omega))) ?_)))))))));rintro _ _ ⟨rfl,rfl⟩;refine dV rR (cS (by have:=bY (n:=J.id) (by omega);simp;omega)) (d7 rR (uB (A0:=bh ee) call181 (dA (J.disk) (by omega))) ?_);rintro _ _ ⟨rfl,rfl⟩;refine d7 rR (uB (A0:=bh ee) call181 (dA (J.size) (by omega))) ?_;rintro _ _ ⟨rfl,rfl⟩;refine dV rR (cS (by have:=bY (n:=J.disk) (by omega);have:=bY (n:=J.size) (by omega);omega)) (d7 rR (uB (A0:=bh ee) call181 (dA (J.root) (by omega))) ?_);rintro _ _ ⟨rfl,rfl⟩;refine dV rfl (cS (by have:=bY (n:=J.disk) (by omega);have:=bY (n:=J.size) (by omega);have:=bY (n:=J.root) (by omega);simp;omega)) (dV rfl (aR (iu _ rfl _ rfl)) (d7 rfl (av [aV (mM J)] Ve Vd Vo (by intro r hr;simp at hr;subst hr;rfl)) ?_));rintro _ _ ⟨b121,rfl,rfl⟩;refine d7 rfl (bo Ve Vd Vo Tryz.typeInfo174 (hn:=by rw[aQ];simp[dI,d6];omega) (by intro r hr;simp at hr;subst hr;rfl) (by intro r hr;simp at hr;subst hr;rfl) ⟨by omega,by decide,by decide⟩) ?_;rintro _ _ ⟨s122,c122,rfl,rfl⟩;rw[fb,Zf (dI 40 S.B++d6 24 S.N),fG (show (L.map mM)[k]? =some (mM J) by simp[hp])];refine dV rR aD ?_;refine aP ?_;refine aG (am (gP (gM (ab ?_))));exact ap (k+1,s122,c122) (by simp only[];omega) (by simp only[];omega) [0,3,98,99,100] rfl
   ·simp at X;obtain rfl:k=L.length:=(by omega);rw[kaq (l:=L.map mM) (by simp)];refine aF ?_;refine gS (gM (gM (gV aa (gF 2 Vr rfl Vb (gL (I n) Vc (gR (vB (A0:=bh ee) call181 (dA (n) (by have:=h.n1;omega))) (gV (aR (iu _ rfl _ rfl)) (gI (av [aV (vq n)] Ve Vd Vo (by intro r hr;simp at hr;subst hr;rfl)) ?_))))))));rintro _ _ ⟨b131,rfl,rfl⟩;refine gI (bo Ve Vd Vo Tryz.typeInfo174 (hn:=by rw[aQ];simp[dI,d6];omega) (by intro r hr;simp at hr;subst hr;rfl) (by intro r hr;simp at hr;subst hr;rfl) ⟨by omega,by decide,by decide⟩) ?_;rintro _ _ ⟨s132,c132,rfl,rfl⟩;rw[fb,show dI 40 S.B++d6 24 S.N++L.map mM++ [vq n]=bD S L n from rfl];refine gQ ?_;refine ct p r x S (.refl _) ?_;refine cC b x s c (S) (L) (n) ?_;exact df rfl rfl rfl (by rw[qY])
def UY (b:Nat)(st:PS)(z:Nat×Nat×Nat×Nat×Option Addr×Nat):List ag:=[pt b (.cells #[ptr z.1 0,sl z.2.2.2.2.1 st.L.length z.2.2.2.2.2,I st.n] 123 (0,0)),pt z.1 (.cells #[ptr z.2.1 0, .map (some z.2.2.1)] 231 (0,0)),pt z.2.1 (.cells #[.map (some z.2.2.2.1)] 234 (0,0)),mp z.2.2.1 (tb cl 999 st.N),mp z.2.2.2.1 (tb cL 999 st.B),bi 162 4 z.2.2.2.2.1 z.2.2.2.2.2 (fE st.L)]
def MH (b:Nat)(st:PS):ag:=hx (UY b st)
def MI (b:Nat)(st':Option PS)(F:List ag):Value->List ag->Prop:=λv L'=>match st' with
 | none=>v=Bo false/\L'=F
 | some st=>v=Bo true/\L'=MH b st::F
section
variable {c:Cx}{E:dr}{L:List ag}{K:List KI}
def pa {F:List ag}(b:Nat)(st:PS)[R:Rem L (MH b st) F](k:∀x p r r2 s J,G c K E (pt b (.cells #[ptr x 0,sl s st.L.length J,I st.n] 123 (0,0))::pt x (.cells #[ptr p 0, .map (some r)] 231 (0,0))::pt p (.cells #[.map (some r2)] 234 (0,0))::mp r (tb cl 999 st.N)::mp r2 (tb cL 999 st.B)::bi 162 4 s J (fE st.L)::F)):G c K E L:=jl (MH b st) rfl λz=>k z.1 z.2.1 z.2.2.1 z.2.2.2.1 z.2.2.2.2.1 z.2.2.2.2.2
def pb {F:List ag}(b x p r r2:Nat)(s:Option Addr)(J:Nat)(st:PS)[O:Split L [pt b (.cells #[ptr x 0,sl s st.L.length J,I st.n] 123 (0,0)),pt x (.cells #[ptr p 0, .map (some r)] 231 (0,0)),pt p (.cells #[.map (some r2)] 234 (0,0)),mp r (tb cl 999 st.N),mp r2 (tb cL 999 st.B),bi 162 4 s J (fE st.L)] F](k:G c K E (MH b st::F)):G c K E L:=
 ic (A:=UY b st) [pt b (.cells #[ptr x 0,sl s st.L.length J,I st.n] 123 (0,0)),pt x (.cells #[ptr p 0, .map (some r)] 231 (0,0)),pt p (.cells #[.map (some r2)] 234 (0,0)),mp r (tb cl 999 st.N),mp r2 (tb cL 999 st.B),bi 162 4 s J (fE st.L)] (MH b st) (x,p,r,r2,s,J) k
def jj {F:List ag}{b:Nat}{R:Option PS}{vs:List Value}(O:c.R=MI b R F)(he:R=none)(hr:gm E c.fn.results.toList=some vs)(hv:rN vs=Bo false)[S:Sub L F](hds:c.n.ds=[]:=by rfl):G c (.code .ret::K) E L:=
 λa w J V=>wp_ret (bX (aW (hds:=hds) hr J (S.sat V) (by rw[O,he];exact ⟨hv,rfl⟩)))
def n5 {F:List ag}{b:Nat}{R:Option PS}{st:PS}{vs:List Value}(O:c.R=MI b R F)(he:R=some st)(hr:gm E c.fn.results.toList=some vs)(hv:rN vs=Bo true)[S:Sub L (MH b st::F)](hds:c.n.ds=[]:=by rfl):G c (.code .ret::K) E L:=
 λa w J V=>wp_ret (bX (aW (hds:=hds) hr J (S.sat V) (by rw[O,he];exact ⟨hv,rfl⟩)))
end
def MJ (n:Nd)(r:Int)(w:World):(Instr.build 187 #[(0, .agg (fQ n).toArray),(1,I r)]).run Tryz.prog w= .ok (cl (rf n r)) w:=by
 simp[Instr.build,Wa,XY,Vw,Vb,Instr.fill,bB,show (I r).cells=#[I r] from rfl,rf]
def TX {r k0 k1 k2 k3:Int}:∀k v,(fQ ⟨k0,k1,k2,k3,r⟩)[k]? =some v->(bz [r,k0,k1,k2,k3])[1+k]? =some [v]
 | 0,v,h=>by simpa [bz] using h
 | 1,v,h=>by simpa [bz] using h
 | 2,v,h=>by simpa [bz] using h
 | 3,v,h=>by simpa [bz] using h
 | k+4,v,h=>by simp at h
def Sd {y:UInt8}{n:Nat}(hn:n<256)(h:(y.toNat:Int)=n):y=UInt8.ofNat n:=by
 grind[UInt8.toNat_inj,UInt8.toNat_ofNat']
def C0 {b:Bool}{P:Prop}(h:b=true ↔ P)(hp:P):rN [Bo b]=Bo true:=by rw[h.2 hp];rfl
def Iu {b:Bool}{P:Prop}(h:b=true ↔ P)(hp:¬P):rN [Bo b]=Bo false:=by
 cases b with
 | true=>exact absurd (h.1 rfl) hp
 | false=>rfl
def tU (b:Nat)(st:PS)(c:ChangeM)(hL:st.L.length<=1000000)(hkl:c.key.length<=9223372036854775807)(hvl:c.val.length<=9223372036854775807)(F:List ag):Ct Tryz.prog 119 [ptr b 0, .agg (aV c).toArray] (tabs::MH b st::F) (MI b (je st c) (tabs::F)):=by
 refine Ct.of func119 rR 214 ntmps119 (by simp) λw0=>?_;refine gS (gI (di (aV c).toArray) ?_);rintro _ _ ⟨b3,rfl,rfl⟩;refine gQ (ac (gS (gF 0 Vp rR Vh (gL (aC c.key) Vj (gV cj (ab ?_))))));apply ah<;>intro h17
 ·have hX:c.key=[120]:=(by simpa using h17);refine gS (gF 1 Vp rR Vh (gL (aC c.val) Vj (gI (uB (A0:=tabs) call192 (gg (c.val) 1 (by decide) hvl)) ?_)));rintro _ _ J;unfold rE at J;rcases hn1:eh 1 (c.val) with _ | l1 <;> rw[hn1] at J
  ·obtain ⟨rfl,rfl⟩:=J;refine gM (gX (sl none 0 0) (gX (Bo false) (gA (gQ (ac (gS (gF 1 Vp rR Vh (gL (aC c.val) Vj (gV cj (ab ?_))))))))));apply ah<;>intro S
   ·have S:c.val=[49,48,48,48]:=(by simpa using S);refine ac ?_;refine pa b st ?_;intro x p r r2 s cc;refine am (gM (gV aa (gF 2 Vr rR Vb (gU (aK #[ptr x 0,sl s st.L.length cc,I 1000] Vb (by simp)) (ab (gS (gQ ?_)))))));refine pb b x p r r2 s cc ({st with n:=1000}) ?_;exact n5 (st:={st with n:=1000}) rfl (by unfold je;rw[YB hX];unfold xF;rw[YB S]) rfl rfl
   ·have S:¬c.val=[49,48,48,48]:=(by simpa using S);refine ai (ac (gS (gM (ab ?_))));refine dW ?_;refine ai (gS (gM (gM (bE (bE (bE (bE (gV eT (gQ ?_)))))))));exact jj rfl (by unfold je;rw[YB hX];unfold xF;rw[YC S,hn1]) rfl rfl
  ·obtain ⟨sa1,ca1,rfl,rfl⟩:=J;obtain ⟨v,rfl⟩:=RW (hJ hn1).1;have hvr1:=(fm hn1).2;have hln1:=(hJ hn1).2;refine gM (gX (sl sa1 1 ca1) (gX (Bo true) (gA (gQ (ac (gS (gF 1 Vp rR Vh (gL (aC c.val) Vj (gV cj (ab ?_))))))))));apply ah<;>intro S
   ·have S:c.val=[49,48,48,48]:=(by simpa using S);refine ac ?_;refine pa b st ?_;intro x p r r2 s cc;refine am (gM (gV aa (gF 2 Vr rR Vb (gU (aK #[ptr x 0,sl s st.L.length cc,I 1000] Vb (by simp)) (ab (gS (gQ ?_)))))));refine pb b x p r r2 s cc ({st with n:=1000}) ?_;exact n5 (st:={st with n:=1000}) rfl (by unfold je;rw[YB hX];unfold xF;rw[YB S]) rfl rfl
   ·have S:¬c.val=[49,48,48,48]:=(by simpa using S);refine ai (ac (gS (gM (ab ?_))));refine eH ?_;refine pa b st ?_;intro x p r r2 s cc;refine am (gM (gM (gV (ay 0 Vi Vb (by decide) (by simp[bz])) (gV (bI (v:=I v) Vc (by rfl) rR) (gV aa (gF 2 Vr rR Vb (gU (aK #[ptr x 0,sl s st.L.length cc,I v] Vb (by simp)) (ab (gS (gM (gM (bc (aw 1 Vp rR Vh) (bc (az (v:=aC c.val) Vj) (bc (cW Vg) (bc bT (gV dD (gQ ?_)))))))))))))))));by_cases h3:c.val.length=3
    ·refine pb b x p r r2 s cc ({st with n:=v}) ?_;exact n5 (st:={st with n:=v}) rfl (by unfold je;rw[YB hX];unfold xF;rw[YC S,hn1];simp only;rw[YB h3]) rfl (C0 (by simp;omega) h3)
    ·exact jj rfl (by unfold je;rw[YB hX];unfold xF;rw[YC S,hn1];simp only;rw[YC h3]) rfl (Iu (P:=c.val.length=3) (by simp;omega) h3)
 ·have hX:¬c.key=[120]:=(by simpa using h17);refine ai (ac (gS (gF 0 Vp rR Vh (gL (aC c.key) Vj (gV (cW Vg) (gV fZ (gM (gK (aw 2 Vp rR Vt) (gK (az (v:=Bo c.gone) V6) (gV cu (ab ?_)))))))))));apply ah<;>intro h51
  ·have V:c.key.length≠4\/c.gone=true:=(by simp at h51;rcases h51 with h | h;exact .inl (by omega);exact .inr h);refine gS (gQ ?_);exact jj rfl (by unfold je;rw[YC hX,YB V]) rfl rfl
  ·have V:¬(c.key.length≠4\/c.gone=true):=(by simp at h51;rintro (h | h);exact h (by omega);rw[h51.2] at h;cases h);have hk44:c.key.length=4:=(by omega);refine ai (gS (gF 0 Vp rR Vh (gL (aC c.key) Vj (gV (wU (l:=1) Vg (by omega)) (gI (uB (A0:=tabs) call192 (gg (c.key.drop 1) 1 (by decide) (by simp;omega))) ?_)))));rintro _ _ J;unfold rE at J;rcases hn0:eh 1 (c.key.drop 1) with _ | l0 <;> rw[hn0] at J
   ·obtain ⟨rfl,rfl⟩:=J;refine gM (gX (sl none 0 0) (gX (Bo false) (gA (gQ (ac (gS (gM (gV cE (gM (bE (bE (bE (bE (gV fl (ab ?_)))))))))))))));apply ah<;>intro h66
    ·refine gS (gQ ?_);exact jj rfl (by unfold je;rw[YC hX,YC V,hn0]) rfl rfl
    ·cases h66
   ·obtain ⟨sa0,ca0,rfl,rfl⟩:=J;obtain ⟨id,rfl⟩:=RW (hJ hn0).1;have hvr0:=(fm hn0).2;have hln0:=(hJ hn0).2;refine gM (gX (sl sa0 1 ca0) (gX (Bo true) (gA (gQ (ac (gS (gM (gV cE (gM (bc aq (bc (ay 0 Vi Vb (by decide) (by simp[bz])) (bc (bI (v:=I id) Vc (by rfl) rR) (bc aI (gV cu (ab ?_)))))))))))))));apply ah<;>intro h66
    ·have hid0:id<1:=(by simpa using h66);refine gS (gQ ?_);exact jj rfl (by unfold je;rw[YC hX,YC V,hn0];simp only;rw[YB hid0]) rfl rfl
    ·have R:¬id<1:=(by simpa using h66);have hidr:=hvr0 id (by simp);obtain ⟨y,hy⟩:∃y,c.key[0]? =some y:=⟨_,Zu (by omega)⟩;have Y:c.key.head? =some y:=(by rw[List.head?_eq_getElem?];exact hy);refine ai (ac (gS (gF 0 Vp rR Vh (gL (aC c.key) Vj (gV (cr 0 Vg (by exact hy)) (ab (al (gS (gV bT (gQ ?_))))))))));apply ah<;>intro h70
     ·have h98:y=98:=Sd (n:=98) (by decide) (by simpa using h70);subst h98;refine gS (gF 1 Vp rR Vh (gL (aC c.val) Vj (gI (uB (A0:=tabs) call192 (gg (c.val) 1 (by decide) hvl)) ?_)));rintro _ _ J;unfold rE at J;rcases hn2:eh 1 (c.val) with _ | l2 <;> rw[hn2] at J
      ·obtain ⟨rfl,rfl⟩:=J;refine gM (gX (sl none 0 0) (gX (Bo false) (gA (gQ (ac (gS (gM (ab ?_))))))));refine dW ?_;refine ai (gS (gM (gM (bE (bE (bE (bE (gV eT (gM (bE (bE (bE (bE (gV eT (gM (bE (bE (bE (bE (gV eT (gQ ?_)))))))))))))))))))));exact jj rfl (by unfold je;rw[YC hX,YC V,hn0];simp only;rw[YC R,Ii Y];unfold bF;rw[show eh 1 c.val=none from hn2]) rfl rfl
      ·obtain ⟨Z,ca2,rfl,rfl⟩:=J;obtain ⟨X,rfl⟩:=RW (hJ hn2).1;have hvr2:=(fm hn2).2;have hln2:=(hJ hn2).2;refine gM (gX (sl Z 1 ca2) (gX (Bo true) (gA (gQ (ac (gS (gM (ab ?_))))))));refine eH ?_;refine pa b st ?_;intro x p r r2 s cc;refine eU (Lf:=[pt b (.cells #[ptr x 0,sl s st.L.length cc,I st.n] 123 (0,0)),pt x (.cells #[ptr p 0, .map (some r)] 231 (0,0)),pt p (.cells #[.map (some r2)] 234 (0,0)),pt b3 (.cells (aV c).toArray 174 (0,0)),bi 3 1 sa0 ca0 (bz [id]),bi 3 1 Z ca2 (bz [X]),mp r2 (tb cL 999 st.B)]) [(0,false),(1,false),(2,false),(3,false),(4,false),(5,false),(6,false),(7,false),(8,false),(9,false),(10,false),(11,false),(12,false),(13,false),(14,false),(15,false),(16,false),(17,false),(18,false),(19,false)] 20 ?_;refine dM rR (dV rR aa (dF rR 0 Vr rR VK (dL rR (ptr x 0) VN (dV rR aa (dF rR 0 VA rR Wy (dL rR (ptr p 0) WC (dV rR aa (dF rR 0 Ws rR Wm (dL rR (.map (some r2)) Wt (dM rR (dV rR (ay 0 Vi Vb (by decide) (by simp[bz])) (dV rR (bI (v:=I id) Vc (by rfl) rR) (dF rR 1 Vp rR Vh (dL rR (aC c.val) Vj (dV rR (wU (l:=3) Vg (by omega)) (dM rR (dV rR (ay 0 Vi Vb (by decide) (by simp[bz])) (dV rR (bI (v:=I X) Vc (by rfl) rR) (dV rR (aR (rU _ rR _ rR)) ?_)))))))))))))))))));refine aP ?_;refine ir (cn We Vf) ?_;rintro _ _ rfl;refine ab ?_;refine pp r2 (tb cL 999 (aB st.B id (some (c.val.drop 3,X)))) (nq cL (x:=(c.val.drop 3,X)) ⟨by omega,by omega⟩) ?_;refine pb b x p r r2 s cc ({st with B:=aB st.B id (some (c.val.drop 3,X))}) ?_;refine gS (gM (gM (bc aq (bc (ay 0 Vi Vb (by decide) (by simp[bz])) (bc (bI (v:=I X) Vc (by rfl) rR) (bc aT (gV dD (gM (gK (aw 1 Vp rR Vh) (gK (az (v:=aC c.val) Vj) (gK (cW Vg) (gK aT (gV dD (gM (gK (aw 1 Vp rR Vh) (gK (az (v:=aC c.val) Vj) (gK (cW Vg) (gK pP (gV dD (gQ ?_))))))))))))))))))));by_cases O:0<X/\3<c.val.length/\c.val.length<=9
       ·exact n5 (st:={st with B:=aB st.B id (some (c.val.drop 3,X))}) rfl (by unfold je;rw[YC hX,YC V,hn0];simp only;rw[YC R,Ii Y];unfold bF;rw[show eh 1 c.val=some [X] from hn2];simp only;rw[YB O]) rfl (C0 (by simp;omega) O)
       ·exact jj rfl (by unfold je;rw[YC hX,YC V,hn0];simp only;rw[YC R,Ii Y];unfold bF;rw[show eh 1 c.val=some [X] from hn2];simp only;rw[YC O]) rfl (Iu (P:=0<X/\3<c.val.length/\c.val.length<=9) (by simp;omega) O)
     ·have h70:¬((y.toNat:Int)=98):=(by simpa using h70);refine gS (gV bT (gQ ?_));apply ah<;>intro h118
      ·have h110:y=110:=Sd (n:=110) (by decide) (by simpa using h118);subst h110;refine gS (gF 1 Vp rR Vh (gL (aC c.val) Vj (gI (uB (A0:=tabs) call192 (gg (c.val) 5 (by decide) hvl)) ?_)));rintro _ _ J;unfold rE at J;rcases hn2:eh 5 (c.val) with _ | l2 <;> rw[hn2] at J
       ·obtain ⟨rfl,rfl⟩:=J;refine gM (gX (sl none 0 0) (gX (Bo false) (gA (gQ (ac (gS (gM (ab ?_))))))));refine dW ?_;refine ai (gS (gM (gM (bE (bE (bE (bE (gV eT (gM (bE (bE (bE (bE (gV eT (gQ ?_)))))))))))))));exact jj rfl (by unfold je;rw[YC hX,YC V,hn0];simp only;rw[YC R,CP Y];unfold nF;rw[show eh 5 c.val=none from hn2]) rfl rfl
       ·obtain ⟨Z,ca2,rfl,rfl⟩:=J;obtain ⟨X,k0,k1,k2,k3,rfl⟩:=UG (hJ hn2).1;have hvr2:=(fm hn2).2;have hln2:=(hJ hn2).2;refine ta Z λhcap=>?_;have hcap2:1<ca2:=(by simp[bz] at hcap;omega);refine gM (gX (sl Z 5 ca2) (gX (Bo true) (gA (gQ (ac (gS (gM (ab ?_))))))));refine eH ?_;refine pa b st ?_;intro x p r r2 s cc;refine eU (Lf:=[pt b (.cells #[ptr x 0,sl s st.L.length cc,I st.n] 123 (0,0)),pt x (.cells #[ptr p 0, .map (some r)] 231 (0,0)),bi 3 1 sa0 ca0 (bz [id]),bi 3 1 Z ca2 (bz [X,k0,k1,k2,k3]),mp r (tb cl 999 st.N)]) jV 18 ?_;refine dM rR (dV rR aa (dF rR 0 Vr rR VK (dL rR (ptr x 0) VN (dV rR aa (dF rR 1 VA rR VU (dL rR (.map (some r)) VY (dM rR (dV rR (ay 0 Vi Vb (by decide) (by simp[bz])) (dV rR (bI (v:=I id) Vc (by rfl) rR) (dM rR (dV rR (OM (l:=1) Vi Vb rR rR rR (by decide) hcap2) (dV rR (Rk VH rR (by decide)) (dV rR (Gr (s:=Z) (vs:=fQ ⟨k0,k1,k2,k3,X⟩) 1 V7 Vw rR rR (by decide) TX) (dM rR (dV rR (ay 0 Vi Vb (by decide) (by simp[bz])) (dV rR (bI (v:=I X) Vc (by rfl) rR) (dV rR (aR (MJ ⟨k0,k1,k2,k3,X⟩ X)) ?_)))))))))))))))));refine aP ?_;refine ir (cn VZ Vf) ?_;rintro _ _ rfl;refine ab ?_;refine pp r (tb cl 999 (aB st.N id (some ⟨k0,k1,k2,k3,X⟩))) (nq cl (x:=⟨k0,k1,k2,k3,X⟩) ⟨by omega,by omega⟩) ?_;refine pb b x p r r2 s cc ({st with N:=aB st.N id (some ⟨k0,k1,k2,k3,X⟩)}) ?_;refine gS (gM (gM (bc aq (bc (ay 0 Vi Vb (by decide) (by simp[bz])) (bc (bI (v:=I X) Vc (by rfl) rR) (bc aT (gV dD (gM (gK (aw 1 Vp rR Vh) (gK (az (v:=aC c.val) Vj) (gK (cW Vg) (gK bT (gV dD (gQ ?_))))))))))))));by_cases O:0<X/\c.val.length=15
        ·exact n5 (st:={st with N:=aB st.N id (some ⟨k0,k1,k2,k3,X⟩)}) rfl (by unfold je;rw[YC hX,YC V,hn0];simp only;rw[YC R,CP Y];unfold nF;rw[show eh 5 c.val=some [X,k0,k1,k2,k3] from hn2];simp only;rw[YB O]) rfl (C0 (by simp;omega) O)
        ·exact jj rfl (by unfold je;rw[YC hX,YC V,hn0];simp only;rw[YC R,CP Y];unfold nF;rw[show eh 5 c.val=some [X,k0,k1,k2,k3] from hn2];simp only;rw[YC O]) rfl (Iu (P:=0<X/\c.val.length=15) (by simp;omega) O)
      ·have h118:¬((y.toNat:Int)=110):=(by simpa using h118);refine gS (gV bT (gQ ?_));apply ah<;>intro h158
       ·have h112:y=112:=Sd (n:=112) (by decide) (by simpa using h158);subst h112;refine gS (gF 1 Vp rR Vh (gL (aC c.val) Vj (gI (uB (A0:=tabs) call192 (gg (c.val) 3 (by decide) hvl)) ?_)));rintro _ _ J;unfold rE at J;rcases hn2:eh 3 (c.val) with _ | l2 <;> rw[hn2] at J
        ·obtain ⟨rfl,rfl⟩:=J;refine gM (gX (sl none 0 0) (gX (Bo false) (gA (gQ (ac (gS (gM (ab ?_))))))));refine dW ?_;refine ai (gS (gM (gM (bE (bE (bE (bE (gV eT (gM (bE (bE (bE (bE (gV eT (gM (bE (bE (bE (bE (gV eT (gM (bE (bE (bE (bE (gV eT (gQ ?_)))))))))))))))))))))))))));exact jj rfl (by unfold je;rw[YC hX,YC V,hn0];simp only;rw[YC R,CQ Y];unfold pF;rw[show eh 3 c.val=none from hn2]) rfl rfl
        ·obtain ⟨Z,ca2,rfl,rfl⟩:=J;obtain ⟨d0,z0,r0,rfl⟩:=UF (hJ hn2).1;have hvr2:=(fm hn2).2;have hln2:=(hJ hn2).2;refine gM (gX (sl Z 3 ca2) (gX (Bo true) (gA (gQ (ac (gS (gM (ab ?_))))))));refine eH ?_;refine pa b st ?_;intro x p r r2 s cc;refine eU (Lf:=[pt b (.cells #[ptr x 0,sl s st.L.length cc,I st.n] 123 (0,0)),bi 3 1 sa0 ca0 (bz [id]),bi 3 1 Z ca2 (bz [d0,z0,r0])]) [(0,false),(1,false),(2,false),(3,false),(4,false),(5,false),(6,false),(7,false),(8,false),(9,false),(10,false),(11,false),(12,false),(13,false),(14,false),(15,false),(16,false),(17,false),(18,true),(19,true),(20,false),(21,false)] 22 ?_;refine dM rR (dM rR (dV rR aa (dF rR 1 Vr rR Vx (dL rR (sl s st.L.length cc) VM (dM rR (dV rR (ay 0 Vi Vb (by decide) (by simp[bz])) (dV rR (bI (v:=I id) Vc (by rfl) rR) (dM rR (dV rR (ay 0 Vi Vb (by decide) (by simp[bz])) (dV rR (bI (v:=I d0) Vc (by rfl) rR) (dM rR (dV rR (ay 1 Vi Vb (by decide) (by simp[bz])) (dV rR (bI (v:=I z0) Vc (by rfl) rR) (dM rR (dV rR (ay 2 Vi Vb (by decide) (by simp[bz])) (dV rR (bI (v:=I r0) Vc (by rfl) rR) (dV rR (aR (Ms id d0 z0 r0)) (d7 rR (av [aY ⟨id,d0,z0,r0⟩] Vv Vk VJ (by simp)) ?_))))))))))))))))));rintro _ _ ⟨b185,rfl,rfl⟩;refine d7 rR (bo Vv Vk VJ Tryz.typeInfo162 (hn:=by exact cQ _) (by simp) (by simp[Go.Sl.ones,Go.Sl.one]) ⟨by omega,by decide,by decide⟩) ?_;rintro _ _ ⟨s186,c186,rfl,rfl⟩;rw[show fE st.L++ [aY ⟨id,d0,z0,r0⟩]=fE (st.L++ [⟨id,d0,z0,r0⟩]) by simp[fE]];refine dV rR aa (dF rR 1 Vr rR Vx ?_);refine aP ?_;refine gU (aK #[ptr x 0,sl s186 (st.L.length+1) c186,I st.n] Vx (by simp)) (ab ?_);rw[show st.L.length+1=(st.L++ [(⟨id,d0,z0,r0⟩:Pt)]).length by simp];refine pb b x p r r2 s186 c186 ({st with L:=st.L++ [⟨id,d0,z0,r0⟩]}) ?_;refine gS (gM (gM (bc (aw 1 Vp rR Vh) (bc (az (v:=aC c.val) Vj) (bc (cW Vg) (bc bT (gV dD (gM (gK aq (gK (ay 0 Vi Vb (by decide) (by simp[bz])) (gK (bI (v:=I d0) Vc (by rfl) rR) (gK aT (gV dD (gM (gK aq (gK (ay 1 Vi Vb (by decide) (by simp[bz])) (gK (bI (v:=I z0) Vc (by rfl) rR) (gK aT (gV dD (gM (gK aq (gK (ay 1 Vi Vb (by decide) (by simp[bz])) (gK (bI (v:=I z0) Vc (by rfl) rR) (gK pP (gV dD (gQ ?_))))))))))))))))))))))))))
         by_cases O:c.val.length=9/\0<d0/\0<z0/\z0<=16
         ·exact n5 (st:={st with L:=st.L++ [⟨id,d0,z0,r0⟩]}) rfl (by unfold je;rw[YC hX,YC V,hn0];simp only;rw[YC R,CQ Y];unfold pF;rw[show eh 3 c.val=some [d0,z0,r0] from hn2];simp only;rw[YB O]) rfl (C0 (by simp;omega) O)
         ·exact jj rfl (by unfold je;rw[YC hX,YC V,hn0];simp only;rw[YC R,CQ Y];unfold pF;rw[show eh 3 c.val=some [d0,z0,r0] from hn2];simp only;rw[YC O]) rfl (Iu (P:=c.val.length=9/\0<d0/\0<z0/\z0<=16) (by simp;omega) O)
       ·have h158:¬((y.toNat:Int)=112):=(by simpa using h158);refine ai (aG (gS (gQ ?_)));exact jj rfl (by unfold je;rw[YC hX,YC V,hn0];simp only;rw[YC R];unfold KE;rw[Y,YC (λhh=>h70 (by injection hh with hh;rw[hh];rfl)),YC (λhh=>h118 (by injection hh with hh;rw[hh];rfl)),YC (λhh=>h158 (by injection hh with hh;rw[hh];rfl))]) rfl rfl
end Go.Proofs.YthdjckbjjfiopabGreatDoor