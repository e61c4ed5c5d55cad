/- Several texts in one: walks and rules used by them. No condition. -/
import Derived.Test.YthdjckbjjfiopabGreatDoorCnsA
import Derived.RangeFuncRecord
import Derived.RangeFuncIn
import Derived.TacticsIn
import Derived.OrdersIn
import Derived.Lib.Bytealg
import Derived.KernelRfl
import Derived.Test.YthdjckbjjfiopabGreatDoorProg
import GoSem.Extern.AbiNoEscape
set_option linter.unusedSimpArgs false
set_option linter.unusedVariables false
set_option synthInstance.maxSize 9999
set_option synthInstance.maxHeartbeats 0
set_option linter.defProp false
set_option maxHeartbeats 800000
namespace Go.Proofs.YthdjckbjjfiopabGreatDoor
open _root_.Go.Proofs.Tryz
open Go.Sl Go.Proofs
def kb (keep:Int)(i:Nat):Bool:=decide (keep.fdiv (2 ^ (i % 64)) % 2=1)
def hO (keep:Int)(w:List (Nat×Bytes))(l:List Bytes):Nat->List Bytes
 | 0=>l
 | k+1=>match w[k]? with
  | some t=>if kb keep k=true then (hO keep w l k).set t.1 t.2 else hO keep w l k
  | none=>hO keep w l k
def iW keep w l:∀k,(hO keep w l k).length=l.length
 | 0=>rfl
 | k+1=>by
  unfold hO;split
  ·split
   ·rw[kbO,iW keep w l k]
   ·exact iW keep w l k
  ·exact iW keep w l k
variable {w:List (Nat×Bytes)}{l:List Bytes}{k:Nat}{t:Nat×Bytes}
def Kl {keep}(ht:w[k]? =some t)(h:kb keep k=true):hO keep w l (k+1)=(hO keep w l k).set t.1 t.2:=by simp[hO,ht,h]
def GL {keep}(ht:w[k]? =some t)(h:kb keep k=false):hO keep w l (k+1)=hO keep w l k:=by simp[hO,ht,h]
def fv (keep:Int)(D:DiskM):List Bytes:=hO keep D.wait D.kept D.wait.length
def nI (keep:Int)(D:DiskM):DiskM:=⟨fv keep D,fv keep D,[], -1,false⟩
def Qi {keep:Int}(h:0<=keep/\keep<18446744073709551616)j:0<=keep.fdiv (2 ^ j)/\keep.fdiv (2 ^ j)<18446744073709551616:=by
 have hp:(0:Int)<2 ^ j:=Int.pow_pos (by decide);rw[kck _ (by omega)];have h1:=Int.ediv_nonneg h.1 (Int.le_of_lt hp);have J:=Int.ediv_le_self (2 ^ j) h.1;omega
def Mo {l}(h:l[k]? =some t):(eW l)[k]? =some [I t.1,ay t.2]:=by simp[eW,h]
theorem Km {r1 r2 m q}(h:r1.length=r2.length)(hm:m=r2.length)(hq:q=r1.length):(strR r1).take 0++((strR r2).drop 0).take (Nat.min m q)++(strR r1).drop (0+Nat.min m q)=strR r2:=by
 grind[Et]
def wM b D keep(S:0<=keep/\keep<18446744073709551616)(Z:D.kept.length=D.now.length)(hwt:∀t∈D.wait,t.1<D.now.length)(hw:D.wait.length<=1000000)F:cqq 225 [ptr b 0,Uw keep] (cj 179 319 b (D)::F) (R1 (.tuple #[]) (cj 179 319 b (nI keep D)::F)):=by
 refine Ct.of func225 W 50 ntmps225 (by simp) λw0=>?_;refine ji (cj 179 319 b (D)) W ?_;rintro ⟨⟨J,c1⟩,⟨s2,c2⟩,⟨O,c3⟩⟩;show G _ _ _ (pcc b #[sl J (D.kept).length c1,sl s2 (D.now).length c2,sl O (D.wait).length c3,I (D.fuse),Bo (D.down)] 179::be 9 1 J c1 (strR (D.kept))::be 9 1 s2 c2 (strR (D.now))::be 319 2 O c3 (eW (D.wait))::F);rw[show strR D.kept=strR (hO keep D.wait D.kept 0) from rfl];refine ac<|A<|C<|M aa<|gF 2 Yh W Zt<|M (aA isAgg177)<|M (aP Z8)<|C<|ab<|ak ?_;refine aL (α:=Nat) (λk=>k<=D.wait.length) (λk=>U [(0,ptr b 0),(1,Uw keep),(9,sl O D.wait.length c3),(10,I D.wait.length),(11,I k)]) (λk=>pcc b #[sl J (D.kept).length c1,sl s2 (D.now).length c2,sl O (D.wait).length c3,I (D.fuse),Bo (D.down)] 179::be 9 1 J c1 (strR (hO keep D.wait D.kept k))::be 9 1 s2 c2 (strR (D.now))::be 319 2 O c3 (eW (D.wait))::F) (λk=>D.wait.length - k) 0 (by simp) [0,1,9,10,11] rfl ?_;intro k hk;refine A<|M aG<|ab<|ac<|ah ?_ ?_<;>intro X
 ·simp at X;have V:k<D.wait.length:=(by omega);obtain ⟨t,ht⟩:∃t,D.wait[k]? =some t:=⟨_,kbN V⟩;have htr:=Mo ht;have hkw2:k<(eW D.wait).length:=(by rw[AR];exact V);have htn:=hwt t (kbe ht);have hrl:=iW keep D.wait D.kept k;have htl:t.1<(hO keep D.wait D.kept k).length:=(by omega);obtain ⟨x,hx⟩:∃x,(hO keep D.wait D.kept k)[t.1]? =some x:=⟨_,kbN htl⟩;have hrow:=eX hx;have hlt:t.1<D.kept.length:=(by omega);have hlt2:t.1<(strR (hO keep D.wait D.kept k)).length:=(by rw[aZ];exact htl);refine ai<|ac<|ak<|A<|C<|M (av k Z8 Z0 V hkw2)<|M (bO (row:=[I t.1,ay t.2]) isAgg319 Z0 htr)<|gI (aO #[I 0,ay []] Z6) ?_;rintro _ _ ⟨b5,rfl,rfl⟩;refine gA<|gU (az #[I t.1,ay t.2] Z0 (by decide))<|ab<|A<|C<|C<|M (tq (r:=((k % 64:Nat):Int)) (by rw[Int.tmod_eq_emod_of_nonneg (by omega)];omega))<|M (lX (r:=keep.fdiv (2 ^ (k % 64))) (h0:=by omega) (by rw[show min (((k % 64:Nat):Int).toNat) IntKind.u64.bits=k % 64 by simp[IntKind.bits];omega]))<|M (xl 1 (Qi S _) (by decide) (by decide))<|M bE<|ab ?_;apply ah<;>intro Y
  ·have R:kb keep k=true:=(by unfold kb;simpa using Y);refine eE (Lf:=pcc b5 #[I t.1,ay t.2] 319::pcc b #[sl J (D.kept).length c1,sl s2 (D.now).length c2,sl O (D.wait).length c3,I (D.fuse),Bo (D.down)] 179::be 9 1 J c1 (strR (hO keep D.wait D.kept k))::be 9 1 s2 c2 (strR (D.now))::be 319 2 O c3 (eW (D.wait))::F) jB 9 ?_;refine dM W<|dV W aa<|dF W 0 Yh W Zg<|dV W (aA Zn)<|dF W 0 underlying319 W Xu<|dL W (I t.1) Xv<|dF W 1 underlying319 W Xx<|dL W (ay t.2) XD<|dV W (av t.1 XC Xx hlt hlt2) ?_;refine aN ?_;refine io (AQ (row:=[ay x]) Xx W W W hrow (by decide)) ?_;rintro _ _ rfl;rw[Es];refine ab<|aE<|al<|gP<|C<|ab ?_;rw[<-Kl (l:=D.kept) ht R];exact an (k+1) (by omega) (by omega) [0,1,9,10,11] rfl
  ·have R:kb keep k=false:=(by unfold kb;simpa using Y);refine ai<|aE<|al<|gP<|C<|ab ?_;rw[<-GL (l:=D.kept) ht R];exact an (k+1) (by omega) (by omega) [0,1,9,10,11] rfl
 ·simp at X;obtain rfl:k=D.wait.length:=(by omega);rw[show hO keep D.wait D.kept D.wait.length=fv keep D from rfl];refine aF ?_;refine ac ?_;refine cn (Lf:=pcc b #[sl J (D.kept).length c1,sl s2 (D.now).length c2,sl O (D.wait).length c3,I (D.fuse),Bo (D.down)] 179::F) jE ?_;refine dM W<|dV W aa<|dF W 1 Yh W Zg<|dV W (aA Zn)<|dM W<|dV W aa<|dF W 0 Yh W Zg<|dV W (aA Zn) ?_;refine cQ W (sC (s:=s2) (s2:=J) (l:=0) (p:=0) XC Xx (by decide) W W (.inl ⟨rfl,rfl⟩) (.inl ⟨rfl,rfl⟩) (by simp[strR]) (by simp[strR,iW,fv]) (by simp[strR]) (by simp[strR,ones,one])) ?_;rintro _ _ ⟨rfl,rfl⟩;refine kw s2 (strR (fv keep D)) (Km (by simp[fv,iW,Z]) (by simp[fv,iW]) W) ?_;refine aN ?_;refine al<|C<|C<|C<|M aa<|gF 2 Yh W Zt<|gU (aJ #[sl J (D.kept).length c1,sl s2 (D.now).length c2,sl none 0 0,I (D.fuse),Bo (D.down)] Zt (by simp))<|M aa<|gF 4 Yh W XL<|gU (aJ #[sl J (D.kept).length c1,sl s2 (D.now).length c2,sl none 0 0,I (D.fuse),Bo (false)] XL (by simp))<|M aa<|gF 3 Yh W Xu<|gU (aJ #[sl J (D.kept).length c1,sl s2 (D.now).length c2,sl none 0 0,I (-1),Bo (false)] Xu (by simp))<|ab ?_;refine aY 319 2 (eW []) ?_;refine gW (cB:=pi 179 319 b (nI keep D)) [pcc b #[sl J (D.kept).length c1,sl s2 (D.now).length c2,sl none 0 0,I (-1),Bo (false)] 179,be 9 1 J c1 (strR (fv keep D)),be 9 1 s2 c2 (strR (fv keep D)),be 319 2 none 0 (eW [])] (cj 179 319 b (nI keep D)) ((J,c1),(s2,c2),(none,0)) (hA:=by simp[pi,nI,fv,iW,Z]) ?_;exact gh rfl rfl rfl
def mG (n:Nat):DiskM:=⟨List.replicate n (jq 80),List.replicate n (jq 80),[], -1,false⟩
def Tl (E:Int->Value)(ec TT:Nat)(n:Int)(F:List ag):Value->List ag->Prop:=λv L'=>(¬(1<=n/\n<=260)/\v= .tuple #[.pointer none,E 1]/\L'=F)\/((1<=n/\n<=260)/\∃b,v= .tuple #[ptr b 0,E 0]/\L'=cj ec TT b (mG n.toNat)::F)
variable {c:Cx}{E:di}{F L:List ag}{K:List KI}{J:Int->Value}{vs:List Value}
def Kn {ec TT:Nat}{n:Int}(V:c.R=Tl J ec TT n F)(hr:fY E c.fn.results.toList=some vs)(hn:¬(1<=n/\n<=260))(hv:tn vs= .tuple #[.pointer none,J 1])[S:Sub L F](hds:c.n.ds=[]:=by rfl):G c (.code .ret::K) E L:=
 λa w O X=>wp_ret (cb (bf (hds:=hds) hr O (S.sat X) (by rw[V];exact .inl ⟨hn,hv,rfl⟩)))
def Ko {ec TT:Nat}{n:Int}(b:Nat)(V:c.R=Tl J ec TT n F)(hr:fY E c.fn.results.toList=some vs)(hn:1<=n/\n<=260)(hv:tn vs= .tuple #[ptr b 0,J 0])[S:Sub L (cj ec TT b (mG n.toNat)::F)](hds:c.n.ds=[]:=by rfl):G c (.code .ret::K) E L:=
 λa w O X=>wp_ret (cb (bf (hds:=hds) hr O (S.sat X) (by rw[V];exact .inr ⟨hn,b,hv,rfl⟩)))
def EA n F:cqq 36 [I n] (F) (Tl bQ 179 319 n F):=by
 refine Ct.of func36 W 21 ntmps36 (by simp) λw0=>?_;refine A<|gA<|T<|ac<|A<|C<|M aG<|C<|gK ao<|gK aQ<|M cv<|ab<|ah ?_ ?_<;>intro Y
 ·simp at Y;refine A<|M (ba XG)<|gA<|T ?_;exact Kn rfl rfl (by omega) rfl
 ·simp at Y;refine ai<|A<|gR (vA call100 (tz [] (by decide))) ?_;rw[show ca []=jq 80 from rfl];refine gI (ap [[ay (jq 80)]] XC Xx X9 (by simp)) ?_;rintro _ _ ⟨X,rfl,rfl⟩;refine C ?_;refine bz (some ⟨X,0,none⟩) ?_;refine gI (uB call99 (by have:=Ap (jq 80) (some ⟨X,0,none⟩) 1 n.toNat (by omega);rwa [kbM (by omega)] at this)) ?_;rintro _ _ ⟨Z,O,rfl,rfl⟩;refine Cc (φ:=∃a,Z=some a) (λw hS=>?_)<|λha=>?_
  ·rcases dA hS with ⟨_,h,_,_⟩ | ⟨b,cs,h,_⟩
   ·exfalso;have h2:=kay List.length h;simp[strR] at h2;omega
   ·exact ⟨_,h⟩
  obtain ⟨J,rfl⟩:=ha;refine T<|A<|C<|C<|gI (uB call101 (by have:=Cr (List.replicate n.toNat (jq 80)) J O (by simp;omega);rw[kbQ] at this;exact this)) ?_;rintro _ _ ⟨V,S,rfl,rfl⟩;refine M (aS (Cg _ W _ W _ W))<|gI (dw #[sl (some J) n.toNat O,sl V n.toNat S,sl none 0 0,I (-1),Bo false]) ?_;rintro _ _ ⟨R,rfl,rfl⟩;refine gA<|T ?_;refine aY 319 2 (eW []) ?_;refine gW (cB:=pi 179 319 R (mG n.toNat)) [pcc R #[sl (some J) n.toNat O,sl V n.toNat S,sl none 0 0,I (-1),Bo false] 179,be 9 1 (some J) O (strR (List.replicate n.toNat (jq 80))),be 9 1 V S (strR (List.replicate n.toNat (jq 80))),be 319 2 none 0 (eW [])] (cj 179 319 R (mG n.toNat)) ((some J,O),(V,S),(none,0)) (hA:=by simp[pi,mG]) ?_;exact Ko R rfl rfl (by omega) rfl
def bC (n:Nat):Bytes:=[UInt8.ofNat n,UInt8.ofNat (n / 256),UInt8.ofNat (n / 65536),UInt8.ofNat (n / 16777216)]
def d8 (kind:UInt8)(n:Nat)(s:Bytes):Bytes:=kind::(bC n++([UInt8.ofNat s.length,UInt8.ofNat (s.length / 256)]++s))
def sk (s:Bytes)(i:Nat):UInt8:=(s[i]?).getD 0
def Kp (s:Bytes):Nat:=(sk s 5).toNat+256*(sk s 6).toNat
def fN (num:Nat)(s:Bytes):Option (UInt8×Bytes):=if (s.take 5).drop 1=bC num/\(sk s 0=111\/sk s 0=99)/\Kp s<=73 then some (sk s 0,(s.take (7+Kp s)).drop 7) else none
abbrev cY:=List (List ChangeM)
def dg (first:Nat)(sec:Nat->Bytes):Nat->Nat->cY->List ChangeM->Nat->cY×Nat
 | 0,_,out,_,used=>(out,used)
 | f+1,i,out,deed,used=>match fN (first+i) (sec i) with
  | none=>(out,used)
  | some (k,t)=>if k=99 then (if t=bC deed.length then dg first sec f (i+1) (out++ [deed]) [] (i+1) else (out,used)) else if (uZ t).2=0 then dg first sec f (i+1) out (deed++ [(uZ t).1]) used else (out,used)
theorem nJ {s:Bytes}{i:Nat}(h:i<s.length:=by omega):s[i]? =some (sk s i):=by grind[sk]
theorem nK {n:Nat}(h:n<256):(UInt8.ofNat n).toNat=n:=by simp_all
theorem vi {kind num s}(hk:kind=111\/kind=99)(hs:s.length<=73):fN num (ca (d8 kind num s))=some (kind,s):=by
 have e:ca (d8 kind num s)=kind::(UInt8.ofNat num::UInt8.ofNat (num / 256)::UInt8.ofNat (num / 65536)::UInt8.ofNat (num / 16777216)::UInt8.ofNat s.length::UInt8.ofNat (s.length / 256)::(s++jq (80 - (d8 kind num s).length))):=by
  unfold ca d8 bC;simp
 rw[e];generalize jq (80 - (d8 kind num s).length)=z;unfold fN;have J:Kp (kind::(UInt8.ofNat num::UInt8.ofNat (num / 256)::UInt8.ofNat (num / 65536)::UInt8.ofNat (num / 16777216)::UInt8.ofNat s.length::UInt8.ofNat (s.length / 256)::(s++z)))=s.length:=by
  show (UInt8.ofNat s.length).toNat+256*(UInt8.ofNat (s.length / 256)).toNat=s.length
  grind[nK]
 rw[J,kaT ⟨rfl,hk,by omega⟩];congr 2;rw[show 7+s.length=s.length+7 by omega]
 simp_all
theorem mH num:fN num (ca [])=none:=by
 unfold fN;rw[kaU];intro h;have:sk (ca []) 0=0:=by decide
 grind
def Tm {c}(h:d7 c=0):uZ (p7 c)=(c,0):=by
 obtain ⟨_,_,hk,hv⟩:=qW h;unfold p7 oA;show uZ ((if c.gone then 1 else 0)::UInt8.ofNat c.key.length::(c.key++c.val))=_;rw[xm];have J:(UInt8.ofNat c.key.length).toNat=c.key.length:=nK (by omega);have R:((if c.gone=true then (1:UInt8) else 0)).toNat<=1:=(by split <;> decide);rw[kaU (by rw[J];simp;omega)];have O:ql (if c.gone=true then 1 else 0) (UInt8.ofNat c.key.length) (c.key++c.val)=c:=by
  unfold ql;rw[J,kcl,kcm];cases c with
  | mk k v g=>cases g <;> rfl
 rw[O,kaT h]
theorem xn {c}(h:d7 c=0):(p7 c).length<=58:=by
 grind[qW,p7,oA]
theorem yg k n s:(d8 k n s).length=7+s.length:=by grind[d8,bC]
theorem lP first O f i out J used:dg first O (f+1) i out J used=match fN (first+i) (O i) with
 | none=>(out,used)
 | some (k,t)=>if k=99 then (if t=bC J.length then dg first O f (i+1) (out++ [J]) [] (i+1) else (out,used)) else if (uZ t).2=0 then dg first O f (i+1) out (J++ [(uZ t).1]) used else (out,used):=rfl
theorem qm {first R}:∀(f i:Nat) (out:cY) (O:List ChangeM) (used:Nat) (o:cY) (u:Nat),dg first R f i out O used=(o,u)->(u=used/\o=out)\/
  ((i<u/\u<=i+f)/\∀J:Nat->Bytes,(∀j,i<=j->j<u->J j=R j)->dg first J f i out O used=dg first J (i+f - u) u o [] u)
 | 0,i,out,O,used,o,u,e=>by
  injection e with V X;exact .inl ⟨X.symm,V.symm⟩
 | f+1,i,out,O,used,o,u,e=>by
  rw[lP] at e;cases hl:fN (first+i) (R i) with
  | none=>grind
  | some kt=>
   obtain ⟨k,t⟩:=kt;rw[hl] at e;simp only at e;by_cases hk:k=99
   ·rw[kaT hk] at e;by_cases ht:t=bC O.length
    ·rw[kaT ht] at e;right;have step:∀J:Nat->Bytes,J i=R i->dg first J (f+1) i out O used=dg first J f (i+1) (out++ [O]) [] (i+1):=λJ hs=>by
      grind[lP]
     rcases qm f (i+1) (out++ [O]) [] (i+1) o u e with ⟨h1,S⟩ | ⟨⟨h1,S⟩,Y⟩
     ·grind
     grind
    grind
   ·rw[kaU hk] at e;by_cases hp:(uZ t).2=0
    ·rw[kaT hp] at e;have step:∀J:Nat->Bytes,J i=R i->dg first J (f+1) i out O used=dg first J f (i+1) out (O++ [(uZ t).1]) used:=λJ hs=>by
      grind[lP]
     rcases qm f (i+1) out (O++ [(uZ t).1]) used o u e with h | ⟨⟨h1,S⟩,Y⟩
     ·exact .inl h
     grind
    grind
theorem AZ {first O f}:∀(c:List ChangeM) (i:Nat) (out:cY) (J:List ChangeM) (used:Nat),(∀x∈c,d7 x=0)->(∀k x,c[k]? =some x->O (i+k)=ca (d8 111 (first+(i+k)) (p7 x)))->
  dg first O (c.length+f) i out J used=dg first O f (i+c.length) out (J++c) used
 | [],i,out,J,used,_,_=>by simp
 | x::c,i,out,J,used,R,hs=>by
  have h0:=hs 0 x rfl;have hx:=R x (by simp);rw[show (x::c).length+f=(c.length+f)+1 by simp;omega];rw[lP,show O i=_ from h0,kbE,vi (.inl rfl) (by have:=xn hx;omega)];simp only;rw[kaU (by decide),Tm hx,kaT rfl,AZ c (i+1) out (J++ [x]) used (λy hy=>R y (kcn _ hy)) (λk y hy=>by have:=hs (k+1) y (by simpa using hy);grind)]
  grind
theorem EB {first many O J out used}{c:List ChangeM}(h:dg first O many 0 [] [] 0=(out,used))(Y:∀x∈c,d7 x=0)(hr:used+c.length+1<=many)(R:c.length<=72)(h1:∀j,j<used->J j=O j)(V:∀k x,c[k]? =some x->J (used+k)=ca (d8 111 (first+(used+k)) (p7 x)))(X:J (used+c.length)=ca (d8 99 (first+(used+c.length)) (bC c.length)))(Z:used+c.length+1<many->J (used+c.length+1)=ca []):dg first J many 0 [] [] 0=(out++ [c],used+c.length+1):=by
 have S:=qm many 0 [] [] 0 out used h;have e:dg first J many 0 [] [] 0=dg first J (many - used) used out [] used:=by
  grind
 rw[e,show many - used=c.length+((many - used - c.length - 1)+1) by omega,AZ c used out [] used Y V];rw[lP,X,vi (.inr rfl) (by simp[bC])];simp only[kby,if_true];cases hf:many - used - c.length - 1 with
 | zero=>rfl
 | succ f=>
  grind[lP,mH]
abbrev qn:=Option Addr×Nat
def dR (gl:List (List ChangeM×qn)):List (List Value):=gl.map λx=>[sl x.2.1 x.1.length x.2.2]
def Mp J:(dR J).length=J.length:=by simp[dR]
variable {J:List (List ChangeM×qn)}{x:List ChangeM×qn}
def Vp (h:J[k]? =some x):(dR J)[k]? =some [sl x.2.1 x.1.length x.2.2]:=by simp[dR,h]
def rF (gl:List (List ChangeM×qn)):ag:=λm=>∀x∈gl,roL 3 x.2.1 (bI x.1) m
variable {s:Option Addr}
theorem Ie {sz rows m n}(h:roL sz s rows m)(hs:Res.sub m n):roL sz s rows n:=by
 rcases h with h | ⟨b,off,o,h1,J,O⟩
 ·exact .inl h
 ·exact .inr ⟨b,off,o,h1,hs b _ J,O⟩
theorem Kq J:Pers (rF J):=λm h=>by
 refine ⟨Vh m,λb x hx=>?_,λb x hx=>?_,λx hx=>Qd (h x hx)⟩
 ·grind[Vh]
 grind[Vh]
def Qj (k:G c K E (rF []::L)):G c K E L:=λa w J O=>k a w J ((Sat.pure_mk (φ:=True) trivial O).weak λm _=>λx hx=>nomatch hx)
def Mq J(h:x∈J)[R:Rem L (rF J) F](k:G c K E (roL 3 x.2.1 (bI x.1)::rF J::F)):G c K E L:=λa w O S=>k a w O (((R.sat S).dup (Kq J)).weak λm hm=>hm x h)
theorem Kr {O}J d s n[R:Rem L (rF J) F][Z:Rem F (roL 3 s (bI d)) O](k:G c K E (rF (J++ [(d,s,n)])::O)):G c K E L:=λa w V X=>by
 have h1:=R.sat X;have r2:Rem (rF J::F) (roL 3 s (bI d)) (rF J::O):=inferInstance;have S:Sat c.w0 w (roL 3 s (bI d)::rF J::O):=r2.sat h1;refine k a w V<|S.two.weak λm hm=>?_;obtain ⟨m1,m2,hd,s1,s2,ha,Y⟩:=hm;intro y hy;rcases kbF.1 hy with hy | hy
 ·exact Ie (Y y hy) s2
 grind[Ie]
def WO (s:Option Addr)(gl:List (List ChangeM×qn)):ag:=λm=>roL 1 s (dR gl) m/\∀x∈gl,roL 3 x.2.1 (bI x.1) m
open Go.Sl Go.Proofs Go.ChangeShapes Go.WideShapes Go.ChangeAt Go.RowKit
def strOk (s:Bytes):Prop:=s.length<=maxLen
variable {H:Type}{bk:World}{enc:TypeId×Value->H}
def open_strs {v d p}(hv:∃a len cap,v= .slice a len cap)(h:DataW.Trod enc Tryz.prog bk 0 (λ_=>true) true 71 v d p):
  ∃(s:Option Addr) (l:List Bytes) (cap:Nat),v=sl s l.length cap/\OldRows bk s 1 (strR l)/\(∀x∈l,strOk x)/\l.length<=maxLen:=by
 obtain ⟨a,len,cap,rfl⟩:=hv;obtain ⟨s,l,J,e,h1,O,R⟩:=Mf 1 (λn=>[ay n]) strOk XC Vo (by decide) (λ_ hl h=>Ti Xz h) (Vn h);simp[Value.cells] at e;exact ⟨s,l,J,by simp[sl,e],h1,O,R⟩
def OldDeeds (bk:World)(s:Option Addr)(gl:List (List ChangeM×qn)):Prop:=OldRows bk s 1 (dR gl)/\∀x∈gl,OldRows bk x.2.1 3 (bI x.1)
instance:Inhabited (List ChangeM×qn):=⟨([],(none,0))⟩
theorem OldDeeds.sat {w0 w}(h:OldDeeds w0 s J)(O:Sat w0 w (old w0::L)):Sat w0 w (WO s J::old w0::L):=
 (O.dup (Pers.old w0)).weak λm hm=>⟨h.1.roL hm,λx hx=>(h.2 x hx).roL hm⟩
end Go.Proofs.YthdjckbjjfiopabGreatDoor
namespace Go.Sl
inductive PT where
 | nil
 | q (i:Nat) (t:PT)
 | l (i:Nat) (t:PT)
 | alt (s t:PT)
 | c (t:PT)
def PT.heads:PT->List Nat
 | .l i _=>[i]
 | .alt s t=>s.heads++t.heads
 | _=>[]
def PT.ok (ops:Array Oper):PT->Bool->Nat->Array Bool->Bool
 | .nil,top,n,listed=>top && Nat.beq n 0 && (Region.ready .any ops listed).isEmpty
 | .q i t,top,n,listed=>top && (match n with | 0=>false | m+1=>(Region.ready .any ops listed).contains i && Region.free .any ops listed i && t.ok ops true m (listed.setIfInBounds i true))
 | .l i t,top,n,listed=>(!top || Region.ready .any ops listed==[i]) && (match n with | 0=>false | m+1=>t.ok ops true m (listed.setIfInBounds i true))
 | .alt s t,top,n,listed=>(!top || (!(Region.ready .any ops listed).isEmpty && (Region.ready .any ops listed).all λj=>(s.heads++t.heads).contains j)) && s.ok ops false n listed && t.ok ops false n listed
 | .c t,top,n,listed=>top && t.ok ops true n listed
def PU (P:Program)(ops:Array Oper)(Q:fE):PT->(World->Prop)->Act->World->Prop
 | .nil,bn,a,w=>bn w/\Q .normal a w
 | .q i t,bn,a,w=>bn w/\∃o v,ops[i]? =some o/\YieldsC P ops bn o v a/\PU P ops Q t bn (a.put o.dst v) w
 | .l i t,bn,a,w=>bn w/\wpOp P ops Q i (PU P ops Q t bn) a w
 | .alt s t,bn,a,w=>PU P ops Q s bn a w/\PU P ops Q t bn a w
 | .c t,bn,a,w=>∃C':World->Prop,(∀w,C' w->bn w)/\PU P ops Q t C' a w
variable {P:Program}{ops:Array Oper}{Q:fE}
def ws {bn O}(h:∀w,O w->bn w):∀(fuel:Nat) (J:Array Bool) (a:Act) (w:World),wpAnyC P ops O Q fuel J a w->wpAnyC P ops bn Q fuel J a w
 | 0,_,_,_,H=>⟨h _ H.1,H.2⟩
 | fuel+1,_,_,_,H=>⟨h _ H.1,H.2.1,λi hi=>wpOp_mono (λa w=>ws h fuel _ a w) (H.2.2 i hi)⟩
theorem iJ (hs:Region.noSelect ops=true)(O:∀c a d v w,Q (.panic c) (a.put d v) w->Q (.panic c) a w):∀(t:PT),
  (∀(bn:World->Prop) n J a w,t.ok ops true n J=true->PU P ops Q t bn a w->wpAnyC P ops bn Q n J a w)/\
  (∀(bn:World->Prop) n J a w i,t.ok ops false n J=true->PU P ops Q t bn a w->i∈t.heads->∃m,n=m+1/\bn w/\wpOp P ops Q i (wpAnyC P ops bn Q m (J.setIfInBounds i true)) a w)
 | .nil=>⟨λbn n J a w ho h=>by
   simp only[PT.ok,kaJ,kco] at ho;have:=kaF ho.1;subst this;exact ⟨h.1,by simpa using ho.2,h.2⟩,λbn n J a w i ho=>by simp[PT.ok] at ho⟩
 | .q i t=>⟨λbn n J a w ho h=>by
   cases n with
   | zero=>simp[PT.ok] at ho
   | succ m=>
    simp only[PT.ok,kaJ,kco] at ho;obtain ⟨⟨hr,hf⟩,X⟩:=ho;obtain ⟨hw,o,v,hi,hy,h⟩:=h;exact tk hi (Region.noSelect_spec hs) (λc a w=>O c a _ _ w) m J a w (Region.free_spec hi hf) (by simpa using hr) hy hw
     ((iJ hs O t).1 bn m _ _ _ X h),λbn n J a w i ho=>by simp[PT.ok] at ho⟩
 | .l i t=>⟨λbn n J a w ho h=>by
   cases n with
   | zero=>simp[PT.ok] at ho
   | succ m=>
    simp only[PT.ok,kaJ,Bool.not_true,Bool.false_or,beq_iff_eq] at ho;refine ⟨h.1,λh0=>(by rw[ho.1] at h0;cases h0),λj hj=>?_⟩;rw[ho.1] at hj;have:j=i:=(by simpa using hj);subst this;exact wpOp_mono (λa w=>(iJ hs O t).1 bn m _ a w ho.2) h.2,
   λbn n J a w j ho h hj=>by
    cases n with
    | zero=>simp[PT.ok] at ho
    | succ m=>
     simp only[PT.ok,kaJ,Bool.not_false,Bool.true_or,true_and] at ho;have:j=i:=(by simpa [PT.heads] using hj);subst this;exact ⟨m,rfl,h.1,wpOp_mono (λa w=>(iJ hs O t).1 bn m _ a w ho) h.2⟩⟩
 | .alt s t=>by
   have S:∀(bn:World->Prop) n J a w i,s.ok ops false n J=true->t.ok ops false n J=true->PU P ops Q (.alt s t) bn a w->i∈s.heads++t.heads->∃m,n=m+1/\bn w/\wpOp P ops Q i (wpAnyC P ops bn Q m (J.setIfInBounds i true)) a w:=by
    intro bn n J a w i h1 S h hi;rcases kbF.1 hi with hi | hi
    ·exact (iJ hs O s).2 bn n J a w i h1 h.1 hi
    ·exact (iJ hs O t).2 bn n J a w i S h.2 hi
   refine ⟨λbn n J a w ho h=>?_,λbn n J a w i ho h hi=>?_⟩
   ·simp only[PT.ok,kaJ,Bool.not_true,Bool.false_or] at ho;obtain ⟨⟨⟨hne,R⟩,Y⟩,Z⟩:=ho;cases hr:Region.ready .any ops J with
    | nil=>grind
    | cons i0 rest=>
     rw[hr] at R;have V:∀j∈i0::rest,j∈s.heads++t.heads:=λj hj=>by
      grind
     obtain ⟨m,rfl,hC,_⟩:=S bn n J a w i0 Y Z h (V i0 (by simp));refine ⟨hC,λh0=>(by rw[hr] at h0;cases h0),λj hj=>?_⟩
     grind
   grind[PT.ok,PT.heads]
 | .c t=>⟨λbn n J a w ho h=>by
   simp only[PT.ok,kco] at ho;obtain ⟨C',hC,h⟩:=h;exact ws hC _ _ _ _ ((iJ hs O t).1 C' n J a w ho h),λbn n J a w i ho=>by simp[PT.ok] at ho⟩
def EC {bn id a w t}(hm:P.follows .mixedOrders=true)(hs:Region.noSelect ops=true)(hQ:∀c a d v w,Q (.panic c) (a.put d v) w->Q (.panic c) a w)(hp:t.ok ops true ops.size (Array.replicate ops.size false)=true)(h:PU P ops Q t bn a {w with drawn:=w.drawn+1}):(Code.region id ops true).wp P Q a w:=
 wp_region_any hm (o9 _ _ _ _ ((iJ hs hQ t).1 bn _ _ a _ hp h))
def KT (c:Cx)(all:List Oper)(Lf:List ag)(t:PT)(K:List KI):List KI:= .fin (λa w=>PU c.P all.toArray (kq c.P c.Q K) t (λw=>Sat c.w0 w Lf) a w)::K
variable {c:Cx}{E:di}{L Lf:List ag}{d:Nat}{K:List KI}{v:Value}
def qX {id:Nat}{l:List Oper}(t:PT)(h:G c (KT c l Lf t K) E L)(hm:c.P.follows .mixedOrders=true:=by kernel_rfl)(hs:Region.noSelect l.toArray=true:=by kernel_rfl)(hp:t.ok l.toArray true l.length (Array.replicate l.length false)=true:=by kernel_rfl):G c (.code (.region id l.toArray true)::K) E L:=λa w J O=>
 EC (t:=t) hm hs (λR a d v w hq=>absurd hq jo) (by simpa using hp) (h a _ J (O.drew _))
variable {all:List Oper}
def kC [O:Sub L Lf](h:G c K E L):G c (KT c all Lf .nil K) E L:=λa w R J=>⟨O.sat J,h a w R J⟩
variable {ty:TypeId}{pos:String}{af:Array Edge}{op:Op}{t:PT}
def eH {i:Nat}(hi:all[i]? =some ⟨some d,op,ty,pos,af,none⟩)[S:Sub L Lf](h:OpV c none E Lf ⟨some d,op,ty,pos,af,none⟩ v)(k:G c (KT c all Lf t K) ((d,none,v)::E) L)(hd:mb c.n d E=true:=by exact rfl):G c (KT c all Lf (.q i t) K) E L:=λa w O R=>
 ⟨S.sat R,_,v,by simpa using hi, .inl ⟨by simp[Region.wanted],λw' J=> .inl (h.out a w' O (cT a) J)⟩,k _ w (O.put1 hd) R⟩
variable {N:Value->List ag->Prop}
def lY {i:Nat}(hi:all[i]? =some ⟨some d,op,ty,pos,af,none⟩)[S:Sub L Lf](h:OpL c none E L ⟨some d,op,ty,pos,af,none⟩ N)(k:∀v L',N v L'->G c (KT c all Lf t K) ((d,none,v)::E) L')(hd:mb c.n d E=true:=by exact rfl):G c (KT c all Lf (.l i t) K) E L:=λa w O R=>by
 refine ⟨S.sat R,?_⟩;unfold wpOp;simp only[kaV,hi];rw[kaT (by simp[Region.wanted])];exact .inl<|h.out a w O (cT a) R _ _ λv w' L' J V=>k v L' V _ w' (O.put1 hd) J
def GM {i}(hi:all[i]? =some ⟨none,op,ty,pos,af,none⟩)[SC:Sub L Lf](h:OpL c none E L ⟨none,op,ty,pos,af,none⟩ N)(k:∀v L',N v L'->G c (KT c all Lf t K) E L'):G c (KT c all Lf (.l i t) K) E L:=λa w hE hS=>by
 refine ⟨SC.sat hS,?_⟩;unfold wpOp;simp only[kaV,hi];rw[kaT (by simp[Region.wanted])];exact .inl (h.out a w hE (cT a) hS _ _ λv w' L' hS' hN=>k v L' hN _ w' hE hS')
variable {s:PT}
def oB (h1:G c (KT c all Lf s K) E L)(R:G c (KT c all Lf t K) E L):G c (KT c all Lf (.alt s t) K) E L:=λa w J O=>⟨h1 a w J O,R a w J O⟩
def lZ Lf'[J:Sub Lf' Lf](h:G c (KT c all Lf' t K) E L):G c (KT c all Lf (.c t) K) E L:=λa w O R=>⟨λw=>Sat c.w0 w Lf',λw hw=>J.sat hw,h a w O R⟩
end Go.Sl
namespace Go.Sl
variable {c:Cx}{g gu:Option (Nat×Bool)}{E:di}{L:List ag}{d:Option Tmp}{t ty u:TypeId}{pos:String}{af:Array Edge}{x y:Operand}
theorem Mr (m q r:Nat)(hx:ev g E x=some (I (m:Int)))(hy:ev g E y=some (I ((2 ^ q*r:Nat):Int)))(hm:m<2 ^ q)(Y:m+2 ^ q*r<9223372036854775808):OpV c g E L ⟨d, .binOp .or t x y u,ty,pos,af,gu⟩ (I ((m+2 ^ q*r:Nat):Int)):= .mk λa w J O X=>by
 have h1:IntKind.i64.wrap (((BitVec.ofInt IntKind.i64.bits (m:Int) ||| BitVec.ofInt IntKind.i64.bits ((2 ^ q*r:Nat):Int)).toNat:Nat):Int)=((m+2 ^ q*r:Nat):Int):=by
  have S:(BitVec.ofInt IntKind.i64.bits (m:Int)).toNat=m:=by
   show (BitVec.ofInt 64 (m:Int)).toNat=m
   grind
  have V:(BitVec.ofInt IntKind.i64.bits ((2 ^ q*r:Nat):Int)).toNat=2 ^ q*r:=by
   show (BitVec.ofInt 64 _).toNat=_
   grind[BitVec.toNat_ofInt]
  grind[Nat.two_pow_add_eq_or_of_lt,cK]
 have R:(Op.intBits .or .i64 (m:Int) ((2 ^ q*r:Nat):Int)).run c.P w= .ok (I ((m+2 ^ q*r:Nat):Int)) w:=by
  show (Sem.pure (Value.int .i64 _)).run c.P w=_;rw[h1];rfl
 simp only[execOp,J.ev O hx,J.ev O hy,eqGuard,binOp]
 simp_all
variable {b:Nat}
theorem Ks p:(Array.mk p).map (λb=>Value.int .u8 b.toNat)=(aC p).flatten.toArray:=by
 grind[nC]
variable {e:TypeId}{n off:Nat}{P:Program}{w:World}
theorem Kt {a}:∃w',(markStringish a).run P w= .ok () w'/\w'.os=w.os/\w'.tape=w.tape/\w'.output=w.output/\w'.heap.size=w.heap.size/\(∀c,c≠a.block->w'.heap[c]? =w.heap[c]?)/\
  ∀cs ec f,w.heap[a.block]? =some (.cells cs ec f)->∃O,w'.heap[a.block]? =some (.cells cs ec O):=by
 unfold markStringish;cases hs:w.shape? a.block with
 | none=>
  simp_all
 | some J=>
  obtain ⟨e,n⟩:=J;refine ⟨w.freeze {block:=a.block,off:=n} 1,by simp[hs],?_⟩
  grind[World.freeze]
variable {L':List ag}{v:Value}{cap j:Nat}
theorem GN {p}(hu:c.P.underlying t=some .string)(hu2:c.P.underlying u=some (.slice e))(he:c.P.underlying e=some (.int .u8))(hx:ev g E x=some (ay p)):
  OpL c g E L ⟨d, .convert t u x,ty,pos,af,gu⟩ λv L'=>∃b cap,v=sl (some ⟨b,0,none⟩) p.length cap/\p.length<=cap/\L'=roL 1 (some ⟨b,0,none⟩) (aC p)::L:=
 .of_run λa w hE hg hS=>by
  obtain ⟨cap,hcap⟩:∃q,(Question.appendCap p.length 0 e).cut (w.tape w.drawn (.appendCap p.length 0 e))=q:=⟨_,rfl⟩;have hle:p.length<=cap:=(by grind[Question.cut]);obtain ⟨w1,hw1⟩:∃w1,w.drew.alloc (.cells ((aC p).flatten.toArray++Array.replicate (cap - p.length) (By 0)) e (0,0))=w1:=⟨_,rfl⟩;have hS1:Sat c.w0 w1 (pt w.heap.size (.cells ((aC p).flatten.toArray++Array.replicate (cap - p.length) (By 0)) e (0,0))::L):=(by rw[<-hw1];exact (hS.drew (w.drawn+1)).alloc _);obtain ⟨w2,hm,m1,m2,m3,m4,m5,m6⟩:=Kt (P:=c.P) (w:=w1) (a:=⟨w.heap.size,0,none⟩);obtain ⟨f',hf'⟩:=m6 _ _ _ hS1.at_;refine ⟨sl (some ⟨w.heap.size,0,none⟩) p.length cap,w2,_,?_,?_,w.heap.size,cap,rfl,hle,rfl⟩
  ·have hsz:ByteArray.size ⟨⟨p⟩⟩=p.length:=rfl;have hrun:(Conv.stringToBytes e ⟨⟨p⟩⟩).run c.P w= .ok (sl (some ⟨w.heap.size,0,none⟩) p.length cap) w2:=by
    unfold Conv.stringToBytes;rw[hsz];simp only[Sem.run_bind,choose,Sem.run,Result.andThen_ok,Question.forced];rw[hcap,Ks];simp only[newRow,newObj,Sem.run_bind,Sem.run_map,Sem.run,Result.andThen_ok];change ((markStringish ⟨w.heap.size,0,none⟩).run c.P (w.drew.alloc (.cells ((aC p).flatten.toArray++Array.replicate (cap - p.length) (By 0)) e (0,0)))).andThen (λ_ w'=> .ok (sl (some ⟨w.heap.size,0,none⟩) p.length cap) w')=_;rw[hw1,hm]
    rfl
   simp only[execOp,hE.ev hg hx,convert]
   simp_all[underlying]
  ·have h3:=hS1.head (w':=w2) (L1:=[roL 1 (some ⟨w.heap.size,0,none⟩) (aC p)]) m1 m2 m3 (by omega) (λm hA hf=>by
    refine ⟨λ_=>Res.one w.heap.size (.cells ((aC p).flatten.toArray++Array.replicate (cap - p.length) (By 0)) e f',true),OkL.one (.inr ⟨w.heap.size,0,_,rfl,Res.one_self,?_⟩) λc' x hx=>?_,λn hn hdj=>⟨λc' x hx=>?_,λi _ c' x y hx hy=>?_⟩⟩
    ·intro j row hj f v hf';have hr:∀r∈aC p,r.length=1:=(by grind[aC]);have hR:Rows (.cells ((aC p).flatten.toArray++Array.replicate (cap - p.length) (By 0)) e (0,0)) 0 1 (aC p):=Rows.of_flat (by decide) hr λk v hk=>by
      grind
     exact hR j row hj f v hf'
    ·grind[Res.one_eq]
    ·have hne:c'≠w.heap.size:=by
      rintro rfl;have:=(hdj _ x _ hx hA).2;cases this
     rw[m5 c' hne];exact hn c' x hx
    ·obtain ⟨rfl,rfl⟩:=Res.one_eq hx;have:=(hdj _ y _ hy hA).2;cases this)
   exact h3
theorem yh p:(Builtin.firstCells 1 p.length (ay p)).run P w= .ok (aC p).flatten.toArray w:=by
 have:=Lib.run_firstCells_string (P:=P) w 1 ⟨⟨p⟩⟩;rw[show (ByteArray.mk ⟨p⟩).size=p.length from rfl] at this
 grind[Lib.strCells,nC,Function.comp_def]
def Ig p:(Builtin.lenOf (ay p)).run P w= .ok p.length w:=by simp[Builtin.lenOf,Sem.run_pure];rfl
variable {base:Option Addr}{p:List UInt8}
def pW {w'}(S:P.underlying t=some (.slice e))(O:P.underlying u=some .string)(V:∀w,(sizeOf e).run P w= .ok 1 w)(J:n+p.length<=cap)(hs:(match base with | some a=>storeCells (a.add (n*1)) (aC p).flatten | none=>(pure ():Sem Unit)).run P w= .ok () w'):(Builtin.append_ #[t,u] ty #[.slice base n cap,ay p]).run P w= .ok (.slice base (n+p.length) cap) w':=by
 have R:=yh (P:=P) (w:=w) p;have hl:=Ig (P:=P) (w:=w) p;unfold Builtin.append_;cases base with
 | none=>
  have e:w=w':=(by injection hs);subst e;simp[underlying,program,Sem.run,S,O,V,hl,R,J]
 | some a=>simp only[Nat.mul_one] at hs;simp[underlying,program,Sem.run,S,O,V,hl,R,J,hs]
variable {k:IntKind}
def vj {zv old J}(Z:P.underlying t=some (.slice e))(V:P.underlying u=some .string)(hz:∀w,(sizeOf e).run P w= .ok 1 w)(hzv:∀w,(zeroValue e).run P w= .ok zv w)(S:∀w,(typeInfo e).run P w= .ok J w)(ho:(Builtin.firstCells 1 n (.slice base n cap)).run P w.drew= .ok old w.drew)(R:cap<n+p.length)(Y:n+p.length<=1073741824/\0<J.bytes/\J.bytes<=4096):
  ∃O,n+p.length<=O/\(Builtin.append_ #[t,u] ty #[.slice base n cap,ay p]).run P w= .ok (.slice (some ⟨w.heap.size,0,none⟩) (n+p.length) O) (w.drew.alloc (.cells (old++(aC p).flatten.toArray++Builtin.zeroCells zv.cells (O - (n+p.length))) e (0,0))):=by
 have hf:=yh (P:=P) (w:=w.drew) p;have hl:=Ig (P:=P) (w:=w) p;have c1:¬n+p.length<=cap:=(by omega);have c3:¬(Builtin.nextslicecap (n+p.length) cap*J.bytes > 2 ^ 48):=by
  have h1:=sw (n+p.length) cap R;have h2:Builtin.nextslicecap (n+p.length) cap*J.bytes<=(2*1073741824+192)*4096:=ka7 (by omega) Y.2.2;omega
 have X:=λ(w:World) (k:Nat)=>nw (P:=P) (w:=w) k;refine ⟨(Question.appendCap (n+p.length) cap e).cut (w.tape w.drawn (.appendCap (n+p.length) cap e)),by simp[Question.cut],?_⟩;have e0:J.bytes≠0:=(by omega);unfold Builtin.append_;simp[underlying,program,Sem.run,Z,V,hz,hl,c1,S,choose,Question.forced];rw[iOm,kaU (by simpa using c3)]
 simp_all[newRow]
theorem iK:∀(p:List UInt8),∀r∈aC p,r.length=1:=λp r hr=>by grind[aC]
def GO p q:aC (p++q)=aC p++aC q:=by simp[aC]
variable {s:Option Addr}{o:Nat}{l:List UInt8}
theorem Ms {zv S}{ec:Nat}{F}(hu:c.P.underlying t=some (.slice ec))(Z:c.P.underlying u=some .string)(hz:∀w,(sizeOf ec).run c.P w= .ok 1 w)(hzv:∀w,(zeroValue ec).run c.P w= .ok zv w)(hzs:zv.cells.size=1)(hti:∀w,(typeInfo ec).run c.P w= .ok S w)(hx:ev g E x=some (sl s n cap))(hy:ev g E y=some (ay p))[R:OwR L s ec 1 cap (aC l) F](hn:l.length=n)(hb:n+p.length<=1073741824/\0<S.bytes/\S.bytes<=4096):
  OpL c g E L ⟨d, .call {callee:= .builtin .append,args:=#[x,y],argTypes:=#[t,u]},ty,pos,af,gu⟩ λv L'=>∃s' X,v=sl s' (l++p).length X/\(p≠ []->s'≠none)/\L'=be ec 1 s' X (aC (l++p))::F:=
 .of_run λa w hE hg hS=>by
  subst hn;rw[GO,kcp];have V:=R.sat hS;have fl1:ones (aC p).flatten=true:=lq λv hv=>by
   rw[nC] at hv;simp at hv;obtain ⟨_,_,rfl⟩:=hv
   rfl
  have ex:=λw' v h=>ny (d:=d) (ty:=ty) (pos:=pos) (af:=af) (gu:=gu) (t:=t) (u:=u) (r:= .ok v w') (P:=c.P) (w:=w) (hE.ev hg hx) (hE.ev hg hy) h;by_cases Y:l.length+p.length<=cap
  ·rcases dA V with ⟨rfl,hl0,rfl,hF⟩ | ⟨b,cs,rfl,a1,a2,a3,a4,hP⟩
   ·have hl:l.length=0:=(by omega);have hp0:p=[]:=kbb.1 (by omega);subst hp0;refine ⟨sl none (l.length+0) 0,w,_,ex w _ ?_,V,none,0,rfl,λh=>absurd rfl h,by simp[aC]⟩;exact pW (base:=none) hu Z hz Y rfl
   ·obtain ⟨hle,O⟩:=pb (ec:=ec) (news:=aC p) (by decide) a1 (by grind[gO]) a3 (iK p) a4;rw[gO] at hle O a2;have hst:=dz (P:=c.P) b (l.length*1) ec (aC p).flatten w cs 0 hP.at_ (by omega) fl1;refine ⟨sl (some ⟨b,0,none⟩) (l.length+p.length) cap,k7 w b (.cells (cV cs (l.length*1) (aC p).flatten) ec (0,0)),_,ex _ _ ?_,?_,some ⟨b,0,none⟩,cap,rfl,(λ_ h=>by cases h),rfl⟩
    ·exact pW (base:=some ⟨b,0,none⟩) hu Z hz Y (by simpa [gi] using hst)
    ·refine fu (hP.set (o':= .cells (cV cs (l.length*1) (aC p).flatten) ec (0,0)) W) (by rw[fI,a1]) (by grind[gO]) ?_ O
     grind[iK]
  ·have hold:aC l=[]\/∃b off o,s=some ⟨b,off,none⟩/\w.heap[b]? =some o/\Rows o off 1 (aC l):=by
    rcases dA V with ⟨rfl,h0,rfl,hF⟩ | ⟨b,cs,rfl,a1,a2,a3,a4,hP⟩
    ·exact .inl h0
    ·exact .inr ⟨b,0,_,rfl,hP.at_,a4⟩
   have hfo:(Builtin.firstCells 1 l.length (sl s l.length cap)).run c.P w.drew= .ok (aC l).flatten.toArray w.drew:=ot (by decide) (iK l) (gO l) hold;obtain ⟨J,hc,hrun⟩:=vj (ty:=ty) (t:=t) (u:=u) (cap:=cap) (n:=l.length) (p:=p) hu Z hz hzv hti hfo (by omega) hb;refine ⟨_,_,_,ex _ _ hrun,?_,some ⟨w.heap.size,0,none⟩,J,rfl,(λ_ h=>by cases h),rfl⟩;have hS2:Sat c.w0 (w.drew.alloc (.cells ((aC l).flatten.toArray++(aC p).flatten.toArray++Builtin.zeroCells zv.cells (J - (l.length+p.length))) ec (0,0))) _:=(V.tail.drew (w.drawn+1)).alloc _;refine fu hS2 ?_ (by grind[gO]) ?_<|pd (by decide) (iK l)<|iK p
   ·simp only[kbc,kbd,dT _ (iK l),dT _ (iK p),kv,hzs,gO];omega
   grind[iK]
def Vq {ec F}(hx:ev g E x=some (sl s n cap))[R:OwR L s ec 1 cap (aC l) F](h0:l≠ []\/s=none):
  OpL c g E L ⟨d, .call {callee:= .builtin .unsafeSliceData,args:=#[x],argTypes:=#[t]},ty,pos,af,gu⟩ λv L'=>v= .pointer s/\L'=L:=
 .of_run λa w V X O=>by
  refine ⟨.pointer s,w,L,?_,O,rfl,rfl⟩;have J:(Builtin.unsafeSliceData_ #[t] ty #[sl s n cap]).run c.P w= .ok (.pointer s) w:=by
   cases s with
   | none=>rfl
   | some S=>
    refine Lib.run_unsafeSliceData_row w _ _ S n cap ?_;rcases dA (R.sat O) with ⟨h,_⟩ | ⟨b,cs,_,Y,a2,_⟩
    ·cases h
    ·rcases h0 with h | h
     ·rw[gO] at a2;have:l.length≠0:=λe=>h (kbb.1 e);omega
     ·cases h
  simp[execOp,resolve,invoke,builtin,V.ev X hx,J]
theorem Tn {ec:Nat}{l F it}(hp:c.P.underlying t=some (.pointer ec))(hc:c.P.cellsOf ec=1)(hx:ev g E x=some (.pointer s))(hy:ev g E y=some (I (n:Int)))[R:OwR L s ec 1 cap (aC l) F](hn:l.length=n)(h0:l≠ []\/s=none)(h63:l.length<=9223372036854775807):
  OpL c g E L ⟨d, .call {callee:= .builtin .unsafeString,args:=#[x,y],argTypes:=#[t,it]},ty,pos,af,gu⟩ λv L'=>v=ay l/\L'=F:=
 .of_run λa w hE hg hS=>by
  subst hn;have hS1:=R.sat hS;have ex:=λw' v (h:(Builtin.unsafeString_ #[t,it] ty #[.pointer s,I (l.length:Int)]).run c.P w= .ok v w')=>show (execOp a.eval ⟨d, .call {callee:= .builtin .unsafeString,args:=#[x,y],argTypes:=#[t,it]},ty,pos,af,gu⟩).run c.P w= .ok (.value v) w' by
   simp[execOp,resolve,invoke,builtin,hE.ev hg hx,hE.ev hg hy,h]
  rcases dA hS1 with ⟨rfl,hl0,rfl,hF⟩ | ⟨b,cs,rfl,a1,a2,a3,a4,hP⟩
  ·have:l=[]:=(by simpa [aC] using hl0);subst this;exact ⟨ay [],w,F,ex w _ (Lib.run_unsafeString_none w t it ty none),hF,rfl,rfl⟩
  ·have hne:l≠ []:=(by grind);have hh:=hP.at_;have hsh:w.shape? b=some (ec,cs.size):=(by grind[World.shape?]);have hcell:∀j x,l[j]? =some x->w.cell? ((⟨b,0,none⟩:Addr).add j)=some (.int .u8 x.toNat):=λj x hj=>by
    have:=a4 j [By x.toNat] (by simp[aC,hj]) 0 _ rfl
    grind[gi,iu]
   have hrun:=Lib.run_unsafeString_row (P:=c.P) w t it ty ec hp hc b cs.size hsh l hne (by grind[gO]) h63 hcell;refine ⟨ay l,w.freeze ⟨b,0,none⟩ l.length,F,ex _ _ hrun,?_,rfl,rfl⟩;have hlt:l.length≠0:=λe=>hne (kbb.1 e);have h3:=hP.head (w':=w.freeze ⟨b,0,none⟩ l.length) (L1:=[]) (by grind[World.freeze]) (by grind[World.freeze]) (by grind[World.freeze]) (by grind[World.freeze]) (λm hA hf=>by
    refine ⟨λ_=>m,⟨λi cB h=>by simp at h,λi j h=>by simp at h⟩,λn hn hdj=>⟨λc' x hx=>?_,λi h=>by simp at h⟩⟩;have hne':b≠c':=by
     rintro rfl;have:=(hdj _ x _ hx hA).2;cases this
    have:=hn c' x hx
    grind[World.freeze])
   exact h3
variable {sz:Nat}{cs:Array Value}
theorem Qk {ec f}(V:c.P.underlying t=some (.pointer e))(O:c.P.underlying u=some .unsafePointer)(hz:∀w,(sizeOf e).run c.P w= .ok sz w)(h0:0<sz)(hx:ev g E x=some (ptr b 0))[hh:Has L b (.cells cs ec f)](hs:0<cs.size):
  OpV c g E L ⟨d, .convert t u x,ty,pos,af,gu⟩ (ptr b 0):= .mk λa w X Z Y=>by
 have h1:=hh.out _ _ Y;have R:w.shape? b=some (ec,cs.size):=(by grind[World.shape?]);have S:sz≠0:=(by omega);have hcs:¬cs.size=0:=(by omega);have J:(Conv.unsafePointer t u (ptr b 0)).run c.P w= .ok (ptr b 0) w:=by
  unfold Conv.unsafePointer;simp[underlying,program,Sem.run,V,O,Conv.seenAt,viewAt,cellsIn,R,hz,S,hcs]
 simp[execOp,X.ev Z hx,convert,underlying,program,Sem.run,V,O,J]
def GP {J}(O:P.cellsOf e=J)(h0:0<J):liesAt P P.depth e (J / J) 0 e 1=true:=by
 have hd:P.depth=(2*(P.types.size+Made.depth)+1)+1:=rfl;rw[hd];simp only[liesAt,kbA];left;rw[hd];simp[rowAt,O,sameLayout,Nat.div_self h0];omega
variable {i:Nat}
def wt (h:(sizeOf e).run P w= .ok sz w):P.cellsOf e=sz:=by
 unfold Program.cellsOf;cases hi:P.info? e with
 | none=>simp_all[sizeOf,typeInfo]
 | some i=>simp_all[sizeOf,typeInfo]
theorem Ql {f}(V:c.P.underlying t=some .unsafePointer)(O:c.P.underlying u=some (.pointer e))(X:∀w,(sizeOf e).run c.P w= .ok sz w)(h0:0<sz)(hx:ev g E x=some (ptr b 0))[hh:Has L b (.cells cs e f)](hs:cs.size=sz):
  OpV c g E L ⟨d, .convert t u x,ty,pos,af,gu⟩ (ptr b 0):= .mk λa w Y hg Z=>by
 have h1:=hh.out _ _ Z;have R:w.shape? b=some (e,cs.size):=(by grind[World.shape?]);have S:=wt (X w);have hl:=GP S h0;have hsz:sz≠0:=(by omega);have J:(Conv.unsafePointer t u (ptr b 0)).run c.P w= .ok (ptr b 0) w:=by
  unfold Conv.unsafePointer;simp[underlying,program,Sem.run,V,O,Conv.seenAt,viewAt,R,variablesAt,hs,S,hl,X]
 simp[execOp,Y.ev hg hx,convert,underlying,program,Sem.run,V,O,J]
def GQ {p}(S:c.P.underlying t=some (.pointer e))(V:∀w,(sizeOf e).run c.P w= .ok sz w)(hx:ev g E x=some (.pointer (some p)))(hy:ev g E y=some (.pointer (some p))):OpV c g E L ⟨d, .binOp .neq t x y u,ty,pos,af,gu⟩ (Bo false):= .mk λa w O R X=>by
 have J:(Op.equal t (.pointer (some p)) (.pointer (some p))).run c.P w= .ok true w:=by
  show (Op.equalIn (9999+1) _ _ _).run _ _=_;unfold Op.equalIn;simp[underlying,program,Sem.run,S,V,samePointer,sameAddr]
 simp only[execOp,O.ev R hx,O.ev R hy,eqGuard,binOp] at J ⊢;simp[J,Sem.run]
end Go.Sl
namespace Go.Sl
abbrev FW:=Fence.wide
def md:List Oper->Bool
 | []=>true
 | o::r=>(match o.op with | .defer _=>false | _=>true) && md r
def qo:∀{r:List Oper} {o:Oper},md r=true->o∈r->∀c,o.op≠ .defer c
 | [],o,_,hm,_=>by cases hm
 | x::r,o,h,hm,c=>by
  simp only[md,kaJ] at h;rcases kbn.1 hm with rfl | hm
  ·grind
  ·exact qo h.2 hm c
def Closed (Q:fE):Prop:=(∀ch a w,¬Q (.panic ch) a w)/\∀a w,¬Q .outgrown a w
variable {Q':fE}
theorem Closed.lets (h:Closed Q'):¬LetsOut Q':=λ⟨a,w,hq⟩=>h.2 a w hq
variable {P:Program}{l:Nat}{Q:fE}{w:World}
def Ih {o:Oper}{a nx}(R:∀c,o.op≠ .defer c)(O:Closed Q')(h:o.wp P a w nx Q'):o.wpIn (FW.inRound l) 0 P a w nx Q:=by
 refine ⟨λ_ _=>trivial,?_⟩;rw[show (FW.inRound l).round=some l from rfl,Oper.semAt_some l a.eval o R];unfold Oper.wp at h;generalize (execOp a.eval o).run P w=r at*;cases r with
 | ok x w'=>
  cases x with
  | value v=>exact h
  | skip=>exact h
  | defer d=>exact h
  | enter f args=>
   refine ⟨(λh=>by cases h),?_⟩;have S:Calls P f args w' λe J=>match e with
    | .returned v=>nx (a.put o.dst v) J
    | .panicked AP=>Q (.panic AP) a J
    | .outgrown=>LetsOut Q:=Calls.mono h λe J he=>by
     cases e with
     | returned v=>exact he
     | panicked X=>exact absurd he<|O.1 _ _ _
     | outgrown=>exact absurd he O.lets
   have V:=(callsIn_wide (n:=0)).2 S;exact CallsIn.mono (F:=FW.inRound l) (n:=0 - 1) V λe J he=>by cases e <;> exact he
  | row row args=>
   refine ⟨(λh=>by cases h),λc cs _=>?_⟩;obtain ⟨v,J,hr,hs⟩:=h c cs;exact ⟨v,J,hr,stepsIn_wide.2 hs⟩
  | _=>exact False.elim h
 | halt x w'=>
  cases x with
  | panic v=>exact absurd h<|O.1 _ _ _
  | _=>exact False.elim h
variable {ops:Array Oper}
theorem CA (O:Closed Q')(hn:∀a w,Q' .normal a w->Q .normal a w):∀(r:List Oper) (a:Act) (w:World),md r=true->wpList P ops Q' r a w->wpListIn (FW.inRound l) 0 P ops Q r a w
 | [],a,w,_,h=>hn a w h
 | o::r,a,w,hd,h=>by
  have hd1:=qo hd (kcq ..);have J:md r=true:=(by grind[md]);unfold wpList at h;unfold wpListIn;split
  ·rename_i hw;rw[kaT hw] at h;rcases h with h | ⟨_,h⟩
   ·exact Oper.wpIn_mono (λa w hh=>CA O hn r a w J hh)<|Ih hd1 O h
   ·exact absurd h O.lets
  ·rename_i hw;rw[kaU hw] at h;exact ⟨λ_ _=>trivial,CA O hn r _ w J h⟩
def CB (O:Closed Q')(hn:∀a w,Q' .normal a w->Q .normal a w)(hd:md ops.toList=true):∀(fuel:Nat) (J:Array Bool) (a:Act) (w:World),wpAny P .any ops Q' fuel J a w->wpAnyIn (FW.inRound l) 0 P .any ops Q fuel J a w
 | 0,J,a,w,h=>⟨h.1,hn a w h.2⟩
 | fuel+1,J,a,w,h=>by
  refine ⟨λh0=>hn a w (h.1 h0),λi hi=>?_⟩;have h1:=h.2 i hi;unfold wpOp at h1;unfold wpOpIn;cases ho:ops[i]? with
  | none=>rw[ho] at h1;exact CB O hn hd fuel _ a w h1
  | some o=>
   rw[ho] at h1;simp only at h1 ⊢;have hd1:=qo hd (o:=o) (Array.mem_toList_iff.2 (Array.mem_of_getElem? ho));split
   ·rename_i hw;rw[kaT hw] at h1;rcases h1 with h1 | ⟨_,h1⟩
    ·exact Oper.wpIn_mono (λa w hh=>CB O hn hd fuel _ a w hh)<|Ih hd1 O h1
    ·exact absurd h1 O.lets
   ·rename_i hw;rw[kaU hw] at h1;exact ⟨λ_ _=>trivial,CB O hn hd fuel _ _ w h1⟩
def kr (P:Program)(l:Nat)(Q:fE):List KI->fE
 | [],e,a,w=>Q e a w
 | .code c::K,e,a,w=>match e with
  | .normal=>c.wpIn (FW.inRound l) 0 P (kr P l Q K) a w
  | e=>kr P l Q K e a w
 | .blk id::K,e,a,w=>Exit.inBlock id (kr P l Q K) e a w
 | _::K,e,a,w=>kr P l Q K e a w
@[reducible] def Cx.rd (c : Cx) : Cx := { c with n := ⟨c.n.n, []⟩ }
def H (c:Cx)(l:Nat)(Q:fE)(K:List KI)(E:di)(L:List ag):Prop:=∀a w,EOk c.rd.n E a->Sat c.w0 w L->kr c.P l Q K .normal a w
variable {K:List KI}{c:Cx}
def yi {J}:Closed (kq c.P c.Q [.fin J]):=⟨λO a w h=>jo (c:=c) (K:=[.fin J]) h,λa w h=>h.elim (λh=>h) (λh=>h)⟩
variable {E:di}{L:List ag}{x y:Code}
def Ii (h:H c l Q (.code x:: .code y::K) E L):H c l Q (.code (.seq x y)::K) E L:=λa w J O=>by
 refine wpIn_seq<|wpIn_mono (h a w J O) λe a w hq=>?_;cases e <;> exact hq
def To (h:H c l Q K E L):H c l Q (.code .skip::K) E L:=λa w J O=>wpIn_skip (h a w J O)
def Qm {id}(h:H c l Q (.code x:: .blk id::K) E L):H c l Q (.code (.block id x)::K) E L:=λa w J O=>wpIn_block (wpIn_mono (h a w J O) λe a w hq=>hq)
def Vr {id}(h:H c l Q K E L):H c l Q (.blk id::K) E L:=λa w J O=>h a w J O
def Tp {t b}(ht:ev none E t=some (.bool b))(h1:b=true->H c l Q (.code x::K) E L)(R:b=false->H c l Q (.code y::K) E L):H c l Q (.code (.cond t x y)::K) E L:=
 λa w J O=>wpIn_cond_split (J.ev (cT a) ht) (λe=>h1 e a w J O) (λe=>R e a w J O)
def vk {P a w}(h:Q .ret a w):∀{K:List KI},kr P l Q K .ret a w
 | []=>h
 | .code c::K=>vk h (K:=K)
 | .blk _::K=>vk h (K:=K)
 | .ops _ _::K=>vk h (K:=K)
 | .plan _ _ _::K=>vk h (K:=K)
 | .fin _::K=>vk h (K:=K)
variable {ops:List Oper}
def Mt {α id}φ R(S:α->List ag)(hd:md ops=true)(h1:G c.rd (.ops ops ops:: [.fin (Cut c.rd φ R S)]) E L)(V:∀z,φ z->H c l Q K (R z) (S z)):H c l Q (.code (.region id ops.toArray false)::K) E L:=λa w J O=>
 wpIn_region_lit (CA (yi (c:=c.rd)) (λa w hq=>by obtain ⟨z,X,J,O⟩:=hq;exact V z X a w J O) ops a w hd (h1 a w J O))
theorem Tq {α id Lf}pl φ J(O:α->List ag)(hm:c.P.follows .mixedOrders=true)(hs:Region.noSelect ops.toArray=true)(hl:pl.length=ops.length)(hp:im ops.toArray pl (Array.replicate ops.length false)=true)(hd:md ops=true)(h1:G c.rd (.plan ops (λw=>Sat c.w0 w Lf) pl:: [.fin (Cut c.rd φ J O)]) E L)(X:∀z,φ z->H c l Q K (J z) (O z)):H c l Q (.code (.region id ops.toArray true)::K) E L:=λa w R S=>by
 have V:=h1 a _ R (S.drew (w.drawn+1));have hC:=ko (Q:=kq c.rd.P c.rd.Q [.fin (Cut c.rd φ J O)]) hs (λZ a d v w hq=>absurd hq jo) pl (Array.replicate ops.length false) a _ hp V;refine wpIn_region_any hm<|CB (l:=l) (Q':=kq c.rd.P c.rd.Q [.fin (Cut c.rd φ J O)]) (Q:=kr c.P l Q K) (yi (c:=c.rd)) (λa w hq=>by obtain ⟨z,Y,R,S⟩:=hq;exact X z Y a w R S) (by simpa using hd) _ _ a _<|o9 (bn:=λw=>Sat c.w0 w Lf) _ _ _ _ ?_
 grind
def Ku {φ}(hp:φ)(h:H c l Q K E (kU φ::L)):H c l Q K E L:=λa w J O=>h a w J (O.pure_mk hp)
def Qn {φ F}[R:Rem L (kU φ) F](h:φ->G c K E F):G c K E L:=λa w J O=>by
 have hp:=(R.sat O).pure_;exact h hp.1 a w J hp.2
theorem Ts {b m n t F}[R:Rem L (roL 1 (some ⟨b,0,none⟩) (aC t)) F](h:H c l Q K E (roL 1 (some ⟨b,m,none⟩) (aC ((t.drop m).take n))::roL 1 (some ⟨b,0,none⟩) (aC t)::F)):H c l Q K E L:=λa w Y Z=>by
 refine h a w Y<|((R.sat Z).dup (Pers.roL 1 _ _)).weak λm' hm=>?_;rcases hm with hm | ⟨b',off,o,h1,V,X⟩
 ·left
  simp_all[aC]
 ·right;injection h1 with h1;injection h1 with O S e3;subst O S;refine ⟨b,m,o,rfl,V,λj row hj f v hf=>?_⟩;have J:(aC t)[m+j]? =some row:=by
   grind[aC]
  have:=X (m+j) row J f v hf
  grind
def Ij (c:Cx)(L1 L2:List ag):fE:=λe a w=>match e with
 | .normal=>Sat c.w0 w L1
 | .ret=>Sat c.w0 w L2
 | _=>False
variable {L1 L2:List ag}
def Vs [S:Sub L L1]:H c l (Ij c L1 L2) [] E L:=λa w O J=>S.sat J
def Vt [S:Sub L L2]:H c l (Ij c L1 L2) (.code .ret::K) E L:=λa w O J=>wpIn_ret (vk (S.sat J))
def CC (P:Program)(l:Nat)(v:Value)(w0:World)(L L1 L2:List ag):Prop:=∀w,Sat w0 w L->∃fn tmps assign body,(Instr.yield l #[v]).run P w= .ok (.round l fn tmps assign body) w/\
 RoundIn FW 0 P l fn tmps assign body w λe w'=>(e= .returned (.bool true)/\Sat w0 w' L1)\/(e= .returned (.bool false)/\Sat w0 w' L2)
def KY (c:Cx)(all rest:List Oper)(K:List KI):List KI:= .fin (λa w=>wpListIn FW 0 c.P all.toArray (kq c.P c.Q K) rest a w)::K
def Tt {id}(h:G c (KY c ops ops K) E L):G c (.code (.region id ops.toArray false)::K) E L:=λa w J O=>(wpIn_wide (n:=0)).1 (wpIn_region_lit (h a w J O))
variable {all:List Oper}
def So (h:G c K E L):G c (KY c all [] K) E L:=λa w J O=>h a w J O
variable {d:Nat}{ty:TypeId}{pos:String}{af:Array Edge}{rest:List Oper}{op:Op}{v:Value}
def LF (h:OpV c none E L ⟨some d,op,ty,pos,af,none⟩ v)(k:G c (KY c all rest K) ((d,none,v)::E) L)(hd:mb c.n d E=true:=by exact rfl):G c (KY c all (⟨some d,op,ty,pos,af,none⟩::rest) K) E L:=λa w J O=>by
 show wpListIn FW 0 c.P all.toArray (kq c.P c.Q K) (⟨some d,op,ty,pos,af,none⟩::rest) a w;unfold wpListIn;rw[kaT (by simp[Region.wanted])];refine ⟨λ_ _=>trivial,?_⟩;rw[show FW.round=none from rfl,Oper.semAt_none,h.out a w J (cT a) O];exact k _ w (J.put1 hd) O
variable {f x:Operand}{ats:Array TypeId}
theorem Qo (Z:ev none E f=some (.func (.yield l) #[] #[]))(hx:ev none E x=some v)(hr:CC c.P l v c.w0 L L1 L2)(hd:mb c.n d E=true)(k1:G c (KY c all rest K) ((d,none, .bool true)::E) L1)(k2:G c (KY c all rest K) ((d,none, .bool false)::E) L2):
  G c (KY c all (⟨some d, .call {callee:= .value f,args:=#[x],argTypes:=ats},ty,pos,af,none⟩::rest) K) E L:=λa w X Y=>by
 show wpListIn FW 0 c.P all.toArray (kq c.P c.Q K) (⟨some d, .call {callee:= .value f,args:=#[x],argTypes:=ats},ty,pos,af,none⟩::rest) a w;obtain ⟨fn,tmps,J,S,hy,O⟩:=hr w Y;unfold wpListIn;rw[kaT (by simp[Region.wanted])];refine ⟨λ_ _=>trivial,?_⟩;have V:(execOp a.eval ⟨some d, .call {callee:= .value f,args:=#[x],argTypes:=ats},ty,pos,af,none⟩).run c.P w= .ok (.round l fn tmps J S) w:=by
  have h1:=X.ev (cT a) Z;have h2:=X.ev (cT a) hx
  grind[execOp,resolve,Deferred.ofValue,invoke]
 rw[show FW.round=none from rfl,Oper.semAt_none,V];refine ⟨(λh=>by cases h),RoundIn.mono O λe w' he=>?_⟩;rcases he with ⟨rfl,R⟩ | ⟨rfl,R⟩
 ·exact k1 _ w' (X.put1 hd) R
 ·exact k2 _ w' (X.put1 hd) R
variable {w0:World}
theorem Mu {f fn cd args R}(V:P.funcs[f]? =some fn)(S:fn.body=some cd)n(hn:fn.ntmps=n)(X:args.length<=n)(h:G ⟨P,fn,w0,R,⟨n,[]⟩⟩ [.code cd] (oa 0 args) L):∀w,Sat w0 w L->Calls P f args.toArray w λe w'=>match e with
  | .returned v=>∃L',Sat w0 w' L'/\R v L'
  | _=>False:=λw O=>by
 refine callsIn_wide.1<|callsIn_of_wp_marks (n:=0) V S trivial<|wpIn_wide.2<|wp_mono (h _ w ?_ O) λe a w hq=>?_;rotate_left
 ·cases e with
  | normal | ret=>
   rcases hq with ⟨hd,v,hr,J⟩ | ⟨D,w',hd,ht,v,hr,J⟩
   ·show LeavesInM _ _ _ _ _ _ _ _ _;rw[hd];exact ⟨v,hr,J⟩
   ·show LeavesInM _ _ _ _ _ _ _ _ _;rw[hd];exact ⟨(λh=>by cases h), .inl ⟨D,w',rfl,ht,v,hr,J⟩⟩
  | panic Y=>exact absurd hq<|λh=>h.elim (λh=>h.2) (λh=>h)
  | exit id=>exact hq.elim (λh=>h.elim)<|λh=>h.elim
  | goto l=>exact hq.elim (λh=>h.elim)<|λh=>h.elim
  | outgrown=>exact hq.elim (λh=>h.elim)<|λh=>h.elim
 refine ⟨rfl,by simp[hn];omega,?_⟩;have key:∀(l:List Value) (i:Nat) (t:Nat) (g:Option (Nat×Bool)) (v:Value),Gn (oa i l) t=some (g,v)->i<=t/\l[t - i]? =some v:=by
  intro l
  induction l with
  | nil=>intro i t g v h;cases h
  | cons u l Z=>
   intro i t g v h;simp only[oa] at h;unfold Gn at h;split at h
   ·simp_all
   grind
 grind
theorem Sat.swap {x y R}:∀{X:List ag},Sat w0 w (X++y::x::R)->Sat w0 w (X++x::y::R):=fun {X} h=>by
 obtain ⟨h1,V,Y,Z,f,hf,hd⟩:=h;obtain ⟨σ,hσ⟩:∃σ:Nat->Nat,σ=λi=>if i=X.length then X.length+1 else if i=X.length+1 then X.length else i:=⟨_,rfl⟩
 have O:∀i,(X++x::y::R)[i]? =(X++y::x::R)[σ i]? :=λi=>by
  grind
 have S:(X++x::y::R).length=(X++y::x::R).length:=(by simp);have hl2:(X++y::x::R).length=X.length+R.length+2:=(by simp;omega);have J:∀i,i<(X++x::y::R).length->σ i<(X++y::x::R).length:=λi hi=>by
  grind
 refine ⟨h1,V,Y,Z,λi=>f (σ i),λi cB hA=>hf (σ i) cB (by rw[<-O];exact hA),λi j hi hj hne=>hd _ _ (J i hi) (J j hj) λe=>hne ?_⟩;rw[hσ] at e;simp only at e;split at e <;> split at e <;> (try split at e) <;> (try split at e) <;> omega
variable {L':List ag}
theorem Sat.perm (hp:L.Perm L'):∀X:List ag,Sat w0 w (X++L)->Sat w0 w (X++L'):=by
 induction hp with
 | nil=>intro X h;exact h
 | cons x _ J=>
  intro X h;have:=J (X++ [x]) (by simpa using h);simpa using this
 | swap x y l=>grind[Sat.swap]
 | trans _ _ O R=>grind
theorem Sat.perm0 (hp:L.Perm L')(h:Sat w0 w L):Sat w0 w L':=by simpa using Sat.perm hp [] (by simpa using h)
abbrev dO:Obj:= .deferred (some [])
def WP {n id p q a}(O:EOk n ((p,none,v)::E) a)(hq:mb n q ((p,none,v)::E)=true):
  (Code.region id #[⟨some q, .assign (.tmp p),ty,pos,af,none⟩] false).wpIn (FW.inRound l) 0 P (Exit.then (λR w'=>w'=w/\EOk n ((q,none,v)::(p,none,v)::E) R) (λ_ _ _=>False)) a w:=by
 refine wpIn_region_lit (l:=[_])<|wpListIn_plain W λK S=>?_;refine ⟨λ_ _=>trivial,?_⟩;have hx:a.eval (.tmp p)=v:=O.ev (cT a) (by simp[ev,look,Gn,Nat.beq_refl]);rw[show (FW.inRound l).round=some l from rfl,Oper.semAt_some l a.eval _ (λc h=>by cases h)];have J:(execOp a.eval ⟨some q, .assign (.tmp p),ty,pos,af,none⟩).run P w= .ok (.value v) w:=(by simp[execOp,hx]);rw[J];exact S _ _<|wpListIn_nil ⟨rfl,O.put1 hq⟩
theorem ED {gop}{p:Tmp}{assign body gf cap Pre}{cB:Nat->List ag}{B N}{v:Nat->Value}{E1:Nat->di}(hd0:c.n.ds=[])(hp:mb c.n p E=true)(hg:ev none E gop=some (.func (.func gf) #[] cap.toArray))(hcall:∀args w,(callFunc gf args).run c.P w= .ok (.enter gf args) w)(hseq:∀(l:Nat) (A':Nat->List ag) (B':List ag),(∀k,k<N->CC c.P l (v k) c.w0 (Pre++A' k) (Pre++A' (k+1)) (Pre++B'))->∀w,Sat c.w0 w (Pre++A' 0)->Calls c.P gf (.func (.yield l) #[] #[]::cap).toArray w λe w'=>match e with
   | .returned _=>Sat c.w0 w' (Pre++A' N)\/Sat c.w0 w' (Pre++B')
   | _=>False)(hL:L=Pre++cB 0)(has:∀l k a w,EOk c.rd.n ((p,none,v k)::E) a->assign.wpIn (FW.inRound l) 0 c.P (Exit.then (λa' w'=>w'=w/\EOk c.rd.n (E1 k) a') (λ_ _ _=>False)) a w)(hbody:∀(l D:Nat) (O:Obj) k,k<N->H c l (Ij c (Pre++pt l O::pt D dO::cB (k+1)) (Pre++pt l O::pt D dO::B)) [.code body] (E1 k) (Pre++pt l O::pt D dO::cB k))(done:∀D,G {c with n:=⟨c.n.n,[markD D]⟩} K E (pt D dO::(Pre++cB N)))(ret:∀D,G {c with n:=⟨c.n.n,[markD D]⟩} (.code .ret::K) E (pt D dO::(Pre++B))):G c (.code (.rangeFunc gop #[p] assign body)::K) E L:=λa w hE hS=>by
 have hS0:Sat c.w0 w (Pre++cB 0):=hL ▸ hS;refine (wpIn_wide (n:=0)).1 (wpIn_rangeFunc λfn _=>?_);obtain ⟨rec,hrec⟩:∃rec:LoopState->Option Code->Loop,rec=λst pe=>{state:=st,pending:=pe,fn,tmps:=a.tmps,params:=#[p],assign,body,defers:=w.heap.size}:=⟨_,rfl⟩;obtain ⟨W1,hW1⟩:∃W1,(w.alloc dO).alloc (.loop (rec .ready none))=W1:=⟨_,rfl⟩;have hS1:Sat c.w0 W1 (pt (w.heap.size+1) (.loop (rec .ready none))::pt w.heap.size dO::(Pre++cB 0)):=by
  have e:(w.alloc dO).heap.size=w.heap.size+1:=World.size_alloc ..;rw[<-hW1,<-e];exact (hS0.alloc dO).alloc _
 -- the lists' two orders
 have fwd:∀{w:World} {X:List ag} {O:Obj},Sat c.w0 w (pt (w.heap.size+0) O:: [])->True:=λ_=>trivial;have toF:∀{bk:World} {O:Obj} {X:List ag},Sat c.w0 bk (Pre++pt (w.heap.size+1) O::pt w.heap.size dO::X)->Sat c.w0 bk (pt (w.heap.size+1) O::pt w.heap.size dO::(Pre++X)):=λh=>
  h.perm0 (List.perm_middle.trans (List.Perm.cons _ kb8))
 have toP:∀{bk:World} {O:Obj} {X:List ag},Sat c.w0 bk (pt (w.heap.size+1) O::pt w.heap.size dO::(Pre++X))->Sat c.w0 bk (Pre++pt (w.heap.size+1) O::pt w.heap.size dO::X):=λh=>
  h.perm0 (List.perm_middle.trans (List.Perm.cons _ kb8)).symm
 have bD:∀{bk:World} {O O':Obj} {X:List ag},Sat c.w0 bk (Pre++pt (w.heap.size+1) O::pt w.heap.size dO::X)->Sat c.w0 (bk.putObj (w.heap.size+1) O') (Pre++pt (w.heap.size+1) O'::pt w.heap.size dO::X):=λh=>
  toP ((toF h).set rfl)
 have hcd:EOk c.n E a:=hE;have hE2:∀D,EOk (⟨c.n.n,[markD D]⟩:Nd) E {a with defers:=[markD D]++a.defers}:=λD=>⟨by rw[hE.defers,hd0];rfl,hE.size,λt h u he hk=>hE.at_ t h u he hk⟩;refine ⟨w.heap.size+1,[markD w.heap.size],W1,{target:= .fn (.func gf) cap.toArray,args:=#[.func (.yield (w.heap.size+1)) #[] #[]]},W1,gf,(.func (.yield (w.heap.size+1)) #[] #[]::cap).toArray,W1,?_,?_,λ_ _=>trivial,?_,(λh=>by cases h),callsIn_wide.2 ?_⟩
 ·rw[<-hW1,hrec];exact run_enterLoop_outer _ _ _ _ _
 ·have h1:=hE.ev (cT a) hg;simp only[resolve,h1];simp[go_sem]
 ·grind[invoke]
 ·refine Calls.mono (hseq (w.heap.size+1) (λk=>pt (w.heap.size+1) (.loop (rec .ready none))::pt w.heap.size dO::cB k) (pt (w.heap.size+1) (.loop (rec .done (some .ret)))::pt w.heap.size dO::B) (λk hk bk hSW=>?_) W1 (toP hS1)) λe W2 he=>?_
  ·have hl:bk.heap[w.heap.size+1]? =some (.loop (rec .ready none)):=(toF hSW).at_;have hy:=run_yield (P:=c.P) (args:=#[v k]) hl (by rw[hrec];rfl);rw[hrec] at hy;refine ⟨fn,_,assign,body,hy,?_⟩;have hEr:EOk c.rd.n ((p,none,v k)::E) ({tmps:=a.tmps.setIfInBounds p (v k),defers:=[]}:Act):=by
    have h0:EOk c.rd.n E ({tmps:=a.tmps,defers:=[]}:Act):=⟨rfl,hE.size,λt h u he hk=>hE.at_ t h u he hk⟩;have hp':mb c.rd.n p E=true:=by
     have:∀(E:di),mb c.rd.n p E=mb c.n p E:=by
      intro E
      induction E with
      | nil=>rfl
      | cons x E ih=>obtain ⟨s,g,u⟩:=x;cases g with
       | none=>exact ih
       | some jb=>grind[mb]
     rw[this];exact hp
    exact h0.put1 hp'
   have hfold:((#[p]:Array Tmp).zip #[v k]).foldl (λtmps (t,u)=>tmps.setIfInBounds t u) a.tmps=a.tmps.setIfInBounds p (v k):=(by simp);refine roundIn_of_wpIn trivial (wpIn_mono (has (w.heap.size+1) k _ bk (by rw[hfold];exact hEr)) λe a1 w1 hq=>?_);cases e with
   | normal=>
    obtain ⟨rfl,hE1⟩:=hq;refine ⟨_,run_beginRound hl (by rw[hrec]),?_⟩;have hb:=hbody (w.heap.size+1) w.heap.size (.loop {rec .ready none with state:= .busy}) k hk a1 _ hE1 (bD hSW);refine wpIn_mono hb λe a3 W3 hp3=>?_;cases e with
    | normal=>
     have hl3:=(toF hp3).at_;have hr:=run_endRound (P:=c.P) none hl3;refine ⟨_,_,hr, .inl ⟨rfl,?_⟩⟩;have:=bD (O':= .loop {({rec .ready none with state:= .busy}:Loop) with state:=if (none:Option Code).isNone then .ready else .done,pending:=none}) hp3
     grind
    | ret=>
     have hl3:=(toF hp3).at_;have hr:=run_endRound (P:=c.P) (some .ret) hl3;refine ⟨_,_,hr, .inr ⟨rfl,?_⟩⟩;have:=bD (O':= .loop {({rec .ready none with state:= .busy}:Loop) with state:=if (some Code.ret).isNone then .ready else .done,pending:=some .ret}) hp3
     grind
    | exit id=>exact hp3.elim
    | goto t=>exact hp3.elim
    | panic ch=>exact hp3.elim
    | outgrown=>exact hp3.elim
   | exit id=>exact hq.elim
   | goto t=>exact hq.elim
   | ret=>exact hq.elim
   | panic ch=>exact hq.elim
   | outgrown=>exact hq.elim
  ·cases e with
   | returned u=>
    rcases he with he | he
    ·have hl2:=(toF he).at_;refine ⟨_,_,run_endLoop (P:=c.P) hl2 (by rw[hrec];simp),?_⟩;rw[show (rec .ready none).pending=none by rw[hrec]];exact done w.heap.size _ _ (hE2 _) (toF (bD he)).tail
    ·have hl2:=(toF he).at_;refine ⟨_,_,run_endLoop (P:=c.P) hl2 (by rw[hrec];simp),?_⟩;rw[show (rec .done (some .ret)).pending=some .ret by rw[hrec]];exact (wpIn_wide (n:=0)).2 (ret w.heap.size _ _ (hE2 _) (toF (bD he)).tail)
   | panicked ch=>exact he.elim
   | outgrown=>exact he.elim
def GR {D b o r:Nat}{t X Lf}(hds:c.n.ds=[markD D])[U:Upd L D dO (.deferred none) L'](hf:c.fn.results.toList=[.cell r t])(hx:look none E r=some (ptr b o))(ha:∀w,(isAgg t).run c.P w= .ok false w)[h:Has L' b X](hv:bK X o=some v)[S:Sub L' Lf](Y:c.R v Lf):G c (.code .ret::K) E L:=λa w V Z=>by
 refine wp_ret<|cb<|.inr ?_;have O:=U.sat Z;refine ⟨D,w.putObj D (.deferred none),V.defers.trans hds,run_takeDeferred O.2,v,?_,Lf,S.sat O.1,Y⟩;have h1:=V.look (cT a) hx;have hh:=iu (h.out _ _ O.1) hv;have hl:=LU (P:=c.P) hh;have J:k7 w D (.deferred none)=w.putObj D (.deferred none):=rfl;rw[J] at hl hh;rw[pa,kaS,hf]
 simp_all[u4,asAddr,loadVar]
end Go.Sl
namespace Go.Sl
variable {c:Cx}{g gu:Option (Nat×Bool)}{E:di}{L:List ag}{d:Option Tmp}{t ty u:TypeId}{pos:String}{af:Array Edge}{x:Operand}
def Sq {Y}{ec:Nat}{p}(X:c.P.underlying t=some (.interface Y))(hx:ev g E x=some (.iface ec p)):OpV c g E L ⟨d, .binOp .neq t x (.const .nilIface) u,ty,pos,af,gu⟩ (Bo true):= .mk λa w S V Z=>by
 have h1:(Op.equal t (.iface ec p) .nilIface).run c.P w= .ok false w:=by
  show (Op.equalIn (9999+1) _ _ _).run _ _=_;unfold Op.equalIn;simp[underlying,program,Sem.run,X]
 have J:(eqGuard .neq t x (.const .nilIface) (.iface ec p) .nilIface).run c.P w= .ok () w:=(by simp[eqGuard]);have O:a.eval (.const .nilIface)= .nilIface:=rfl;have R:binOp .neq t (.iface ec p) .nilIface=(do pure (.bool (!(<-Op.equal t (.iface ec p) .nilIface)))):=(by simp[binOp]);simp[execOp,S.ev V hx,O,J,R,h1]
variable {e:TypeId}{s:Option Addr}{cap m n:Nat}
def Tu (R:c.P.underlying t=some (.array n e))(hx:ev g E x=some (sl s m cap))(h:n<=m):OpV c g E L ⟨d, .sliceToArrayPointer t x,ty,pos,af,gu⟩ (.pointer s):= .mk λa w J O S=>by
 simp only[execOp,Instr.arrayAt,J.ev O hx,sl];simp[underlying,program,Sem.run,R,show ¬m<n by omega]
variable {y:Operand}{sz:Nat}
theorem Qp {q}{l:Nat}(J:c.P.underlying t=some (.slice e))(O:∀w,(sizeOf e).run c.P w= .ok sz w)(hx:ev g E x=some (sl s n cap))(hy:ev g E y=some (I q))(hm:q=l)(hl:l<=n)(R:l<cap):
  OpV c g E L ⟨d, .slice t x (some y) none none,ty,pos,af,gu⟩ (sl (s.map (·.add (l*sz))) (n - l) (cap - l)):=by
 have h:=iG (c:=c) (g:=g) (L:=L) (d:=d) (ty:=ty) (pos:=pos) (af:=af) (gu:=gu) J O hx hy hm hl
 grind
variable {k:IntKind}{v:Value}{b o off:Nat}
theorem GS {rows}{vs:List Value}j(V:∀w,(isAgg t).run c.P w= .ok true w)(Y:∀w,(sizeOf t).run c.P w= .ok sz w)(hx:ev g E x=some (.pointer (s.map (·.add (j*1)))))[h:SlR L s 1 rows](hl:vs.length=sz)(h0:0<sz)(hv:∀k v,vs[k]? =some v->rows[j+k]? =some [v]):
  OpV c g E L ⟨d, .load t x,ty,pos,af,gu⟩ (.agg vs.toArray):= .mk λa w O X S=>by
 rcases h.out _ _ S with h | ⟨b,o,Z,rfl,hh,R⟩
 ·subst h
  match vs,hl with
  | [],hl=>simp at hl;omega
  | v::vs,hl=>have:=hv 0 v rfl;simp at this
 ·have:=fW (P:=c.P) (w:=w) b sz 0 (o+j) #[] vs hl (λk v hk=>by
   have:=iu hh (R (j+k) [v] (hv k v hk) 0 v rfl)
   grind)
  have J:(if j=0 then ({block:=b,off:=o}:Addr) else {block:=b,off:=o+j})={block:=b,off:=o+j}:=(by split <;> simp[*]);simp[execOp,O.ev X hx,Instr.loadAt,Instr.sureAddr,loadVar,V,Y,loadCells,gi,Addr.add,J,this]
variable {d:Nat}{K:List KI}{all:List Oper}{op:Op}{Lf:List ag}{pl:List (Nat×Bool)}
theorem Vu {i j s:Nat}{vs J}(hi:all[i]? =some ⟨some d,op,ty,pos,af,some (j,J)⟩)(hj:(all[j]?).bind (·.dst)=some s)(hs:look none E s=some vs)(hw:u7 vs J=true)[S:Sub L Lf](hd:mb c.n d E=true)(k:G c (.plan all (λw=>Sat c.w0 w Lf) pl::K) ((d,none,undef)::E) L):G c (.plan all (λw=>Sat c.w0 w Lf) ((i,true)::pl)::K) E L:=λa w O R=>by
 have h1:=O.look (cT a) hs;have hy:yielded all.toArray a.tmps j≠some J:=by
  grind[yielded,u7]
 refine ⟨S.sat R,?_⟩;unfold wpOp;simp only[kaV,hi];rw[kaU (by simp[Region.wanted,hy])];exact k _ w (O.put1 hd) R
abbrev IM:=List (Int×Int)
def mi (F:IM):MM:=F.map λp=>(p.1,I p.2)
def li:IM->Int->Option Int
 | [],_=>none
 | p::F,q=>if p.1=q then some p.2 else li F q
def Kv (F:IM)(q v:Int):IM:=if (li F q).isSome then F.map (λp=>if p.1=q then (q,v) else p) else F++ [(q,v)]
def yj (F:IM)(q:Int):IM:=F.filter λp=>!decide (p.1=q)
theorem A7 F q:lk (mi F) q=(li F q).map I:=by
 induction F with
 | nil=>rfl
 | cons p F J=>
  grind[lk,mi,li]
def mI F q d:(lk (mi F) q).getD (I d)=I ((li F q).getD d):=by
 simp_all[A7]
theorem GT F q:(lk (mi F) q).isSome=(li F q).isSome:=by
 grind[A7]
theorem sJ F q v:mD (mi F) q (I v)=mi (Kv F q v):=by
 grind[mD,Kv,GT,mi,List.map_congr_left]
def GU F q:p6 (mi F) q=mi (yj F q):=by
 unfold p6 yj mi;rw[kcr]
 rfl
def tF F:(mi F).map (·.1)=F.map (·.1):=by simp[mi]
def A8 {a b:Option Int}(h:a.map I=b.map I):a=b:=by
 cases a <;> cases b <;> simp at h ⊢;exact h
theorem vl F q v k:li (Kv F q v) k=if q=k then some v else li F k:=by
 have h:=Cu (mi F) q (I v) k;rw[sJ,A7,A7] at h;apply A8;rw[h];split <;> rfl
theorem Mv F q k:li (yj F q) k=if q=k then none else li F k:=by
 have h:=Cv (mi F) q k;rw[GU,A7,A7] at h;apply A8;rw[h];split <;> rfl
theorem xo {F q}:(li F q).isSome=true ↔ q∈F.map (·.1):=by
 induction F with
 | nil=>simp[li]
 | cons p F J=>
  grind[li]
theorem tG:∀{l m:List Int},l.Nodup->(∀q∈l,q∈m)->l.length<=m.length
 | [],_,_,_=>by simp
 | a::l,m,hl,h=>by
  rw[kb3] at hl;have J:a∈m:=h a (by simp);have h1:=tG (m:=m.erase a) hl.2 λq hq=>(List.mem_erase_of_ne (λe:q=a=>hl.1 (by rw[<-e];exact hq))).2 (h q (by simp[hq]))
  grind
theorem yk {l m:List Int}(hl:l.Nodup)(hm:m.Nodup)(h:∀q∈l,q∈m):l.length=m.length ↔ ∀q∈m,q∈l:=by
 constructor
 ·intro e q hq;refine Decidable.byContradiction λhn=>?_;have:=tG (l:=q::l) (m:=m) (kb3.2 ⟨hn,hl⟩) λp hp=>by
   grind
  simp at this;omega
 ·intro J;exact Nat.le_antisymm (tG hl h)<|tG hm J
def pm (f:Int×Value->Int):MM->Int
 | []=>0
 | p::bq=>f p+pm f bq
def A9 {f bq J}(h:bq.Perm J):pm f bq=pm f J:=by
 induction h with
 | nil=>rfl
 | cons x _ R=>simp only[pm];rw[R]
 | swap x y l=>simp only[pm];omega
 | trans _ _ h1 O=>rw[h1,O]
end Go.Sl
namespace Go.Sl
variable {α:Type}
def big (f:α->List ag)(l:List α):ag:=x6 (l.flatMap f)
variable {w w0:World}{F:List ag}
theorem Sat.big {f}{l:List α}(h:Sat w0 w (Go.Sl.big f l::F)):Sat w0 w (l.flatMap f++F):=h.list
theorem Sat.big_mk {f}{l:List α}(h:Sat w0 w (l.flatMap f++F)):Sat w0 w (Go.Sl.big f l::F):=h.list_mk
theorem Sat.big_perm {f}{l l':List α}(hp:l.Perm l')(h:Sat w0 w (Go.Sl.big f l::F)):Sat w0 w (Go.Sl.big f l'::F):=
 (Sat.perm0 ((hp.flatMap_right f).append_right F) h.big).big_mk
theorem Sat.big_out {f l}{e:α}(h:Sat w0 w (Go.Sl.big f (e::l)::F)):Sat w0 w (f e++Go.Sl.big f l::F):=by
 have h1:=h.big;rw[kcs,kbx] at h1;have J:Sat w0 w (l.flatMap f++(f e++F)):=Sat.perm0 (by rw[<-kbx,<-kbx];exact List.perm_append_comm.append_right F) h1;exact Sat.perm0 List.perm_middle.symm J.big_mk
theorem Sat.big_in {f l}{e:α}(h:Sat w0 w (f e++Go.Sl.big f l::F)):Sat w0 w (Go.Sl.big f (e::l)::F):=by
 have h1:Sat w0 w (Go.Sl.big f l::(f e++F)):=Sat.perm0 kb8 h;have J:=h1.big;refine Sat.big_mk ?_;rw[kcs];exact Sat.perm0 (by rw[<-kbx];exact List.perm_append_comm.append_right F) J
theorem pn {α:Type}:∀{l:List α} {i:Nat} {e:α},l[i]? =some e->l.Perm (e::l.eraseIdx i)
 | [],i,e,h=>by simp at h
 | a::l,0,e,h=>by
  grind[List.Perm.refl]
 | a::l,i+1,e,h=>by
  rw[kct];exact ((pn (l:=l) (by simpa using h)).cons a).trans<|List.Perm.swap e a _
def EE {α:Type}:∀{l:List α} {i:Nat} (e:α),i<l.length->(l.set i e).Perm (e::l.eraseIdx i)
 | [],i,e,h=>by simp at h
 | a::l,0,e,h=>List.Perm.refl _
 | a::l,i+1,e,h=>by
  rw[kct,List.set_cons_succ];exact ((EE (l:=l) e (by simpa using h)).cons a).trans<|List.Perm.swap e a _
variable {c:Cx}{E:di}{L:List ag}{K:List KI}
def tH (f:α->List ag)(k:G c K E (big f []::L)):G c K E L:=λa w J O=>k a w J (Sat.big_mk (by simpa using O))
variable {f:α->List ag}
def qY l i{e}(he:l[i]? =some e)Pre(S:f e=Pre)[R:Rem L (big f l) F](k:G c K E (Pre++big f (l.eraseIdx i)::F)):G c K E L:=λa w J O=>by
 subst S;exact k a w J<|Sat.big_out<|Sat.big_perm (pn he)<|R.sat O
variable {F':List ag}
def da (l:List α)(i:Nat)(e:α)(Pre:List ag)(hi:i<l.length)[S:Split L Pre F][R:Rem F (big f (l.eraseIdx i)) F'](k:G c K E (big f (l.set i e)::F'))(X:f e=Pre:=by exact rfl):G c K E L:=λa w O V=>by
 subst X;have h1:=S.sat V;have J:Sat c.w0 w (f e++big f (l.eraseIdx i)::F'):=by
  obtain ⟨j,hj,rfl⟩:=R.out;have hp:F.Perm (big f (l.eraseIdx i)::F.eraseIdx j):=pn hj;exact Sat.perm0 (hp.append_left (f e)) h1
 exact k a w O<|Sat.big_perm (EE e hi).symm J.big_in
def tI l e Pre(X:f e=Pre)[S:Split L Pre F][R:Rem F (big f l) F'](k:G c K E (big f (l++ [e])::F')):G c K E L:=λa w O V=>by
 subst X;have h1:=S.sat V;have J:Sat c.w0 w (f e++big f l::F'):=by
  obtain ⟨j,hj,rfl⟩:=R.out;have hp:F.Perm (big f l::F.eraseIdx j):=pn hj;exact Sat.perm0 (hp.append_left (f e)) h1
 exact k a w O<|Sat.big_perm (kcu (l₁:=[e]) (l₂:=l)) J.big_in
def oD l l'(h:l'.Sublist l)[R:Rem L (big f l) F](k:G c K E (big f l'::F)):G c K E L:=λa w J O=>by
 obtain ⟨m,hm⟩:=h.exists_perm_append;have h1:=(Sat.big_perm (hm.trans kcu) (R.sat O)).big;rw[List.flatMap_append,kbx] at h1;exact k a w J<|Sat.big_mk<|Sat.dropAll h1
end Go.Sl
namespace Go.Proofs.YthdjckbjjfiopabGreatDoor
open Go.Sl Go.Proofs
def oE (N i:Nat)(D:DiskM):Prop:=D.kept.length=N/\D.now.length=N/\(-1<=D.fuse/\D.fuse<=9223372036854775807)/\(∀t∈D.wait,t.1<N)/\D.wait.length<=i
def Ik N:oE N 0 (mG N):=⟨by simp[mG],by simp[mG],by simp[mG],by simp[mG],by simp[mG]⟩
variable {N i:Nat}{D:DiskM}
def yl (h:oE N i D):oE N (i+1) D:=⟨h.1,h.2.1,h.2.2.1,h.2.2.2.1,by have:=h.2.2.2.2;omega⟩
theorem tJ (h:oE N i D):oE N i (dx D):=by
 obtain ⟨h1,J,S,O,R⟩:=h;unfold dx;split
 ·exact ⟨h1,J,S,O,R⟩
 ·split
  ·exact ⟨h1,J,by simp,O,R⟩
  ·refine ⟨h1,J,?_,O,R⟩
   grind
theorem Ba (h:oE N i D)n s:oE N (i+1) (cH D n s):=by
 unfold cH;split
 ·exact yl h
 ·rename_i V;split
  ·obtain ⟨h1,J,O,R,S⟩:=tJ h;refine ⟨h1,by simp[eA,J],O,λt ht=>?_,by simp[eA];exact S⟩;simp only[eA,kbF,kcv] at ht;rcases ht with ht | rfl
   ·exact R t ht
   ·have:=h.2.1
    grind[ox]
  ·exact yl<|tJ h
def qZ (h:oE N i D):oE N (i+1) (cL D):=by
 unfold cL;split
 ·obtain ⟨h1,J,O,R,S⟩:=tJ h;exact ⟨J,J,O,by simp[iH],by simp[iH]⟩
 ·exact yl<|tJ h
theorem gC D:dm D=0\/dm D=9:=by grind[dm]
abbrev ni:=Option (Nat×Bytes)
def GV (D:DiskM):ni->Int
 | some x=>du D x.1 x.2
 | none=>dm D
def GW (D:DiskM):ni->DiskM
 | some x=>cH D x.1 x.2
 | none=>cL D
def ct:DiskM->List ni->Int×DiskM
 | D,[]=>(0,D)
 | D,x::r=>if GV D x=0 then ct (GW D x) r else (GV D x,GW D x)
variable {r:List ni}
theorem lQ {x}(h:GV D x=0):ct D (x::r)=ct (GW D x) r:=by rw[ct,kaT h]
theorem lz {x}(h:¬GV D x=0):ct D (x::r)=(GV D x,GW D x):=by rw[ct,kaU h]
variable {n:Nat}{s:Bytes}
def q6 (h:du D n s=0):ct D (some (n,s)::r)=ct (cH D n s) r:=lQ h
theorem oF (h:¬du D n s=0):ct D (some (n,s)::r)=(du D n s,cH D n s):=lz h
theorem nM (h:dm D=0):ct D (none::r)=ct (cL D) r:=lQ h
theorem mJ (h:¬dm D=0):ct D (none::r)=(dm D,cL D):=lz h
theorem q8 D:ct D []=(0,D):=rfl
theorem po:∀(l r:List ni) (D:DiskM),ct D (l++r)=if (ct D l).1=0 then ct (ct D l).2 r else ct D l
 | [],r,D=>by simp[ct]
 | x::l,r,D=>by
  rw[kbz];by_cases h:GV D x=0
  ·rw[lQ h,lQ h,po l r]
  grind[lz]
def GX (h:oE N i D)x:oE N (i+1) (GW D x):=by
 cases x with
 | none=>exact qZ h
 | some x=>exact Ba h _ _
theorem j3 {j}(h:oE N i D)(J:i<=j):oE N j D:=⟨h.1,h.2.1,h.2.2.1,h.2.2.2.1,by have:=h.2.2.2.2;omega⟩
theorem iX {N}:∀(l:List ni) (i:Nat) (D:DiskM),oE N i D->oE N (i+l.length) (ct D l).2
 | [],i,D,h=>h
 | x::l,i,D,h=>by
  by_cases h0:GV D x=0
  ·rw[lQ h0];have:=iX l (i+1) _ (GX h x)
   grind
  ·rw[lz h0];exact j3 (GX h x) (by simp)
def lD (from_ first used:Nat):Nat->List ChangeM->List ni
 | _,[]=>[]
 | k,x::c=>some (from_+used+k,d8 111 (first+used+k) (p7 x))::lD from_ first used (k+1) c
def pp (from_ many used len:Nat):List ni:=if used+len+1<many then [some (from_+(used+len+1),[])] else []
def od (from_ many first used:Nat)(c:List ChangeM):List ni:=lD from_ first used 0 c++pp from_ many used c.length
def qp (from_ first used len:Nat):ni:=some (from_+(used+len),d8 99 (first+(used+len)) (bC len))
def k9 (from_ many first used:Nat)(c:List ChangeM):List ni:=od from_ many first used c++ [none,qp from_ first used c.length,none]
theorem EF from_ first used:∀(c:List ChangeM) (k:Nat),(lD from_ first used k c).length=c.length
 | [],_=>rfl
 | x::c,k=>by simp[lD,EF from_ first used c]
theorem Mw from_ many used len:(pp from_ many used len).length<=1:=by grind[pp]
theorem EG from_ many first used c:(od from_ many first used c).length<=c.length+1:=by
 grind[Mw,od,EF]
variable {first from_ k used:Nat}{c:List ChangeM}
def Bb {x}(h:c[k]? =some x):lD from_ first used k (c.drop k)=some (from_+used+k,d8 111 (first+used+k) (p7 x))::lD from_ first used (k+1) (c.drop (k+1)):=by
 obtain ⟨hk,rfl⟩:=kaz.1 h;rw[kcw hk]
 rfl
def lb:List ChangeM->Int
 | []=>0
 | x::c=>if d7 x=0 then lb c else d7 x
def tL {x}(h:c[k]? =some x):lb (c.drop k)=if d7 x=0 then lb (c.drop (k+1)) else d7 x:=by
 obtain ⟨hk,rfl⟩:=kaz.1 h;rw[kcw hk]
 rfl
theorem CD:∀{c:List ChangeM},lb c=0->∀x∈c,d7 x=0
 | [],_,x,hx=>by simp at hx
 | y::c,h,x,hx=>by
  unfold lb at h;split at h
  ·rename_i h0;rcases kbn.1 hx with rfl | hx
   ·exact h0
   ·exact CD h x hx
  grind
def nk (many used:Nat)(c:List ChangeM):Int:=if 72<c.length then 2 else if many - used<c.length+1 then 8 else lb c
def pq (from_ many first used:Nat)(c:List ChangeM)(D:DiskM):Int:=if nk many used c=0 then (ct D (k9 from_ many first used c)).1 else nk many used c
def iY (from_ many first used:Nat)(c:List ChangeM)(D:DiskM):DiskM:=if nk many used c=0 then (ct D (k9 from_ many first used c)).2 else D
def nm (from_ many first used:Nat)(c:List ChangeM)(D:DiskM):Nat:=if pq from_ many first used c D=0 then used+c.length+1 else used
variable {many:Nat}
theorem pr (h:nk many used c=0):c.length<=72/\c.length+1<=many - used/\∀x∈c,d7 x=0:=by
 grind[nk,CD]
theorem CE (h1:c.length<=72)(J:c.length+1<=many - used):nk many used c=lb c:=by grind[nk]
theorem ym {e}(h:nk many used c=e)(he:e≠0):pq from_ many first used c D=e/\iY from_ many first used c D=D/\nm from_ many first used c D=used:=by
 grind[pq,iY,nm]
theorem tM {J e}(h:nk many used c=0)(hr:ct D (k9 from_ many first used c)=(e,J))(he:e≠0):pq from_ many first used c D=e/\iY from_ many first used c D=J/\nm from_ many first used c D=used:=by
 grind[pq,iY,nm]
theorem Qq {J}(h:nk many used c=0)(hr:ct D (k9 from_ many first used c)=(0,J)):pq from_ many first used c D=0/\iY from_ many first used c D=J/\nm from_ many first used c D=used+c.length+1:=by
 grind[pq,iY,nm]
def j9 (from_ many first used:Nat)(c:List ChangeM):Nat->List ni
 | 0=>od from_ many first used c++ [none,qp from_ first used c.length,none]
 | 1=>[none,qp from_ first used c.length,none]
 | 2=>[qp from_ first used c.length,none]
 | 3=>[none]
 | _=>[]
def wu (D:DiskM):Prop:=D.down=false/\D.fuse= -1
theorem EH (h:wu D):dm D=0/\dx D=D:=by
 obtain ⟨k,n,w,f,d⟩:=D;obtain ⟨h1,J⟩:=h;simp at h1 J;subst h1 J;exact ⟨rfl,rfl⟩
theorem Kw (h:wu D){n}(J:¬ox D n s):du D n s=0/\cH D n s=eA D n s:=by
 grind[EH,du,cH]
theorem Kx (h:wu D):dm D=0/\cL D=iH D:=by
 grind[EH,cL]
def ka (N:Nat):ni->Prop
 | some x=>x.1<N/\x.2.length<=80
 | none=>True
def eh:List Bytes->List ni->List Bytes
 | L,[]=>L
 | L,some x::r=>eh (L.set x.1 (ca x.2)) r
 | L,none::r=>eh L r
theorem jr:∀(l r:List ni) (L:List Bytes),eh L (l++r)=eh (eh L l) r
 | [],r,L=>rfl
 | some x::l,r,L=>jr l r _
 | none::l,r,L=>jr l r L
def iL:∀(l:List ni) (L:List Bytes),(eh L l).length=L.length
 | [],L=>rfl
 | some x::l,L=>by rw[eh,iL l,kbO]
 | none::l,L=>iL l L
theorem yn (h:s.length<=80):(ca s).length=80:=by grind[ca,jq]
def CF {N}:∀(l:List ni) (L:List Bytes),(∀x∈L,x.length=80)->(∀x∈l,ka N x)->∀x∈eh L l,x.length=80
 | [],L,h,_=>h
 | some y::l,L,h,ho=>CF l _ (λx hx=>by
  rcases kbi hx with J | J
  ·exact h x J
  ·rw[J];exact yn (ho _ (kcq ..)).2) (λx hx=>ho x (kcn _ hx))
 | none::l,L,h,ho=>CF l L h (λx hx=>ho x (kcn _ hx))
theorem pu:∀(l:List ni) (D:DiskM),wu D->(∀x∈l,ka D.now.length x)->(ct D l).1=0/\wu (ct D l).2/\(ct D l).2.now=eh D.now l
 | [],D,h,_=>⟨rfl,h,rfl⟩
 | none::l,D,h,ho=>by
  have h1:=Kx h;rw[nM h1.1,h1.2];exact pu l (iH D) h<|λx hx=>ho x (kcn _ hx)
 | some y::l,D,h,ho=>by
  obtain ⟨n,s⟩:=y;have hy:=ho _ (kcq ..);have h1:=Kw h (n:=(n:Int)) (s:=s) (by unfold ox;have h1:=hy.1;have J:=hy.2;simp only at h1 J;omega);rw[q6 h1.1,h1.2];have:=pu l (eA D n s) h (λx hx=>by
   grind[eA])
  rw[this.2.2];exact ⟨this.1,this.2.1,rfl⟩
theorem hZ {L:List Bytes}{m x}:(L.set n x).getD m []=if n=m/\n<L.length then x else L.getD m []:=by
 grind
theorem q9 {from_ first used}:∀(c:List ChangeM) (k:Nat) (L:List Bytes) (m:Nat),(m<from_+used+k\/from_+used+k+c.length<=m)->(eh L (lD from_ first used k c)).getD m []=L.getD m []
 | [],k,L,m,_=>rfl
 | x::c,k,L,m,h=>by
  rw[lD,eh,q9 c (k+1) _ m (by simp at h;omega),hZ,kaU (by simp at h;omega)]
theorem GY {from_ first used}:∀(c:List ChangeM) (k:Nat) (L:List Bytes) (j:Nat) (x:ChangeM),from_+used+k+c.length<=L.length->c[j]? =some x->(eh L (lD from_ first used k c)).getD (from_+used+k+j) []=ca (d8 111 (first+used+k+j) (p7 x))
 | [],k,L,j,x,_,h=>by simp at h
 | y::c,k,L,0,x,hl,h=>by
  grind[lD,eh,q9]
 | y::c,k,L,j+1,x,hl,h=>by
  simp at h hl;rw[lD,eh];have:=GY (from_:=from_) (first:=first) (used:=used) c (k+1) (L.set (from_+used+k) (ca (d8 111 (first+used+k) (p7 y)))) j x (by simp;omega) h
  grind
theorem Il {from_ first used N}:∀(c:List ChangeM) (k:Nat),from_+used+k+c.length<=N->(∀x∈c,d7 x=0)->∀x∈lD from_ first used k c,ka N x
 | [],k,_,_,x,h=>by simp[lD] at h
 | y::c,k,J,O,x,h=>by
  simp at J;rw[lD] at h;rcases kbn.1 h with rfl | h
  ·exact ⟨by simp only;omega,by grind[yg,xn]⟩
  ·exact Il c (k+1) (by omega) (λx hx=>O x (kcn _ hx)) x h
def xp (R:from_+many<=N)(hv:nk many used c=0):∀x∈k9 from_ many first used c,ka N x:=by
 obtain ⟨h1,O,J⟩:=pr hv;intro x hx;unfold k9 od at hx;simp only[kbF,kbn,kcx,or_false] at hx;rcases hx with (hx | hx) | rfl | rfl | rfl
 ·exact Il c 0 (by omega) J x hx
 ·unfold pp at hx;split at hx
  ·simp only[kcv] at hx;subst hx;exact ⟨by simp only;omega,by simp⟩
  ·simp at hx
 ·trivial
 ·exact ⟨by simp only;omega,by rw[yg];simp[bC]⟩
 ·trivial
variable {out:cY}
theorem Tv (hu:wu D)(Z:∀x∈D.now,x.length=80)(Y:from_+many<=D.now.length)(hv:nk many used c=0)(O:dg first (λi=>D.now.getD (from_+i) []) many 0 [] [] 0=(out,used)):
  pq from_ many first used c D=0/\wu (iY from_ many first used c D)/\(∀x∈(iY from_ many first used c D).now,x.length=80)/\(iY from_ many first used c D).now.length=D.now.length/\
   dg first (λi=>(iY from_ many first used c D).now.getD (from_+i) []) many 0 [] [] 0=(out++ [c],used+c.length+1):=by
 obtain ⟨h1,h2,R⟩:=pr hv;have hok:=xp (first:=first) Y hv;obtain ⟨r1,r2,r3⟩:=pu _ D hu hok;have V:pq from_ many first used c D=0:=by grind[pq]
 have S:iY from_ many first used c D=(ct D (k9 from_ many first used c)).2:=by grind[iY]
 rw[S,r3];refine ⟨V,r2,CF _ _ Z hok,iL _ _,?_⟩;have X:eh D.now (k9 from_ many first used c)=eh (eh (eh D.now (lD from_ first used 0 c)) (pp from_ many used c.length)) [qp from_ first used c.length]:=by
  unfold k9 od;rw[jr,jr];rfl
 rw[X];generalize J:eh D.now (lD from_ first used 0 c)=L1;have l1:L1.length=D.now.length:=(by rw[<-J,iL]);have hb:∀m,m≠from_+(used+c.length+1)->(eh L1 (pp from_ many used c.length)).getD m []=L1.getD m []:=λm hm=>by
  grind[pp,eh]
 have he:∀(L:List Bytes) m,(eh L [qp from_ first used c.length]).getD m []=if from_+(used+c.length)=m/\from_+(used+c.length)<L.length then ca (d8 99 (first+(used+c.length)) (bC c.length)) else L.getD m []:=λL m=>by
  grind[qp,eh]
 have l2:(eh L1 (pp from_ many used c.length)).length=L1.length:=iL _ _;refine EB O R (by omega) (by omega) (λj hj=>?_) (λk x hx=>?_) ?_<|λhm=>?_
 ·grind[q9]
 ·have hk:=(kaz.1 hx).1;rw[he,iOm,hb _ (by omega),<-J,show from_+(used+k)=from_+used+0+k by omega,GY c 0 _ k x (by omega) hx,show first+used+0+k=first+(used+k) by omega]
 ·grind
 grind[pp,eh]
def wv (first j:Nat)(s:Bytes):Prop:=∃t,fN (first+j) s=some (99,t)
def mK (K:List Bytes)(from_ i:Nat):Bytes:=K.getD (from_+i) []
def pw (from_ many first:Nat)(K:List Bytes)(ds:cY)(used:Nat):Prop:=dg first (mK K from_) many 0 [] [] 0=(ds,used)/\∀j,used<=j->j<many->¬wv first j (mK K from_ j)
theorem vm {first O}:∀(f i:Nat) (out:cY) (J:List ChangeM) (used:Nat),(∀j,i<=j->j<i+f->¬wv first j (O j))->dg first O f i out J used=(out,used)
 | 0,i,out,J,used,_=>rfl
 | f+1,i,out,J,used,h=>by
  have h0:=h i (by omega) (by omega);rw[lP];cases hl:fN (first+i) (O i) with
  | none=>rfl
  | some kt=>
   obtain ⟨k,t⟩:=kt;simp only;split
   ·rename_i hk;subst hk;exact absurd ⟨t,hl⟩ h0
   ·split
    ·exact vm f (i+1) out _ used<|λj h1 R=>h j (by omega) (by omega)
    ·rfl
variable {ds:cY}
def Bc {J}(h:dg first J many 0 [] [] 0=(ds,used)):used<=many:=by
 rcases qm many 0 [] [] 0 ds used h with ⟨h1,_⟩ | ⟨h1,_⟩ <;> omega
theorem CG {K J}(h:pw from_ many first K ds used)(h1:∀j,j<used->mK J from_ j=mK K from_ j)(O:∀j,used<=j->j<many->mK J from_ j=mK K from_ j\/¬wv first j (mK J from_ j)):pw from_ many first J ds used:=by
 have R:∀j,used<=j->j<many->¬wv first j (mK J from_ j):=λj a b=>by
  rcases O j a b with e | e
  ·rw[e];exact h.2 j a b
  ·exact e
 refine ⟨?_,R⟩;have Y:=Bc h.1;rcases qm many 0 [] [] 0 ds used h.1 with ⟨S,V⟩ | ⟨_,X⟩
 ·grind[vm]
 grind[vm]
theorem ra {keep w K}:∀k (m:Nat),(hO keep w K k).getD m []=K.getD m []\/∃t∈w,t.1=m/\(hO keep w K k).getD m []=t.2
 | 0,m=> .inl rfl
 | k+1,m=>by
  have J:=ra (keep:=keep) (w:=w) (K:=K) k m
  grind[hO]
def GZ (from_ first used:Nat)(t:Nat×Bytes):Prop:=∃j,used<=j/\t.1=from_+j/\¬wv first j t.2
theorem Bd keep(h:pw from_ many first D.kept ds used)(hw:∀t∈D.wait,GZ from_ first used t):pw from_ many first (fv keep D) ds used:=by
 refine CG h (λj hj=>?_)<|λj h1 X=>?_
 ·rcases ra (keep:=keep) (w:=D.wait) (K:=D.kept) D.wait.length (from_+j) with e | ⟨t,ht,e,_⟩
  ·exact e
  ·obtain ⟨R,J,O,_⟩:=hw t ht;omega
 ·rcases ra (keep:=keep) (w:=D.wait) (K:=D.kept) D.wait.length (from_+j) with e | ⟨t,ht,e,S⟩
  ·exact .inl e
  ·obtain ⟨R,J,O,V⟩:=hw t ht
   grind[mK,fv]
theorem yo (h:dm D=0):D.down=false/\(dx D).down=false:=by
 grind[dm,dx]
theorem yp {from_ first used}:∀(l:List ni) (D:DiskM) (e:Int) (J:DiskM),(∀x∈l,ka D.now.length x)->(∀x∈l,∃t,x=some t/\GZ from_ first used (t.1,ca t.2))->(∀t∈D.wait,GZ from_ first used t)->D.down=false->ct D l=(e,J)->
  (e=0\/e=9)/\J.kept=D.kept/\(∀t∈J.wait,GZ from_ first used t)/\(e=0->J.now=eh D.now l/\J.down=false)
 | [],D,e,J,_,_,hw,hd,h=>by injection h with h1 S;subst h1 S;exact ⟨.inl rfl,rfl,hw,λ_=>⟨rfl,hd⟩⟩
 | none::l,D,e,J,_,ht,_,_,_=>by grind[List.mem_cons_self]
 | some y::l,D,e,J,ho,ht,hw,hd,h=>by
  obtain ⟨n,s⟩:=y;have hy:=ho _ (kcq ..);obtain ⟨t,R,Z⟩:=ht _ (kcq ..);injection R with R;subst R;have hb:¬ox D (n:Int) s:=(by unfold ox;have h1:=hy.1;have S:=hy.2;simp only at h1 S;omega);by_cases h0:dm D=0
  ·have X:du D (n:Int) s=0:=(by grind[du]);have V:cH D (n:Int) s=eA (dx D) n s:=(by grind[cH]);rw[q6 X,V] at h;have O:(eA (dx D) n s).now=D.now.set n (ca s):=(by simp[eA,fq]);have:=yp l (eA (dx D) n s) e J (λx hx=>by grind) (λx hx=>ht x (kcn _ hx)) (λt Y=>by
    grind[eA,fe]) (yo h0).2 h
   rw[O,show (eA (dx D) n s).kept=D.kept from eb D] at this;exact this
  grind[du,cH,oF,gC,eb,fe]
theorem EI {from_ first used}:∀(c:List ChangeM) (k:Nat),(∀x∈c,d7 x=0)->∀x∈lD from_ first used k c,∃t,x=some t/\GZ from_ first used (t.1,ca t.2)
 | [],k,_,x,h=>by simp[lD] at h
 | y::c,k,J,x,h=>by
  rw[lD] at h;rcases kbn.1 h with rfl | h
  ·refine ⟨_,rfl,used+k,by omega,kaW _ _ _,λhs=>?_⟩;obtain ⟨t,ht⟩:=hs
   grind[vi,xn]
  ·exact EI c (k+1) (λx hx=>J x (kcn _ hx)) x h
theorem Ky (J:∀x∈c,d7 x=0):∀x∈od from_ many first used c,∃t,x=some t/\GZ from_ first used (t.1,ca t.2):=by
 intro x hx;unfold od at hx;rcases kbF.1 hx with hx | hx
 ·exact EI c 0 J x hx
 ·unfold pp at hx;split at hx
  ·rw[kcv] at hx;subst hx;exact ⟨_,rfl,used+c.length+1,by omega,rfl,λhs=>by obtain ⟨t,ht⟩:=hs;grind[mH]⟩
  ·simp at hx
theorem Be {from_ first used}:∀(l:List ni) (K:List Bytes),(∀x∈l,∃t,x=some t/\GZ from_ first used (t.1,ca t.2))->(∀j,j<used->mK (eh K l) from_ j=mK K from_ j)/\(∀j,used<=j->mK (eh K l) from_ j=mK K from_ j\/¬wv first j (mK (eh K l) from_ j))
 | [],K,_=>⟨λ_ _=>rfl,λ_ _=> .inl rfl⟩
 | none::l,K,h=>by grind[List.mem_cons_self]
 | some y::l,K,h=>by
  obtain ⟨n,s⟩:=y;obtain ⟨t,J,X,S,O,R⟩:=h _ (kcq ..);injection J with J;subst J;simp only at O R;have V:=Be l (K.set n (ca s)) (λx hx=>h x (kcn _ hx))
  grind[mK,eh]
def calm (D:DiskM):Prop:=D.kept=D.now/\D.wait=[]/\D.down=false
theorem lc (h:dm D=0):calm (cL D)/\(cL D).now=D.now:=by
 unfold cL;rw[kaT h];exact ⟨⟨rfl,rfl,(yo h).2⟩,fq D⟩
theorem Kz (hq:calm D)(hN:from_+many<=D.now.length)(hv:nk many used c=0)(hs:pw from_ many first D.now ds used){e Z}(hr:ct D (k9 from_ many first used c)=(e,Z)):
  (e=0/\calm Z/\pw from_ many first Z.now (ds++ [c]) (used+c.length+1))\/(e=9/\∀keep,∃u,pw from_ many first (fv keep Z) ds u\/pw from_ many first (fv keep Z) (ds++ [c]) u):=by
 obtain ⟨v1,v2,v3⟩:=pr hv;have hok:=xp (first:=first) hN hv;have hokL:∀x∈od from_ many first used c,ka D.now.length x:=λx hx=>hok x (by grind[k9])
 have htm:=Ky (from_:=from_) (many:=many) (first:=first) (used:=used) v3;cases O:ct D (od from_ many first used c) with
 | mk e1 D1=>
  obtain ⟨hc1,hk1,hw1,ho1⟩:=yp _ D e1 D1 hokL htm (by rw[hq.2.1];intro t ht;cases ht) hq.2.2 O;have hs1:pw from_ many first D1.kept ds used:=by rw[hk1,hq.1];exact hs
  have crash:∀J:DiskM,J.kept=D1.kept->J.wait=D1.wait->∀keep,∃u,pw from_ many first (fv keep J) ds u\/pw from_ many first (fv keep J) (ds++ [c]) u:=λJ a b keep=>
   ⟨used, .inl (Bd keep (by rw[a];exact hs1) (by rw[b];exact hw1))⟩
  unfold k9 at hr;rw[po,O] at hr;simp only at hr;by_cases he1:e1=0
  ·rw[kaT he1] at hr;obtain ⟨V,hdn⟩:=ho1 he1;by_cases h2:dm D1=0
   ·rw[nM h2] at hr;obtain ⟨R,hn2⟩:=lc h2;generalize hD2:cL D1=J at*;have hl2:J.now.length=D.now.length:=(by rw[hn2,V,iL]);have hs2:pw from_ many first J.now ds used:=by
     rw[hn2,V];have:=Be _ D.now htm
     grind[CG]
    have hfin:pw from_ many first (J.now.set (from_+(used+c.length)) (ca (d8 99 (first+(used+c.length)) (bC c.length)))) (ds++ [c]) (used+c.length+1):=by
     have hg:∀m,(J.now.set (from_+(used+c.length)) (ca (d8 99 (first+(used+c.length)) (bC c.length)))).getD m []=if from_+(used+c.length)=m/\from_+(used+c.length)<J.now.length then ca (d8 99 (first+(used+c.length)) (bC c.length)) else J.now.getD m []:=λm=>hZ
     have hn:J.now=eh (eh D.now (lD from_ first used 0 c)) (pp from_ many used c.length):=(by grind[od,jr]);have hb:∀m,m≠from_+(used+c.length+1)->J.now.getD m []=(eh D.now (lD from_ first used 0 c)).getD m []:=λm hm=>by
      grind[pp,eh]
     have hbl:used+c.length+1<many->J.now.getD (from_+(used+c.length+1)) []=ca []:=λhm=>by
      grind[pp,eh]
     refine ⟨?_,λj h1 h2'=>?_⟩
     ·refine EB hs.1 v3 (by omega) (by omega) (λj hj=>?_) (λk x hx=>?_) ?_<|λhm=>?_
      ·show List.getD _ _ _=List.getD _ _ _
       grind[q9]
      ·have hk:=(kaz.1 hx).1;show List.getD _ _ _=_;rw[hg,iOm,hb _ (by omega),show from_+(used+k)=from_+used+0+k by omega,GY c 0 _ k x (by omega) hx,show first+used+0+k=first+(used+k) by omega]
      ·show List.getD _ _ _=_
       grind
      ·show List.getD _ _ _=_
       grind
     ·show ¬wv first j (List.getD _ _ _)
      rw[hg,iOm];exact hs2.2 j (by omega) h2'
    have hb3:¬ox J ((from_+(used+c.length):Nat):Int) (d8 99 (first+(used+c.length)) (bC c.length)):=(by grind[ox,yg,bC]);unfold qp at hr;by_cases h3:dm J=0
    ·have S:du J ((from_+(used+c.length):Nat):Int) (d8 99 (first+(used+c.length)) (bC c.length))=0:=(by grind[du]);rw[q6 S] at hr;have Y:cH J ((from_+(used+c.length):Nat):Int) (d8 99 (first+(used+c.length)) (bC c.length))=eA (dx J) ((from_+(used+c.length):Nat):Int) (d8 99 (first+(used+c.length)) (bC c.length)):=(by grind[cH]);rw[Y] at hr;have hn3:(eA (dx J) ((from_+(used+c.length):Nat):Int) (d8 99 (first+(used+c.length)) (bC c.length))).now=J.now.set (from_+(used+c.length)) (ca (d8 99 (first+(used+c.length)) (bC c.length))):=by
      show (dx J).now.set (((from_+(used+c.length):Nat):Int)).toNat _=_;rw[fq,kcy]
     have hk3:(eA (dx J) ((from_+(used+c.length):Nat):Int) (d8 99 (first+(used+c.length)) (bC c.length))).kept=J.now:=(by rw[<-R.1];exact eb J);have hw3:(eA (dx J) ((from_+(used+c.length):Nat):Int) (d8 99 (first+(used+c.length)) (bC c.length))).wait=[(from_+(used+c.length),ca (d8 99 (first+(used+c.length)) (bC c.length)))]:=by
      show (dx J).wait++ [((((from_+(used+c.length):Nat):Int)).toNat,_)]=_;rw[fe,R.2.1,kcy]
      rfl
     generalize eA (dx J) ((from_+(used+c.length):Nat):Int) (d8 99 (first+(used+c.length)) (bC c.length))=D3 at*;by_cases h4:dm D3=0
     ·grind[nM,q8,lc]
     ·rw[mJ h4] at hr;injection hr with O X;subst O X;right;have hst:cL D3=dx D3:=(by grind[cL]);refine ⟨by grind[gC],λkeep=>?_⟩;rw[hst];have hres:fv keep (dx D3)=J.now\/fv keep (dx D3)=J.now.set (from_+(used+c.length)) (ca (d8 99 (first+(used+c.length)) (bC c.length))):=by
       grind[fv,fe,eb,hO]
      grind
    ·have S:du J ((from_+(used+c.length):Nat):Int) (d8 99 (first+(used+c.length)) (bC c.length))=dm J:=(by grind[du]);have Y:cH J ((from_+(used+c.length):Nat):Int) (d8 99 (first+(used+c.length)) (bC c.length))=dx J:=(by grind[cH]);rw[oF (by rw[S];exact h3),S,Y] at hr;injection hr with O X;subst O X;right;refine ⟨by grind[gC],λkeep=>⟨used, .inl ?_⟩⟩;exact Bd keep (by rw[eb,R.1];exact hs2) (by rw[fe,R.2.1];intro t ht;cases ht)
   grind[mJ,cL,gC,eb,fe]
  grind
open _root_.Go.Proofs.Tryz
def KA (n:Nat):IntKind.u8.wrap (n:Int)=((n % 256:Nat):Int):=by
 show (n:Int) % 2 ^ 8=_;omega
theorem ww (n k:Nat):((n:Int)).fdiv (k:Int)=((n / k:Nat):Int):=by
 grind
def yq n:[[By ((n % 256:Nat):Int)],[By ((n / 256 % 256:Nat):Int)],[By ((n / 65536 % 256:Nat):Int)],[By ((n / 16777216 % 256:Nat):Int)]]=aC (bC n):=by
 simp only[aC,bC,kaO,kaP,UInt8.toNat_ofNat']
theorem qq n:[[By ((n % 256:Nat):Int)],[By ((n / 256 % 256:Nat):Int)]]=aC [UInt8.ofNat n,UInt8.ofNat (n / 256)]:=by
 grind[aC,UInt8.toNat_ofNat']
def Vv:Option (UInt8×Bytes)->Value
 | none=> .tuple #[By 0,ay [],Bo false]
 | some (k,t)=> .tuple #[By k.toNat,ay t,Bo true]
abbrev gk (bd from_ many first next:Nat):Array Value:=#[ptr bd 0,I from_,I many,I first,I next]
variable {l:List Bytes}
theorem xq (h:i<l.length):l[i]? =some (l.getD i []):=by grind
def qr (h:i<l.length)(J:∀x∈l,x.length=80):(l.getD i []).length=80:=J _ (kbe (xq h))
def Tw s:Kp s<=65535:=by unfold Kp;have:=(sk s 5).toNat_lt;have:=(sk s 6).toNat_lt;omega
def Sr s i k:((sk s i).toNat:Int)=(k.toNat:Int) ↔ sk s i=k:=by
 constructor
 ·intro h;exact UInt8.toNat_inj.1 (by omega)
 ·intro h;rw[h]
def gE (n:Nat)F:cqq 184 [I n] (F) (R1 (ay (bC n)) F):=by
 refine Ct.of func184 W 16 ntmps184 (by simp) λw0=>?_;refine A<|T<|A<|C<|M (cG (r:=((n % 256:Nat):Int)) XA XI (KA _))<|C<|M (lX (r:=((n / 256:Nat):Int)) (ww n 256))<|M (cG (r:=((n / 256 % 256:Nat):Int)) XA XI (KA _))<|C<|M (lX (r:=((n / 65536:Nat):Int)) (ww n 65536))<|M (cG (r:=((n / 65536 % 256:Nat):Int)) XA XI (KA _))<|C<|M (lX (r:=((n / 16777216:Nat):Int)) (ww n 16777216))<|M (cG (r:=((n / 16777216 % 256:Nat):Int)) XA XI (KA _))<|gI (ap (aC (bC n)) XN Yd Ym (hr:=by exact yq n) (by simp[aC])) ?_;rintro _ _ ⟨J,rfl,rfl⟩;refine M (cg (l:=bC n) XN XI Xz W)<|T ?_;refine am W W ?_;exact rfl
def wx kind(n:Nat)(s:Bytes)(hs:s.length<=1000000)F:cqq 243 [By kind.toNat,I n,ay s] (F) (R1 (ay (d8 kind n s)) F):=by
 refine Ct.of func243 W 25 ntmps243 (by simp) λw0=>?_;refine A<|T<|ac ?_;refine qX (Lf:=[]) (.q 0 (.q 3 (.q 6 (.q 7 (.q 8 (.q 9 (.q 10 (.q 11 (.q 12 (.q 16 (.alt (.l 1 (.c (.q 2 (.alt (.l 4 (.q 5 (.l 13 (.c (.q 14 (.q 15 (.q 17 (.q 18 (.nil))))))))) (.l 13 (.c (.q 14 (.l 4 (.q 5 (.q 15 (.q 17 (.q 18 (.nil))))))))))))) (.alt (.l 4 (.alt (.l 1 (.c (.q 2 (.q 5 (.l 13 (.c (.q 14 (.q 15 (.q 17 (.q 18 (.nil))))))))))) (.l 13 (.c (.q 14 (.l 1 (.c (.q 2 (.q 5 (.q 15 (.q 17 (.q 18 (.nil))))))))))))) (.l 13 (.c (.q 14 (.alt (.l 1 (.c (.q 2 (.l 4 (.q 5 (.q 15 (.q 17 (.q 18 (.nil))))))))) (.l 4 (.l 1 (.c (.q 2 (.q 5 (.q 15 (.q 17 (.q 18 (.nil))))))))))))))))))))))))) ?_;refine eH W ao ?_;refine eH W ao ?_;refine eH W ao ?_;refine eH W (cD Xz) ?_;refine eH W (cG (r:=((s.length % 256:Nat):Int)) XA XI (KA _)) ?_;refine eH W ao ?_;refine eH W (cD Xz) ?_;refine eH W (lX (r:=((s.length / 256:Nat):Int)) (ww s.length 256)) ?_;refine eH W (cG (r:=((s.length / 256 % 256:Nat):Int)) XA XI (KA _)) ?_;refine eH W ao ?_;refine oB ?_ ?_
 ·refine lY W (ap (aC ([kind])) XN Yd Ym (hr:=by exact W) (by simp[aC])) ?_;rintro _ _ ⟨O,rfl,rfl⟩;refine lZ ([be 5 1 (some ⟨O,0,none⟩) 1 (aC [kind])]) ?_;refine eH W (cg (l:=[kind]) XN XI Xz W) ?_;refine oB ?_ ?_
  ·refine lY W (uA call184 (gE n)) ?_;rintro _ _ ⟨rfl,rfl⟩;refine eH W (cf (by simp[bC] <;> omega)) ?_;refine lY W (ap (aC ([UInt8.ofNat s.length,UInt8.ofNat (s.length / 256)])) XN Yd Ym (hr:=by exact qq s.length) (by simp[aC])) ?_;rintro _ _ ⟨J,rfl,rfl⟩;refine lZ ([be 5 1 (some ⟨J,0,none⟩) 2 (aC [UInt8.ofNat s.length,UInt8.ofNat (s.length / 256)]),be 5 1 (some ⟨O,0,none⟩) 1 (aC [kind])]) ?_;refine eH W (cg (l:=[UInt8.ofNat s.length,UInt8.ofNat (s.length / 256)]) XN XI Xz W) ?_;refine eH W (cf (by simp[bC])) ?_;refine eH W (cf (by simp[bC];omega)) ?_;refine eH W ax ?_;refine kC ?_;refine am W W ?_;exact rfl
  ·refine lY W (ap (aC ([UInt8.ofNat s.length,UInt8.ofNat (s.length / 256)])) XN Yd Ym (hr:=by exact qq s.length) (by simp[aC])) ?_;rintro _ _ ⟨J,rfl,rfl⟩;refine lZ ([be 5 1 (some ⟨J,0,none⟩) 2 (aC [UInt8.ofNat s.length,UInt8.ofNat (s.length / 256)]),be 5 1 (some ⟨O,0,none⟩) 1 (aC [kind])]) ?_;refine eH W (cg (l:=[UInt8.ofNat s.length,UInt8.ofNat (s.length / 256)]) XN XI Xz W) ?_;refine lY W (uA call184 (gE n)) ?_;rintro _ _ ⟨rfl,rfl⟩;refine eH W (cf (by simp[bC] <;> omega)) ?_;refine eH W (cf (by simp[bC])) ?_;refine eH W (cf (by simp[bC];omega)) ?_;refine eH W ax ?_;refine kC ?_;refine am W W ?_;exact rfl
 refine oB ?_ ?_
 ·refine lY W (uA call184 (gE n)) ?_;rintro _ _ ⟨rfl,rfl⟩;refine oB ?_ ?_
  ·refine lY W (ap (aC ([kind])) XN Yd Ym (hr:=by exact W) (by simp[aC])) ?_;rintro _ _ ⟨O,rfl,rfl⟩;refine lZ ([be 5 1 (some ⟨O,0,none⟩) 1 (aC [kind])]) ?_;refine eH W (cg (l:=[kind]) XN XI Xz W) ?_;refine eH W (cf (by simp[bC] <;> omega)) ?_;refine lY W (ap (aC ([UInt8.ofNat s.length,UInt8.ofNat (s.length / 256)])) XN Yd Ym (hr:=by exact qq s.length) (by simp[aC])) ?_;rintro _ _ ⟨J,rfl,rfl⟩;refine lZ ([be 5 1 (some ⟨J,0,none⟩) 2 (aC [UInt8.ofNat s.length,UInt8.ofNat (s.length / 256)]),be 5 1 (some ⟨O,0,none⟩) 1 (aC [kind])]) ?_;refine eH W (cg (l:=[UInt8.ofNat s.length,UInt8.ofNat (s.length / 256)]) XN XI Xz W) ?_;refine eH W (cf (by simp[bC])) ?_;refine eH W (cf (by simp[bC];omega)) ?_;refine eH W ax ?_;refine kC ?_;refine am W W ?_;exact rfl
  ·refine lY W (ap (aC ([UInt8.ofNat s.length,UInt8.ofNat (s.length / 256)])) XN Yd Ym (hr:=by exact qq s.length) (by simp[aC])) ?_;rintro _ _ ⟨J,rfl,rfl⟩;refine lZ ([be 5 1 (some ⟨J,0,none⟩) 2 (aC [UInt8.ofNat s.length,UInt8.ofNat (s.length / 256)])]) ?_;refine eH W (cg (l:=[UInt8.ofNat s.length,UInt8.ofNat (s.length / 256)]) XN XI Xz W) ?_;refine lY W (ap (aC ([kind])) XN Yd Ym (hr:=by exact W) (by simp[aC])) ?_;rintro _ _ ⟨O,rfl,rfl⟩;refine lZ ([be 5 1 (some ⟨O,0,none⟩) 1 (aC [kind]),be 5 1 (some ⟨J,0,none⟩) 2 (aC [UInt8.ofNat s.length,UInt8.ofNat (s.length / 256)])]) ?_;refine eH W (cg (l:=[kind]) XN XI Xz W) ?_;refine eH W (cf (by simp[bC] <;> omega)) ?_;refine eH W (cf (by simp[bC])) ?_;refine eH W (cf (by simp[bC];omega)) ?_;refine eH W ax ?_;refine kC ?_;refine am W W ?_;exact rfl
 ·refine lY W (ap (aC ([UInt8.ofNat s.length,UInt8.ofNat (s.length / 256)])) XN Yd Ym (hr:=by exact qq s.length) (by simp[aC])) ?_;rintro _ _ ⟨J,rfl,rfl⟩;refine lZ ([be 5 1 (some ⟨J,0,none⟩) 2 (aC [UInt8.ofNat s.length,UInt8.ofNat (s.length / 256)])]) ?_;refine eH W (cg (l:=[UInt8.ofNat s.length,UInt8.ofNat (s.length / 256)]) XN XI Xz W) ?_;refine oB ?_ ?_
  ·refine lY W (ap (aC ([kind])) XN Yd Ym (hr:=by exact W) (by simp[aC])) ?_;rintro _ _ ⟨O,rfl,rfl⟩;refine lZ ([be 5 1 (some ⟨O,0,none⟩) 1 (aC [kind]),be 5 1 (some ⟨J,0,none⟩) 2 (aC [UInt8.ofNat s.length,UInt8.ofNat (s.length / 256)])]) ?_;refine eH W (cg (l:=[kind]) XN XI Xz W) ?_;refine lY W (uA call184 (gE n)) ?_;rintro _ _ ⟨rfl,rfl⟩;refine eH W (cf (by simp[bC] <;> omega)) ?_;refine eH W (cf (by simp[bC])) ?_;refine eH W (cf (by simp[bC];omega)) ?_;refine eH W ax ?_;refine kC ?_;refine am W W ?_;exact rfl
  ·refine lY W (uA call184 (gE n)) ?_;rintro _ _ ⟨rfl,rfl⟩;refine lY W (ap (aC ([kind])) XN Yd Ym (hr:=by exact W) (by simp[aC])) ?_;rintro _ _ ⟨O,rfl,rfl⟩;refine lZ ([be 5 1 (some ⟨O,0,none⟩) 1 (aC [kind]),be 5 1 (some ⟨J,0,none⟩) 2 (aC [UInt8.ofNat s.length,UInt8.ofNat (s.length / 256)])]) ?_;refine eH W (cg (l:=[kind]) XN XI Xz W) ?_;refine eH W (cf (by simp[bC] <;> omega)) ?_;refine eH W (cf (by simp[bC])) ?_;refine eH W (cf (by simp[bC];omega)) ?_;refine eH W ax ?_;refine kC ?_;refine am W W ?_;exact rfl
def wy bl J from_ many first next(O:next<=many/\many<=1000000)F:cqq 179 [ptr bl 0] (pcc bl (gk J from_ many first (next)) 273::F) (R1 (I ((many - next:Nat):Int)) (pcc bl (gk J from_ many first (next)) 273::F)):=by
 refine Ct.of func179 W 12 ntmps179 (by simp) λw0=>?_;refine A<|T<|ac ?_;refine dy jF ?_;refine dM rfl<|dV rfl aa<|dF rfl 2 Yw rfl Xu<|dL rfl (I many) Xv<|dM rfl<|dV rfl aa<|dF rfl 4 Yw rfl Xu<|dL rfl (I next) Xv<|dV rfl (eG (r:=((many - next:Nat):Int)) (by rw[show (many:Int) - (next:Int)=((many - next:Nat):Int) by omega];exact cK (by omega)))<|dV rfl ax ?_;refine aN ?_;refine am W W ?_;exact rfl
def wz bl J from_ many first next(O:many<=1000000/\first<=1000000000000)F:cqq 200 [ptr bl 0] (pcc bl (gk J from_ many first (next)) 273::F) (R1 (I ((first+many:Nat):Int)) (pcc bl (gk J from_ many first (next)) 273::F)):=by
 refine Ct.of func200 W 12 ntmps200 (by simp) λw0=>?_;refine A<|T<|ac ?_;refine dy jF ?_;refine dM rfl<|dV rfl aa<|dF rfl 3 Yw rfl Xu<|dL rfl (I first) Xv<|dM rfl<|dV rfl aa<|dF rfl 2 Yw rfl Xu<|dL rfl (I many) Xv<|dV rfl (bx (r:=((first+many:Nat):Int)) (by rw[show (first:Int)+(many:Int)=((first+many:Nat):Int) by omega];exact cK (by omega)))<|dV rfl ax ?_;refine aN ?_;refine am W W ?_;exact rfl
def EJ bl S from_ many first next D(i:Nat)(hi:i<many)(Z:D.down=false)(hS:∀x∈D.now,x.length=80)(hfm:from_+many<=D.now.length)(hbd:D.now.length<=1000000/\first<=1000000000000)F:cqq 183 [ptr bl 0,I i] (pcc bl (gk S from_ many first (next)) 273::cj 179 319 S (D)::F) (R1 (Vv (fN (first+i) (D.now.getD (from_+i) []))) (pcc bl (gk S from_ many first (next)) 273::cj 179 319 S (D)::F)):=by
 have Y:from_+i<D.now.length:=(by omega);have hlen:=qr Y hS;have hrd:qj D ((from_:Int)+(i:Int))=((D.now.getD (from_+i) []),0):=tA Z (by omega) (by rw[show ((from_:Int)+(i:Int)).toNat=from_+i by omega];exact xq Y);have hn5:=Tw (D.now.getD (from_+i) []);generalize D.now.getD (from_+i) []=J at*;refine Ct.of func183 W 64 ntmps183 (by simp) λw0=>?_;refine A<|gA<|gA<|T<|ac ?_;refine cn (Lf:=[pcc bl (gk S from_ many first (next)) 273]) jP ?_;refine dM W<|dV W aa<|dF W 0 Yw W YS<|dL W (ptr S 0) Y2<|dM W<|dV W aa<|dF W 1 Yw W Xu<|dL W (I from_) Xv<|dM W<|dV W (bx (r:=(from_:Int)+(i:Int)) (cK (by omega)))<|cQ W (uB call113 (pj S D ((from_:Int)+(i:Int)))) ?_;rintro _ _ ⟨rfl,rfl⟩;rw[hrd];refine dM W<|dV W (aB (v:=ay J))<|dV W (aB (v:=bQ 0))<|dV W ax<|dV W ax ?_;refine aN ?_;refine ac<|ac<|gD (Lf:=[pcc bl (gk S from_ many first (next)) 273]) (plN [0,2,4,6,8,10,12,14,16,18,20,23,24,26,28,30,32,34,36,38,40,42,44,46])<|dM rfl<|dV rfl (bX XF)<|dM rfl<|aU rfl (hw:=by simp) ao<|aU rfl (hw:=by simp) (fG (l:=1) (h:=5) Xz (by decide))<|aU rfl (hw:=by simp) ao<|aU rfl (hw:=by simp) aa<|aU rfl (hw:=by simp) (aw 3 Yw rfl Xu)<|aU rfl (hw:=by simp) (aA (v:=I first) Xv)<|aU rfl (hw:=by simp) ao<|aU rfl (hw:=by simp) (bx (r:=((first+i:Nat):Int)) (by rw[show (first:Int)+(i:Int)=((first+i:Nat):Int) by omega];exact cK (by omega))) ?_;refine Qb rfl (hw:=by simp) (dQ (Pre:=[]) call184 (gE (first+i))) rfl ?_;rintro _ _ ⟨rfl,rfl⟩;refine aU W (hw:=by simp) lN<|dV W cv<|dM W ?_;by_cases R:(J.take 5).drop 1=bC (first+i)
 ·have hq:=kci R;refine aU W (hw:=by rw[hq];rfl) ao<|aU W (hw:=by rw[hq];rfl) (bW (r:=sk J 0) 0 Xz (by exact nJ))<|aU W (hw:=by rw[hq];rfl) iE<|aU W (hw:=by rw[hq];rfl) ao<|dJ W ao<|dJ W (bW (r:=sk J 0) 0 Xz (by exact nJ))<|dJ W iE<|aU W (hw:=by rw[hq];rfl) dc<|dV W cv ?_;refine aN<|ah ?_ ?_<;>intro O
  ·rw[hq] at O;simp at O;have V:¬(sk J 0=111\/sk J 0=99):=λh=>(by rcases h with h | h <;> rw[h] at O <;> simp at O);refine A<|gA<|gA<|T ?_;rw[show fN (first+i) J=none by unfold fN;rw[kaU (λh=>V h.2.1)]];exact am rfl rfl rfl
  ·rw[hq] at O;simp at O;have V:sk J 0=111\/sk J 0=99:=by
    by_cases h1:sk J 0=111
    ·exact .inl h1
    ·right;have h2:=O (λh=>h1 ((Sr _ _ 111).1 h));exact (Sr _ _ 99).1 h2
   refine ai<|ac ?_;refine dy jB ?_;refine dM rfl<|dV rfl (bW (r:=sk J 5) 5 Xz (by exact nJ))<|dV rfl (cG (r:=((sk J 5).toNat:Int)) XI XA (cK (by have:=(sk J 5).toNat_lt;omega)))<|dM rfl<|dV rfl (bW (r:=sk J 6) 6 Xz (by exact nJ))<|dV rfl (cG (r:=((sk J 6).toNat:Int)) XI XA (cK (by have:=(sk J 6).toNat_lt;omega)))<|dV rfl (lW (cK (by have:=(sk J 6).toNat_lt;omega)))<|dV rfl (bx (r:=((Kp J:Nat):Int)) (by rw[show ((sk J 5).toNat:Int)+256*((sk J 6).toNat:Int)=((Kp J:Nat):Int) by unfold Kp;omega];exact cK (by omega)))<|dV rfl ax ?_;refine aN ?_;refine ac<|A<|C<|M aQ<|ab<|ah ?_ ?_<;>intro X
   ·simp at X;refine A<|gA<|gA<|T ?_;rw[show fN (first+i) J=none by unfold fN;rw[kaU (λh=>by have:=h.2.2;omega)]];exact am rfl rfl rfl
   ·simp at X;refine ai<|ac ?_;refine dy jB ?_;refine dM rfl<|dV rfl (bW (r:=sk J 0) 0 Xz (by exact nJ))<|dM rfl<|dM rfl<|dV rfl (bx (r:=((7+Kp J:Nat):Int)) (by rw[show (7:Int)+((Kp J:Nat):Int)=((7+Kp J:Nat):Int) by omega];exact cK (by omega)))<|dV rfl (fG (l:=7) (h:=7+Kp J) Xz (by omega))<|dV rfl ax<|dV rfl ax<|dV rfl ax ?_;refine aN ?_;rw[show fN (first+i) J=some (sk J 0,(J.take (7+Kp J)).drop 7) by unfold fN;rw[kaT ⟨R,V,by omega⟩]];exact am rfl rfl rfl
 ·have hq:=kcj R;refine aM W (hw:=by rw[hq];rfl)<|aM W (hw:=by rw[hq];rfl)<|aM W (hw:=by rw[hq];rfl)<|aM W (hw:=by rw[hq];rfl)<|aM W<|aM W<|aM W<|aM W (hw:=by rw[hq];rfl)<|dV W (eV (hq:=by rw[hq];rfl)) ?_;refine aN ?_;refine d6 ?_;refine A<|gA<|gA<|T ?_;rw[show fN (first+i) J=none by unfold fN;rw[kaU (λh=>R h.1)]];exact am rfl rfl rfl
def G6 bl O from_ many first used c s cap N i D(hok:oE N i D)(hN:N<=1000000/\i<=999000)(hb:many<=1000000/\first<=1000000000000/\from_<=1000000/\used<=many)(hc:∀x∈c,d7 x=0)(hlen:c.length<=72/\used+c.length+1<=many)F:cqq 241 [ptr bl 0,sl s c.length cap] (pcc bl (gk O from_ many first (used)) 273::cj 179 319 O (D)::roL 3 s (bI c)::F) (R1 (bQ (ct D (od from_ many first used c)).1) (pcc bl (gk O from_ many first (used)) 273::cj 179 319 O ((ct D (od from_ many first used c)).2)::roL 3 s (bI c)::F)):=by
 refine Ct.of func241 W 85 ntmps241 (by simp) λw0=>?_;refine A<|T<|ac ?_;refine cn (Lf:=[pcc bl (gk O from_ many first (used)) 273]) jF ?_;refine dM rfl<|dV rfl aa<|dF rfl 1 Yw rfl Xu<|dL rfl (I from_) Xv<|dM rfl<|dV rfl aa<|dF rfl 4 Yw rfl Xu<|dL rfl (I used) Xv<|dV rfl (bx (r:=((from_+used:Nat):Int)) (by rw[show ((from_:Nat):Int)+((used:Nat):Int)=((from_+used:Nat):Int) by omega];exact cK (by omega)))<|dV rfl ax ?_;refine aN ?_;refine ac<|A<|C<|M (aP Xy)<|C<|ab<|ak ?_;refine aL (α:=Nat×DiskM) (λz=>z.1<=c.length/\oE N (i+z.1) z.2/\ct D (od from_ many first used c)=ct z.2 (lD from_ first used z.1 (c.drop z.1)++pp from_ many used c.length)) (λz=>U [(0,ptr bl 0),(1,sl s c.length cap),(5,I ((from_+used:Nat):Int)),(20,sl s c.length cap),(21,I c.length),(22,I z.1)]) (λz=>pcc bl (gk O from_ many first (used)) 273::cj 179 319 O (z.2)::roL 3 s (bI c)::F) (λz=>c.length - z.1) (0,D) ⟨by simp,hok,rfl⟩ [0,1,5,20,21,22] rfl ?_;rintro ⟨k,X⟩ ⟨hk,S,J⟩;simp only[] at hk S J ⊢;have hfx:=S.2.2.1;have hwx:X.wait.length<=1000000:=(by have:=S.2.2.2.2;omega);refine A<|M aG<|ab<|ac<|ah ?_ ?_<;>intro Y
 ·simp at Y;have V:k<c.length:=(by omega);obtain ⟨x,hx⟩:∃x,c[k]? =some x:=⟨_,kbN V⟩;have hkr:k<(bI c).length:=(by rw[aT];exact V);have hx0:=hc x (kbe hx);have hrl:=xn hx0;refine ai<|ac<|ak<|A<|C<|M (av k Xy Xw V hkr)<|M (bO (row:=bg x) XU Xw (de hx))<|gI (aO #[ay [],ay [],Bo false] XH) ?_;rintro _ _ ⟨b7,rfl,rfl⟩;refine gA<|gU (az (cs:=#[ay [],ay [],Bo false]) (vs:=bg x) (bg x).toArray Xw (by decide) (hcs:=by exact bG))<|ab<|A<|M (bj (vs:=bg (x)) XU Xw bM)<|gR (vA call267 (Cy x)) ?_;rw[show Ez x=(p7 x,0) by unfold Ez;rw[kaT hx0]];refine C<|gX (ay (p7 x))<|gX (bQ 0)<|gA<|T<|ac<|A<|C<|M (bX XF)<|ab<|ah ?_ ?_<;>intro h33
  ·simp at h33
  ·refine ai<|ac<|gD (Lf:=[pcc bl (gk O from_ many first (used)) 273]) (plN [0,2,4,6,8,10,12,14,16,18,20,22,24,26,28,30,32,34,36,39,41,42])<|dM rfl<|dV rfl aa<|dF rfl 0 Yw rfl YS<|dL rfl (ptr O 0) Y2<|dM rfl<|dM rfl<|dV rfl (bx (r:=((from_+used+k:Nat):Int)) (by rw[show ((from_+used:Nat):Int)+((k:Nat):Int)=((from_+used+k:Nat):Int) by omega];exact cK (by omega)))<|dM rfl<|dV rfl aa<|dF rfl 3 Yw rfl Xu<|dL rfl (I first) Xv<|dM rfl<|dV rfl aa<|dF rfl 4 Yw rfl Xu<|dL rfl (I used) Xv<|dV rfl (bx (r:=((first+used:Nat):Int)) (by rw[show ((first:Nat):Int)+((used:Nat):Int)=((first+used:Nat):Int) by omega];exact cK (by omega)))<|dM rfl<|dV rfl (bx (r:=((first+used+k:Nat):Int)) (by rw[show ((first+used:Nat):Int)+((k:Nat):Int)=((first+used+k:Nat):Int) by omega];exact cK (by omega)))<|dM rfl<|cQ rfl (uA call243 (wx 111 (first+used+k) (p7 x) (by omega))) ?_;rintro _ _ ⟨rfl,rfl⟩;refine cQ rfl (uB call175 (fp O X ((from_+used+k:Nat):Int) (d8 111 (first+used+k) (p7 x)) hfx hwx)) ?_;rintro _ _ ⟨rfl,rfl⟩;refine dV W ax ?_;refine aN ?_;refine A<|C<|M (bX XF)<|ab<|ah ?_ ?_<;>intro R
   ·simp at R;refine A<|C<|T ?_;rw[J,Bb hx,kbz,oF R];dsimp only;exact am rfl rfl rfl
   ·simp at R;refine ai<|aE<|al<|gP<|C<|ab ?_;refine an (k+1,cH X ((from_+used+k:Nat):Int) (d8 111 (first+used+k) (p7 x))) ⟨by simp;omega,?_,?_⟩ (by simp;omega) [0,1,5,20,21,22] rfl
    ·exact Ba S _ _
    ·simp only[];rw[J,Bb hx,kbz,lQ (show GV X (some (from_+used+k,d8 111 (first+used+k) (p7 x)))=0 from R)]
     rfl
 ·simp at Y;obtain rfl:k=c.length:=(by omega);rw[kcz,show lD from_ first used c.length []=[] from rfl,kby] at J;refine aF ?_;refine ac<|A<|C<|M aa<|gF 4 Yw rfl Xu<|gL (I used) Xv<|C<|M (aP Xy)<|M (bx (r:=((used+c.length:Nat):Int)) (by rw[show ((used:Nat):Int)+((c.length:Nat):Int)=((used+c.length:Nat):Int) by omega];exact cK (by omega)))<|M (bx (r:=((used+c.length+1:Nat):Int)) (by rw[show ((used+c.length:Nat):Int)+1=((used+c.length+1:Nat):Int) by omega];exact cK (by omega)))<|T<|A<|C<|C<|M aa<|gF 2 Yw rfl Xu<|gL (I many) Xv<|M aG<|ab ?_;apply ah<;>intro Z
  ·simp at Z;refine ac ?_;refine cn (Lf:=[pcc bl (gk O from_ many first (used)) 273]) jQ ?_;refine dM rfl<|dV rfl aa<|dF rfl 0 Yw rfl YS<|dL rfl (ptr O 0) Y2<|dM rfl<|dV rfl aa<|dF rfl 1 Yw rfl Xu<|dL rfl (I from_) Xv<|dM rfl<|dV rfl (bx (r:=((from_+(used+c.length+1):Nat):Int)) (by rw[show ((from_:Nat):Int)+((used+c.length+1:Nat):Int)=((from_+(used+c.length+1):Nat):Int) by omega];exact cK (by omega)))<|cQ rfl (uB call175 (fp O X ((from_+(used+c.length+1):Nat):Int) [] hfx hwx)) ?_;rintro _ _ ⟨rfl,rfl⟩;refine dV W ax ?_;refine aN ?_;rw[J,show pp from_ many used c.length=[some (from_+(used+c.length+1),[])] by unfold pp;rw[kaT (by omega)]];by_cases h0:du X ((from_+(used+c.length+1):Nat):Int) []=0
   ·rw[q6 h0,q8];dsimp only;exact am rfl rfl<|kay bQ h0
   ·rw[oF h0];dsimp only;exact am rfl rfl rfl
  ·simp at Z;refine ai<|A<|T ?_;rw[J,show pp from_ many used c.length=[] by unfold pp;rw[iOm],q8];dsimp only;exact am rfl rfl rfl
def EK R S bl J from_ many first used c s cap N i D(hok:oE N i D)(V:N<=1000000/\i<=999000)(X:many<=1000000/\first<=1000000000000/\from_<=1000000/\used<=many)(Y:∀x∈c,d7 x=0)(O:c.length<=72/\used+c.length+1<=many)F:cqq 240 [ptr R 0,ptr S 0] (pcc R #[ptr bl 0] 196::pcc S #[sl s c.length cap] 33::pcc bl (gk J from_ many first (used)) 273::cj 179 319 J (D)::roL 3 s (bI c)::F) (R1 (bQ (ct D (od from_ many first used c)).1) (pcc R #[ptr bl 0] 196::pcc S #[sl s c.length cap] 33::pcc bl (gk J from_ many first (used)) 273::cj 179 319 J ((ct D (od from_ many first used c)).2)::roL 3 s (bI c)::F)):=by
 refine Ct.of func240 W 6 ntmps240 (by simp) λw0=>?_;refine A<|T<|A<|gL (ptr bl 0) Zi<|gL (sl s c.length cap) Zj<|gR (vD call241 (G6 bl J from_ many first used c s cap N i D hok V X Y O))<|T ?_;refine am W W ?_;exact rfl
def EL O S R bl J from_ many first used c s cap N i D(hok:oE N i D)(X:N<=1000000/\i<=999000)(Y:many<=1000000/\first<=1000000000000/\from_<=1000000/\used<=many)(V:c.length<=72)F:cqq 242 [ptr O 0,ptr S 0,ptr R 0] (pcc O #[ptr bl 0] 196::pcc S #[I ((used+c.length:Nat):Int)] 3::pcc R #[sl s c.length cap] 33::pcc bl (gk J from_ many first (used)) 273::cj 179 319 J (D)::roL 3 s (bI c)::F) (R1 (bQ (GV D (qp from_ first used c.length))) (pcc O #[ptr bl 0] 196::pcc S #[I ((used+c.length:Nat):Int)] 3::pcc R #[sl s c.length cap] 33::pcc bl (gk J from_ many first (used)) 273::cj 179 319 J (GW D (qp from_ first used c.length))::roL 3 s (bI c)::F)):=by
 refine Ct.of func242 W 25 ntmps242 (by simp) λw0=>?_;refine A<|T<|ac<|gD (Lf:=[pcc O #[ptr bl 0] 196,pcc S #[I ((used+c.length:Nat):Int)] 3,pcc R #[sl s c.length cap] 33,pcc bl (gk J from_ many first (used)) 273]) (plN [0,2,4,6,8,10,12,14,16,18,20,22,24,26,28,30,32,34,37,39,41,42])<|dL rfl (ptr bl 0) Zi<|dV rfl aa<|dF rfl 0 Yw rfl YS<|dL rfl (ptr J 0) Y2<|dL rfl (ptr bl 0) Zi<|dV rfl aa<|dF rfl 1 Yw rfl Xu<|dL rfl (I from_) Xv<|dL rfl (I ((used+c.length:Nat):Int)) Xv<|dV rfl (bx (r:=((from_+(used+c.length):Nat):Int)) (by rw[show ((from_:Nat):Int)+((used+c.length:Nat):Int)=((from_+(used+c.length):Nat):Int) by omega];exact cK (by omega)))<|dL rfl (ptr bl 0) Zi<|dV rfl aa<|dF rfl 3 Yw rfl Xu<|dL rfl (I first) Xv<|dL rfl (I ((used+c.length:Nat):Int)) Xv<|dV rfl (bx (r:=((first+(used+c.length):Nat):Int)) (by rw[show ((first:Nat):Int)+((used+c.length:Nat):Int)=((first+(used+c.length):Nat):Int) by omega];exact cK (by omega)))<|dL rfl (sl s c.length cap) Zj<|dV rfl (aP Xy)<|cQ rfl (uA call184 (gE c.length)) ?_;rintro _ _ ⟨rfl,rfl⟩;refine cQ rfl (uA call243 (wx 99 (first+(used+c.length)) (bC c.length) (by simp[bC]))) ?_;rintro _ _ ⟨rfl,rfl⟩;refine cQ rfl (uB call175 (fp J D ((from_+(used+c.length):Nat):Int) (d8 99 (first+(used+c.length)) (bC c.length)) hok.2.2.1 (by have:=hok.2.2.2.2;omega))) ?_;rintro _ _ ⟨rfl,rfl⟩;refine dV W ax ?_;refine aN ?_;show G _ _ _ (cj 179 319 J (GW D (qp from_ first used c.length))::_);exact am rfl rfl rfl
def G7 bl R from_ many first used c s cap N i D(hok:oE N i D)(hN:N<=1000000/\i<=998000)(hb:many<=1000000/\first<=1000000000000/\from_<=1000000/\used<=many)(hl:c.length<=9223372036854775807)F:cqq 180 [ptr bl 0,sl s c.length cap] (pcc bl (gk R from_ many first (used)) 273::cj 179 319 R (D)::roL 3 s (bI c)::F) (R1 (bQ (pq from_ many first used c D)) (pcc bl (gk R from_ many first (nm from_ many first used c D)) 273::cj 179 319 R (iY from_ many first used c D)::roL 3 s (bI c)::F)):=by
 refine Ct.of func180 W 71 ntmps180 (by simp) λw0=>?_;refine A<|gI (dw #[ptr bl 0]) ?_;rintro _ _ ⟨Y,rfl,rfl⟩;refine gI (dw #[sl s c.length cap]) ?_;rintro _ _ ⟨Z,rfl,rfl⟩;refine T<|ac<|A<|gL (sl s c.length cap) Zj<|M (aP Xy)<|M aQ<|ab<|ah ?_ ?_<;>intro h14
 ·simp at h14;have hv:nk many used c=2:=(by unfold nk;rw[kaT (by omega)]);refine A<|M (ba XG)<|T ?_;obtain ⟨ae,ad,au⟩:=ym (from_:=from_) (first:=first) (D:=D) hv (by decide);rw[ae,ad,au];exact am rfl rfl rfl
 ·simp at h14;have hlen:c.length<=72:=(by omega);refine ai<|ac<|ac<|gD (Lf:=[pcc Y #[ptr bl 0] 196,pcc Z #[sl s c.length cap] 33]) (plN [0,2,4,6,9,10])<|dL rfl (sl s c.length cap) Zj<|dV rfl (aP Xy)<|dV rfl (bx (r:=((c.length+1:Nat):Int)) (by rw[show (c.length:Int)+1=((c.length+1:Nat):Int) by omega];exact cK (by omega)))<|dL rfl (ptr bl 0) Zi<|cQ rfl (uB call179 (wy bl R from_ many first used ⟨hb.2.2.2,hb.1⟩)) ?_;rintro _ _ ⟨rfl,rfl⟩;refine dV W aQ ?_;refine aN<|ah ?_ ?_<;>intro h21
  ·simp at h21;have hv:nk many used c=8:=(by unfold nk;rw[iOm,kaT (by omega)]);refine A<|M (ba XG)<|T ?_;obtain ⟨ae,ad,au⟩:=ym (from_:=from_) (first:=first) (D:=D) hv (by decide);rw[ae,ad,au];exact am rfl rfl rfl
  ·simp at h21;have hroom:c.length+1<=many - used:=(by omega);have hv0:=CE hlen hroom;refine ai<|ac<|A<|gL (sl s c.length cap) Zj<|M (aP Xy)<|C<|ab<|ak ?_;refine aL (α:=Nat) (λk=>k<=c.length/\lb c=lb (c.drop k)) (λk=>U [(2,ptr Y 0),(3,ptr Z 0),(23,sl s c.length cap),(24,I c.length),(25,I k)]) (λk=>pcc Y #[ptr bl 0] 196::pcc Z #[sl s c.length cap] 33::pcc bl (gk R from_ many first (used)) 273::cj 179 319 R (D)::roL 3 s (bI c)::F) (λk=>c.length - k) 0 ⟨by simp,rfl⟩ [2,3,23,24,25] rfl ?_;rintro k ⟨hk,X⟩;refine A<|M aG<|ab<|ac<|ah ?_ ?_<;>intro h26
   ·simp at h26;have hkn:k<c.length:=(by omega);obtain ⟨x,hx⟩:∃x,c[k]? =some x:=⟨_,kbN hkn⟩;have hkr:k<(bI c).length:=(by rw[aT];exact hkn);refine ai<|ac<|ak<|A<|M (av k Xy Xw hkn hkr)<|M (bO (row:=bg x) XU Xw (de hx))<|gI (aO #[ay [],ay [],Bo false] XH) ?_;rintro _ _ ⟨b6,rfl,rfl⟩;refine gU (az (cs:=#[ay [],ay [],Bo false]) (vs:=bg x) (bg x).toArray Xw (by decide) (hcs:=by exact bG))<|ab<|A<|M (bj (vs:=bg (x)) XU Xw bM)<|gR (vA call178 (kB x))<|T<|A<|C<|M (bX XF)<|ab<|ah ?_ ?_<;>intro h32
    ·simp at h32;rw[tL hx,kaU h32] at X;rw[X] at hv0;refine A<|C<|T ?_;obtain ⟨ae,ad,au⟩:=ym (from_:=from_) (first:=first) (D:=D) hv0 h32;rw[ae,ad,au];exact am rfl rfl rfl
    ·simp at h32;refine ai<|aE<|al<|gP<|C<|ab ?_;exact an (k+1) ⟨by omega,by rw[X,tL hx,kaT h32]⟩ (by omega) [2,3,23,24,25] rfl
   ·simp at h26;obtain rfl:k=c.length:=(by omega);rw[kcz,show lb []=0 from rfl] at X;rw[X] at hv0;have hc:=CD X;refine aF ?_;refine ac ?_;refine eE (Lf:=[pcc Y #[ptr bl 0] 196,pcc Z #[sl s c.length cap] 33,pcc bl (gk R from_ many first (used)) 273]) jR 8 ?_;refine dL rfl (ptr bl 0) Zi<|dV rfl aa<|dF rfl 4 Yw rfl Xu<|dL rfl (I used) Xv<|dL rfl (sl s c.length cap) Zj<|dV rfl (aP Xy)<|dV rfl (bx (r:=((used+c.length:Nat):Int)) (by rw[show ((used:Nat):Int)+((c.length:Nat):Int)=((used+c.length:Nat):Int) by omega];exact cK (by omega)))<|cQ rfl (qf (I 0) X5) ?_;rintro _ _ ⟨b8,rfl,rfl⟩;refine aN ?_;refine gU (aJ #[I ((used+c.length:Nat):Int)] Xu (by simp))<|ab<|ac<|ac<|gD (Lf:=[pcc Y #[ptr bl 0] 196,pcc Z #[sl s c.length cap] 33,pcc bl (gk R from_ many first (used)) 273]) (plN [0,2,4,6,8,10,12,14,16,18,20,22,28,25,26])<|dV rfl fV<|dL rfl (ptr bl 0) Zi<|dV rfl aa<|dF rfl 0 Yw rfl YS<|dL rfl (ptr R 0) Y2<|dV rfl fV<|dV rfl fV<|dL rfl (ptr bl 0) Zi<|dV rfl aa<|dF rfl 0 Yw rfl YS<|dL rfl (ptr R 0) Y2<|dV rfl fV<|dM rfl<|cQ rfl (ap [[.func (.func 240) #[] #[ptr Y 0,ptr Z 0]],[.func (.func 176) #[ptr R 0] #[]],[.func (.func 242) #[] #[ptr Y 0,ptr b8 0,ptr Z 0]],[.func (.func 176) #[ptr R 0] #[]]] ZT Z1 zeroValue108 (by simp)) ?_;rintro _ _ ⟨b54,rfl,rfl⟩;refine dV W (aP ZT) ?_;refine aN ?_;refine ak ?_;refine aL (α:=Nat×DiskM) (λz=>z.1<=4/\oE N (i+100*z.1) z.2/\ct D (k9 from_ many first used c)=ct z.2 (j9 from_ many first used c z.1)) (λz=>U [(2,ptr Y 0),(3,ptr Z 0),(8,ptr b8 0),(54,sl (some ⟨b54,0,none⟩) 4 4),(55,I 4),(56,I z.1)]) (λz=>pcc Y #[ptr bl 0] 196::pcc Z #[sl s c.length cap] 33::pcc b8 #[I ((used+c.length:Nat):Int)] 3::pcc bl (gk R from_ many first (used)) 273::cj 179 319 R (z.2)::roL 3 s (bI c)::be 108 1 (some ⟨b54,0,none⟩) 4 [[.func (.func 240) #[] #[ptr Y 0,ptr Z 0]],[.func (.func 176) #[ptr R 0] #[]],[.func (.func 242) #[] #[ptr Y 0,ptr b8 0,ptr Z 0]],[.func (.func 176) #[ptr R 0] #[]]]::F) (λz=>4 - z.1) (0,D) ⟨by simp,hok,rfl⟩ [2,3,8,54,55,56] rfl ?_
    rintro ⟨k,D'⟩ ⟨hk,V,O⟩;simp only[] at hk V O ⊢;refine A<|M aG<|ab<|ac<|ah ?_ ?_<;>intro h57
    ·simp at h57;refine ai<|ac<|ak<|A ?_;rcases (by omega:k=0\/k=1\/k=2\/k=3) with rfl | rfl | rfl | rfl
     ·refine M (av 0 ZT Z1 (by decide) (by simp))<|M (aI (v:= .func (.func 240) #[] #[ptr Y 0,ptr Z 0]) Z9 (by rfl) W)<|T<|A<|C ?_;refine gI (gc (fi:=[]) (cap:=[ptr Y 0,ptr Z 0]) (Pre:=[pcc Y #[ptr bl 0] 196,pcc Z #[sl s c.length cap] 33,pcc bl (gk R from_ many first (used)) 273,cj 179 319 R (D'),roL 3 s (bI c)]) call240 rfl rfl (EK Y Z bl R from_ many first used c s cap N (i+100*0) D' V ⟨hN.1,by omega⟩ hb hc ⟨hlen,by omega⟩)) ?_;rintro _ _ ⟨rfl,rfl⟩;refine T<|A<|C<|M (bX XF)<|ab<|ah ?_ ?_<;>intro J
      ·simp at J;rw[show j9 from_ many first used c 0=od from_ many first used c++ [none,qp from_ first used c.length,none] from rfl,po,kaU J] at O;obtain ⟨ae,ad,au⟩:=tM hv0 O J;rw[ae,ad,au];refine A<|C<|T ?_;exact am rfl rfl rfl
      ·simp at J;have S:ct D (k9 from_ many first used c)=ct (ct D' (od from_ many first used c)).2 (j9 from_ many first used c 1):=(by rw[O,show j9 from_ many first used c 0=od from_ many first used c++ [none,qp from_ first used c.length,none] from rfl,po,kaT J];rfl);have hll:=EG from_ many first used c
       refine ai<|aE<|al<|gP<|C<|ab ?_;exact an (1,(ct D' (od from_ many first used c)).2) ⟨by simp,j3 (iX _ _ _ V) (by simp only[];omega),S⟩ (by simp) [2,3,8,54,55,56] rfl
     ·refine M (av 1 ZT Z1 (by decide) (by simp))<|M (aI (v:= .func (.func 176) #[ptr R 0] #[]) Z9 (by rfl) W)<|T<|A<|C ?_;refine gI (gc (fi:=[ptr R 0]) (cap:=[]) (Pre:=[cj 179 319 R (D')]) call176 W W (ig R D' V.2.2.1 (by rw[V.1,V.2.1]) (by rw[V.2.1];omega))) ?_;rintro _ _ ⟨rfl,rfl⟩;refine T<|A<|C<|M (bX XF)<|ab<|ah ?_ ?_<;>intro J
      ·simp at J;rw[show j9 from_ many first used c 1=none::j9 from_ many first used c 2 from rfl,mJ J] at O;obtain ⟨ae,ad,au⟩:=tM hv0 O J;rw[ae,ad,au];refine A<|C<|T ?_;exact am rfl rfl rfl
      ·simp at J;have S:ct D (k9 from_ many first used c)=ct (cL D') (j9 from_ many first used c 2):=(by rw[O,show j9 from_ many first used c 1=none::j9 from_ many first used c 2 from rfl,nM J]);refine ai<|aE<|al<|gP<|C<|ab ?_;exact an (2,cL D') ⟨by simp,j3 (qZ V) (by simp),S⟩ (by simp) [2,3,8,54,55,56] rfl
     ·refine M (av 2 ZT Z1 (by decide) (by simp))<|M (aI (v:= .func (.func 242) #[] #[ptr Y 0,ptr b8 0,ptr Z 0]) Z9 (by rfl) W)<|T<|A<|C ?_;refine gI (gc (fi:=[]) (cap:=[ptr Y 0,ptr b8 0,ptr Z 0]) (Pre:=[pcc Y #[ptr bl 0] 196,pcc b8 #[I ((used+c.length:Nat):Int)] 3,pcc Z #[sl s c.length cap] 33,pcc bl (gk R from_ many first (used)) 273,cj 179 319 R (D'),roL 3 s (bI c)]) call242 rfl rfl (EL Y b8 Z bl R from_ many first used c s cap N (i+100*2) D' V ⟨hN.1,by omega⟩ hb hlen)) ?_;rintro _ _ ⟨rfl,rfl⟩;refine T<|A<|C<|M (bX XF)<|ab<|ah ?_ ?_<;>intro J
      ·simp at J;rw[show j9 from_ many first used c 2=qp from_ first used c.length::j9 from_ many first used c 3 from rfl,lz J] at O;obtain ⟨ae,ad,au⟩:=tM hv0 O J;rw[ae,ad,au];refine A<|C<|T ?_;exact am rfl rfl rfl
      ·simp at J;have S:ct D (k9 from_ many first used c)=ct (GW D' (qp from_ first used c.length)) (j9 from_ many first used c 3):=(by rw[O,show j9 from_ many first used c 2=qp from_ first used c.length::j9 from_ many first used c 3 from rfl,lQ J]);refine ai<|aE<|al<|gP<|C<|ab ?_;exact an (3,GW D' (qp from_ first used c.length)) ⟨by simp,j3 (GX V _) (by simp),S⟩ (by simp) [2,3,8,54,55,56] rfl
     ·refine M (av 3 ZT Z1 (by decide) (by simp))<|M (aI (v:= .func (.func 176) #[ptr R 0] #[]) Z9 (by rfl) W)<|T<|A<|C ?_;refine gI (gc (fi:=[ptr R 0]) (cap:=[]) (Pre:=[cj 179 319 R (D')]) call176 W W (ig R D' V.2.2.1 (by rw[V.1,V.2.1]) (by rw[V.2.1];omega))) ?_;rintro _ _ ⟨rfl,rfl⟩;refine T<|A<|C<|M (bX XF)<|ab<|ah ?_ ?_<;>intro J
      ·simp at J;rw[show j9 from_ many first used c 3=none::j9 from_ many first used c 4 from rfl,mJ J] at O;obtain ⟨ae,ad,au⟩:=tM hv0 O J;rw[ae,ad,au];refine A<|C<|T ?_;exact am rfl rfl rfl
      ·simp at J;have S:ct D (k9 from_ many first used c)=ct (cL D') (j9 from_ many first used c 4):=(by rw[O,show j9 from_ many first used c 3=none::j9 from_ many first used c 4 from rfl,nM J]);refine ai<|aE<|al<|gP<|C<|ab ?_;exact an (4,cL D') ⟨by simp,j3 (qZ V) (by simp),S⟩ (by simp) [2,3,8,54,55,56] rfl
    ·simp at h57;obtain rfl:k=4:=(by omega);rw[show j9 from_ many first used c 4=[] from rfl,q8] at O;obtain ⟨ae,ad,au⟩:=Qq hv0 O;rw[ae,ad,au];refine aF ?_;refine A<|gL (ptr bl 0) Zi<|gL (I ((used+c.length:Nat):Int)) Xv<|M (bx (r:=((used+c.length+1:Nat):Int)) (by rw[show ((used+c.length:Nat):Int)+1=((used+c.length+1:Nat):Int) by omega];exact cK (by omega)))<|M aa<|gF 4 Yw rfl Xu<|gU (aJ (gk R from_ many first (used+c.length+1)) Xu (by simp))<|ab<|A<|T ?_;exact am rfl rfl rfl
def yr (D:DiskM)(from_ many first:Int):Prop:=from_<0\/many<1\/(D.now.length:Int)<many\/(D.now.length:Int) - many<from_\/first<1
instance (D:DiskM)(from_ many first:Int):Decidable (yr D from_ many first):=by unfold yr;infer_instance
def px (D:DiskM)(from_:Nat)(i:Nat):Bytes:=D.now.getD (from_+i) []
abbrev KB:=List (List ChangeM×qn)
def Vw (ec TT TL TC bd:Nat)(D:DiskM)(from_ many first:Int)(F:List ag):Value->List ag->Prop:=λv L'=>
 (yr D from_ many first/\v= .tuple #[.pointer none,sl none 0 0,bQ 1]/\L'=cj ec TT bd D::F)\/
 (¬yr D from_ many first/\D.down=true/\v= .tuple #[.pointer none,sl none 0 0,bQ 9]/\L'=cj ec TT bd D::F)\/
 (¬yr D from_ many first/\D.down=false/\∃(bl:Nat) (gl:KB) (so:Option Addr) (co used:Nat),v= .tuple #[ptr bl 0,sl so gl.length co,bQ 0]/\used<=many.toNat/\gl.length<=many.toNat/\
  dg first.toNat (px D from_.toNat) many.toNat 0 [] [] 0=(gl.map (·.1),used)/\
  L'=pcc bl (gk bd from_.toNat many.toNat first.toNat used) TL::be TC 1 so co (dR gl)::rF gl::cj ec TT bd D::F)
variable {c:Cx}{E:di}{L:List ag}{K:List KI}
def ar {vs:List Value}(L1:List ag)(hr:fY E c.fn.results.toList=some vs)(hp:c.R (tn vs) L1)[S:Sub L L1](hds:c.n.ds=[]:=by rfl):G c (.code .ret::K) E L:=
 λa w J O=>wp_ret (cb (bf (hds:=hds) hr J (S.sat O) hp))
variable {k:UInt8}{t:Bytes}
theorem G8 {num}(h:fN num s=some (k,t)):t.length<=s.length/\(k=111\/k=99):=by
 grind[fN]
theorem u99:((k.toNat:Int)=99) ↔ k=99:=⟨λh=>UInt8.toNat_inj.1 (by grind),λh=>by rw[h];rfl⟩
variable {O:Nat->Bytes}{f:Nat}{J:List ChangeM}
theorem vn (h:fN (first+i) (O i)=none):dg first O (f+1) i out J used=(out,used):=by rw[lP,h]
theorem KC (h:fN (first+i) (O i)=some (99,t))(ht:t=bC J.length):dg first O (f+1) i out J used=dg first O f (i+1) (out++ [J]) [] (i+1):=by grind[lP]
theorem Mx (h:fN (first+i) (O i)=some (99,t))(ht:¬t=bC J.length):dg first O (f+1) i out J used=(out,used):=by grind[lP]
theorem My (h:fN (first+i) (O i)=some (k,t))(hk:¬k=99)(hp:(uZ t).2=0):dg first O (f+1) i out J used=dg first O f (i+1) out (J++ [(uZ t).1]) used:=by grind[lP]
theorem Mz (h:fN (first+i) (O i)=some (k,t))(hk:¬k=99)(hp:¬(uZ t).2=0):dg first O (f+1) i out J used=(out,used):=by grind[lP]
def Qr (J:KB)(d:List ChangeM)s c:dR J++ [[sl s d.length c]]=dR (J++ [(d,(s,c))]):=by simp[dR]
def MA (J:KB)d(s:Option Addr)(c:Nat):(J++ [(d,(s,c))]).map (·.1)=J.map (·.1)++ [d]:=by simp
def KD a x:bI a++ [bg x]=bI (a++ [x]):=by simp[bI]
def wA S D from_ many first(hS:∀x∈D.now,x.length=80)(hbd:D.now.length<=1000000/\first<=1000000000000)F:cqq 116 [ptr S 0,I from_,I many,I first] (cj 179 319 S (D)::F) (Vw 179 319 273 33 S D from_ many first F):=by
 refine Ct.of func116 W 103 ntmps116 (by simp) λw0=>?_;refine A<|gA<|gA<|T<|ac<|A<|C<|M aG<|C<|gK ao<|gK aG<|M cv<|C<|gK ao<|gK ao ?_;refine Tc W W (λhg=>dQ (Pre:=[cj 179 319 S (D)]) (R:=λF=>R1 (I (D.now.length:Int)) (cj 179 319 S (D)::F)) call112 (ew S D)) W W ?_;refine gK aQ<|M cv<|C<|gK ao<|gK ao ?_;refine Tc W W (λhg=>dQ (Pre:=[cj 179 319 S (D)]) (R:=λF=>R1 (I (D.now.length:Int)) (cj 179 319 S (D)::F)) call112 (ew S D)) W W ?_;refine gK ao<|Gv (λhg=>eG (r:=(D.now.length:Int) - many) (cK (by simp at hg;omega)))<|gK aQ<|M cv<|C<|gK ao<|gK aG<|M cv<|ab ?_;apply ah<;>intro h43
 ·simp at h43;have V:yr D from_ many first:=by unfold yr;omega
  refine A<|M (ba XG)<|gA<|gA<|T ?_;exact ar (cj 179 319 S (D)::F) rfl<|.inl ⟨V,rfl,rfl⟩
 ·simp at h43;have V:¬yr D from_ many first:=by unfold yr;omega
  have hb2:¬(from_<0\/many<1\/(D.now.length:Int)<many\/(D.now.length:Int) - many<from_\/first<1):=V;refine ai<|ac<|A<|C<|gR (vB call111 (tC S D))<|ab<|ah ?_ ?_<;>intro h46
  ·refine A<|M (ba XG)<|gA<|gA<|T ?_;exact ar (cj 179 319 S (D)::F) rfl<|.inr<|.inl ⟨V,h46,rfl,rfl⟩
  ·have hdn:D.down=false:=(by simpa using h46);obtain ⟨from_,rfl⟩:=kcA (show 0<=from_ by omega);obtain ⟨many,rfl⟩:=kcA (show 0<=many by omega);obtain ⟨first,rfl⟩:=kcA (show 0<=first by omega);refine ai<|A<|C<|C<|C<|C<|M (aS (xY _ rfl _ rfl _ rfl _ rfl))<|gI (dw (gk S from_ many first 0)) ?_;rintro _ _ ⟨X,rfl,rfl⟩;refine T<|A<|T<|A<|T<|ac<|ac ?_;refine aY 33 1 (dR []) ?_;refine aY 174 3 (bI []) ?_;refine Qj ?_;refine al<|C<|C<|ab<|ak ?_;refine aL (α:=Nat×KB×List ChangeM×Nat×qn×qn) (λz=>z.1<=many/\dg first (px D from_) many 0 [] [] 0=dg first (px D from_) (many - z.1) z.1 (z.2.1.map (·.1)) z.2.2.1 z.2.2.2.1/\z.2.2.1.length<=z.1/\z.2.1.length<=z.1/\z.2.2.2.1<=z.1) (λz=>U [(0,ptr S 0),(11,ptr X 0),(12,sl z.2.2.2.2.1.1 z.2.1.length z.2.2.2.2.1.2),(13,sl z.2.2.2.2.2.1 z.2.2.1.length z.2.2.2.2.2.2),(54,I many),(55,I z.1)]) (λz=>pcc X (gk S from_ many first z.2.2.2.1) 273::be 33 1 z.2.2.2.2.1.1 z.2.2.2.2.1.2 (dR z.2.1)::be 174 3 z.2.2.2.2.2.1 z.2.2.2.2.2.2 (bI z.2.2.1)::rF z.2.1::cj 179 319 S (D)::F) (λz=>many - z.1) (0,[],[],0,(none,0),(none,0)) ⟨by simp,rfl,by simp,by simp,by simp⟩ [0,11,12,13,54,55] rfl ?_;rintro ⟨i,Z,J,used,⟨so,co⟩,⟨sd,cd⟩⟩ ⟨hi,hsc,hdl,hgl,hul⟩;simp only[] at hi hsc hdl hgl hul ⊢;refine A<|M aG<|ab<|ac<|ah ?_ ?_<;>intro h56
   ·simp at h56;have him:i<many:=(by omega);have hso:dg first (px D from_) many 0 [] [] 0=dg first (px D from_) ((many - (i+1))+1) i (Z.map (·.1)) J used:=by rw[hsc,show (many - (i+1))+1=many - i by omega]
    refine ai<|ac<|ak<|A<|C<|T<|A<|C<|C<|gR (vC call183 (EJ X S from_ many first used D i (by omega) hdn hS (by omega) ⟨hbd.1,by omega⟩)) ?_;rw[show D.now.getD (from_+i) []=px D from_ i from rfl];have hsl:(px D from_ i).length=80:=qr (by omega) hS;rcases hlk:fN (first+i) (px D from_ i) with _ | ⟨k,t⟩;rotate_left;obtain ⟨hts,hk2⟩:=G8 hlk;by_cases hk99:k=99
    ·subst hk99;refine C<|gX (By 99)<|gX (ay t)<|gX (Bo true)<|gA<|gA<|T<|ac<|A<|C<|M cS<|C<|bh ao<|bh bE<|bh ao<|bh ao<|bh ao<|bh (aP Xy) ?_;refine wK (dQ (Pre:=[]) call184 (gE J.length)) ?_;rintro _ _ ⟨rfl,rfl⟩;refine bh lN<|bh dc<|M cv<|ab<|ah ?_ ?_<;>intro h77
     ·simp at h77;have Y:dg first (px D from_) many 0 [] [] 0=(Z.map (·.1),used):=by rw[hso,Mx hlk h77]
      refine aF ?_;refine A<|C<|C<|gA<|gA<|T ?_;refine ar (pcc X (gk S from_ many first (used)) 273::be 33 1 so co (dR Z)::rF Z::cj 179 319 S (D)::F) rfl<|.inr<|.inr ⟨V,hdn,X,Z,so,co,used,rfl,(kaB hul (by omega)),(kaB hgl (by omega)),Y,rfl⟩
     ·simp at h77;have ht:t=bC J.length:=h77;refine ai<|ac<|A<|C<|M bE<|ab ?_;refine d6 ?_;refine A<|C<|C<|C<|gI (ap [[sl sd J.length cd]] kaa YM zeroValue33 (by simp)) ?_;rintro _ _ ⟨b83,rfl,rfl⟩;refine gI (aR kaa YM zeroValue33 Tryz.typeInfo33 (hn:=by exact Mp _) (by simp) (by simp[ones,one,sl]) ⟨by omega,by decide,by decide⟩) ?_;rintro _ _ ⟨s84,c84,rfl,rfl⟩;rw[Qr,show Z.length+1=(Z++ [(J,(sd,cd))]).length by simp];refine C<|M (bx (r:=((i+1:Nat):Int)) (by rw[show (i:Int)+1=((i+1:Nat):Int) by omega];exact cK (by omega)))<|gA<|gA<|M aa<|gF 4 Yw rfl Xu<|gU (aJ (gk S from_ many first (i+1)) Xu (by simp))<|ab ?_;refine aF ?_;refine al<|M (bx (r:=((i+1:Nat):Int)) (by rw[show (i:Int)+1=((i+1:Nat):Int) by omega];exact cK (by omega)))<|C<|ab ?_;refine bz (ec:=174) (cap:=cd) sd ?_;refine Kr Z J sd cd ?_;refine aY 174 3 (bI []) ?_;refine an (i+1,Z++ [(J,(sd,cd))],[],i+1,(s84,c84),(none,0)) ⟨by simp;omega,?_,by simp,by simp;omega,by simp⟩ (by simp;omega) [0,11,12,13,54,55] rfl;simp only[];rw[hso,KC hlk ht,MA]
    ·refine C<|gX (By k.toNat)<|gX (ay t)<|gX (Bo true)<|gA<|gA<|T<|ac<|A<|C<|M cS<|C ?_;have O:¬((k.toNat:Int)=99):=λh=>hk99 (u99.1 h);refine bh ao<|bh bE<|bh ao<|bi (hw:=by simp[u7,O])<|bi (hw:=by simp[u7,O])<|bi (hw:=by simp[u7,O])<|bi (hw:=by simp[u7,O])<|bi (hw:=by simp[u7,O])<|bh (fa (hq:=by simp[O]))<|M cv<|ab<|ah ?_ ?_<;>intro h77
     ·simp at h77
     ·refine ai<|ac<|A<|C<|M bE<|ab<|ah ?_ ?_<;>intro h79
      ·simp at h79;exact absurd (u99.1 h79) hk99
      ·refine ai<|A<|C<|gR (vA call185 (Cz t (by omega)))<|C<|gX (.agg (bg (uZ t).1).toArray)<|gX (bQ (uZ t).2)<|gI (aO #[ay [],ay [],Bo false] XH) ?_;rintro _ _ ⟨b18,rfl,rfl⟩;refine gU (az (cs:=#[ay [],ay [],Bo false]) (vs:=bg (uZ t).1) (bg (uZ t).1).toArray Xw (by decide) (hcs:=by exact bG))<|T<|ac<|A<|C<|M (bX XF)<|ab<|ah ?_ ?_<;>intro h95
       ·simp at h95;have Y:dg first (px D from_) many 0 [] [] 0=(Z.map (·.1),used):=by rw[hso,Mz hlk hk99 h95]
        refine aF ?_;refine A<|C<|C<|gA<|gA<|T ?_;refine ar (pcc X (gk S from_ many first (used)) 273::be 33 1 so co (dR Z)::rF Z::cj 179 319 S (D)::F) rfl<|.inr<|.inr ⟨V,hdn,X,Z,so,co,used,rfl,(kaB hul (by omega)),(kaB hgl (by omega)),Y,rfl⟩
       ·simp at h95;have hpe:(uZ t).2=0:=h95;refine ai<|al<|C<|M (bj (vs:=bg ((uZ t).1)) XU Xw bM)<|gI (ap [bg (uZ t).1] Xy Xw XH (by simp[bg])) ?_;rintro _ _ ⟨b98,rfl,rfl⟩;refine gI (aR Xy Xw XH Tryz.typeInfo174 (hn:=by exact aT _) (by simp[bg]) (by simp[ones,one,bg]) ⟨by omega,by decide,by decide⟩) ?_;rintro _ _ ⟨s99,c99,rfl,rfl⟩;rw[KD,show J.length+1=(J++ [(uZ t).1]).length by simp];refine T<|aE<|al<|M (bx (r:=((i+1:Nat):Int)) (by rw[show (i:Int)+1=((i+1:Nat):Int) by omega];exact cK (by omega)))<|C<|ab ?_;refine an (i+1,Z,J++ [(uZ t).1],used,(so,co),(s99,c99)) ⟨by simp;omega,?_,by simp;omega,by simp only[];omega,by simp only[];omega⟩ (by simp;omega) [0,11,12,13,54,55] rfl;simp only[];rw[hso,My hlk hk99 hpe]
    ·refine C<|gX (By 0)<|gX (ay [])<|gX (Bo false)<|gA<|gA<|T<|ac<|A<|C<|M cS<|C<|bi<|bi<|bi<|bi<|bi<|bi<|bi<|bi<|bi<|M eV<|ab ?_;refine d6 ?_;refine aF ?_;refine A<|C<|C<|gA<|gA<|T ?_;have Y:dg first (px D from_) many 0 [] [] 0=(Z.map (·.1),used):=by rw[hso,vn hlk]
     refine ar (pcc X (gk S from_ many first (used)) 273::be 33 1 so co (dR Z)::rF Z::cj 179 319 S (D)::F) rfl<|.inr<|.inr ⟨V,hdn,X,Z,so,co,used,rfl,(kaB hul (by omega)),(kaB hgl (by omega)),Y,rfl⟩
   ·simp at h56;obtain rfl:many=i:=(by omega);have Y:dg first (px D from_) many 0 [] [] 0=(Z.map (·.1),used):=by rw[hsc,Nat.sub_self];rfl
    refine aF ?_;refine A<|C<|C<|gA<|gA<|T ?_;refine ar (pcc X (gk S from_ many first (used)) 273::be 33 1 so co (dR Z)::rF Z::cj 179 319 S (D)::F) rfl<|.inr<|.inr ⟨V,hdn,X,Z,so,co,used,rfl,(kaB hul (by omega)),(kaB hgl (by omega)),Y,rfl⟩
open Go Go.Sl Go.Proofs
abbrev kl (a b:Bytes):Bool:=Op.bytesLess a b
theorem yu:∀a:Bytes,kl a a=false
 | []=>rfl
 | x::a=>by
  show (decide (x<x) || (x==x && Op.bytesLess a a))=false;rw[show Op.bytesLess a a=false from yu a]
  grind
theorem kD:∀{a b c:Bytes},kl a b=true->kl b c=true->kl a c=true
 | a,[],c,h1,R=>by cases a <;> cases h1
 | a,b,[],h1,R=>by cases b <;> cases R
 | [],y::b,z::c,h1,R=>rfl
 | x::a,y::b,z::c,h1,R=>by
  have O:(decide (x<y) || (x==y && Op.bytesLess a b))=true:=h1;have J:(decide (y<z) || (y==z && Op.bytesLess b c))=true:=R;show (decide (x<z) || (x==z && Op.bytesLess a c))=true;simp only[kbA,decide_eq_true_eq,kaJ,beq_iff_eq,UInt8.lt_iff_toNat_lt] at O J ⊢;rcases O with O | ⟨rfl,O⟩
  ·grind
  ·rcases J with J | ⟨rfl,J⟩
   ·left;exact J
   ·exact .inr ⟨rfl,kD O J⟩
theorem sK:∀(a b:Bytes),kl a b=true\/a=b\/kl b a=true
 | [],[]=> .inr (.inl rfl)
 | [],_::_=> .inl rfl
 | _::_,[]=> .inr (.inr rfl)
 | x::a,y::b=>by
  show (decide (x<y) || (x==y && Op.bytesLess a b))=true\/x::a=y::b\/(decide (y<x) || (y==x && Op.bytesLess b a))=true;simp only[kbA,decide_eq_true_eq,kaJ,beq_iff_eq,UInt8.lt_iff_toNat_lt];rcases Nat.lt_trichotomy x.toNat y.toNat with h | h | h
  ·exact .inl<|.inl h
  ·have e:x=y:=UInt8.toNat_inj.1 h;subst e;rcases sK a b with J | J | J
   ·exact .inl<|.inr ⟨rfl,J⟩
   ·exact .inr<|.inl (by rw[J])
   grind
  grind
theorem me {a b}(h:kl a b=true):kl b a=false:=by
 grind[kD,yu]
theorem mL {a b}(h:kl a b=true):a≠b:=λe=>by grind[yu]
theorem wB:∀(a b:Bytes),(Lib.compareBytes a b<0 ↔ kl a b=true)/\(Lib.compareBytes a b=0 ↔ a=b)
 | [],[]=>by simp[Lib.compareBytes,kl,Op.bytesLess]
 | [],_::_=>by simp[Lib.compareBytes,kl,Op.bytesLess]
 | _::_,[]=>by simp[Lib.compareBytes,kl,Op.bytesLess]
 | x::a,y::b=>by
  have J:=wB a b
  grind[Op.bytesLess,Lib.compareBytes]
def srt (l:List ChangeM):Prop:=l.Pairwise λa b=>kl a.key b.key=true
theorem yv k:∀{l:List ChangeM},srt l->∃cB B,l=cB++B/\(∀a∈cB,kl a.key k=true)/\((∃b O,B=b::O/\b.key=k/\∀x∈O,kl k x.key=true)\/∀x∈B,kl k x.key=true)
 | [],_=>⟨[],[],rfl,by simp, .inr (by simp)⟩
 | r::l,h=>by
  have h1:=(kcB.1 h).1;rcases sK r.key k with J | J | J
  ·obtain ⟨cB,B,rfl,hA,R⟩:=yv k (kcB.1 h).2
   grind
  ·exact ⟨[],r::l,rfl,by simp, .inl ⟨r,l,rfl,J,λx hx=>by grind⟩⟩
  ·exact ⟨[],r::l,rfl,by simp, .inr λx hx=>by grind[kD]⟩
def lR (l:List ChangeM)(k:Bytes):Nat:=(l.filter λr=>kl r.key k).length
def u1 (l:List ChangeM)(k:Bytes):Bool:=l.any λr=>decide (r.key=k)
def Gp (l:List ChangeM)(c:ChangeM):List ChangeM:=(l.filter λr=>kl r.key c.key)++(if c.gone then [] else [c])++l.filter λr=>kl c.key r.key
variable {l:List ChangeM}{p:ChangeM->Bool}
theorem CH (h:∀x∈l,p x=true):l.filter p=l:=kb4.2 h
theorem Im (h:∀x∈l,p x=false):l.filter p=[]:=kcC.2 λx hx=>by rw[h x hx];simp
theorem parts {k cB B}(hA:∀a∈cB,kl a.key k=true)(O:(∃b J,B=b::J/\b.key=k/\∀x∈J,kl k x.key=true)\/∀x∈B,kl k x.key=true):
  (cB++B).filter (λr=>kl r.key k)=cB/\lR (cB++B) k=cB.length/\
  ((∃b J,B=b::J/\b.key=k/\u1 (cB++B) k=true/\(cB++B).filter (λr=>kl k r.key)=J)\/(u1 (cB++B) k=false/\(cB++B).filter (λr=>kl k r.key)=B)):=by
 have f1:cB.filter (λr=>kl r.key k)=cB:=CH hA;have f2:cB.filter (λr=>kl k r.key)=[]:=Im λx hx=>me (hA x hx);have X:cB.any (λr=>decide (r.key=k))=false:=kcD.2 λx hx=>(by grind[mL]);rcases O with ⟨b,J,rfl,V,O⟩ | O
 ·have R:(b::J).filter (λr=>kl r.key k)=[]:=Im λx hx=>by
   grind[me]
  grind[CH,lR,u1]
 ·have R:B.filter (λr=>kl r.key k)=[]:=Im λx hx=>me (O x hx);have S:B.filter (λr=>kl k r.key)=B:=CH O
  grind[lR,u1]
variable {r:ChangeM}
theorem MB (h:srt l)k{j}(hr:l[j]? =some r):kl r.key k=true ↔ j<lR l k:=by
 obtain ⟨cB,B,rfl,hA,J⟩:=yv k h
 grind[parts,me]
def Io l k:lR l k<=l.length:=kcE _ _
theorem yw (h:srt l)k:u1 l k=(match l[lR l k]? with | some r=>decide (r.key=k) | none=>false):=by
 obtain ⟨cB,B,rfl,hA,O⟩:=yv k h;obtain ⟨_,S,V⟩:=parts hA O;rw[S,ka1 (kax _),Nat.sub_self];rcases V with ⟨b,J,rfl,R,hi,_⟩ | ⟨hi,_⟩
 ·rw[hi];simp[R]
 ·rw[hi];cases B with
  | nil=>rfl
  | cons b J=>
   grind[u1]
theorem nO (h:srt l)c:Gp l c=if u1 l c.key=true then (if c.gone=true then l.eraseIdx (lR l c.key) else l.set (lR l c.key) c) else (if c.gone=true then l else l.take (lR l c.key)++ [c]++l.drop (lR l c.key)):=by
 obtain ⟨cB,B,rfl,hA,O⟩:=yv c.key h;obtain ⟨S,V,X⟩:=parts hA O;unfold Gp;rw[S,V];rcases X with ⟨b,Y,rfl,Z,hi,J⟩ | ⟨hi,J⟩
 ·rw[hi,J,kaT rfl];by_cases R:c.gone=true
  ·grind
  grind
 ·rw[hi,J,kaU (show ¬(false=true) by simp)];by_cases R:c.gone=true
  ·grind
  grind
theorem Tx (h:srt l)c:srt (Gp l c):=by
 unfold Gp srt;rw[kbx];refine kcF.2 ⟨h.sublist kbU,kcF.2 ⟨by split <;> simp,h.sublist kbU,λa J b O=>?_⟩,λa J b O=>?_⟩
 ·grind
 grind[kD]
theorem Ty l c(h:srt l):(Gp l c).length<=l.length+1:=by
 grind[nO]
def iN (c:ChangeM)(z:Bool×List ChangeM)(r:ChangeM):Bool×List ChangeM:=
 let y:=if (!z.1 && (kl c.key r.key || decide (c.key=r.key)))=true then (true,z.2++ [c]) else z
 if r.key≠c.key then (y.1,y.2++ [r]) else y
def Bf (c:ChangeM)(l:List ChangeM):Bool×List ChangeM:=l.foldl (iN c) (c.gone,[])
def EM (c:ChangeM)(z:Bool×List ChangeM):List ChangeM:=if z.1=true then z.2 else z.2++ [c]
def Qs {c k}(h:l[k]? =some r):Bf c (l.take (k+1))=iN c (Bf c (l.take k)) r:=by
 simp_all[Bf,mc]
theorem MC c:∀(cB:List ChangeM) (z:Bool×List ChangeM),(∀a∈cB,kl a.key c.key=true)->cB.foldl (iN c) z=(z.1,z.2++cB)
 | [],z,_=>by simp
 | a::cB,z,h=>by
  have J:=h a (by simp);have e:iN c z a=(z.1,z.2++ [a]):=by
   grind[iN,me]
  rw[kcG,e,MC c cB _ λx hx=>h x (by simp[hx])];simp
theorem tN c:∀(B:List ChangeM) (l:List ChangeM),(∀a∈B,kl c.key a.key=true)->B.foldl (iN c) (true,l)=(true,l++B)
 | [],z,_=>by simp
 | a::B,z,h=>by
  have J:=h a (by simp);have e:iN c (true,z) a=(true,z++ [a]):=by
   grind[iN,mL]
  rw[kcG,e,tN c B _ λx hx=>h x (by simp[hx])];simp
theorem Tz (h:srt l)c:EM c (Bf c l)=Gp l c:=by
 obtain ⟨cB,B,rfl,hA,J⟩:=yv c.key h;obtain ⟨Y,Z,p3⟩:=parts hA J;unfold Gp Bf;rw[Y,List.foldl_append,MC c cB _ hA];simp only[kby];rcases J with ⟨b,O,rfl,X,J⟩ | J
 ·have R:(cB++b::O).filter (λr=>kl c.key r.key)=O:=by
   grind[u1]
  rw[R,kcG];by_cases V:c.gone=true
  ·simp_all[iN,tN,EM]
  simp_all[iN,tN,EM]
 ·have R:(cB++B).filter (λr=>kl c.key r.key)=B:=by
   grind[me]
  rw[R];by_cases V:c.gone=true
  ·simp_all[tN,EM]
  ·have S:c.gone=false:=(by simpa using V);rw[S,kaU (by simp)];cases B with
   | nil=>simp[EM]
   | cons b O=>
    have X:=J b (by simp);have e:iN c (false,cB) b=(true,cB++ [c]++ [b]):=by grind[iN,mL]
    simp_all[tN,EM]
def cX (l:List ChangeM)(cs:List ChangeM):List ChangeM:=cs.foldl Gp l
def EN {cs:List ChangeM}{k}(h:cs[k]? =some r):cX l (cs.take (k+1))=Gp (cX l (cs.take k)) r:=by
 simp_all[cX,mc]
def Vx:∃fn,Tryz.prog.funcs[271]? =some fn/\(fn.name== "runtime.NumGoroutine")=false/\fn.body.isNone=true/\Extern.findNext fn=none/\Extern.find fn=some Extern.BytealgCompare.compare:=
 ⟨(Tryz.prog.funcs[271]?).get (by kernel_rfl),(kcH _).symm,by kernel_rfl,by kernel_rfl,by kernel_rfl,by kernel_rfl⟩
def KE (a b:Bytes)w:(callFunc 271 [ay a,ay b].toArray).run Tryz.prog w= .ok (.value (I (Lib.compareBytes a b))) w:=by
 obtain ⟨fn,h1,J,O,R,S⟩:=Vx;rw[run_callFunc_extern h1 J O R S];show ((Extern.BytealgCompare.compare #[.string ⟨⟨a⟩⟩, .string ⟨⟨b⟩⟩]).run Tryz.prog w).andThen _=_;rw[Lib.run_compareString]
 rfl
def KF l i:(bI l).take i++((bI l).drop (i+1)).take (l.length - (i+1))=bI (l.eraseIdx i):=by
 simp_all[kcI,bI,kcJ]
def qs l:∀r∈bI l,ones r=true:=λr hr=>by simp only[bI,kbV] at hr;obtain ⟨x,_,rfl⟩:=hr;rfl
def mu l:∀r∈bI l,r.length=3:=λr hr=>by simp only[bI,kbV] at hr;obtain ⟨x,_,rfl⟩:=hr;rfl
def ki (a b:Bytes)F:cqq 245 [ay a,ay b] (F) (R1 (I (Lib.compareBytes a b)) F):=by
 refine Ct.of func245 W 8 ntmps245 (by simp) λw0=>?_;refine A<|T<|A<|C<|C<|gR (Ib (v:=I (Lib.compareBytes a b)) (KE a b) W)<|T ?_;refine am W W ?_;exact rfl
def mM (a b:Bytes)F:cqq 188 [ay a,ay b] (F) (R1 (I (Lib.compareBytes a b)) F):=by
 refine Ct.of func188 W 8 ntmps188 (by simp) λw0=>?_;refine A<|T<|A<|C<|C<|gR (vA call245 (ki a b))<|T ?_;refine am W W ?_;exact rfl
def rW x(k:Bytes)F:cqq 187 [.agg (bg x).toArray,ay k] (F) (R1 (I (Lib.compareBytes x.key k)) F):=by
 refine Ct.of func187 W 9 ntmps187 (by simp) λw0=>?_;refine A<|gI (dw (bg x).toArray) ?_;rintro _ _ ⟨J,rfl,rfl⟩;refine T<|A<|gF 0 XJ W Xx<|gL (ay x.key) XD<|C<|gR (vA call188 (mM x.key k))<|T ?_;refine am W W ?_;exact rfl
def pX l s cap(hl:l.length<=1000000)F:cqq 121 [sl s l.length cap] (roL 3 s (bI l)::F) (uX 174 3 l.length (bI l) (roL 3 s (bI l)::F)):=by
 refine Ct.of func121 W 8 ntmps121 (by simp) λw0=>?_;refine Cc (φ:=s=none->l=[]) (λw V hs=>by
  have h1:=(SlR.ro (sz:=3) (s:=s) (rows:=bI l) (L:=F)).out w0 w V;rcases h1 with h | ⟨b,o,Z,h,_⟩
  ·simpa [bI] using h
  ·rw[hs] at h;cases h) (λJ=>?_)
 refine A<|T<|ac<|A<|C<|M (GG Xy W)<|ab<|ah ?_ ?_<;>intro S
 ·have R:s=none:=(by simpa using S);have O:=J R;subst O;refine aY 174 3 (bI []) ?_;refine A<|T ?_;exact cU rfl rfl rfl rfl
 ·refine ai<|A<|gI (x4 Xy Xw) ?_;rintro _ _ ⟨X,rfl,rfl⟩;refine C<|gI (aR Xy Xw XH Tryz.typeInfo174 (hm:=by exact aT l) (mu l) (qs l) ⟨by omega,by decide,by decide⟩) ?_;rintro _ _ ⟨s7,Y,rfl,rfl⟩;rw[ka9];simp only[kby];refine T ?_;exact cU rfl rfl rfl rfl
def vo l s(cap i:Nat)(hi:i<l.length)(hl:l.length<=1000000)F:cqq 189 [sl s l.length cap,I i,I ((i:Int)+1)] (be 174 3 s cap (bI l)::F) (R1 (sl s (l.length - 1) cap) (be 174 3 s cap (bI (l.eraseIdx i))::F)):=by
 refine Ct.of func189 W 33 ntmps189 (by simp) λw0=>?_;refine mC s λJ=>?_;rw[aT] at J;refine A<|T<|A<|C<|C<|C<|C<|M (aP Xy)<|M (Me (l:=i) (h:=i+1) (q:=l.length) Xy Xw W W W W (by omega) W W (by omega) (by omega) J)<|ab<|ac<|A<|C<|C<|M bE<|ab<|ah ?_ ?_<;>intro O
 ·simp at O;omega
 ·refine ai<|A<|C<|M (aP Xy)<|T<|ac ?_;refine cn (Lf:=F) jD ?_;refine dM W<|dM W<|dV W (lO (h:=i) Xy Xw W W W (by omega))<|dM W<|dM W<|dV W (iG (l:=i+1) Xy Xw W W (by omega) (by omega))<|cQ W (x8 (s:=s) (p:=i+1) Xy Xw (by decide) W W (by unfold At;split;exact .inr (.inr (by omega));exact .inr (.inl W)) (by rw[aT];omega) (by rw[aT];omega) (by rw[aT];omega) (by rw[aT];omega) (qs l)) ?_;rintro _ _ ⟨rfl,rfl⟩;rw[KF];refine dV W ax ?_;refine aN ?_;refine A<|C<|C<|M (aP Xy)<|C<|M (x5 (l:=i+(l.length - (i+1))) (h:=l.length) Xy Xw W W W W W (by omega) J)<|io (nD (sz:=3) (l:=i+(l.length - (i+1))) s Xy XH W W (by unfold At;split;exact .inr (.inr (by omega));exact .inr (.inl W)) (by rw[aT,kcK];split <;> omega) (by omega)) ?_;rintro _ _ ⟨rfl,rfl⟩;refine ab<|A<|C<|T ?_;exact am rfl rfl (by rw[show l.length - 1=i+(l.length - (i+1)) by omega];rfl)
def py l s cap(k:Bytes)(hs:srt l)(hl:l.length<=1000000)F:cqq 186 [sl s l.length cap,ay k, .func (.func 187) #[] #[]] (be 174 3 s cap (bI l)::F) (R1 (.tuple #[I (lR l k),Bo (u1 l k)]) (be 174 3 s cap (bI l)::F)):=by
 refine Ct.of func186 W 49 ntmps186 (by simp) λw0=>?_;refine A<|gA<|T<|A<|C<|M (aP Xy)<|T<|A<|C<|gA<|T<|ac<|ak ?_;refine aL (α:=Nat×Nat) (λz=>z.1<=lR l k/\lR l k<=z.2/\z.2<=l.length) (λz=>U [(0,sl s l.length cap),(1,ay k),(2, .func (.func 187) #[] #[]),(8,I l.length),(9,I z.1),(10,I z.2)]) (λ_=>be 174 3 s cap (bI l)::F) (λz=>z.2 - z.1) (0,l.length) ⟨by simp,Io _ _,kax _⟩ [0,1,2,8,9,10] rfl ?_;rintro ⟨i,j⟩ ⟨hi,hj,Y⟩;simp only[] at hi hj Y ⊢;refine ac<|A<|C<|C<|M aG<|ab<|ah ?_ ?_<;>intro X
 ·simp at X;refine ai<|ak<|ac ?_;have S:(i+j) / 2<l.length:=(by omega);obtain ⟨x,hx⟩:∃x,l[(i+j) / 2]? =some x:=⟨_,kbN S⟩;have V:(i+j) / 2<(bI l).length:=(by rw[aT];exact S);have Z:=MB hs k hx;refine al<|C<|C<|gP<|M (cG XA ZI (sE (by omega)))<|M (lX (r:=(((i+j) / 2:Nat):Int)) (by rw[show min ((1:Int).toNat) IntKind.u64.bits=1 by decide,kck _ (by decide)];omega))<|M (cG ZI XA (cK (by omega)))<|T<|A<|C<|C<|C<|M (av ((i+j) / 2) Xy Xw S V)<|M (bO (row:=bg x) XU Xw (de hx))<|C ?_;refine gI (gc (fi:=[]) (cap:=[]) (Pre:=[]) call187 W W (rW x k)) ?_;rintro _ _ ⟨rfl,rfl⟩;refine M aG<|ab<|ah ?_ ?_<;>intro O
  ·simp at O;refine al<|C<|gP<|T<|aE ?_;exact an ((i+j) / 2+1,j) ⟨by simp only[];have:=Z.1 ((wB _ _).1.1 O);omega,hj,Y⟩ (by simp only[];omega) [0,1,2,8,9,10] rfl
  ·simp at O;refine al<|C<|T<|aE ?_;exact an (i,(i+j) / 2) ⟨hi,by simp only[];rcases ka3 ((i+j) / 2) (lR l k) with h | h;have:=(wB _ _).1.2 (Z.2 h);omega;exact h,by simp only[];omega⟩ (by simp only[];omega) [0,1,2,8,9,10] rfl
 ·simp at X;obtain rfl:i=lR l k:=(by omega);refine aF ?_;refine A<|C<|C<|C<|M aG<|C ?_;by_cases R:lR l k<l.length
  ·obtain ⟨x,hx⟩:∃x,l[lR l k]? =some x:=⟨_,kbN R⟩;have V:lR l k<(bI l).length:=(by rw[aT];exact R);have J:decide ((lR l k:Int)<l.length)=true:=kci (by omega);refine bh (hw:=by exact J) ao<|bh (hw:=by exact J) ao<|bh (hw:=by exact J) ao<|bh (hw:=by exact J) (av (lR l k) Xy Xw R V)<|bh (hw:=by exact J) (bO (row:=bg x) XU Xw (de hx))<|bh (hw:=by exact J) ao ?_;refine wK (hw:=by exact J) (gc (fi:=[]) (cap:=[]) (Pre:=[]) call187 W W (rW x k)) ?_;rintro _ _ ⟨rfl,rfl⟩;refine bh (hw:=by exact J) bE<|M dc<|gA<|T ?_;exact am rfl rfl (by rw[yw hs,hx];show Value.tuple #[I (lR l k),Bo (decide ((lR l k:Int)<l.length) && decide (Lib.compareBytes x.key k=0))]=_;rw[J,kco,decide_eq_decide.2 (wB x.key k).2])
  ·have J:decide ((lR l k:Int)<l.length)=false:=kcj (by omega);refine bi (hw:=by rw[J];rfl)<|bi (hw:=by rw[J];rfl)<|bi (hw:=by rw[J];rfl)<|bi (hw:=by rw[J];rfl)<|bi (hw:=by rw[J];rfl)<|bi (hw:=by rw[J];rfl)<|bi (hw:=by rw[J];rfl)<|bi (hw:=by rw[J];rfl)<|M (fa (hq:=by exact J))<|gA<|T ?_;exact am rfl rfl (by rw[yw hs,kcL (by omega)];rfl)
variable {g gu:Option (Nat×Bool)}{d:Option Tmp}{e t ty:TypeId}{pos:String}{af:Array Edge}{x:Operand}{s:Option Addr}{cap:Nat}
def TA (R:c.P.underlying t=some (.slice e))(hx:ev g E x=some (sl s n cap)):OpV c g E L ⟨d, .call {callee:= .builtin .cap,args:=#[x],argTypes:=#[t]},ty,pos,af,gu⟩ (I cap):= .mk λa w J O S=>by
 simp[execOp,resolve,invoke,builtin,Builtin.cap_,underlying,program,Sem.run,R,J.ev O hx,sl,goInt]
def TB:∃fn,Tryz.prog.funcs[246]? =some fn/\(fn.name== "runtime.NumGoroutine")=false/\fn.body.isNone=true/\Extern.findNext fn=none/\Extern.find fn=some (Extern.SlicesOverlaps.overlaps #[33,33] #[4]):=
 ⟨(Tryz.prog.funcs[246]?).get (by kernel_rfl),(kcH _).symm,by kernel_rfl,by kernel_rfl,by kernel_rfl,by kernel_rfl⟩
def G9 {w0 w R O b1 J c1 c2 l1 l2 n1 n2 p r1 r2}[R1:Rem L (be 174 3 (some ⟨b1,0,none⟩) c1 r1) R][R2:Rem R (be 174 3 (some ⟨J,0,none⟩) c2 r2) O](h0:0<r2.length)(hS:Sat w0 w L):
  (callFunc 246 [sl (some ⟨b1,0,none⟩) l1 n1,sl (some ⟨J,p,none⟩) l2 n2].toArray).run Tryz.prog w= .ok (.value (Bo false)) w:=by
 obtain ⟨fn,h1,Y,Z,h4,h5⟩:=TB;have S:=R1.sat hS;have r3:Rem (be 174 3 (some ⟨b1,0,none⟩) c1 r1::R) (be 174 3 (some ⟨J,0,none⟩) c2 r2) (be 174 3 (some ⟨b1,0,none⟩) c1 r1::O):=inferInstance;have V:=r3.sat S;have r4:Rem (be 174 3 (some ⟨J,0,none⟩) c2 r2::be 174 3 (some ⟨b1,0,none⟩) c1 r1::O) (be 174 3 (some ⟨b1,0,none⟩) c1 r1) (be 174 3 (some ⟨J,0,none⟩) c2 r2::O):=inferInstance;have X:=r4.sat V;rw[run_callFunc_extern h1 Y Z h4 h5];have:=Qh (P:=Tryz.prog) (t:=33) (tR:=4) (l1:=l1) (l2:=l2) (n1:=n1) (n2:=n2) (p:=p) Xy Xw (by decide) h0 X;show ((Extern.SlicesOverlaps.overlaps _ _ #[.slice (some ⟨b1,0,none⟩) l1 n1, .slice (some ⟨J,p,none⟩) l2 n2]).run Tryz.prog w).andThen _=_;rw[this]
 rfl
def yx (l:List ChangeM)(i:Nat)(c:ChangeM):List ChangeM:=l.take i++ [c]++l.drop i
theorem xr a b:bI (a++b)=bI a++bI b:=by simp[bI]
theorem yy a i:bI (a.take i)=(bI a).take i:=by simp[bI]
theorem yz a i:bI (a.drop i)=(bI a).drop i:=by simp[bI]
theorem Vy {α:Type}cB R(y x:α):(cB++y::R).take cB.length++ [x]++(cB++y::R).drop (cB.length+1)=cB++x::R:=by
 simp_all
theorem WQ {α:Type}(P R X:List α)(h:X.length=R.length):(P++R).take P.length++X.take R.length++(P++R).drop (P.length+R.length)=P++X:=by
 grind
variable {c:ChangeM}{q:Nat}{z:List Value}
theorem WR (hi:i<=l.length)(hq:Nat.min 1 q=1):((bI l).take i++List.replicate (l.length+1 - i) z).take i++([bg c].drop 0).take (Nat.min 1 q)++((bI l).take i++List.replicate (l.length+1 - i) z).drop (i+Nat.min 1 q)=bI (l.take i++ [c])++List.replicate (l.length - i) z:=by
 rw[hq];have h1:((bI l).take i).length=i:=(by rw[kbq,aT];omega);have J:List.replicate (l.length+1 - i) z=z::List.replicate (l.length - i) z:=by rw[show l.length+1 - i=(l.length - i)+1 by omega];rfl
 grind[Vy,bI,yy]
theorem WS (hi:i<=l.length){m}(hm:Nat.min m q=l.length - i):(bI (l.take i++ [c])++List.replicate (l.length - i) z).take (i+1)++((bI l).drop i).take (Nat.min m q)++(bI (l.take i++ [c])++List.replicate (l.length - i) z).drop (i+1+Nat.min m q)=bI (yx l i c):=by
 rw[hm];have h1:(bI (l.take i++ [c])).length=i+1:=(by rw[aT];simp;omega);have J:=WQ (bI (l.take i++ [c])) (List.replicate (l.length - i) z) ((bI l).drop i) (by rw[kcM,aT,kbQ]);rw[h1,kbQ] at J
 grind[yx,xr,yz]
variable {g:List Value}
theorem yA (hi:i<=l.length):((bI l++ [g]).drop i).take (l.length - i)=(bI l).drop i:=by
 grind[aT]
theorem WT (hi:i<l.length){m}(hm:Nat.min m q=l.length - i):(bI l++ [g]).take (i+1)++((bI l++ [g]).drop i).take (Nat.min m q)++(bI l++ [g]).drop (i+1+Nat.min m q)=bI (l.take (i+1)++l.drop i):=by
 rw[hm];have J:(bI l++ [g]).take (i+1)=(bI l).take (i+1):=kbI (by rw[aT];omega);have O:=yA (l:=l) (i:=i) (by omega) (g:=g);have R:(bI l++ [g]).drop (i+1+(l.length - i))=[]:=kbP (by grind)
 grind[xr,yy,yz]
theorem WU (hi:i<l.length)(hq:Nat.min 1 q=1):(bI (l.take (i+1)++l.drop i)).take i++([bg c].drop 0).take (Nat.min 1 q)++(bI (l.take (i+1)++l.drop i)).drop (i+Nat.min 1 q)=bI (yx l i c):=by
 rw[hq,<-yy,<-yz];have h1:(l.take (i+1)).length=i+1:=(by grind);have J:(l.take (i+1)++l.drop i).take i=l.take i:=by
  grind
 have O:(l.take (i+1)++l.drop i).drop (i+1)=l.drop i:=List.drop_left' h1;rw[J,O];unfold yx;rw[xr _ (l.drop i),xr]
 rfl
def vp l c s(cap Z i:Nat)(hi:i<=l.length)(hl:l.length<=1000)F:cqq 190 [sl s l.length cap,I i,sl (some ⟨Z,0,none⟩) 1 1] (be 174 3 s cap (bI l)::be 174 3 (some ⟨Z,0,none⟩) 1 [bg c]::F) (uX 174 3 (l.length+1) (bI (yx l i c)) F):=by
 refine Ct.of func190 W 95 ntmps190 (by simp) λw0=>?_;refine mC s λX=>?_;rw[aT] at X;refine A<|T<|A<|C<|C<|M (iG (l:=i) Xy Xw W W (by omega) (by omega))<|ab<|A<|C<|M (aP Xy)<|T<|ac<|A<|C<|M bE<|ab<|ah ?_ ?_<;>intro h16
 ·simp at h16
 ·refine ai<|A<|C<|M (aP Xy)<|T<|ac<|A<|C<|C<|M bE<|ab<|ah ?_ ?_<;>intro R
  ·simp at R;refine A<|C<|C<|gI (aR Xy Xw XH Tryz.typeInfo174 (hn:=by exact aT l) (by simp[bg]) (by simp[bg,ones,one]) ⟨by omega,by decide,by decide⟩) ?_;rintro _ _ ⟨s25,c25,rfl,rfl⟩;rw[show bI l++ [bg c]=bI (yx l i c) by unfold yx;rw[show i=l.length by omega];simp[bI]];refine T ?_;exact cU rfl rfl rfl rfl
  ·simp at R;refine ai<|ac<|A<|C<|C<|gP<|C<|M (TA Xy W)<|M aQ<|ab<|ah ?_ ?_<;>intro S
   ·simp at S;refine A<|C<|C<|M (lO (h:=i) Xy Xw W W W (by omega))<|C<|C<|gP<|C<|M (eG (cK (by omega)))<|gI (vc (m:=l.length+1 - i) Xy XA Xw XH W Tryz.typeInfo174 (by decide) W W (by omega) (by rw[aT];exact hi) (mu l) (by omega) (by omega) ⟨by omega,by decide,by decide⟩) ?_;rintro _ _ ⟨O,c40,rfl,rfl⟩;refine mC (some ⟨O,0,none⟩) λV=>?_;rw[kcp,kbq,aT,kbQ] at V;refine T<|A<|C<|C<|M (iG (l:=i) Xy Xw W W (by omega) (by omega))<|C ?_;refine gR (sC (s:=(some ⟨O,0,none⟩)) (s2:=(some ⟨Z,0,none⟩)) (l:=i) (p:=0) Xy Xw (by decide) W W (by unfold At;split;exact .inr<|.inr (by omega);exact .inr<|.inl W) (.inl ⟨rfl,rfl⟩) (by simp[bI];omega) (by simp) (by simp[bg]) (by simp[bg,ones,one])) ?_;refine kw (some ⟨O,0,none⟩) (bI (l.take i++ [c])++List.replicate (l.length - i) (bg AX)) (WR hi (by show min _ _=_;omega)) ?_;refine ab<|ac ?_;refine cn (Lf:=F) jE ?_;refine dM W<|dM W<|dM W<|dV W (bx (cK (by omega)))<|dV W (iG (l:=i+1) Xy Xw W W (by omega) (by omega))<|dM W<|dM W<|dV W (iG (l:=i) Xy Xw W W (by omega) (by omega)) ?_;refine cQ W (sC (s:=(some ⟨O,0,none⟩)) (s2:=s) (l:=i+1) (p:=i) Xy Xw (by decide) W W (by unfold At;split;exact .inr<|.inr (by omega);exact .inr<|.inl W) (by unfold At;split;exact .inr<|.inr (by omega);exact .inr<|.inl W) (by simp[bI];omega) (by rw[aT];omega) (mu l) (qs l)) ?_;rintro _ _ ⟨rfl,rfl⟩;refine kw (some ⟨O,0,none⟩) (bI (yx l i c)) (WS hi (by show min _ _=_;omega)) ?_;refine aN ?_;refine A<|C<|T ?_;exact cU rfl rfl rfl (by omega)
   ·simp at S;refine ai<|ac ?_;have Y:i<l.length:=(by omega);have J:Nat.min (l.length+1 - i) (l.length+1 - (i+1))=l.length - i:=(by show min _ _=_;omega);refine Tj s (by rw[aT];omega) ?_;rintro b rfl;refine al<|C<|C<|C<|gP<|M (lO (h:=l.length+1) Xy Xw W W (by omega) (by omega))<|T<|ac<|A<|C<|C<|C<|C<|gP<|M (iG (l:=i+1) Xy Xw W W (by omega) (by omega)) ?_;rw[kaU (show ¬cap=i+1 by omega),show ((some (⟨b,0,none⟩:Addr)).map (·.add ((i+1)*3)))=some ⟨b,0+(i+1)*3,none⟩ from kay some (gi _ _ _)];refine gR (Mh (v:=Bo false) (λw hS=>G9 (c1:=1) (r1:=[bg c]) (c2:=cap) (r2:=bI l) (by rw[aT];omega) hS) W)<|M cS<|ab ?_;apply ah<;>intro h68
    ·refine ac ?_;refine Mg (some ⟨b,0,none⟩) (by rw[aT];omega) ?_;intro gr hgr;refine cn (Lf:=F) jE ?_;refine dM W<|dM W<|dM W<|dV W (bx (cK (by omega)))<|dV W (iG (l:=i+1) Xy Xw W W (by omega) (by omega))<|dM W<|dM W<|dV W (iG (l:=i) Xy Xw W W (by omega) (by omega))<|cQ W (Qe (s:=(some ⟨b,0,none⟩)) (s2:=(some ⟨b,0,none⟩)) (l:=i+1) (p:=i) Xy Xw (by decide) W W (by unfold At;split;exact .inr (.inr (by omega));exact .inr (.inl W)) (by unfold At;split;exact .inr (.inr (by omega));exact .inr (.inl W)) (by rw[J,kcp,aT];simp;omega) (by rw[J,kcp,aT];simp;omega) (by rw[J,yA (by omega)];exact λr hr=>mu l r (kbt hr)) (by rw[J,yA (by omega)];exact λr hr=>qs l r (kbt hr))) ?_;rintro _ _ ⟨rfl,rfl⟩;refine kw (some ⟨b,0,none⟩) (bI (l.take (i+1)++l.drop i)) (WT Y J) ?_;refine aN ?_;refine A<|C<|C<|M (iG (l:=i) Xy Xw W W (by omega) (by omega))<|C ?_;refine gR (sC (s:=(some ⟨b,0,none⟩)) (s2:=(some ⟨Z,0,none⟩)) (l:=i) (p:=0) Xy Xw (by decide) W W (by unfold At;split;exact .inr<|.inr (by omega);exact .inr<|.inl W) (.inl ⟨rfl,rfl⟩) (by simp[bI];omega) (by simp) (by simp[bg]) (by simp[bg,ones,one])) ?_;refine kw (some ⟨b,0,none⟩) (bI (yx l i c)) (WU Y (by show min _ _=_;omega)) ?_;refine ab<|A<|C<|T ?_;exact cU rfl rfl rfl rfl
    ·simp at h68
theorem rc (h:srt l):∀cs:List ChangeM,srt (cX l cs)/\(cX l cs).length<=l.length+cs.length:=by
 intro cs
 induction cs generalizing l with
 | nil=>exact ⟨h,by simp[cX]⟩
 | cons c cs J=>
  grind[Tx,Ty,cX]
theorem Ss (h:srt l){k}(hi:u1 l k=true):lR l k<l.length:=by
 grind[yw]
variable {z:Bool×List ChangeM}
theorem Qt (h:(!z.1 && (kl c.key r.key || decide (c.key=r.key)))=true)(J:r.key≠c.key):iN c z r=(true,z.2++ [c]++ [r]):=by grind[iN]
theorem Qu (h:(!z.1 && (kl c.key r.key || decide (c.key=r.key)))=true)(J:¬r.key≠c.key):iN c z r=(true,z.2++ [c]):=by grind[iN]
theorem Qv (h:¬(!z.1 && (kl c.key r.key || decide (c.key=r.key)))=true)(J:r.key≠c.key):iN c z r=(z.1,z.2++ [r]):=by grind[iN]
theorem Qw (h:¬(!z.1 && (kl c.key r.key || decide (c.key=r.key)))=true)(J:¬r.key≠c.key):iN c z r=z:=by grind[iN]
theorem MD c:∀(l:List ChangeM) (z:Bool×List ChangeM),(l.foldl (iN c) z).2.length<=z.2.length+2*l.length
 | [],z=>by simp
 | r::l,z=>by
  have h1:=MD c l (iN c z r)
  grind[iN]
def re a x:bI a++ [bg x]=bI (a++ [x]):=by simp[bI]
def pz l cs s s' cap Z(hs:srt l)(hl:l.length<=400)(hc:cs.length<=100)F:cqq 117 [sl s l.length cap,sl s' cs.length Z] (roL 3 s (bI l)::roL 3 s' (bI cs)::F) (uX 174 3 (cX l cs).length (bI (cX l cs)) (roL 3 s (bI l)::roL 3 s' (bI cs)::F)):=by
 refine Ct.of func117 W 52 ntmps117 (by simp) λw0=>?_;refine A<|T<|A<|C<|gI (uB call121 (pX l s cap (by omega))) ?_;rintro _ _ ⟨s10,c10,rfl,rfl⟩;show G _ _ _ (be 174 3 s10 c10 (bI (cX l (cs.take 0)))::roL 3 s (bI l)::roL 3 s' (bI cs)::F);refine T<|ac<|A<|C<|M (aP Xy)<|C<|ab<|ak ?_;refine aL (α:=Nat×Option Addr×Nat) (λz=>z.1<=cs.length) (λz=>U [(0,sl z.2.1 (cX l (cs.take z.1)).length z.2.2),(11,sl s' cs.length Z),(12,I cs.length),(13,I z.1)]) (λz=>be 174 3 z.2.1 z.2.2 (bI (cX l (cs.take z.1)))::roL 3 s (bI l)::roL 3 s' (bI cs)::F) (λz=>cs.length - z.1) (0,s10,c10) (by simp) [0,11,12,13] rfl ?_;rintro ⟨k,sA,cA⟩ hk;simp only[] at hk ⊢;refine A<|M aG<|ab<|ac<|ah ?_ ?_<;>intro h14
 ·simp at h14;have hin:k<cs.length:=(by omega);obtain ⟨x,hx⟩:∃x,cs[k]? =some x:=⟨_,kbN hin⟩;have hir:k<(bI cs).length:=(by rw[aT];exact hin);have S:=EN (l:=l) hx;have J:=(rc hs (cs.take k)).1;have hRl:=(rc hs (cs.take k)).2;rw[kbq] at hRl;generalize hRd:cX l (cs.take k)=R at*;refine ai<|ac<|ak<|A<|M (av k Xy Xw hin hir)<|M (bO (row:=bg x) XU Xw (de hx))<|gI (aO #[ay [],ay [],Bo false] XH) ?_;rintro _ _ ⟨b6,rfl,rfl⟩;refine gU (az (cs:=#[ay [],ay [],Bo false]) (vs:=bg x) (bg x).toArray Xw (by decide) (hcs:=by exact bG))<|ab<|A<|C<|gF 0 XJ W Xx<|gL (ay x.key) XD<|gR (vB call186 (py R sA cA x.key J (by omega)))<|C<|gX (I (lR R x.key))<|gX (Bo (u1 R x.key))<|gA<|T<|ak<|A<|C<|C<|gK (aw 2 XJ W XL)<|gK (aA (v:=Bo x.gone) Yp)<|M dc<|T<|ah ?_ ?_<;>intro O
  ·simp at O;have V:=Ss J O.1;refine al<|C<|C<|C<|gP<|gR (vB call189 (vo R sA cA (lR R x.key) V (by omega)))<|T<|aE<|aE<|al<|gP<|C<|ab ?_;rw[show R.length - 1=(cX l (cs.take (k+1))).length by rw[S,nO J,kaT O.1,kaT O.2];rw[kcK,kaT V],show R.eraseIdx (lR R x.key)=cX l (cs.take (k+1)) by rw[S,nO J,kaT O.1,kaT O.2]];exact an (k+1,sA,cA) (by simp only[];omega) (by simp only[];omega) [0,11,12,13] rfl
  ·simp at O;refine A<|C<|T<|ah ?_ ?_<;>intro X
   ·have V:=Ss J X;have Y:¬x.gone=true:=(by simp[O X]);refine al<|C<|C<|M (bj (vs:=bg x) XU Xw bM)<|M (av (lR R x.key) Xy Xw V (by rw[aT];exact V))<|io (ve (vs:=bg x) Xw W W W W (by rw[aT];exact V) (by decide)) ?_;rintro _ _ rfl;rw[show (bI R).set (lR R x.key) (bg x)=bI (R.set (lR R x.key) x) by simp[bI,kbj]];refine ab<|aE<|aE<|al<|gP<|C<|ab ?_;rw[show R.length=(cX l (cs.take (k+1))).length by rw[S,nO J,kaT X,kaU Y];rw[kbO],show R.set (lR R x.key) x=cX l (cs.take (k+1)) by rw[S,nO J,kaT X,kaU Y]];exact an (k+1,sA,cA) (by simp only[];omega) (by simp only[];omega) [0,11,12,13] rfl
   ·have hni:¬u1 R x.key=true:=(by rw[X];simp);refine A<|gF 2 XJ W XL<|gL (Bo x.gone) Yp<|M cS<|T<|ah ?_ ?_<;>intro h41
    ·have Y:¬x.gone=true:=(by simpa using h41);have hlb:=Io R x.key;refine al<|C<|C<|M (bj (vs:=bg x) XU Xw bM)<|gI (ap [bg x] Xy Xw XH (by simp[bg])) ?_;rintro _ _ ⟨b48,rfl,rfl⟩;refine gI (uC call190 (vp R x sA cA b48 (lR R x.key) (Io _ _) (by omega))) ?_;rintro _ _ ⟨s49,c49,rfl,rfl⟩;refine T<|aE<|aE<|al<|gP<|C<|ab ?_;rw[show R.length+1=(cX l (cs.take (k+1))).length by rw[S,nO J,kaU hni,kaU Y];simp[yx];omega,show yx R (lR R x.key) x=cX l (cs.take (k+1)) by rw[S,nO J,kaU hni,kaU Y];rfl];exact an (k+1,s49,c49) (by simp only[];omega) (by simp only[];omega) [0,11,12,13] rfl
    ·simp at h41;refine ai<|aE<|aE<|al<|gP<|C<|ab ?_;rw[show R=cX l (cs.take (k+1)) by rw[S,nO J,kaU hni,kaT h41]];exact an (k+1,sA,cA) (by simp only[];omega) (by simp only[];omega) [0,11,12,13] rfl
 ·simp at h14;obtain rfl:k=cs.length:=(by omega);rw[kbl];refine aF ?_;refine A<|C<|T ?_;exact cU rfl rfl rfl rfl
def CI l cs s s' cap Z(hs:srt l)(hl:l.length<=400)(hc:cs.length<=100)F:cqq 107 [sl s l.length cap,sl s' cs.length Z] (roL 3 s (bI l)::roL 3 s' (bI cs)::F) (uX 174 3 (cX l cs).length (bI (cX l cs)) (roL 3 s (bI l)::roL 3 s' (bI cs)::F)):=by
 refine Ct.of func107 W 80 ntmps107 (by simp) λw0=>?_;refine A<|T<|ac ?_;refine aY 174 3 [] ?_;refine al<|C<|gI (aR Xy Xw XH Tryz.typeInfo174 (hm:=by exact aT l) (mu l) (qs l) ⟨by omega,by decide,by decide⟩) ?_;rintro _ _ ⟨s11,c11,rfl,rfl⟩;rw[ka9];simp only[kby];show G _ _ _ (be 174 3 s11 c11 (bI (cX l (cs.take 0)))::roL 3 s (bI l)::roL 3 s' (bI cs)::F);refine T<|ac<|A<|T<|ak ?_;refine aL (α:=Nat×Option Addr×Nat) (λz=>z.1<=cs.length) (λz=>U [(1,sl s' cs.length Z),(5,sl z.2.1 (cX l (cs.take z.1)).length z.2.2),(6,I z.1)]) (λz=>be 174 3 z.2.1 z.2.2 (bI (cX l (cs.take z.1)))::roL 3 s (bI l)::roL 3 s' (bI cs)::F) (λz=>cs.length - z.1) (0,s11,c11) (by simp) [1,5,6] rfl ?_;rintro ⟨k,sA,cA⟩ hk;simp only[] at hk ⊢;refine ac<|A<|C<|C<|M (aP Xy)<|M aG<|ab<|ah ?_ ?_<;>intro h15
 ·simp at h15;have V:k<cs.length:=(by omega);obtain ⟨x,hx⟩:∃x,cs[k]? =some x:=⟨_,kbN V⟩;have O:k<(bI cs).length:=(by rw[aT];exact V);have hnx:=EN (l:=l) hx;have hRs:=(rc hs (cs.take k)).1;have hRl:=(rc hs (cs.take k)).2;rw[kbq] at hRl;generalize hRd:cX l (cs.take k)=R at*;refine ai<|ac<|ak<|A<|T<|A<|C<|C<|M (av k Xy Xw V O)<|M (aK (j:=k) 2 XJ W XL O)<|M (bS (v:=Bo x.gone) Yp (de hx))<|T<|ac<|ac ?_;refine aY 174 3 (bI (Bf x (R.take 0)).2) ?_;rw[show x.gone=(Bf x (R.take 0)).1 from rfl];refine al<|T<|ak ?_;refine aL (α:=Nat×Option Addr×Nat) (λy=>y.1<=R.length) (λy=>U [(1,sl s' cs.length Z),(5,sl sA R.length cA),(6,I k),(7,sl y.2.1 (Bf x (R.take y.1)).2.length y.2.2),(8,Bo (Bf x (R.take y.1)).1),(9,I y.1)]) (λy=>be 174 3 y.2.1 y.2.2 (bI ((Bf x (R.take y.1)).2))::be 174 3 sA cA (bI (R))::roL 3 s (bI l)::roL 3 s' (bI cs)::F) (λy=>R.length - y.1) (0,none,0) (by simp) [1,5,6,7,8,9] rfl ?_;rintro ⟨j,sN,cN⟩ hj;simp only[] at hj ⊢;have hN:=MD x (R.take j) (x.gone,[]);rw[kbq] at hN;change (Bf x (R.take j)).2.length<=0+_ at hN;refine ac<|A<|C<|C<|M (aP Xy)<|M aG<|ab<|ah ?_ ?_<;>intro h26
  ·simp at h26;have Y:j<R.length:=(by omega);obtain ⟨r,hr⟩:∃r,R[j]? =some r:=⟨_,kbN Y⟩;have X:j<(bI R).length:=(by rw[aT];exact Y);have hst:=Qs (c:=x) hr;generalize Bf x (R.take j)=z at*;refine ai<|ac<|ak<|ac<|ac ?_;refine dy jL ?_;refine dM W<|dV W cS<|dM W<|dJ W ao<|dJ W ao<|dJ W (av k Xy Xw V O)<|dJ W (aK (j:=k) 0 XJ W Xx O)<|dJ W (bS (v:=ay x.key) XD (de hx))<|dJ W ao<|dJ W ao<|dJ W (av j Xy Xw Y X)<|dJ W (aK (j:=j) 0 XJ W Xx X)<|dJ W (bS (v:=ay r.key) XD (de hr))<|dJ W (LS W W)<|dV W dc ?_;refine aN<|ah ?_ ?_<;>intro h43
   ·refine A<|C<|C<|C<|M (av k Xy Xw V O)<|M (bO (row:=bg x) XU Xw (de hx))<|gI (ap [bg x] Xy Xw XH (by simp[bg])) ?_;rintro _ _ ⟨b49,rfl,rfl⟩;refine gI (aR Xy Xw XH Tryz.typeInfo174 (hn:=by exact aT _) (by simp[bg]) (by simp[bg,ones,one]) ⟨by omega,by decide,by decide⟩) ?_;rintro _ _ ⟨s50,c50,rfl,rfl⟩;rw[re];refine T<|al<|T<|ac ?_;refine dy jG ?_;refine dM W<|dM W<|dV W (av j Xy Xw Y X)<|dV W (aK (j:=j) 0 XJ W Xx X)<|dV W (bS (v:=ay r.key) XD (de hr))<|dM W<|dM W<|dV W (av k Xy Xw V O)<|dV W (aK (j:=k) 0 XJ W Xx O)<|dV W (bS (v:=ay x.key) XD (de hx))<|dV W lN ?_;refine aN<|ah ?_ ?_<;>intro J
    ·simp at J;have J:r.key≠x.key:=J;refine al<|C<|C<|C<|M (av j Xy Xw Y X)<|M (bO (row:=bg r) XU Xw (de hr))<|gI (ap [bg r] Xy Xw XH (by simp[bg])) ?_;rintro _ _ ⟨b67,rfl,rfl⟩;refine gI (aR Xy Xw XH Tryz.typeInfo174 (hn:=by simp[bI]) (by simp[bg]) (by simp[bg,ones,one]) ⟨by omega,by decide,by decide⟩) ?_;rintro _ _ ⟨s68,c68,rfl,rfl⟩;rw[re];refine T<|aE<|al<|C<|gP<|T ?_;have S:Bf x (R.take (j+1))=_:=hst.trans (Qt h43 J);rw[show z.2++ [x]++ [r]=(Bf x (R.take (j+1))).2 by rw[S]];exact an (j+1,s68,c68) (by simp only[];omega) (by simp only[];omega) [1,5,6,7,8,9] rfl (he:=by rw[S] <;> simp[U])
    ·simp at J;have h61':¬r.key≠x.key:=λhh=>hh J;refine ai<|aE<|al<|C<|gP<|T ?_;have S:Bf x (R.take (j+1))=_:=hst.trans (Qu h43 h61');rw[show z.2++ [x]=(Bf x (R.take (j+1))).2 by rw[S]];exact an (j+1,s50,c50) (by simp only[];omega) (by simp only[];omega) [1,5,6,7,8,9] rfl (he:=by rw[S] <;> simp[U])
   ·have h43':¬(!z.1 && (kl x.key r.key || decide (x.key=r.key)))=true:=(by rw[h43];simp);refine ai<|ac ?_;refine dy jG ?_;refine dM W<|dM W<|dV W (av j Xy Xw Y X)<|dV W (aK (j:=j) 0 XJ W Xx X)<|dV W (bS (v:=ay r.key) XD (de hr))<|dM W<|dM W<|dV W (av k Xy Xw V O)<|dV W (aK (j:=k) 0 XJ W Xx O)<|dV W (bS (v:=ay x.key) XD (de hx))<|dV W lN ?_;refine aN<|ah ?_ ?_<;>intro J
    ·simp at J;have J:r.key≠x.key:=J;refine al<|C<|C<|C<|M (av j Xy Xw Y X)<|M (bO (row:=bg r) XU Xw (de hr))<|gI (ap [bg r] Xy Xw XH (by simp[bg])) ?_;rintro _ _ ⟨b67,rfl,rfl⟩;refine gI (aR Xy Xw XH Tryz.typeInfo174 (hn:=by simp[bI]) (by simp[bg]) (by simp[bg,ones,one]) ⟨by omega,by decide,by decide⟩) ?_;rintro _ _ ⟨s68,c68,rfl,rfl⟩;rw[re];refine T<|aE<|al<|C<|gP<|T ?_;have S:Bf x (R.take (j+1))=_:=hst.trans (Qv h43' J);rw[show z.2++ [r]=(Bf x (R.take (j+1))).2 by rw[S]];exact an (j+1,s68,c68) (by simp only[];omega) (by simp only[];omega) [1,5,6,7,8,9] rfl (he:=by rw[S] <;> simp[U])
    ·simp at J;have h61':¬r.key≠x.key:=λhh=>hh J;refine ai<|aE<|al<|C<|gP<|T ?_;rw[show z=Bf x (R.take (j+1)) by rw[hst,Qw h43' h61']];exact an (j+1,sN,cN) (by simp only[];omega) (by simp only[];omega) [1,5,6,7,8,9] rfl
  ·simp at h26;obtain rfl:j=R.length:=(by omega);have hA:=Tz hRs x;rw[kbl] at hN ⊢;generalize Bf x R=z at*;refine aF ?_;refine ac<|A<|C<|M cS<|ab<|ah ?_ ?_<;>intro h70
   ·simp at h70;have hE1:cX l (cs.take (k+1))=z.2++ [x]:=(by rw[hnx,<-hA];unfold EM;rw[kaU (by rw[h70];simp)]);refine al<|C<|C<|C<|M (av k Xy Xw V O)<|M (bO (row:=bg x) XU Xw (de hx))<|gI (ap [bg x] Xy Xw XH (by simp[bg])) ?_;rintro _ _ ⟨b76,rfl,rfl⟩;refine gI (aR Xy Xw XH Tryz.typeInfo174 (hn:=by exact aT _) (by simp[bg]) (by simp[bg,ones,one]) ⟨by omega,by decide,by decide⟩) ?_;rintro _ _ ⟨s77,c77,rfl,rfl⟩;rw[re];refine T<|al<|C<|T<|aE<|al<|C<|gP<|T ?_;rw[show z.2.length+1=(cX l (cs.take (k+1))).length by rw[hE1];simp,show z.2++ [x]=cX l (cs.take (k+1)) from hE1.symm];exact an (k+1,s77,c77) (by simp only[];omega) (by simp only[];omega) [1,5,6] rfl
   ·simp at h70;have hE1:cX l (cs.take (k+1))=z.2:=(by rw[hnx,<-hA];unfold EM;rw[kaT h70]);refine ai<|al<|C<|T<|aE<|al<|C<|gP<|T ?_;rw[show z.2=cX l (cs.take (k+1)) from hE1.symm];exact an (k+1,sN,cN) (by simp only[];omega) (by simp only[];omega) [1,5,6] rfl
 ·simp at h15;obtain rfl:k=cs.length:=(by omega);rw[kbl];refine aF ?_;refine A<|C<|T ?_;exact cU rfl rfl rfl rfl
end Go.Proofs.YthdjckbjjfiopabGreatDoor
namespace Go.Proofs.YthdjckbjjfiopabGreatDoor
open Go.Sl Go.Proofs
structure HdM where
 ep:Nat
 side:Nat
 size:Nat
 first:Nat
deriving DecidableEq
def HdM.no:HdM:=⟨0,0,0,0⟩
abbrev cO (h:HdM):List Value:=[I h.ep,I h.side,I h.size,I h.first]
def dt (h:HdM):Bytes:=[72]++bC h.ep++bC h.side++bC h.size++bC h.first
def TD (s:Bytes):Nat:=(sk s 0).toNat+2 ^ 8*(sk s 1).toNat+2 ^ 16*(sk s 2).toNat+2 ^ 24*(sk s 3).toNat
def eI (s:Bytes):HdM:=⟨TD ((s.take 5).drop 1),TD ((s.take 9).drop 5),TD ((s.take 13).drop 9),TD ((s.take 17).drop 13)⟩
def mf (s:Bytes):Prop:=sk s 0≠72\/1<(eI s).side\/4800<(eI s).size\/(eI s).first<1
instance (s:Bytes):Decidable (mf s):=by unfold mf;infer_instance
def dU (s:Bytes):HdM:=if mf s then HdM.no else eI s
def Ip (x:UInt8):x.toNat<256:=x.toNat_lt
theorem EO {n}(h:n<4294967296):TD (bC n)=n:=by
 grind[TD,bC,sk,UInt8.toNat_ofNat']
theorem vq h:(dt h).length=17:=by simp[dt,bC]
theorem KG {h}(h1:h.ep<4294967296)(R:h.side<4294967296)(S:h.size<4294967296)(V:h.first<4294967296):eI (ca (dt h))=h/\sk (ca (dt h)) 0=72:=by
 have e:ca (dt h)=72::(bC h.ep++(bC h.side++(bC h.size++(bC h.first++jq (80 - (dt h).length))))):=by
  unfold ca dt;simp
 rw[e];generalize jq (80 - (dt h).length)=z;have l:∀n,(bC n).length=4:=λn=>rfl;refine ⟨?_,rfl⟩;unfold eI;have f1:(List.drop 1 (List.take 5 (72::(bC h.ep++(bC h.side++(bC h.size++(bC h.first++z)))))))=bC h.ep:=(by simp[bC]);have f2:(List.drop 5 (List.take 9 (72::(bC h.ep++(bC h.side++(bC h.size++(bC h.first++z)))))))=bC h.side:=(by simp[bC]);have J:(List.drop 9 (List.take 13 (72::(bC h.ep++(bC h.side++(bC h.size++(bC h.first++z)))))))=bC h.size:=(by simp[bC]);have O:(List.drop 13 (List.take 17 (72::(bC h.ep++(bC h.side++(bC h.size++(bC h.first++z)))))))=bC h.first:=by simp[bC]
 simp_all[EO]
def yB {h}(h1:h.ep<4294967296)(J:h.side<=1)(O:h.size<=4800)(R:1<=h.first/\h.first<4294967296):dU (ca (dt h))=h:=by
 grind[KG,dU,mf]
def yC (r:ChangeM):Bytes:=[UInt8.ofNat r.key.length,UInt8.ofNat r.val.length,UInt8.ofNat (r.val.length / 256)]++r.key++r.val
def bP (l:List ChangeM):Bytes:=l.flatMap yC
def CJ (r:ChangeM):Prop:=d7 r=0/\r.gone=false
def xt {r}(h:CJ r):(yC r).length<=59/\4<=(yC r).length:=by
 obtain ⟨hk,_,h1,J⟩:=qW h.1;unfold yC;have:r.key.length≠0:=λe=>hk (kbb.1 e);simp;omega
theorem mN:∀{l:List ChangeM},(∀r∈l,CJ r)->(bP l).length<=59*l.length
 | [],_=>by simp[bP]
 | r::l,h=>by
  have h1:=xt (h r (by simp));have J:=mN (l:=l) λx hx=>h x (kcn _ hx)
  grind[bP]
theorem KH r l:bP (r::l)=yC r++bP l:=rfl
def KJ l r:bP (l++ [r])=bP l++yC r:=by simp[bP]
variable {l:List ChangeM}
theorem ME {r}(h:srt (l++ [r]))(hr:r.gone=false):Gp l r=l++ [r]:=by
 have h1:=kcF.1 h
 grind[Gp,CH,Im,me]
def EP (h:srt l)k:srt (l.take k):=h.sublist (kcN k l)
def d9 (t:Bytes)(k:Nat):Bytes:=(t.drop (80*k)).take 80
def ci (t:Bytes):Nat:=(t.length+79) / 80
def np (side:Nat)(t:Bytes):Nat->Nat->List ni
 | k,0=>[]
 | k,f+1=>some (2+side*60+k,d9 t k)::np side t (k+1) f
def xu side t:∀f k,(np side t k f).length=f
 | 0,_=>rfl
 | f+1,k=>by simp[np,xu side t f]
def wC (h:HdM)(t:Bytes):List ni:=np h.side t 0 (ci t)++ [none,some (h.ep % 2,dt h),none]
def eO (h:HdM)(rows:List ChangeM)(many:Nat):HdM:=⟨h.ep+1,1 - h.side,(bP rows).length,h.first+many⟩
theorem Bg t k:(d9 t k).length<=80:=by grind[d9]
def D6 (L:List Bytes):Nat->HdM
 | 0=>HdM.no
 | k+1=>if (D6 L k).ep<(dU (L.getD k [])).ep then dU (L.getD k []) else D6 L k
def oG (L:List Bytes):HdM:=D6 L 2
def Xq (L:List Bytes)(side:Nat):Bytes:=((L.drop (2+side*60)).take 60).flatten
structure Good (L:List Bytes) (h:HdM) (r0:List ChangeM) (ds:cY) (used:Nat):Prop where
 best:oG L=h
 ep:1<=h.ep
 side:h.side<=1
 first:1<=h.first/\h.first<=1000000000
 size:h.size=(bP r0).length
 text:(Xq L h.side).take h.size=bP r0
 hsrt:srt r0
 hok:∀r∈r0,CJ r
 len:r0.length<=80
 log:dg h.first (λi=>L.getD (122+i) []) (L.length - 122) 0 [] [] 0=(ds,used)
 lens:∀d∈ds,d.length<=72
 chk:∀d∈ds,∀x∈d,d7 x=0
 fits:∀k,((ds.take k).foldl cX r0).length<=80
def cur (r0:List ChangeM)(ds:cY):List ChangeM:=ds.foldl cX r0
def xw (many:Nat)(rows c:List ChangeM):Int:=if 72<c.length then 2 else if lb c≠0 then lb c else if 80<(cX rows c).length\/many<c.length+1 then 8 else 0
open _root_.Go.Proofs.Tryz
def Qx w:(Instr.build 183 #[]).run Tryz.prog w= .ok (.agg #[ay [],I 0]) w:=by
 simp[Instr.build,YL,kas,Instr.fill,bB,sl]
def Iq w:(Instr.build 187 #[]).run Tryz.prog w= .ok (.agg #[I 0,I 0,I 0,I 0,I 0]) w:=by
 simp[Instr.build,Yx,kai,Instr.fill,bB,sl]
def tO w:(Instr.build 195 #[]).run Tryz.prog w= .ok (.agg #[I 0,I 0,I 0,I 0]) w:=by
 simp[Instr.build,Zl,kau,Instr.fill,bB,sl]
theorem TE (q x:Nat)(hq:q<=24)(hx:x<256):IntKind.i64.wrap ((x:Int)*2 ^ (min ((q:Nat):Int).toNat IntKind.i64.bits))=((2 ^ q*x:Nat):Int):=by
 rw[show ((q:Nat):Int).toNat=q from rfl,show min q IntKind.i64.bits=q from kbr (by show q<=64;omega)];have J:2 ^ q*x<2 ^ 24*256:=Nat.lt_of_le_of_lt (ka8 x (kbw (by decide) hq)) (Nat.mul_lt_mul_of_pos_left hx (by decide))
 grind[cK]
abbrev lL (bd:Nat)(h:HdM)(bl:Nat)(s:Option Addr)(n cap:Nat):Array Value:=#[ptr bd 0,I h.ep,I h.side,I h.size,I h.first,ptr bl 0,sl s n cap]
def lA (n:Nat)F:cqq 239 [I n] (F) (R1 (ay (bC n)) F):=by
 refine Ct.of func239 W 16 ntmps239 (by simp) λw0=>?_;refine A<|T<|A<|C<|M (cG (r:=((n % 256:Nat):Int)) XA XI (KA _))<|C<|M (lX (r:=((n / 256:Nat):Int)) (ww n 256))<|M (cG (r:=((n / 256 % 256:Nat):Int)) XA XI (KA _))<|C<|M (lX (r:=((n / 65536:Nat):Int)) (ww n 65536))<|M (cG (r:=((n / 65536 % 256:Nat):Int)) XA XI (KA _))<|C<|M (lX (r:=((n / 16777216:Nat):Int)) (ww n 16777216))<|M (cG (r:=((n / 16777216 % 256:Nat):Int)) XA XI (KA _))<|gI (ap (aC (bC n)) XN Yd Ym (hr:=by exact yq n) (by simp[aC])) ?_;rintro _ _ ⟨J,rfl,rfl⟩;refine M (cg (l:=bC n) XN XI Xz W)<|T ?_;refine am W W ?_;exact rfl
def cz (s:Bytes)(hs:s.length=4)F:cqq 182 [ay s] (F) (R1 (I (TD s)) F):=by
 refine Ct.of func182 W 21 ntmps182 (by simp) λw0=>?_;have h0:=Ip (sk s 0);have h1:=Ip (sk s 1);have J:=Ip (sk s 2);have O:=Ip (sk s 3);refine A<|T<|ac ?_;refine dy jO ?_;refine dM W<|dV W (bW (r:=sk s 0) 0 Xz (by exact nJ))<|dV W (cG (r:=(((sk s 0).toNat:Nat):Int)) XI XA (cK (by omega)))<|dM W<|dV W (bW (r:=sk s 1) 1 Xz (by exact nJ))<|dV W (cG (r:=(((sk s 1).toNat:Nat):Int)) XI XA (cK (by omega)))<|dV W (LP (r:=((2 ^ 8*(sk s 1).toNat:Nat):Int)) W W (by decide) (TE 8 _ (by decide) (by omega)))<|dV W (Mr (sk s 0).toNat 8 _ W W (by omega) (by omega))<|dM W<|dV W (bW (r:=sk s 2) 2 Xz (by exact nJ))<|dV W (cG (r:=(((sk s 2).toNat:Nat):Int)) XI XA (cK (by omega)))<|dV W (LP (r:=((2 ^ 16*(sk s 2).toNat:Nat):Int)) W W (by decide) (TE 16 _ (by decide) (by omega)))<|dV W (Mr ((sk s 0).toNat+2 ^ 8*(sk s 1).toNat) 16 _ W W (by omega) (by omega))<|dM W<|dV W (bW (r:=sk s 3) 3 Xz (by exact nJ))<|dV W (cG (r:=(((sk s 3).toNat:Nat):Int)) XI XA (cK (by omega)))<|dV W (LP (r:=((2 ^ 24*(sk s 3).toNat:Nat):Int)) W W (by decide) (TE 24 _ (by decide) (by omega)))<|dV W (Mr ((sk s 0).toNat+2 ^ 8*(sk s 1).toNat+2 ^ 16*(sk s 2).toNat) 24 _ W W (by omega) (by omega))<|dV W ax ?_;refine aN ?_;refine am W W ?_;exact rfl
def rX h F:cqq 177 [.agg (cO h).toArray] (F) (R1 (ay (dt h)) F):=by
 refine Ct.of func177 W 19 ntmps177 (by simp) λw0=>?_;refine A<|gI (dw (cO h).toArray) ?_;rintro _ _ ⟨b1,rfl,rfl⟩;refine T<|ac<|gG (plN [0,2,8,10,16,18,24,26,5,6,13,14,21,22,29,30,32])<|dF rfl 0 Ye rfl Xu<|dL rfl (I h.ep) Xv<|dF rfl 1 Ye rfl Xu<|dL rfl (I h.side) Xv<|dF rfl 2 Ye rfl Xu<|dL rfl (I h.size) Xv<|dF rfl 3 Ye rfl Xu<|dL rfl (I h.first) Xv<|cQ rfl (uA call239 (lA h.ep)) ?_;rintro _ _ ⟨rfl,rfl⟩;refine dV W (cf (by simp[bC]))<|cQ W (uA call239 (lA h.side)) ?_;rintro _ _ ⟨rfl,rfl⟩;refine dV W (cf (by simp[bC]))<|cQ W (uA call239 (lA h.size)) ?_;rintro _ _ ⟨rfl,rfl⟩;refine dV rfl (cf (by simp[bC]))<|cQ rfl (uA call239 (lA h.first)) ?_;rintro _ _ ⟨rfl,rfl⟩;refine dV W (cf (by simp[bC]))<|dV W ax ?_;refine aN ?_;refine am W W ?_;exact rfl
def wN (s:Bytes)(hs:s.length=80)F:cqq 114 [ay s] (F) (R1 (.agg (cO (dU s)).toArray) F):=by
 refine Ct.of func114 W 37 ntmps114 (by simp) λw0=>?_;refine A<|gI (aO #[I 0,I 0,I 0,I 0] Zl) ?_;rintro _ _ ⟨S,rfl,rfl⟩;refine ab<|ac ?_;refine qX (Lf:=[]) (.q 0 (.q 1 (.q 3 (.q 4 (.q 6 (.q 7 (.q 9 (.q 10 (.alt (.l 2 (.alt (.l 5 (.alt (.l 8 (.alt (.l 11 (.q 12 (.l 13 (.l 14 (.nil))))) (.l 13 (.l 11 (.q 12 (.l 14 (.nil))))))) (.l 13 (.l 8 (.l 11 (.q 12 (.l 14 (.nil)))))))) (.l 13 (.l 5 (.l 8 (.l 11 (.q 12 (.l 14 (.nil))))))))) (.l 13 (.l 2 (.l 5 (.l 8 (.l 11 (.q 12 (.l 14 (.nil))))))))))))))))) ?_;refine eH W ao ?_;refine eH W (fG (l:=1) (h:=5) Xz (by decide)) ?_;refine eH W ao ?_;refine eH W (fG (l:=5) (h:=9) Xz (by decide)) ?_;refine eH W ao ?_;refine eH W (fG (l:=9) (h:=13) Xz (by decide)) ?_;refine eH W ao ?_;refine eH W (fG (l:=13) (h:=17) Xz (by decide)) ?_;refine oB ?_ ?_
 ·refine lY W (uA call182 (cz ((s.take 5).drop 1) (by simp only[kcM,kbq];omega))) ?_;rintro _ _ ⟨rfl,rfl⟩;refine oB ?_ ?_
  ·refine lY W (uA call182 (cz ((s.take 9).drop 5) (by simp only[kcM,kbq];omega))) ?_;rintro _ _ ⟨rfl,rfl⟩;refine oB ?_ ?_
   ·refine lY W (uA call182 (cz ((s.take 13).drop 9) (by simp only[kcM,kbq];omega))) ?_;rintro _ _ ⟨rfl,rfl⟩;refine oB ?_ ?_
    ·refine lY W (uA call182 (cz ((s.take 17).drop 13) (by simp only[kcM,kbq];omega))) ?_;rintro _ _ ⟨rfl,rfl⟩;refine eH W (aS (eY _ W _ W _ W _ W)) ?_;refine lY W (aO #[I 0,I 0,I 0,I 0] Zl) ?_;rintro _ _ ⟨R,rfl,rfl⟩;refine GM W (az (cs:=#[I 0,I 0,I 0,I 0]) (vs:=cO (eI s)) (cO (eI s)).toArray XO (by decide) (hcs:=by exact bG)) ?_;rintro _ _ rfl;refine kC ?_;refine ac<|A<|C<|M (bW (r:=sk s 0) 0 Xz (by exact nJ))<|M iE<|C<|gK (aw 1 Ye rfl Xu)<|gK (aA (v:=I (eI s).side) Xv)<|gK aQ<|M cv<|C<|gK (aw 2 Ye rfl Xu)<|gK (aA (v:=I (eI s).size) Xv)<|gK aQ<|M cv<|C<|gK (aw 3 Ye rfl Xu)<|gK (aA (v:=I (eI s).first) Xv)<|gK aG<|M cv<|ab<|ah ?_ ?_<;>intro O
     ·have J:mf s:=by
       unfold mf;simp at O;rcases O with ((h | h) | h) | h
       ·exact .inl<|λe=>h (by rw[e];rfl)
       ·exact .inr<|.inl (by omega)
       ·exact .inr<|.inr<|.inl (by omega)
       ·exact .inr<|.inr<|.inr (by omega)
      refine A<|M (aS (tO))<|gU (az (cs:=#[I 0,I 0,I 0,I 0]) (vs:=cO HdM.no) (cO HdM.no).toArray XO (by decide) (hcs:=by exact bG))<|ab ?_
      first
      | exact eC (cO HdM.no) (by unfold dU;rw[kaT J]) rfl rfl Yi XO rfl bM
      | exact eC (cO (eI s)) (by unfold dU;rw[kaU J]) rfl rfl Yi XO rfl bM
     ·have J:¬mf s:=by
       unfold mf;simp at O;rintro (h | h | h | h)
       ·exact h<|UInt8.toNat_inj.1 (by rw[show (72:UInt8).toNat=72 from rfl];omega)
       ·omega
       ·omega
       ·omega
      refine ai<|A<|M (bj (vs:=cO (eI s)) Yi XO bM)<|gU (az (cs:=#[I 0,I 0,I 0,I 0]) (vs:=cO (eI s)) (cO (eI s)).toArray XO (by decide) (hcs:=by exact bG))<|ab ?_
      first
      | exact eC (cO HdM.no) (by unfold dU;rw[kaT J]) rfl rfl Yi XO rfl bM
      | exact eC (cO (eI s)) (by unfold dU;rw[kaU J]) rfl rfl Yi XO rfl bM
    ·refine lY W (aO #[I 0,I 0,I 0,I 0] Zl) ?_;rintro _ _ ⟨R,rfl,rfl⟩;refine lY W (uA call182 (cz ((s.take 17).drop 13) (by simp only[kcM,kbq];omega))) ?_;rintro _ _ ⟨rfl,rfl⟩;refine eH W (aS (eY _ W _ W _ W _ W)) ?_;refine GM W (az (cs:=#[I 0,I 0,I 0,I 0]) (vs:=cO (eI s)) (cO (eI s)).toArray XO (by decide) (hcs:=by exact bG)) ?_;rintro _ _ rfl;refine kC ?_;refine ac<|A<|C<|M (bW (r:=sk s 0) 0 Xz (by exact nJ))<|M iE<|C<|gK (aw 1 Ye rfl Xu)<|gK (aA (v:=I (eI s).side) Xv)<|gK aQ<|M cv<|C<|gK (aw 2 Ye rfl Xu)<|gK (aA (v:=I (eI s).size) Xv)<|gK aQ<|M cv<|C<|gK (aw 3 Ye rfl Xu)<|gK (aA (v:=I (eI s).first) Xv)<|gK aG<|M cv<|ab<|ah ?_ ?_<;>intro O
     ·have J:mf s:=by
       unfold mf;simp at O;rcases O with ((h | h) | h) | h
       ·exact .inl<|λe=>h (by rw[e];rfl)
       ·exact .inr<|.inl (by omega)
       ·exact .inr<|.inr<|.inl (by omega)
       ·exact .inr<|.inr<|.inr (by omega)
      refine A<|M (aS (tO))<|gU (az (cs:=#[I 0,I 0,I 0,I 0]) (vs:=cO HdM.no) (cO HdM.no).toArray XO (by decide) (hcs:=by exact bG))<|ab ?_
      first
      | exact eC (cO HdM.no) (by unfold dU;rw[kaT J]) rfl rfl Yi XO rfl bM
      | exact eC (cO (eI s)) (by unfold dU;rw[kaU J]) rfl rfl Yi XO rfl bM
     ·have J:¬mf s:=by
       unfold mf;simp at O;rintro (h | h | h | h)
       ·exact h<|UInt8.toNat_inj.1 (by rw[show (72:UInt8).toNat=72 from rfl];omega)
       ·omega
       ·omega
       ·omega
      refine ai<|A<|M (bj (vs:=cO (eI s)) Yi XO bM)<|gU (az (cs:=#[I 0,I 0,I 0,I 0]) (vs:=cO (eI s)) (cO (eI s)).toArray XO (by decide) (hcs:=by exact bG))<|ab ?_
      first
      | exact eC (cO HdM.no) (by unfold dU;rw[kaT J]) rfl rfl Yi XO rfl bM
      | exact eC (cO (eI s)) (by unfold dU;rw[kaU J]) rfl rfl Yi XO rfl bM
   ·refine lY W (aO #[I 0,I 0,I 0,I 0] Zl) ?_;rintro _ _ ⟨R,rfl,rfl⟩;refine lY W (uA call182 (cz ((s.take 13).drop 9) (by simp only[kcM,kbq];omega))) ?_;rintro _ _ ⟨rfl,rfl⟩;refine lY W (uA call182 (cz ((s.take 17).drop 13) (by simp only[kcM,kbq];omega))) ?_;rintro _ _ ⟨rfl,rfl⟩;refine eH W (aS (eY _ W _ W _ W _ W)) ?_;refine GM W (az (cs:=#[I 0,I 0,I 0,I 0]) (vs:=cO (eI s)) (cO (eI s)).toArray XO (by decide) (hcs:=by exact bG)) ?_;rintro _ _ rfl;refine kC ?_;refine ac<|A<|C<|M (bW (r:=sk s 0) 0 Xz (by exact nJ))<|M iE<|C<|gK (aw 1 Ye rfl Xu)<|gK (aA (v:=I (eI s).side) Xv)<|gK aQ<|M cv<|C<|gK (aw 2 Ye rfl Xu)<|gK (aA (v:=I (eI s).size) Xv)<|gK aQ<|M cv<|C<|gK (aw 3 Ye rfl Xu)<|gK (aA (v:=I (eI s).first) Xv)<|gK aG<|M cv<|ab<|ah ?_ ?_<;>intro O
    ·have J:mf s:=by
      unfold mf;simp at O;rcases O with ((h | h) | h) | h
      ·exact .inl<|λe=>h (by rw[e];rfl)
      ·exact .inr<|.inl (by omega)
      ·exact .inr<|.inr<|.inl (by omega)
      ·exact .inr<|.inr<|.inr (by omega)
     refine A<|M (aS (tO))<|gU (az (cs:=#[I 0,I 0,I 0,I 0]) (vs:=cO HdM.no) (cO HdM.no).toArray XO (by decide) (hcs:=by exact bG))<|ab ?_
     first
     | exact eC (cO HdM.no) (by unfold dU;rw[kaT J]) rfl rfl Yi XO rfl bM
     | exact eC (cO (eI s)) (by unfold dU;rw[kaU J]) rfl rfl Yi XO rfl bM
    ·have J:¬mf s:=by
      unfold mf;simp at O;rintro (h | h | h | h)
      ·exact h<|UInt8.toNat_inj.1 (by rw[show (72:UInt8).toNat=72 from rfl];omega)
      ·omega
      ·omega
      ·omega
     refine ai<|A<|M (bj (vs:=cO (eI s)) Yi XO bM)<|gU (az (cs:=#[I 0,I 0,I 0,I 0]) (vs:=cO (eI s)) (cO (eI s)).toArray XO (by decide) (hcs:=by exact bG))<|ab ?_
     first
     | exact eC (cO HdM.no) (by unfold dU;rw[kaT J]) rfl rfl Yi XO rfl bM
     | exact eC (cO (eI s)) (by unfold dU;rw[kaU J]) rfl rfl Yi XO rfl bM
  ·refine lY W (aO #[I 0,I 0,I 0,I 0] Zl) ?_;rintro _ _ ⟨R,rfl,rfl⟩;refine lY W (uA call182 (cz ((s.take 9).drop 5) (by simp only[kcM,kbq];omega))) ?_;rintro _ _ ⟨rfl,rfl⟩;refine lY W (uA call182 (cz ((s.take 13).drop 9) (by simp only[kcM,kbq];omega))) ?_;rintro _ _ ⟨rfl,rfl⟩;refine lY W (uA call182 (cz ((s.take 17).drop 13) (by simp only[kcM,kbq];omega))) ?_;rintro _ _ ⟨rfl,rfl⟩;refine eH W (aS (eY _ W _ W _ W _ W)) ?_;refine GM W (az (cs:=#[I 0,I 0,I 0,I 0]) (vs:=cO (eI s)) (cO (eI s)).toArray XO (by decide) (hcs:=by exact bG)) ?_;rintro _ _ rfl;refine kC ?_;refine ac<|A<|C<|M (bW (r:=sk s 0) 0 Xz (by exact nJ))<|M iE<|C<|gK (aw 1 Ye rfl Xu)<|gK (aA (v:=I (eI s).side) Xv)<|gK aQ<|M cv<|C<|gK (aw 2 Ye rfl Xu)<|gK (aA (v:=I (eI s).size) Xv)<|gK aQ<|M cv<|C<|gK (aw 3 Ye rfl Xu)<|gK (aA (v:=I (eI s).first) Xv)<|gK aG<|M cv<|ab<|ah ?_ ?_<;>intro O
   ·have J:mf s:=by
     unfold mf;simp at O;rcases O with ((h | h) | h) | h
     ·exact .inl<|λe=>h (by rw[e];rfl)
     ·exact .inr<|.inl (by omega)
     ·exact .inr<|.inr<|.inl (by omega)
     ·exact .inr<|.inr<|.inr (by omega)
    refine A<|M (aS (tO))<|gU (az (cs:=#[I 0,I 0,I 0,I 0]) (vs:=cO HdM.no) (cO HdM.no).toArray XO (by decide) (hcs:=by exact bG))<|ab ?_
    first
    | exact eC (cO HdM.no) (by unfold dU;rw[kaT J]) rfl rfl Yi XO rfl bM
    | exact eC (cO (eI s)) (by unfold dU;rw[kaU J]) rfl rfl Yi XO rfl bM
   ·have J:¬mf s:=by
     unfold mf;simp at O;rintro (h | h | h | h)
     ·exact h<|UInt8.toNat_inj.1 (by rw[show (72:UInt8).toNat=72 from rfl];omega)
     ·omega
     ·omega
     ·omega
    refine ai<|A<|M (bj (vs:=cO (eI s)) Yi XO bM)<|gU (az (cs:=#[I 0,I 0,I 0,I 0]) (vs:=cO (eI s)) (cO (eI s)).toArray XO (by decide) (hcs:=by exact bG))<|ab ?_
    first
    | exact eC (cO HdM.no) (by unfold dU;rw[kaT J]) rfl rfl Yi XO rfl bM
    | exact eC (cO (eI s)) (by unfold dU;rw[kaU J]) rfl rfl Yi XO rfl bM
 ·refine lY W (aO #[I 0,I 0,I 0,I 0] Zl) ?_;rintro _ _ ⟨R,rfl,rfl⟩;refine lY W (uA call182 (cz ((s.take 5).drop 1) (by simp only[kcM,kbq];omega))) ?_;rintro _ _ ⟨rfl,rfl⟩;refine lY W (uA call182 (cz ((s.take 9).drop 5) (by simp only[kcM,kbq];omega))) ?_;rintro _ _ ⟨rfl,rfl⟩;refine lY W (uA call182 (cz ((s.take 13).drop 9) (by simp only[kcM,kbq];omega))) ?_;rintro _ _ ⟨rfl,rfl⟩;refine lY W (uA call182 (cz ((s.take 17).drop 13) (by simp only[kcM,kbq];omega))) ?_;rintro _ _ ⟨rfl,rfl⟩;refine eH W (aS (eY _ W _ W _ W _ W)) ?_;refine GM W (az (cs:=#[I 0,I 0,I 0,I 0]) (vs:=cO (eI s)) (cO (eI s)).toArray XO (by decide) (hcs:=by exact bG)) ?_;rintro _ _ rfl;refine kC ?_;refine ac<|A<|C<|M (bW (r:=sk s 0) 0 Xz (by exact nJ))<|M iE<|C<|gK (aw 1 Ye rfl Xu)<|gK (aA (v:=I (eI s).side) Xv)<|gK aQ<|M cv<|C<|gK (aw 2 Ye rfl Xu)<|gK (aA (v:=I (eI s).size) Xv)<|gK aQ<|M cv<|C<|gK (aw 3 Ye rfl Xu)<|gK (aA (v:=I (eI s).first) Xv)<|gK aG<|M cv<|ab<|ah ?_ ?_<;>intro O
  ·have J:mf s:=by
    unfold mf;simp at O;rcases O with ((h | h) | h) | h
    ·exact .inl<|λe=>h (by rw[e];rfl)
    ·exact .inr<|.inl (by omega)
    ·exact .inr<|.inr<|.inl (by omega)
    ·exact .inr<|.inr<|.inr (by omega)
   refine A<|M (aS (tO))<|gU (az (cs:=#[I 0,I 0,I 0,I 0]) (vs:=cO HdM.no) (cO HdM.no).toArray XO (by decide) (hcs:=by exact bG))<|ab ?_
   first
   | exact eC (cO HdM.no) (by unfold dU;rw[kaT J]) rfl rfl Yi XO rfl bM
   | exact eC (cO (eI s)) (by unfold dU;rw[kaU J]) rfl rfl Yi XO rfl bM
  ·have J:¬mf s:=by
    unfold mf;simp at O;rintro (h | h | h | h)
    ·exact h<|UInt8.toNat_inj.1 (by rw[show (72:UInt8).toNat=72 from rfl];omega)
    ·omega
    ·omega
    ·omega
   refine ai<|A<|M (bj (vs:=cO (eI s)) Yi XO bM)<|gU (az (cs:=#[I 0,I 0,I 0,I 0]) (vs:=cO (eI s)) (cO (eI s)).toArray XO (by decide) (hcs:=by exact bG))<|ab ?_
   first
   | exact eC (cO HdM.no) (by unfold dU;rw[kaT J]) rfl rfl Yi XO rfl bM
   | exact eC (cO (eI s)) (by unfold dU;rw[kaU J]) rfl rfl Yi XO rfl bM
def Aq bs J h bl s cap rows(hr:rows.length<=400)F:cqq 43 [ptr bs 0] (pcc bs (lL J h bl s (rows.length) cap) 198::roL 3 s (bI rows)::F) (uX 174 3 rows.length (bI rows) (pcc bs (lL J h bl s (rows.length) cap) 198::roL 3 s (bI rows)::F)):=by
 refine Ct.of func43 W 8 ntmps43 (by simp) λw0=>?_;refine A<|T<|A<|C<|M aa<|gF 6 Yj W YM<|gL (sl s rows.length cap) Zj<|gI (uB call121 (pX rows s cap (by omega))) ?_;rintro _ _ ⟨R,O,rfl,rfl⟩;refine T ?_;exact cU rfl rfl rfl rfl
open Go Go.Sl Go.Proofs
def Qy:∃fn,Tryz.prog.funcs[310]? =some fn/\(fn.name== "runtime.NumGoroutine")=false/\fn.body.isNone=true/\Extern.findNext fn=none/\Extern.find fn=some Extern.AbiNoEscape.same:=
 ⟨(Tryz.prog.funcs[310]?).get (by kernel_rfl),(kcH _).symm,by kernel_rfl,by kernel_rfl,by kernel_rfl,by kernel_rfl⟩
def ER v w:(callFunc 310 [v].toArray).run Tryz.prog w= .ok (.value v) w:=by
 obtain ⟨fn,h1,J,O,R,S⟩:=Qy;rw[run_callFunc_extern h1 J O R S]
 rfl
def Ha a b:[[By ((a % 256:Nat):Int)],[By ((b % 256:Nat):Int)],[By ((b / 256 % 256:Nat):Int)]]=aC [UInt8.ofNat a,UInt8.ofNat b,UInt8.ofNat (b / 256)]:=by
 simp only[aC,kaO,kaP,UInt8.toNat_ofNat']
def Vz (k v:Bytes)w:(Instr.build 174 #[(0,ay k),(1,ay v)]).run Tryz.prog w= .ok (.agg (bg ⟨k,v,false⟩).toArray) w:=by
 simp[Instr.build,XH,ZR,Xx,XL,Instr.fill,bB,bg,show ∀s:Bytes,(ay s).cells=#[ay s] from λ_=>rfl]
variable {x:ChangeM}
def Bh {k}(h:l[k]? =some x):bP (l.take (k+1))=bP (l.take k)++yC x:=by rw[mc h,KJ]
theorem Bi {k}(h:l[k]? =some x):bP (l.drop k)=yC x++bP (l.drop (k+1)):=by
 grind[List.drop_eq_getElem_cons,KH]
theorem CK (h:∀r∈l,CJ r)k:(bP (l.take k)).length<=59*l.length:=by
 grind[mN]
def KK {k}(hs:srt l)(hx:l[k]? =some x)(J:x.gone=false):cX (l.take k) [x]=l.take (k+1):=by
 have h:=EP hs (k+1);rw[mc hx] at h ⊢;exact ME h J
def qt bb p s n cap(hp:p=none\/p=some ⟨bb,0,none⟩)F:cqq 273 [ptr bb 0] (pcc bb #[(.pointer p),sl s n cap] 327::F) (R1 (.tuple #[]) (pcc bb #[ptr bb 0,sl s n cap] 327::F)):=by
 refine Ct.of func273 W 20 ntmps273 (by simp) λw0=>?_;refine A<|C<|M aa<|gF 0 ZJ W kab<|gL (.pointer p) isAgg325<|M (vb kac)<|ab<|ah ?_ ?_<;>intro R
 ·refine al<|C<|C<|M (Qk kac underlying367 kaj (by decide) W (by simp))<|gR (Ib (λw=>ER _ w) W)<|M (Ql underlying367 kac kaj (by decide) W W)<|M aa<|gF 0 ZJ W kab<|gU (aJ #[ptr bb 0,sl s n cap] kab (by simp))<|ab ?_;refine gh W W ?_;exact rfl
 ·have O:p=some ⟨bb,0,none⟩:=by
   rcases hp with h | h
   ·rw[h] at R;cases R
   ·exact h
  rw[O];refine A<|C<|M aa<|gF 0 ZJ W kab<|gL (ptr bb 0) isAgg325<|C<|M (GQ kac kaj W W)<|ab<|ah ?_ ?_<;>intro J
  ·cases J
  ·refine ai ?_;refine gh W W ?_;exact rfl
def pA bb p s cap(l t:Bytes)(hp:p=none\/p=some ⟨bb,0,none⟩)(V:l.length+t.length<=1000000)F:cqq 250 [ptr bb 0,ay t] (pcc bb #[(.pointer p),sl s l.length cap] 327::be 5 1 s cap (aC (l))::F) (λv L'=>∃S R,v= .tuple #[I t.length, .nilIface]/\L'=pcc bb #[ptr bb 0,sl S (l++t).length R] 327::be 5 1 S R (aC (l++t))::F):=by
 refine Ct.of func250 W 19 ntmps250 (by simp) λw0=>?_;refine A<|gA<|T<|A<|C<|gR (vB call273 (qt bb p s l.length cap hp))<|ab<|A<|C<|C<|M aa<|gF 1 ZJ W Z2<|gL (sl s l.length cap) ZU<|C<|gI (Ms XN Xz Yd Ym W Tryz.typeInfo5 W W W ⟨by omega,by decide,by decide⟩) ?_;rintro _ _ ⟨O,J,rfl,_,rfl⟩;refine M aa<|gF 1 ZJ W Z2<|gU (aJ #[ptr bb 0,sl O (l++t).length J] Z2 (by simp))<|ab<|A<|C<|M (cD Xz)<|gA<|T ?_;exact ar (pcc bb #[ptr bb 0,sl O (l++t).length J] 327::be 5 1 O J (aC (l++t))::F) rfl ⟨O,J,rfl,rfl⟩
def tP bb p s cap(l:Bytes)(h0:l≠ []\/s=none)(J:l.length<=1000000)F:cqq 251 [ptr bb 0] (pcc bb #[(.pointer p),sl s l.length cap] 327::be 5 1 s cap (aC (l))::F) (R1 (ay l) (pcc bb #[(.pointer p),sl s l.length cap] 327::F)):=by
 refine Ct.of func251 W 14 ntmps251 (by simp) λw0=>?_;refine A<|T<|ac<|gD (Lf:=[pcc bb #[(.pointer p),sl s l.length cap] 327]) (plN [0,2,4,6,10,12,14,16,18,9,21,22])<|dM W<|dV W aa<|dF W 1 ZJ W Z2<|dL W (sl s l.length cap) ZU<|dM W<|dV W aa<|dF W 1 ZJ W Z2<|dL W (sl s l.length cap) ZU<|dV W (aP XN)<|cQ W (Vq (l:=l) W h0) ?_;rintro _ _ ⟨rfl,rfl⟩;refine cQ W (Tn (l:=l) underlying337 (wt (Yd default)) W W W h0 (by omega)) ?_;rintro _ _ ⟨rfl,rfl⟩;refine dV W ax ?_;refine aN ?_;refine am W W ?_;exact rfl
def CL rows s cap(hl:rows.length<=400)(hok:∀r∈rows,CJ r)F:cqq 199 [sl s rows.length cap] (roL 3 s (bI rows)::F) (R1 (ay (bP rows)) (roL 3 s (bI rows)::F)):=by
 refine Ct.of func199 W 36 ntmps199 (by simp) λw0=>?_;have J:=CK hok;refine A<|T<|A<|gI (aO #[.pointer none,sl none 0 0] zeroValue327) ?_;rintro _ _ ⟨R,rfl,rfl⟩;refine ab<|ac<|ac ?_;rw[show sl none 0 0=sl none (bP (rows.take 0)).length 0 from rfl];refine aY 5 1 (aC (bP (rows.take 0))) ?_;refine al<|C<|M (aP Xy)<|C<|ab<|ak ?_;refine aL (α:=Nat×Option Addr×Option Addr×Nat) (λz=>z.1<=rows.length/\(z.2.1=none\/z.2.1=some ⟨R,0,none⟩)/\(bP (rows.take z.1)≠ []\/z.2.2.1=none)) (λz=>U [(3,ptr R 0),(6,sl s rows.length cap),(7,I rows.length),(8,I z.1)]) (λz=>pcc R #[(.pointer z.2.1),sl z.2.2.1 (bP (rows.take z.1)).length z.2.2.2] 327::be 5 1 z.2.2.1 z.2.2.2 (aC (bP (rows.take z.1)))::roL 3 s (bI rows)::F) (λz=>rows.length - z.1) (0,none,none,0) ⟨by simp, .inl rfl, .inr rfl⟩ [3,6,7,8] rfl ?_;rintro ⟨k,p,sB,Y⟩ ⟨hk,hp,hne⟩;simp only[] at hk hp hne ⊢;refine A<|M aG<|ab<|ac<|ah ?_ ?_<;>intro Z
 ·simp at Z;have O:k<rows.length:=(by omega);obtain ⟨x,hx⟩:∃x,rows[k]? =some x:=⟨_,kbN O⟩;have V:k<(bI rows).length:=(by rw[aT];exact O);have hxl:=xt (hok x (kbe hx));obtain ⟨_,_,hxk,hxv⟩:=qW (hok x (kbe hx)).1;refine ai<|ac<|ak<|A<|M (av k Xy Xw O V)<|M (bO (row:=bg x) XU Xw (de hx))<|gI (aO #[ay [],ay [],Bo false] XH) ?_;rintro _ _ ⟨b5,rfl,rfl⟩;refine gU (az (cs:=#[ay [],ay [],Bo false]) (vs:=bg x) (bg x).toArray Xw (by decide) (hcs:=by exact bG))<|ab<|al<|gF 0 XJ W Xx<|gL (ay x.key) XD<|M (cD Xz)<|M (cG (r:=((x.key.length % 256:Nat):Int)) XA XI (KA _))<|gF 1 XJ W Xx<|gL (ay x.val) XD<|M (cD Xz)<|M (cG (r:=((x.val.length % 256:Nat):Int)) XA XI (KA _))<|gF 1 XJ W Xx<|gL (ay x.val) XD<|M (cD Xz)<|M (lX (r:=((x.val.length / 256:Nat):Int)) (ww x.val.length 256))<|M (cG (r:=((x.val.length / 256 % 256:Nat):Int)) XA XI (KA _))<|gI (ap (aC ([UInt8.ofNat x.key.length,UInt8.ofNat x.val.length,UInt8.ofNat (x.val.length / 256)])) XN Yd Ym (hr:=by exact Ha x.key.length x.val.length) (by simp[aC])) ?_;rintro _ _ ⟨b25,rfl,rfl⟩;refine M (cg (l:=[UInt8.ofNat x.key.length,UInt8.ofNat x.val.length,UInt8.ofNat (x.val.length / 256)]) XN XI Xz W)<|gF 0 XJ W Xx<|gL (ay x.key) XD<|M (cf (by simp <;> omega))<|gF 1 XJ W Xx<|gL (ay x.val) XD<|M (cf (by simp <;> omega))<|gI (uC call250 (pA R p sB Y (bP (rows.take k)) (yC x) hp (by have:=J k;have:=xt (hok x (kbe hx));omega))) ?_;rintro _ _ ⟨X,S,rfl,rfl⟩;rw[<-Bh hx];refine ab<|aE<|al<|M (bx (r:=((k+1:Nat):Int)) (by rw[show (k:Int)+1=((k+1:Nat):Int) by omega];exact cK (by omega)))<|C<|ab ?_;refine an (k+1,some ⟨R,0,none⟩,X,S) ⟨by simp only[];omega, .inr rfl, .inl ?_⟩ (by simp only[];omega) [3,6,7,8] rfl;simp only[];rw[Bh hx];intro e;have:=kay List.length e;rw[kcp,kcO] at this;omega
 ·simp at Z;obtain rfl:k=rows.length:=(by omega);rw[kbl] at hne ⊢;refine aF ?_;refine A<|gR (vC call251 (tP R p sB Y (bP rows) hne (by have:=J rows.length;rw[kbl] at this;omega)))<|T ?_;refine am W W ?_;exact rfl
def yD rows(hl:rows.length<=400)(hs:srt rows)(hok:∀r∈rows,CJ r)F:cqq 115 [ay (bP rows)] (F) (λv L'=>∃s cap,v= .tuple #[sl s rows.length cap,Bo true]/\L'=roL 3 s (bI rows)::F):=by
 refine Ct.of func115 W 64 ntmps115 (by simp) λw0=>?_;have hlen:∀k,(bP (rows.drop k)).length<=59*400:=λk=>by
  have:=mN (l:=rows.drop k) λr hr=>hok r (kbt hr);rw[kcM] at this;omega
 refine tt 3 (bI (rows.take 0)) ?_;refine A<|gA<|T<|A<|T<|ac<|ak ?_;refine aL (α:=Nat×Option Addr×Nat) (λz=>z.1<=rows.length) (λz=>U [(0,ay (bP (rows.drop z.1))),(4,sl z.2.1 (rows.take z.1).length z.2.2)]) (λz=>roL 3 z.2.1 (bI (rows.take z.1))::F) (λz=>rows.length - z.1) (0,none,0) (by simp) [0,4] rfl ?_;rintro ⟨k,sA,cA⟩ hk;simp only[] at hk ⊢;refine ac<|A<|C<|M lN<|ab<|ah ?_ ?_<;>intro Z
 ·simp at Z;have hkn:k<rows.length:=by
   rcases ka3 k rows.length with h | h
   ·exact h
   ·rw[kcP h] at Z;exact absurd rfl Z
  obtain ⟨x,hx⟩:∃x,rows[k]? =some x:=⟨_,kbN hkn⟩;have Y:=hok x (kbe hx);obtain ⟨hk0,hg1,hxk,hxv⟩:=qW Y.1;have hc0:=Y.1;have S:=Y.2;have hd:=Bi hx;have hdl:=hlen k;obtain ⟨J,X,hx0e⟩:∃y:UInt8,y.toNat=x.key.length/\UInt8.ofNat x.key.length=y:=⟨_,nK (by omega),rfl⟩;obtain ⟨O,hx1,hx1e⟩:∃y:UInt8,y.toNat=x.val.length/\UInt8.ofNat x.val.length=y:=⟨_,nK (by omega),rfl⟩;obtain ⟨R,hx2,hx2e⟩:∃y:UInt8,y.toNat=0/\UInt8.ofNat (x.val.length / 256)=y:=⟨_,by rw[show x.val.length / 256=0 by omega];rfl,rfl⟩;rw[show yC x++bP (rows.drop (k+1))=(J::O::R::(x.key++(x.val++bP (rows.drop (k+1))))) by unfold yC;rw[hx0e,hx1e,hx2e];simp] at hd;rw[hd] at hdl Z ⊢;simp only[kaX,kcp] at hdl;have V:(J::O::R::(x.key++(x.val++bP (rows.drop (k+1))))).drop (J.toNat+3+O.toNat)=bP (rows.drop (k+1)):=by
   rw[X,hx1,show x.key.length+3+x.val.length=(x.key.length+x.val.length)+3 by omega];simp only[kcQ];rw[show x.key.length+x.val.length=(x.key++x.val).length by simp,<-kbx,kcm]
  have hkey:((J::O::R::(x.key++(x.val++bP (rows.drop (k+1))))).take (J.toNat+3)).drop 3=x.key:=by
   rw[X];simp only[kcR,kcQ,kbH];rw[kcl]
  have hval:((J::O::R::(x.key++(x.val++bP (rows.drop (k+1))))).take (J.toNat+3+O.toNat)).drop (J.toNat+3)=x.val:=by
   rw[X,hx1,show x.key.length+3+x.val.length=(x.key.length+x.val.length)+3 by omega];simp only[kcR,kcQ];rw[show x.key.length+x.val.length=(x.key++x.val).length by simp,<-kbx,kcl,kcm]
  have hbld:∀w,(Instr.build 174 #[(0,ay (((J::O::R::(x.key++(x.val++bP (rows.drop (k+1))))).take (J.toNat+3)).drop 3)),(1,ay (((J::O::R::(x.key++(x.val++bP (rows.drop (k+1))))).take (J.toNat+3+O.toNat)).drop (J.toNat+3)))]).run Tryz.prog w= .ok (.agg (bg x).toArray) w:=λw=>by
   rw[hkey,hval,Vz x.key x.val w];obtain ⟨xk,xv,xg⟩:=x;simp only at S;subst S
   rfl
  refine ai<|ak<|ac<|ac ?_;refine dy jS ?_;refine dM W<|dV W (cD Xz)<|dV W aG<|dM W<|aU W (hw:=by exact kcj (by simp only[kaX];omega)) ao<|aU W (hw:=by exact kcj (by simp only[kaX];omega)) (bW (r:=J) 0 Xz (by rfl))<|aU W (hw:=by exact kcj (by simp only[kaX];omega)) (cG (r:=((J.toNat:Nat):Int)) XI XA (cK (by omega)))<|aU W (hw:=by exact kcj (by simp only[kaX];omega)) (bx (cK (by omega)))<|aU W (hw:=by exact kcj (by simp only[kaX];omega)) ao<|aU W (hw:=by exact kcj (by simp only[kaX];omega)) (bW (r:=O) 1 Xz (by rfl))<|aU W (hw:=by exact kcj (by simp only[kaX];omega)) (cG (r:=((O.toNat:Nat):Int)) XI XA (cK (by omega)))<|aU W (hw:=by exact kcj (by simp only[kaX];omega)) (bx (cK (by omega)))<|aU W (hw:=by exact kcj (by simp only[kaX];omega)) ao<|aU W (hw:=by exact kcj (by simp only[kaX];omega)) (bW (r:=R) 2 Xz (by rfl))<|aU W (hw:=by exact kcj (by simp only[kaX];omega)) (cG (r:=((R.toNat:Nat):Int)) XI XA (cK (by omega)))<|aU W (hw:=by exact kcj (by simp only[kaX];omega)) (lW (cK (by omega)))<|aU W (hw:=by exact kcj (by simp only[kaX];omega)) (bx (cK (by omega)))<|aU W (hw:=by exact kcj (by simp only[kaX];omega)) ao<|aU W (hw:=by exact kcj (by simp only[kaX];omega)) (cD Xz)<|aU W (hw:=by exact kcj (by simp only[kaX];omega)) aQ<|dV W cv ?_;refine aN<|ah ?_ ?_<;>intro h30
  ·exfalso;simp at h30;omega
  ·refine ai<|A<|C<|M (bW (r:=J) 0 Xz (by rfl))<|M (cG (r:=((J.toNat:Nat):Int)) XI XA (cK (by omega)))<|gP<|T<|ac ?_;refine dy jG ?_;refine dM W<|dM W<|dV W (bW (r:=O) 1 Xz (by rfl))<|dV W (cG (r:=((O.toNat:Nat):Int)) XI XA (cK (by omega)))<|dV W (bx (cK (by omega)))<|dM W<|dV W (bW (r:=R) 2 Xz (by rfl))<|dV W (cG (r:=((R.toNat:Nat):Int)) XI XA (cK (by omega)))<|dV W (lW (cK (by omega)))<|dV W (bx (cK (by omega)))<|dV W ax ?_;refine aN ?_;refine ac ?_;refine dy jT ?_;refine dM W<|dM W<|dV W (fG (l:=3) (h:=J.toNat+3) Xz (hm2:=by omega) (by omega) (hh:=by simp;omega))<|dM W<|dM W<|dM W<|dV W (fG (l:=J.toNat+3) (h:=J.toNat+3+O.toNat) Xz (hm:=by omega) (hm2:=by omega) (by omega) (hh:=by simp;omega))<|dV W (aS hbld)<|cQ W (aO #[ay [],ay [],Bo false] XH) ?_;rintro _ _ ⟨b7,rfl,rfl⟩;refine rE W (az (cs:=#[ay [],ay [],Bo false]) (vs:=bg x) (bg x).toArray Xw (by decide) (hcs:=by exact bG)) ?_;rintro _ _ rfl;refine aN ?_;refine ac<|A<|M (bj (vs:=bg x) XU Xw bM)<|gR (vA call178 (kB x)) ?_;rw[hc0];refine M (bX XF)<|ab<|ah ?_ ?_<;>intro h55
   ·simp at h55
   ·refine ai<|A<|C<|M (bj (vs:=bg x) XU Xw bM)<|gI (ap [bg x] Xy Xw XH (by simp[bg])) ?_;rintro _ _ ⟨b58,rfl,rfl⟩;refine bz (ec:=174) (cap:=1) (some ⟨b58,0,none⟩) ?_;rw[show [bg x]=bI [x] from rfl];refine gI (uC call117 (pz (rows.take k) [x] sA (some ⟨b58,0,none⟩) cA 1 (EP hs k) (by rw[kbq];omega) (by simp))) ?_;rintro _ _ ⟨s59,c59,rfl,rfl⟩;rw[KK hs hx S];refine bz (ec:=174) (cap:=c59) s59 ?_;refine T<|al<|C<|C<|M (tv (l:=J.toNat+3+O.toNat) Xz (hm:=by omega) (by simp;omega))<|T<|aE ?_;rw[show (J::O::R::(x.key++(x.val++bP (rows.drop (k+1))))).drop (J.toNat+3+O.toNat)=bP (rows.drop (k+1)) from V];exact an (k+1,s59,c59) (by simp only[];omega) (by simp only[];omega) [0,4] rfl
 ·simp at Z;obtain rfl:k=rows.length:=by
   rcases ka3 k rows.length with h | h
   ·exfalso;obtain ⟨x,hx⟩:∃x,rows[k]? =some x:=⟨_,kbN h⟩;have:=Bi hx;rw[Z] at this;have h2:=xt (hok x (kbe hx));have h3:=kay List.length this;rw[kcp,kcO] at h3;omega
   ·omega
  rw[kbl];refine aF ?_;refine A<|C<|gA<|T ?_;exact ar (roL 3 sA (bI rows)::F) rfl ⟨sA,cA,rfl,rfl⟩
end Go.Proofs.YthdjckbjjfiopabGreatDoor
namespace Go.Proofs.YthdjckbjjfiopabGreatDoor
open Go.Sl Go.Proofs
def tQ (D:DiskM):Prop:=(∀x∈D.kept,x.length=80)/\(∀x∈D.now,x.length=80)/\∀t∈D.wait,t.2.length=80
def TF {L:List Bytes}{n s}(h:∀x∈L,x.length=80)(hs:s.length=80):∀x∈L.set n s,x.length=80:=λx hx=>by
 grind
variable {D:DiskM}
def tS (h:tQ D):tQ (dx D):=⟨by rw[eb];exact h.1,by rw[fq];exact h.2.1,by rw[fe];exact h.2.2⟩
variable {N:Nat}
def TG {x}(h:tQ D)(ho:ka N x):tQ (GW D x):=by
 cases x with
 | none=>
  show tQ (cL D);unfold cL;split
  ·have:=tS h;exact ⟨this.2.1,this.2.1,λt ht=>by cases ht⟩
  ·exact tS h
 | some y=>
  show tQ (cH D y.1 y.2);unfold cH;split
  ·exact h
  ·split
   ·have:=tS h;refine ⟨this.1,TF this.2.1 (yn ho.2),λt ht=>?_⟩;simp only[eA,kbF,kcv] at ht;rcases ht with ht | rfl
    ·exact this.2.2 t ht
    ·exact yn ho.2
   ·exact tS h
theorem pB {N}:∀(l:List ni) (D:DiskM),tQ D->(∀x∈l,ka N x)->tQ (ct D l).2
 | [],D,h,_=>h
 | x::l,D,h,ho=>by
  have h1:=TG h (ho x (kcq ..));by_cases h0:GV D x=0
  ·rw[lQ h0];exact pB l _ h1<|λy hy=>ho y (kcn _ hy)
  grind[lz]
variable {many:Nat}{c:List ChangeM}
def Ir {from_ first used}(h:tQ D)(J:from_+many<=N):tQ (iY from_ many first used c D):=by
 unfold iY;split
 ·rename_i hv;exact pB _ _ h<|xp J hv
 ·exact h
def ES side t:∀(f k:Nat),np side t k (f+1)=np side t k f++ [some (2+side*60+(k+f),d9 t (k+f))]
 | 0,k=>rfl
 | f+1,k=>by
  rw[np,ES side t f (k+1),np,kbz,show k+1+f=k+(f+1) by omega]
def Is side t:∀(f g k:Nat),np side t k (f+g)=np side t k f++np side t (k+f) g
 | 0,g,k=>by rw[ka9];rfl
 | f+1,g,k=>by
  rw[show f+1+g=(f+g)+1 by omega,np,Is side t f g (k+1),np,kbz,show k+1+f=k+(f+1) by omega]
variable {t:Bytes}{k:Nat}
theorem mh:(d9 t k).length=Nat.min 80 (t.length - 80*k):=by grind[d9]
def chunks_lt:k<ci t ↔ 80*k<t.length:=by unfold ci;omega
def MF {side N t}(J:2+side*60+ci t<=N):∀(f k:Nat),k+f<=ci t->∀x∈np side t k f,ka N x
 | 0,k,_,x,h=>by simp[np] at h
 | f+1,k,hk,x,h=>by
  rw[np] at h;rcases kbn.1 h with rfl | h
  ·exact ⟨by simp only;omega,Bg t k⟩
  ·exact MF J f (k+1) (by omega) x h
def MG {h}(J:2+h.side*60+ci t<=N):∀x∈wC h t,ka N x:=by
 intro x hx;unfold wC at hx;simp only[kbF,kbn,kcx,or_false] at hx;rcases hx with hx | rfl | rfl | rfl
 ·exact MF J _ 0 (by omega) x hx
 ·trivial
 ·exact ⟨by simp only;omega,by rw[vq];decide⟩
 ·trivial
variable {l:List ni}{D1:DiskM}
theorem kE {x}(h:ct D l=(0,D1)):ct D (l++ [x])=(GV D1 x,GW D1 x):=by
 grind[po,lQ,q8,lz]
theorem kF {r e}(h:ct D l=(e,D1))(he:e≠0):ct D (l++r)=(e,D1):=by
 grind[po]
def MH {r}(h:ct D l=(0,D1)):ct D (l++r)=ct D1 r:=by rw[po,h];rfl
theorem Sv:∀(l:List ni) (D:DiskM),(∀x∈l,ka D.now.length x)->(ct D l).1=0\/(ct D l).1=9
 | [],D,_=> .inl rfl
 | x::l,D,h=>by
  have hx:=h x (kcq ..);have J:GV D x=0\/GV D x=9:=by
   cases x with
   | none=>exact gC D
   | some y=>
    show du D y.1 y.2=0\/du D y.1 y.2=9;unfold du;rw[kaU (by unfold ox;have h1:=hx.1;have O:=hx.2;omega)];exact gC D
  rcases J with h0 | h0
  ·rw[lQ h0];refine Sv l _ λy hy=>?_;have:=h y (kcn _ hy);have hl:(GW D x).now.length=D.now.length:=by
    cases x with
    | none=>
     show (cL D).now.length=_
     grind[cL,iH,fq]
    | some z=>
     show (cH D z.1 z.2).now.length=_
     grind[cH,eA,fq]
   rw[hl];exact this
  grind[lz]
def u3:Nat->List ni
 | 0=>[some (0,[])]
 | k+1=>u3 k++ [some (122+k,[])]
def hd1:HdM:=⟨1,0,0,1⟩
def WJ:List ni:=[none,some (1,dt hd1),none]
def Bj (N:Nat):List ni:=u3 (N - 122)++WJ
theorem It:∀(g k:Nat),∃r,u3 (k+g)=u3 k++r
 | 0,k=>⟨[],by simp⟩
 | g+1,k=>by
  obtain ⟨r,hr⟩:=It g k
  grind[u3]
theorem MI {m X e}(h:ct D (u3 k)=(e,X))(he:k=m\/e≠0)(hk:k<=m):ct D (u3 m)=(e,X):=by
 rcases he with rfl | he
 ·exact h
 ·obtain ⟨r,hr⟩:=It (m - k) k
  grind[kF]
theorem tT:∀k,(u3 k).length=k+1
 | 0=>rfl
 | k+1=>by rw[u3,kcp,tT k];rfl
def Xr (D:DiskM)(h:HdM)(rows:List ChangeM)(many used:Nat)(e:Int)(D1:DiskM)(h1:HdM)(used1:Nat):Prop:=
 ct D (wC (eO h rows many) (bP rows))=(e,D1)/\((e≠0/\h1=h/\used1=used)\/(e=0/\h1=eO h rows many/\used1<=many/\∃ds,dg (h.first+many) (px D1 122) many 0 [] [] 0=(ds,used1)))
def TH (D:DiskM)(h:HdM)(rows:List ChangeM)(many used:Nat)(c:List ChangeM)(e:Int)(D1:DiskM)(h1:HdM)(used1:Nat):Prop:=
 (many - used<c.length+1/\Xr D h rows many used e D1 h1 used1)\/(¬many - used<c.length+1/\e=0/\D1=D/\h1=h/\used1=used)
def ET (D:DiskM)(h:HdM)(rows:List ChangeM)(many used:Nat)(c:List ChangeM)(e:Int)(D2:DiskM)(h2:HdM)(used2:Nat)(rows2:List ChangeM):Prop:=
 (xw many rows c≠0/\e=xw many rows c/\D2=D/\h2=h/\used2=used/\rows2=rows)\/
 (xw many rows c=0/\∃e1 D1 h1 used1,TH D h rows many used c e1 D1 h1 used1/\((e1≠0/\e=e1/\D2=D1/\h2=h1/\used2=used1/\rows2=rows)\/
  (e1=0/\e=pq 122 many h1.first used1 c D1/\D2=iY 122 many h1.first used1 c D1/\h2=h1/\used2=nm 122 many h1.first used1 c D1/\rows2=if e=0 then cX rows c else rows)))
theorem Iu h t:(wC h t).length=ci t+3:=by simp[wC,xu]
variable {rows:List ChangeM}
theorem ld (hl:rows.length<=80)(hr:∀r∈rows,CJ r):ci (bP rows)<=60:=by
 grind[mN,ci]
def EU {h}(hl:rows.length<=80)(hr:∀r∈rows,CJ r)(J:196<=N):∀x∈wC (eO h rows (N - 122)) (bP rows),ka N x:=by
 have:=ld hl hr;exact MG (by show 2+(1 - h.side)*60+ci (bP rows)<=N;omega)
theorem Hb {h used i e h1 J}(hm:TH D h rows (N - 122) used c e D1 h1 J)(hok:oE N i D)(X:tQ D)(hl:rows.length<=80)(hr:∀r∈rows,CJ r)(V:196<=N)(Z:used<=N - 122):
  oE N (i+63) D1/\tQ D1/\J<=N - 122/\h1.first<=h.first+N/\h1.ep<=h.ep+1/\(h.side<=1->h1.side<=1)/\h.first<=h1.first:=by
 rcases hm with ⟨_,O,Y⟩ | ⟨_,_,rfl,rfl,rfl⟩
 ·have R:=iX (wC (eO h rows (N - 122)) (bP rows)) i D hok;rw[O,Iu] at R;have S:=pB _ D X (EU (h:=h) hl hr V)
  grind[ld,j3,eO]
 grind[j3]
open _root_.Go.Proofs.Tryz
open Go Go.Sl Go.Proofs
abbrev WK (b:Nat)(t:Bytes)(k:Nat):Value:=sl (some ⟨b,80*k,none⟩) (d9 t k).length (d9 t k).length
def Qz (b2 b3 b cap:Nat)(t:Bytes):List ag:=[pcc b2 #[sl (some ⟨b,0,none⟩) t.length cap] 268,pcc b3 #[I 80] 3,roL 1 (some ⟨b,0,none⟩) (aC t)]
theorem KL:(if (((t.length - 80*k:Nat):Nat):Int)<80 then ((t.length - 80*k:Nat):Int) else 80)=(((d9 t k).length:Nat):Int):=by
 grind[mh]
variable {b:Nat}
theorem TI (hk:80*k<t.length):sl (if 80*k+(d9 t k).length=80*k then (some ⟨b,0,none⟩:Option Addr) else (some ⟨b,0,none⟩:Option Addr).map (·.add (80*k*1))) (80*k+(d9 t k).length - 80*k) (80*k+(d9 t k).length - 80*k)=WK b t k:=by
 grind[mh,gi]
def MJ s n cap F:cqq 201 [sl s n cap,I 80] (F) (λv L'=>∃J O,v= .func (.func 252) #[] #[ptr J 0,ptr O 0]/\L'=pcc J #[sl s n cap] 268::pcc O #[I 80] 3::F):=by
 refine Ct.of func201 W 9 ntmps201 (by simp) λw0=>?_;refine A<|gI (dw #[sl s n cap]) ?_;rintro _ _ ⟨J,rfl,rfl⟩;refine gI (dw #[I 80]) ?_;rintro _ _ ⟨O,rfl,rfl⟩;refine T<|ac<|A<|gL (I 80) Xv<|M aG<|ab<|ah ?_ ?_<;>intro R
 ·simp at R
 ·refine ai<|A<|M fV<|T ?_;exact ar (pcc J #[sl s n cap] 268::pcc O #[I 80] 3::F) rfl ⟨J,O,rfl,rfl⟩
def KM J O b cap l t w0(cB:Nat->List ag)B(Y:t.length<=cap)(hlen:t.length<=1000000)(hr:∀k,k<ci t->CC Tryz.prog l (WK b t k) w0 (Qz J O b cap t++cB k) (Qz J O b cap t++cB (k+1)) (Qz J O b cap t++B)):
  ∀w,Sat w0 w (Qz J O b cap t++cB 0)->Calls Tryz.prog 252 (.func (.yield l) #[] #[]:: [ptr J 0,ptr O 0]).toArray w λe w'=>match e with
   | .returned _=>Sat w0 w' (Qz J O b cap t++cB (ci t))\/Sat w0 w' (Qz J O b cap t++B)
   | _=>False:=λw hw=>by
 refine Calls.mono (Mu func252 W 31 ntmps252 (by simp) (L:=pcc J #[sl (some ⟨b,0,none⟩) t.length cap] 268::pcc O #[I 80] 3::roL 1 (some ⟨b,0,none⟩) (aC t)::cB 0) (R:=λv L'=>L'=Qz J O b cap t++cB (ci t)\/L'=Qz J O b cap t++B) ?_ w hw) λe w' he=>?_;rotate_left
 ·cases e with
  | returned v=>
    obtain ⟨L',h1,V | V⟩:=he <;> subst V
    ·exact .inl h1
    ·exact .inr h1
  | panicked ch=>exact he
  | outgrown=>exact he
 refine A<|T<|ak ?_;refine aL (α:=Nat) (λk=>k<=ci t) (λk=>U [(0, .func (.yield l) #[] #[]),(1,ptr J 0),(2,ptr O 0),(4,I ((80*k:Nat):Int))]) (λk=>pcc J #[sl (some ⟨b,0,none⟩) t.length cap] 268::pcc O #[I 80] 3::roL 1 (some ⟨b,0,none⟩) (aC t)::cB k) (λk=>ci t - k) 0 (kcS _) [0,1,2,4] rfl ?_;intro k hk;refine ac<|A<|C<|gL (sl (some ⟨b,0,none⟩) t.length cap) ZU<|M (aP XN)<|M aG<|ab<|ah ?_ ?_<;>intro X
 ·simp at X;have S:80*k<t.length:=(by omega);have hcl:=mh (t:=t) (k:=k);have Z:(d9 t k).length<=80/\80*k+(d9 t k).length<=t.length:=by
   have h1:Nat.min 80 (t.length - 80*k)<=80:=Nat.min_le_left ..;have V:Nat.min 80 (t.length - 80*k)<=t.length - 80*k:=kbG ..;omega
  refine ai<|ac<|ak<|ac ?_;refine dy jM ?_;refine dL W (I 80) Xv<|dL W (sl (some ⟨b,0,none⟩) t.length cap) ZU<|dM W<|dV W (iG (l:=80*k) XN Yd W W W (by omega))<|dV W (aP XN)<|dV W (LY W W)<|dV W ax ?_;refine aN ?_;rw[KL];refine ac ?_;refine Tt ?_;refine LF ao ?_;refine LF (aA (v:=sl (some ⟨b,0,none⟩) t.length cap) ZU) ?_;refine LF ao ?_;refine LF ao ?_;refine LF ao ?_;refine LF (bx (r:=((80*k+(d9 t k).length:Nat):Int)) (by rw[show ((80*k:Nat):Int)+(((d9 t k).length:Nat):Int)=((80*k+(d9 t k).length:Nat):Int) by omega];exact cK (by omega))) ?_;refine LF ao ?_;refine LF ao ?_;refine LF (bx (r:=((80*k+(d9 t k).length:Nat):Int)) (by rw[show ((80*k:Nat):Int)+(((d9 t k).length:Nat):Int)=((80*k+(d9 t k).length:Nat):Int) by omega];exact cK (by omega))) ?_;refine LF (Me (l:=80*k) (h:=80*k+(d9 t k).length) (q:=80*k+(d9 t k).length) XN Yd W W W W W W W (by omega) (by omega) (by omega)) ?_;rw[TI S];refine Qo (l:=l) (v:=WK b t k) W W (hr k (chunks_lt.2 S)) W ?_ ?_;rotate_left
  ·refine LF cS ?_;refine So ?_;refine d6 ?_;exact ar (Qz J O b cap t++B) rfl<|.inr rfl
  show G _ _ _ (pcc J #[sl (some ⟨b,0,none⟩) t.length cap] 268::pcc O #[I 80] 3::roL 1 (some ⟨b,0,none⟩) (aC t)::cB (k+1));refine LF cS ?_;refine So ?_;refine dY ?_;refine ai<|aE<|al<|C<|gL (I 80) Xv<|M (bx (r:=((80*(k+1):Nat):Int)) (by rw[show ((80*k:Nat):Int)+80=((80*(k+1):Nat):Int) by omega];exact cK (by omega)))<|T ?_;exact an (k+1) (chunks_lt.2 S) (by have:=chunks_lt.2 S;omega) [0,1,2,4] rfl
 ·simp at X;obtain rfl:k=ci t:=by
   rcases ka3 k (ci t) with h | h
   ·have:=chunks_lt.1 h;omega
   ·omega
  refine aF ?_;exact Vk (vs:=[]) rfl<|.inl rfl
def Ar (ec TT b:Nat)(φ:DiskM->Prop):ag:=λm=>∃D,φ D/\cj ec TT b D m
variable {F:List ag}{ec TT:Nat}{φ:DiskM->Prop}
def Bl {w0 w}(h:Sat w0 w (Ar ec TT b φ::F)):∃D,φ D/\Sat w0 w (cj ec TT b D::F):=by
 have h1:Sat w0 w (S6 (λD=>Ee (kU (φ D)) (cj ec TT b D))::F):=h.weak λm ⟨D,h1,J⟩=>⟨D,λ_=>none,m,(λ_ _ _ h=>nomatch h),(λ_ _ h=>nomatch h),Res.sub.refl m,h1,J⟩;obtain ⟨D,J⟩:=h1.ex;exact ⟨D,J.star.pure_.1,J.star.pure_.2⟩
variable {c:Cx}{E:di}{L:List ag}{K:List KI}{l:Nat}{Q:fE}
def TJ [R:Rem L (Ar ec TT b φ) F](h:∀D,φ D->H c l Q K E (cj ec TT b D::F)):H c l Q K E L:=λa w O S=>by
 obtain ⟨D,h1,J⟩:=Bl (R.sat S);exact h D h1 a w O J
def TK [R:Rem L (Ar ec TT b φ) F](h:∀D,φ D->G c K E (cj ec TT b D::F)):G c K E L:=λa w O S=>by
 obtain ⟨D,h1,J⟩:=Bl (R.sat S);exact h D h1 a w O J
def QA D(J:φ D)[R:Rem L (cj ec TT b D) F](h:H c l Q K E (Ar ec TT b φ::F)):H c l Q K E L:=λa w O S=>h a w O ((R.sat S).weak λm hm=>⟨D,J,hm⟩)
def QB D(J:φ D)[R:Rem L (cj ec TT b D) F](h:G c K E (Ar ec TT b φ::F)):G c K E L:=λa w O S=>h a w O ((R.sat S).weak λm hm=>⟨D,J,hm⟩)
def yE h:(cO h).length=4:=rfl
def Iv e:one (bQ e)=true:=by unfold bQ fA;split <;> rfl
def l6 bs J h bl s cap rows N i used D(hok:oE N i D)(hi:i<=100000)(hS:tQ D)(hN0:196<=N/\N<=260)(hh:h.ep<=1000000/\h.side<=1/\1<=h.first/\h.first<=1000000000)(hl:rows.length<=80)(hrw:∀r∈rows,CJ r)F:cqq 126 [ptr bs 0] (pcc bs (lL J h bl s (rows.length) cap) 198::pcc bl (gk J 122 (N - 122) h.first (used)) 273::cj 179 319 J (D)::roL 3 s (bI rows)::F) (λv L'=>∃e D1,ct D (wC (eO h rows (N - 122)) (bP rows))=(e,D1)/\((e≠0/\v=bQ e/\L'=pcc bs (lL J h bl s (rows.length) cap) 198::pcc bl (gk J 122 (N - 122) h.first (used)) 273::cj 179 319 J (D1)::roL 3 s (bI rows)::F)\/(e=0/\∃bl' ds V,V<=N - 122/\dg (h.first+(N - 122)) (px D1 122) (N - 122) 0 [] [] 0=(ds,V)/\v=bQ 0/\L'=pcc bs (lL J (eO h rows (N - 122)) bl' s (rows.length) cap) 198::pcc bl' (gk J 122 (N - 122) (h.first+(N - 122)) (V)) 273::cj 179 319 J (D1)::roL 3 s (bI rows)::F))):=by
 refine Ct.of func126 W 113 ntmps126 (by simp) λw0=>?_;have hal:=mN hrw;have hcs:ci (bP rows)<=60:=(by unfold ci;omega);have hckl:∀x∈wC (eO h rows (N - 122)) (bP rows),ka N x:=MG (by show 2+(1 - h.side)*60+ci (bP rows)<=N;omega);refine A<|gI (dw #[ptr bs 0]) ?_;rintro _ _ ⟨b1,rfl,rfl⟩;refine gI (qf (.nilIface) zeroValue37) ?_;rintro _ _ ⟨b2,rfl,rfl⟩;refine ab<|A<|gL (ptr bs 0) Y5<|M aa<|gF 6 Yj W YM<|gL (sl s rows.length cap) Zj<|gR (vB call199 (CL rows s cap (by omega) hrw))<|T<|ac ?_;refine lV (λ_:Nat=>True) (λY=>U [(1,ptr b1 0),(2,ptr b2 0),(3,ay (bP rows)),(4,ptr Y 0)]) (λY=>pcc Y (cO (eO h rows (N - 122))).toArray 195::pcc b2 #[.nilIface] 37::pcc b1 #[ptr bs 0] 95::pcc bs (lL J h bl s (rows.length) cap) 198::pcc bl (gk J 122 (N - 122) h.first (used)) 273::cj 179 319 J (D)::roL 3 s (bI rows)::F) ?_ ?_
 ·refine qX (Lf:=[pcc b1 #[ptr bs 0] 95,pcc bs (lL J h bl s (rows.length) cap) 198]) (.q 0 (.q 1 (.q 2 (.q 3 (.q 4 (.q 5 (.q 6 (.q 7 (.q 8 (.q 9 (.q 10 (.q 11 (.q 12 (.q 13 (.q 14 (.q 15 (.q 16 (.q 17 (.alt (.l 18 (.q 19 (.l 20 (.l 21 (.nil))))) (.l 20 (.l 18 (.q 19 (.l 21 (.nil)))))))))))))))))))))))) ?_;refine eH W (aA (v:=ptr bs 0) Y5) ?_;refine eH W aa ?_;refine eH W (aw 1 Yj W XO) ?_;refine eH W (aw 0 Ye W Xu) ?_;refine eH W (aA (v:=I h.ep) Xv) ?_;refine eH rfl (bx (r:=((h.ep+1:Nat):Int)) (by rw[show (h.ep:Int)+(1:Int)=((h.ep+1:Nat):Int) by omega];exact cK (by omega))) ?_;refine eH W (aA (v:=ptr bs 0) Y5) ?_;refine eH W aa ?_;refine eH W (aw 1 Yj W XO) ?_;refine eH W (aw 1 Ye W Xu) ?_;refine eH W (aA (v:=I h.side) Xv) ?_;refine eH rfl (eG (r:=((1 - h.side:Nat):Int)) (by rw[show (1:Int) - (h.side:Int)=((1 - h.side:Nat):Int) by omega];exact cK (by omega))) ?_;refine eH W ao ?_;refine eH W (cD Xz) ?_;refine eH W (aA (v:=ptr bs 0) Y5) ?_;refine eH W aa ?_;refine eH W (aw 5 Yj W Zx) ?_;refine eH W (aA (v:=ptr bl 0) Zi) ?_;refine oB ?_ ?_
  ·refine lY rfl (uB call200 (wz bl J 122 (N - 122) h.first used ⟨by omega,by omega⟩)) ?_;rintro _ _ ⟨rfl,rfl⟩;refine eH W (aS (eY _ W _ W _ W _ W)) ?_;refine lY W (aO #[I 0,I 0,I 0,I 0] Zl) ?_;rintro _ _ ⟨Y,rfl,rfl⟩;refine GM W (az (cs:=#[I 0,I 0,I 0,I 0]) (vs:=cO (eO h rows (N - 122))) (cO (eO h rows (N - 122))).toArray XO (by decide) (hcs:=by exact bG (h:=yE _))) ?_;rintro _ _ rfl;refine kC ?_;exact cJ Y trivial [1,2,3,4] rfl
  ·refine lY W (aO #[I 0,I 0,I 0,I 0] Zl) ?_;rintro _ _ ⟨Y,rfl,rfl⟩;refine lY rfl (uB call200 (wz bl J 122 (N - 122) h.first used ⟨by omega,by omega⟩)) ?_;rintro _ _ ⟨rfl,rfl⟩;refine eH W (aS (eY _ W _ W _ W _ W)) ?_;refine GM W (az (cs:=#[I 0,I 0,I 0,I 0]) (vs:=cO (eO h rows (N - 122))) (cO (eO h rows (N - 122))).toArray XO (by decide) (hcs:=by exact bG (h:=yE _))) ?_;rintro _ _ rfl;refine kC ?_;exact cJ Y trivial [1,2,3,4] rfl
 intro Y _;refine A<|gI (qf (I 0) X5) ?_;rintro _ _ ⟨b5,rfl,rfl⟩;refine gU (aJ #[I ((0:Nat):Int)] Xu (by decide))<|ab<|ac<|A<|C<|gI (GN Xz XN XI W) ?_;rintro _ _ ⟨S,c37,rfl,hc37,rfl⟩;refine gI (uA call201 (MJ (some ⟨S,0,none⟩) (bP rows).length c37)) ?_;rintro _ _ ⟨Z,d38,rfl,rfl⟩;refine ab<|ak ?_;obtain ⟨eN,DN,hN⟩:∃e X,ct D (np (1 - h.side) (bP rows) 0 ((ci (bP rows))))=(e,X):=⟨_,_,rfl⟩;refine QB (ec:=179) (TT:=319) (b:=J) (φ:=λX=>ct D (np (1 - h.side) (bP rows) 0 (0))=(0,X)) D W ?_;refine jf (L2:=pcc Z #[sl (some ⟨S,0,none⟩) (bP rows).length c37] 268::pcc d38 #[I 80] 3::roL 1 (some ⟨S,0,none⟩) (aC (bP rows))::Ar 179 319 J (λX=>ct D (np (1 - h.side) (bP rows) 0 (0))=(0,X))::pcc b5 #[I ((0:Nat):Int)] 3::pcc b2 #[.nilIface] 37::pcc b1 #[ptr bs 0] 95::pcc Y (cO (eO h rows (N - 122))).toArray 195::pcc bs (lL J h bl s (rows.length) cap) 198::pcc bl (gk J 122 (N - 122) h.first (used)) 273::roL 3 s (bI rows)::F) ?_;refine ED (Pre:=[pcc Z #[sl (some ⟨S,0,none⟩) (bP rows).length c37] 268,pcc d38 #[I 80] 3,roL 1 (some ⟨S,0,none⟩) (aC (bP rows))]) (cB:=λk=>Ar 179 319 J (λX=>ct D (np (1 - h.side) (bP rows) 0 (k))=(0,X))::pcc b5 #[I ((k:Nat):Int)] 3::pcc b2 #[.nilIface] 37::pcc b1 #[ptr bs 0] 95::pcc Y (cO (eO h rows (N - 122))).toArray 195::pcc bs (lL J h bl s (rows.length) cap) 198::pcc bl (gk J 122 (N - 122) h.first (used)) 273::roL 3 s (bI rows)::F) (B:=kU (eN≠0)::cj 179 319 J (DN)::pcc b2 #[bQ eN] 37::pcc b1 #[ptr bs 0] 95::pcc Y (cO (eO h rows (N - 122))).toArray 195::pcc bs (lL J h bl s (rows.length) cap) 198::pcc bl (gk J 122 (N - 122) h.first (used)) 273::roL 3 s (bI rows)::F) (N:=(ci (bP rows))) (v:=WK S (bP rows)) (cap:=[ptr Z 0,ptr d38 0]) rfl rfl rfl call252 (λl A' B' hr w hw=>KM Z d38 S c37 l (bP rows) _ A' B' hc37 (by omega) hr w hw) rfl (λl k a w hE=>WP hE rfl) ?_ ?_ ?_
 ·intro l D' O k hk;show H _ _ (Ij _ (pcc Z #[sl (some ⟨S,0,none⟩) (bP rows).length c37] 268::pcc d38 #[I 80] 3::roL 1 (some ⟨S,0,none⟩) (aC (bP rows))::pt l O::pt D' dO::Ar 179 319 J (λX=>ct D (np (1 - h.side) (bP rows) 0 ((k+1)))=(0,X))::pcc b5 #[I (((k+1):Nat):Int)] 3::pcc b2 #[.nilIface] 37::pcc b1 #[ptr bs 0] 95::pcc Y (cO (eO h rows (N - 122))).toArray 195::pcc bs (lL J h bl s (rows.length) cap) 198::pcc bl (gk J 122 (N - 122) h.first (used)) 273::roL 3 s (bI rows)::F) (pcc Z #[sl (some ⟨S,0,none⟩) (bP rows).length c37] 268::pcc d38 #[I 80] 3::roL 1 (some ⟨S,0,none⟩) (aC (bP rows))::pt l O::pt D' dO::kU (eN≠0)::cj 179 319 J (DN)::pcc b2 #[bQ eN] 37::pcc b1 #[ptr bs 0] 95::pcc Y (cO (eO h rows (N - 122))).toArray 195::pcc bs (lL J h bl s (rows.length) cap) 198::pcc bl (gk J 122 (N - 122) h.first (used)) 273::roL 3 s (bI rows)::F)) _ _ (pcc Z #[sl (some ⟨S,0,none⟩) (bP rows).length c37] 268::pcc d38 #[I 80] 3::roL 1 (some ⟨S,0,none⟩) (aC (bP rows))::pt l O::pt D' dO::Ar 179 319 J (λX=>ct D (np (1 - h.side) (bP rows) 0 (k))=(0,X))::pcc b5 #[I ((k:Nat):Int)] 3::pcc b2 #[.nilIface] 37::pcc b1 #[ptr bs 0] 95::pcc Y (cO (eO h rows (N - 122))).toArray 195::pcc bs (lL J h bl s (rows.length) cap) 198::pcc bl (gk J 122 (N - 122) h.first (used)) 273::roL 3 s (bI rows)::F);refine TJ (ec:=179) (TT:=319) (b:=J) (φ:=λX=>ct D (np (1 - h.side) (bP rows) 0 (k))=(0,X)) ?_;intro Dk hDk;have hokk:=iX (np (1 - h.side) (bP rows) 0 (k)) i D hok;rw[hDk,xu] at hokk;simp only at hokk;have hckl1:=Bg (bP rows) k;refine Ts (m:=80*k) (n:=80) (t:=(bP rows)) (b:=S) ?_;rw[show (List.drop (80*k) (bP rows)).take 80=d9 (bP rows) k from rfl];refine Qm ?_;refine Ii ?_;refine Tq (Lf:=[pcc b1 #[ptr bs 0] 95,pcc Y (cO (eO h rows (N - 122))).toArray 195,pcc b5 #[I ((k:Nat):Int)] 3,pcc bs (lL J h bl s (rows.length) cap) 198,roL 1 (some ⟨S,80*k,none⟩) (aC (d9 (bP rows) k))]) (plN [0,2,4,6,8,10,12,14,16,18,20,22,25,26]) (α:=Unit) (λ_=>True) (λ_=>U [(2,ptr b2 0),(5,ptr b5 0),(7,bQ (du Dk ((2+(1 - h.side)*60+k:Nat):Int) (d9 (bP rows) k)))]) (λ_=>pcc Z #[sl (some ⟨S,0,none⟩) (bP rows).length c37] 268::pcc d38 #[I 80] 3::roL 1 (some ⟨S,0,none⟩) (aC (bP rows))::pt l O::pt D' dO::cj 179 319 J ((cH Dk ((2+(1 - h.side)*60+k:Nat):Int) (d9 (bP rows) k)))::pcc b5 #[I ((k:Nat):Int)] 3::pcc b2 #[.nilIface] 37::pcc b1 #[ptr bs 0] 95::pcc Y (cO (eO h rows (N - 122))).toArray 195::pcc bs (lL J h bl s (rows.length) cap) 198::pcc bl (gk J 122 (N - 122) h.first (used)) 273::roL 3 s (bI rows)::F) (by kernel_rfl) (by kernel_rfl) rfl (by kernel_rfl) (by kernel_rfl) ?_ ?_
  ·refine dL rfl (ptr bs 0) Y5<|dV rfl aa<|dF rfl 0 Yj rfl YS<|dL rfl (ptr J 0) Y2<|dF rfl 1 Ye rfl Xu<|dL rfl (I (((1 - h.side):Nat):Int)) Xv<|dV rfl (lW (r:=(((1 - h.side)*60:Nat):Int)) (by rw[show ((((1 - h.side):Nat):Int):Int)*(60:Int)=(((1 - h.side)*60:Nat):Int) by omega];exact cK (by omega)))<|dV rfl (bx (r:=((2+(1 - h.side)*60:Nat):Int)) (by rw[show (2:Int)+((((1 - h.side)*60:Nat):Int):Int)=((2+(1 - h.side)*60:Nat):Int) by omega];exact cK (by omega)))<|dL rfl (I (k:Int)) Xv<|dV rfl (bx (r:=((2+(1 - h.side)*60+k:Nat):Int)) (by rw[show (((2+(1 - h.side)*60:Nat):Int):Int)+(k:Int)=((2+(1 - h.side)*60+k:Nat):Int) by omega];exact cK (by omega)))<|dM rfl<|dV rfl (cg (l:=d9 (bP rows) k) XN XI Xz rfl)<|cQ rfl (uB call175 (fp J Dk ((2+(1 - h.side)*60+k:Nat):Int) (d9 (bP rows) k) hokk.2.2.1 (by have:=hokk.2.2.2.2;omega))) ?_;rintro _ _ ⟨rfl,rfl⟩;refine dV W ax ?_;refine aN ?_;exact cJ () trivial [2,5,7] rfl
  intro _ _;obtain ⟨e1,he1⟩:∃e,du Dk ((2+(1 - h.side)*60+k:Nat):Int) (d9 (bP rows) k)=e:=⟨_,rfl⟩;obtain ⟨D1,hD1⟩:∃X,cH Dk ((2+(1 - h.side)*60+k:Nat):Int) (d9 (bP rows) k)=X:=⟨_,rfl⟩;rw[he1,hD1];have hsn:ct D (np (1 - h.side) (bP rows) 0 (k+1))=(e1,D1):=by
   rw[ES,ka9,kE hDk,<-he1,<-hD1]
   rfl
  refine Ii ?_;refine Ii ?_;refine Mt (α:=Unit) (λ_=>True) (λ_=>U [(2,ptr b2 0),(5,ptr b5 0),(7,bQ e1),(54,Bo (!decide (e1=0)))]) (λ_=>pcc Z #[sl (some ⟨S,0,none⟩) (bP rows).length c37] 268::pcc d38 #[I 80] 3::roL 1 (some ⟨S,0,none⟩) (aC (bP rows))::pt l O::pt D' dO::cj 179 319 J (D1)::pcc b5 #[I ((k:Nat):Int)] 3::pcc b2 #[.nilIface] 37::pcc b1 #[ptr bs 0] 95::pcc Y (cO (eO h rows (N - 122))).toArray 195::pcc bs (lL J h bl s (rows.length) cap) 198::pcc bl (gk J 122 (N - 122) h.first (used)) 273::roL 3 s (bI rows)::F) (by kernel_rfl) ?_ ?_
  ·refine C<|M (bX XF)<|ab ?_;exact cJ () trivial [2,5,7,54] rfl
  intro _ _;refine Tp W (λh54=>?_)<|λh54=>?_
  ·have h54':e1≠0:=(by simpa using h54);have hNe:ct D (np (1 - h.side) (bP rows) 0 ((ci (bP rows))))=(e1,D1):=by
    rw[show ci (bP rows)=(k+1)+(ci (bP rows) - (k+1)) by omega,Is];exact kF hsn h54'
   rw[hN] at hNe;injection hNe with hq1 hq2;obtain rfl:eN=e1:=hq1;obtain rfl:DN=D1:=hq2;refine Ii ?_;refine Mt (α:=Unit) (λ_=>True) (λ_=>U []) (λ_=>pcc Z #[sl (some ⟨S,0,none⟩) (bP rows).length c37] 268::pcc d38 #[I 80] 3::roL 1 (some ⟨S,0,none⟩) (aC (bP rows))::pt l O::pt D' dO::cj 179 319 J (DN)::pcc b5 #[I ((k:Nat):Int)] 3::pcc b2 #[bQ eN] 37::pcc b1 #[ptr bs 0] 95::pcc Y (cO (eO h rows (N - 122))).toArray 195::pcc bs (lL J h bl s (rows.length) cap) 198::pcc bl (gk J 122 (N - 122) h.first (used)) 273::roL 3 s (bI rows)::F) (by kernel_rfl) ?_ ?_
   ·refine C<|gU (aJ #[bQ eN] sizeOf37 (h1:=by exact Iv _) (by simp))<|ab ?_;exact cJ () trivial [] rfl
   intro _ _;refine Ku (φ:=eN≠0) h54' ?_;exact Vt
  ·have h54':e1=0:=(by simpa using h54);refine To ?_;refine Mt (α:=Unit) (λ_=>True) (λ_=>U []) (λ_=>pcc Z #[sl (some ⟨S,0,none⟩) (bP rows).length c37] 268::pcc d38 #[I 80] 3::roL 1 (some ⟨S,0,none⟩) (aC (bP rows))::pt l O::pt D' dO::cj 179 319 J (D1)::pcc b5 #[I (((k+1):Nat):Int)] 3::pcc b2 #[.nilIface] 37::pcc b1 #[ptr bs 0] 95::pcc Y (cO (eO h rows (N - 122))).toArray 195::pcc bs (lL J h bl s (rows.length) cap) 198::pcc bl (gk J 122 (N - 122) h.first (used)) 273::roL 3 s (bI rows)::F) (by kernel_rfl) ?_ ?_
   ·refine gL (I (k:Int)) Xv<|M (bx (r:=((k+1:Nat):Int)) (by rw[show (k:Int)+(1:Int)=((k+1:Nat):Int) by omega];exact cK (by omega)))<|gU (aJ #[I ((k+1:Nat):Int)] Xu (by simp))<|ab ?_;exact cJ () trivial [] rfl
   intro _ _;refine Vr ?_;refine QA (ec:=179) (TT:=319) (b:=J) (φ:=λX=>ct D (np (1 - h.side) (bP rows) 0 ((k+1)))=(0,X)) D1 (by rw[hsn,h54']) ?_;exact Vs
 rotate_left
 ·intro D';show G _ _ _ (pt D' dO::pcc Z #[sl (some ⟨S,0,none⟩) (bP rows).length c37] 268::pcc d38 #[I 80] 3::roL 1 (some ⟨S,0,none⟩) (aC (bP rows))::kU (eN≠0)::cj 179 319 J (DN)::pcc b2 #[bQ eN] 37::pcc b1 #[ptr bs 0] 95::pcc Y (cO (eO h rows (N - 122))).toArray 195::pcc bs (lL J h bl s (rows.length) cap) 198::pcc bl (gk J 122 (N - 122) h.first (used)) 273::roL 3 s (bI rows)::F);refine Qn (φ:=eN≠0) ?_;intro hne;exact GR (b:=b2) (o:=0) (v:=bQ eN) (Lf:=pcc bs (lL J h bl s (rows.length) cap) 198::pcc bl (gk J 122 (N - 122) h.first (used)) 273::cj 179 319 J (DN)::roL 3 s (bI rows)::F) rfl rfl rfl isAgg37 rfl ⟨eN,DN,kF hN hne, .inl ⟨hne,rfl,rfl⟩⟩
 intro D';show G _ _ _ (pt D' dO::pcc Z #[sl (some ⟨S,0,none⟩) (bP rows).length c37] 268::pcc d38 #[I 80] 3::roL 1 (some ⟨S,0,none⟩) (aC (bP rows))::Ar 179 319 J (λX=>ct D (np (1 - h.side) (bP rows) 0 ((ci (bP rows))))=(0,X))::pcc b5 #[I (((ci (bP rows)):Nat):Int)] 3::pcc b2 #[.nilIface] 37::pcc b1 #[ptr bs 0] 95::pcc Y (cO (eO h rows (N - 122))).toArray 195::pcc bs (lL J h bl s (rows.length) cap) 198::pcc bl (gk J 122 (N - 122) h.first (used)) 273::roL 3 s (bI rows)::F);refine TK (ec:=179) (TT:=319) (b:=J) (φ:=λX=>ct D (np (1 - h.side) (bP rows) 0 ((ci (bP rows))))=(0,X)) ?_;intro D1 hD1;rw[hN] at hD1;injection hD1 with hq1 hq2;subst hq1;obtain rfl:DN=D1:=hq2;have hokN:=iX (np (1 - h.side) (bP rows) 0 ((ci (bP rows)))) i D hok;rw[hN,xu] at hokN;simp only at hokN;refine aE<|A<|gL (ptr bs 0) Y5<|M aa<|gF 0 Yj W YS<|gL (ptr J 0) Y2<|gR (vB call176 (ig J DN hokN.2.2.1 (by rw[hokN.1,hokN.2.1]) (by rw[hokN.2.1];omega)))<|T<|ac<|A<|C<|M (fX XF)<|ab ?_;refine lV (α:=Int×DiskM) (λz=>ct DN [none,some ((h.ep+1) % 2,dt (eO h rows (N - 122)))]=z) (λz=>U [(1,ptr b1 0),(2,ptr b2 0),(4,ptr Y 0),(8,bQ z.1)]) (λz=>pt D' dO::cj 179 319 J (z.2)::pcc b2 #[.nilIface] 37::pcc b1 #[ptr bs 0] 95::pcc Y (cO (eO h rows (N - 122))).toArray 195::pcc bs (lL J h bl s (rows.length) cap) 198::pcc bl (gk J 122 (N - 122) h.first (used)) 273::roL 3 s (bI rows)::F) ?_ ?_
 ·apply ah<;>intro h64
  ·have hs0:dm DN=0:=(by simpa using h64);have hokF:oE N (i+ci (bP rows)+1) (cL DN):=qZ hokN;refine gD (Lf:=[pcc b1 #[ptr bs 0] 95,pcc Y (cO (eO h rows (N - 122))).toArray 195,pcc bs (lL J h bl s (rows.length) cap) 198]) (plN [0,2,4,6,8,10,12,14,17,19,20])<|dL W (ptr bs 0) Y5<|dV W aa<|dF W 0 Yj W YS<|dL W (ptr J 0) Y2<|dF W 0 Ye W Xu<|dL W (I ((h.ep+1:Nat):Int)) Xv<|dV W (tq (r:=(((h.ep+1) % 2:Nat):Int)) (by rfl))<|dV W (bj (vs:=cO (eO h rows (N - 122))) Yi XO bM)<|cQ W (uA call177 (rX (eO h rows (N - 122)))) ?_;rintro _ _ ⟨rfl,rfl⟩;refine cQ W (uB call175 (fp J (cL DN) (((h.ep+1) % 2:Nat):Int) (dt (eO h rows (N - 122))) hokF.2.2.1 (by have:=hokF.2.2.2.2;omega))) ?_;rintro _ _ ⟨rfl,rfl⟩;refine dV W ax ?_;refine aN ?_;exact cJ (du (cL DN) (((h.ep+1) % 2:Nat):Int) (dt (eO h rows (N - 122))),cH (cL DN) (((h.ep+1) % 2:Nat):Int) (dt (eO h rows (N - 122)))) (by rw[nM hs0];exact kE (l:=[]) rfl) [1,2,4,8] rfl
  ·have hs0:¬dm DN=0:=(by simpa using h64);refine ai ?_;exact cJ (dm DN,cL DN) (mJ hs0) [1,2,4,8] rfl
 rintro ⟨e2,D2⟩ h2;simp only at h2 ⊢;have hok2:=iX [none,some ((h.ep+1) % 2,dt (eO h rows (N - 122)))] _ DN hokN;rw[h2] at hok2;simp only[kaX,kcO] at hok2;refine ac<|A<|C<|M (fX XF)<|ab ?_;refine lV (α:=Int×DiskM) (λz=>ct DN [none,some ((h.ep+1) % 2,dt (eO h rows (N - 122))),none]=z/\(z.1=0->z.2.down=false)) (λz=>U [(1,ptr b1 0),(2,ptr b2 0),(4,ptr Y 0),(8,bQ z.1)]) (λz=>pt D' dO::cj 179 319 J (z.2)::pcc b2 #[.nilIface] 37::pcc b1 #[ptr bs 0] 95::pcc Y (cO (eO h rows (N - 122))).toArray 195::pcc bs (lL J h bl s (rows.length) cap) 198::pcc bl (gk J 122 (N - 122) h.first (used)) 273::roL 3 s (bI rows)::F) ?_ ?_
 ·apply ah<;>intro h76
  ·have h76':e2=0:=(by simpa using h76);refine al<|gL (ptr bs 0) Y5<|M aa<|gF 0 Yj W YS<|gL (ptr J 0) Y2<|gR (vB call176 (ig J D2 hok2.2.2.1 (by rw[hok2.1,hok2.2.1]) (by rw[hok2.2.1];omega)))<|T ?_;exact cJ (dm D2,cL D2) ⟨kE (l:=[none,some ((h.ep+1) % 2,dt (eO h rows (N - 122)))]) (x:=none) (by rw[h2,h76']),λh=>(lc h).1.2.2⟩ [1,2,4,8] rfl
  ·have h76':¬e2=0:=(by simpa using h76);refine ai ?_;exact cJ (e2,D2) ⟨kF (l:=[none,some ((h.ep+1) % 2,dt (eO h rows (N - 122)))]) (r:=[none]) h2 h76',λh=>absurd h h76'⟩ [1,2,4,8] rfl
 rintro ⟨e3,D3⟩ ⟨h3,hdn3⟩;simp only at h3 hdn3 ⊢;have hall:ct D (wC (eO h rows (N - 122)) (bP rows))=(e3,D3):=(MH hN).trans h3;have hok3:=iX (wC (eO h rows (N - 122)) (bP rows)) i D hok;rw[hall] at hok3;simp only at hok3;have hS3:=pB (wC (eO h rows (N - 122)) (bP rows)) D hS hckl;rw[hall] at hS3;simp only at hS3;refine ac<|A<|C<|M (bX XF)<|ab<|ah ?_ ?_<;>intro h83
 ·have h83':e3≠0:=(by simpa using h83);refine A<|C<|gU (aJ #[bQ e3] sizeOf37 (h1:=by exact Iv _) (by decide))<|ab ?_;exact GR (b:=b2) (o:=0) (v:=bQ e3) (Lf:=pcc bs (lL J h bl s (rows.length) cap) 198::pcc bl (gk J 122 (N - 122) h.first (used)) 273::cj 179 319 J (D3)::roL 3 s (bI rows)::F) rfl rfl rfl isAgg37 rfl ⟨e3,D3,hall, .inl ⟨h83',rfl,rfl⟩⟩
 ·have h83':e3=0:=(by simpa using h83);subst h83'
  replace hdn3:=hdn3 rfl
  refine ai<|ac<|gD (Lf:=[pcc b1 #[ptr bs 0] 95,pcc Y (cO (eO h rows (N - 122))).toArray 195,pcc bs (lL J h bl s (rows.length) cap) 198]) (plN [0,2,4,6,8,10,12,14,20,22,17,18,25,26,28,30,32,34,36,38])<|dL rfl (ptr bs 0) Y5<|dV rfl aa<|dF rfl 0 Yj rfl YS<|dL rfl (ptr J 0) Y2<|dL rfl (ptr bs 0) Y5<|dV rfl aa<|dF rfl 0 Yj rfl YS<|dL rfl (ptr J 0) Y2<|dF rfl 3 Ye rfl Xu<|dL rfl (I ((h.first+(N - 122):Nat):Int)) Xv<|cQ rfl (uB (R:=λF=>R1 (I (D3.now.length:Int)) (cj 179 319 J (D3)::F)) call112 (ew J D3)) ?_;rintro _ _ ⟨rfl,rfl⟩;refine dV rfl (eG (r:=((N - 122:Nat):Int)) (by rw[hok3.2.1,show (N:Int) - 122=((N - 122:Nat):Int) by omega];exact cK (by omega)))<|cQ rfl (uB call116 (wA J D3 122 ((N - 122:Nat):Int) ((h.first+(N - 122):Nat):Int) hS3.2.1 ⟨by rw[hok3.2.1];omega,by omega⟩)) ?_;rintro _ _ (⟨hbad,_,_⟩ | ⟨_,hdn,_,_⟩ | ⟨_,_,bl',gl,so,co,V,rfl,hul,_,hsc,rfl⟩)
  ·exfalso;unfold yr at hbad;rw[hok3.2.1] at hbad;omega
  ·rw[hdn3] at hdn;cases hdn
  rw[show gk J ((122:Int)).toNat ((N - 122:Nat):Int).toNat ((h.first+(N - 122):Nat):Int).toNat V=gk J 122 (N - 122) (h.first+(N - 122)) V from rfl]
  replace hul:V<=N - 122:=hul
  replace hsc:dg (h.first+(N - 122)) (px D3 122) (N - 122) 0 [] [] 0=(gl.map (·.1),V):=hsc
  refine dM W<|dV W (aB (v:=ptr bl' 0))<|dV W (aB (v:=sl so gl.length co))<|dV W (aB (v:=bQ 0))<|dV W ax<|dV W ax<|dV W ax ?_;refine aN ?_;refine ac<|A<|C<|M (fX XF)<|ab ?_;refine d6 ?_;refine gD (Lf:=[pcc b1 #[ptr bs 0] 95,pcc Y (cO (eO h rows (N - 122))).toArray 195]) (plN [0,2,4,6,8,10,13,14,16,19])<|dL W (ptr bs 0) Y5<|dL W (ptr bs 0) Y5<|dV W (bj (vs:=cO (eO h rows (N - 122))) Yi XO bM)<|dM W<|dV W aa<|dF W 1 Yj W XO<|rE W (az (cs:=lL J h bl s rows.length cap) (vs:=cO (eO h rows (N - 122))) (lL J (eO h rows (N - 122)) bl s rows.length cap) XO (by simp)) ?_;rintro _ _ rfl;refine dV W aa<|dF W 5 Yj W Zx<|rE W (aJ (lL J (eO h rows (N - 122)) bl' s rows.length cap) Zx (by simp)) ?_;rintro _ _ rfl;refine aN ?_;refine A<|C<|gU (aJ #[bQ 0] sizeOf37 (by decide))<|ab ?_;exact GR (b:=b2) (o:=0) (v:=bQ 0) (Lf:=pcc bs (lL J (eO h rows (N - 122)) bl' s (rows.length) cap) 198::pcc bl' (gk J 122 (N - 122) (h.first+(N - 122)) (V)) 273::cj 179 319 J (D3)::roL 3 s (bI rows)::F) rfl rfl rfl isAgg37 rfl ⟨0,D3,hall, .inr ⟨rfl,bl',gl.map (·.1),V,hul,hsc,rfl,rfl⟩⟩
variable {c:List ChangeM}
def tU (h:72<c.length):xw many rows c=2:=by unfold xw;rw[kaT h]
theorem xx (h:c.length<=72)(J:lb c≠0):xw many rows c=lb c:=by grind[xw]
theorem tV (h:c.length<=72)(O:lb c=0)(J:80<(cX rows c).length\/many<c.length+1):xw many rows c=8:=by grind[xw]
theorem MK (h:c.length<=72)(O:lb c=0)(J:¬(80<(cX rows c).length\/many<c.length+1)):xw many rows c=0:=by grind[xw]
def pY bs O h bl s cap rows N i used D(hok:oE N i D)(hi:i<=100000)(hS:tQ D)(hN0:196<=N/\N<=260)(hh:h.ep<=1000000/\h.side<=1/\1<=h.first/\h.first<=1000000000)(hl:rows.length<=80)(hrw:∀r∈rows,CJ r)(hu:used<=N - 122)(hs:srt rows)c s' Y(hcl:c.length<=9223372036854775807)F:cqq 103 [ptr bs 0,sl s' c.length Y] (pcc bs (lL O h bl s (rows.length) cap) 198::pcc bl (gk O 122 (N - 122) h.first (used)) 273::cj 179 319 O (D)::roL 3 s (bI rows)::roL 3 s' (bI c)::F) (λv L'=>∃e D2 h2 used2 rows2 bl2 s2 cap2,ET D h rows (N - 122) used c e D2 h2 used2 rows2/\v=bQ e/\L'=pcc bs (lL O h2 bl2 s2 rows2.length cap2) 198::pcc bl2 (gk O 122 (N - 122) h2.first used2) 273::cj 179 319 O (D2)::roL 3 s2 (bI rows2)::roL 3 s' (bI c)::F):=by
 refine Ct.of func103 W 76 ntmps103 (by simp) λw0=>?_;refine A<|T<|ac<|A<|C<|M (aP Xy)<|M aQ<|ab<|ah ?_ ?_<;>intro h13
 ·simp at h13;have hlong:72<c.length:=(by omega);refine A<|M (ba XG)<|T ?_;exact ar (pcc bs (lL O h bl s (rows.length) cap) 198::pcc bl (gk O 122 (N - 122) h.first (used)) 273::cj 179 319 O (D)::roL 3 s (bI rows)::roL 3 s' (bI c)::F) rfl ⟨2,D,h,used,rows,bl,s,cap, .inl ⟨by rw[tU hlong];decide,by rw[tU hlong],rfl,rfl,rfl,rfl⟩,rfl,rfl⟩
 ·simp at h13;have V:c.length<=72:=(by omega);refine ai<|ac<|A<|C<|M (aP Xy)<|C<|ab<|ak ?_;refine aL (α:=Nat) (λk=>k<=c.length/\lb c=lb (c.drop k)) (λk=>U [(0,ptr bs 0),(1,sl s' c.length Y),(15,sl s' c.length Y),(16,I c.length),(17,I (k:Int))]) (λk=>pcc bs (lL O h bl s (rows.length) cap) 198::pcc bl (gk O 122 (N - 122) h.first (used)) 273::cj 179 319 O (D)::roL 3 s (bI rows)::roL 3 s' (bI c)::F) (λk=>c.length - k) 0 ⟨kcS _,rfl⟩ [0,1,15,16,17] rfl ?_;rintro k ⟨hk,hfk⟩;refine A<|M aG<|ab<|ac<|ah ?_ ?_<;>intro h18
  ·simp at h18;have hkn:k<c.length:=(by omega);obtain ⟨x,hx⟩:∃x,c[k]? =some x:=⟨_,kbN hkn⟩;have hkr:k<(bI c).length:=(by rw[aT];exact hkn);have hfd:=tL hx;refine ai<|ac<|ak<|A<|M (av k Xy Xw hkn hkr)<|M (bO (row:=bg x) XU Xw (de hx))<|gI (aO #[ay [],ay [],Bo false] XH) ?_;rintro _ _ ⟨b6,rfl,rfl⟩;refine gU (az (cs:=#[ay [],ay [],Bo false]) (vs:=bg x) (bg x).toArray Xw (by decide) (hcs:=by exact bG))<|ab<|A<|M (bj (vs:=bg (x)) XU Xw bM)<|gR (vA call178 (kB x))<|T<|A<|C<|M (bX XF)<|ab<|ah ?_ ?_<;>intro h24
   ·have hx0:¬d7 x=0:=(by simpa using h24);have hfx:lb c=d7 x:=(by rw[hfk,hfd,kaU hx0]);refine A<|C<|T ?_;exact ar (pcc bs (lL O h bl s (rows.length) cap) 198::pcc bl (gk O 122 (N - 122) h.first (used)) 273::cj 179 319 O (D)::roL 3 s (bI rows)::roL 3 s' (bI c)::F) rfl ⟨(d7 x),D,h,used,rows,bl,s,cap, .inl ⟨by rw[xx V (by rw[hfx];exact hx0),hfx];exact hx0,by rw[xx V (by rw[hfx];exact hx0),hfx],rfl,rfl,rfl,rfl⟩,rfl,rfl⟩
   ·have hx0:d7 x=0:=(by simpa using h24);refine ai<|aE<|al<|M (bx (r:=((k+1:Nat):Int)) (by rw[show (k:Int)+1=((k+1:Nat):Int) by omega];exact cK (by omega)))<|C<|ab ?_;exact an (k+1) ⟨by omega,by rw[hfk,hfd,kaT hx0]⟩ (by omega) [0,1,15,16,17] rfl
  ·simp at h18;obtain rfl:k=c.length:=(by omega);rw[kcz] at hfk;have hf0:lb c=0:=hfk;refine aF ?_;refine A<|C<|M aa<|gF 6 Yj W YM<|gL (sl s rows.length cap) Zj<|C<|gI (uC call117 (pz rows c s s' cap Y hs (by omega) (by omega))) ?_;rintro _ _ ⟨X,c32,rfl,rfl⟩;refine bz (ec:=174) (cap:=c32) X ?_;refine T<|ac<|A<|C<|M (aP Xy)<|M aQ<|C<|gK ao<|gK (aP Xy)<|gK (bx (r:=((c.length+1:Nat):Int)) (by rw[show (c.length:Int)+1=((c.length+1:Nat):Int) by omega];exact cK (by omega)))<|gK ao<|gK aa<|gK (aw 0 Yj rfl YS)<|gK (aA (v:=ptr O 0) Y2) ?_;refine Tc W W (λhg=>dQ (Pre:=[cj 179 319 O (D)]) (R:=λF=>R1 (I ((D).now.length:Int)) (cj 179 319 O (D)::F)) call112 (ew O D)) W W ?_;refine gK (eG (r:=((N - 122:Nat):Int)) (by rw[hok.2.1,show (N:Int) - 122=((N - 122:Nat):Int) by omega];exact cK (by omega)))<|gK aQ<|M cv<|ab ?_;apply ah<;>intro h47
   ·simp at h47;have hfull:80<(cX rows c).length\/N - 122<c.length+1:=(by omega);refine A<|M (ba XG)<|T ?_;exact ar (pcc bs (lL O h bl s (rows.length) cap) 198::pcc bl (gk O 122 (N - 122) h.first (used)) 273::cj 179 319 O (D)::roL 3 s (bI rows)::roL 3 s' (bI c)::F) rfl ⟨8,D,h,used,rows,bl,s,cap, .inl ⟨by rw[tV V hf0 hfull];decide,by rw[tV V hf0 hfull],rfl,rfl,rfl,rfl⟩,rfl,rfl⟩
   ·simp at h47;have hfull:¬(80<(cX rows c).length\/N - 122<c.length+1):=(by omega);have hcm:=MK V hf0 hfull;refine ai<|ac<|A<|C<|M (aP Xy)<|M (bx (r:=((c.length+1:Nat):Int)) (by rw[show (c.length:Int)+1=((c.length+1:Nat):Int) by omega];exact cK (by omega)))<|C<|M aa<|gF 5 Yj rfl Zx<|gL (ptr bl 0) Zi<|gR (vB call179 (wy bl O 122 (N - 122) h.first used ⟨hu,by omega⟩))<|M aQ<|ab ?_;refine lV (α:=DiskM×HdM×Nat×Nat) (λz=>TH D h rows (N - 122) used c 0 z.1 z.2.1 z.2.2.1) (λz=>U [(0,ptr bs 0),(1,sl s' c.length Y),(8,sl X (cX rows c).length c32)]) (λz=>pcc bs (lL O z.2.1 z.2.2.2 s rows.length cap) 198::pcc z.2.2.2 (gk O 122 (N - 122) z.2.1.first z.2.2.1) 273::cj 179 319 O (z.1)::roL 3 s (bI rows)::roL 3 s' (bI c)::roL 3 X (bI (cX rows c))::F) ?_ ?_
    ·apply ah<;>intro h57
     ·simp at h57;have hroom:N - 122 - used<c.length+1:=(by omega);refine A<|C<|gI (uE call126 (l6 bs O h bl s cap rows N i used D hok hi hS hN0 hh hl hrw)) ?_;rintro _ _ ⟨e59,D59,hck,⟨hne,rfl,rfl⟩ | ⟨h0,bl9,ds9,used9,hu9,hsc9,rfl,rfl⟩⟩
      ·refine T<|A<|C<|M (bX XF)<|ab<|ah ?_ ?_<;>intro h61
       ·refine A<|C<|T ?_;exact ar (pcc bs (lL O h bl s (rows.length) cap) 198::pcc bl (gk O 122 (N - 122) h.first (used)) 273::cj 179 319 O (D59)::roL 3 s (bI rows)::roL 3 s' (bI c)::F) rfl ⟨e59,D59,h,used,rows,bl,s,cap, .inr ⟨hcm,e59,D59,h,used, .inl ⟨hroom,hck, .inl ⟨hne,rfl,rfl⟩⟩, .inl ⟨hne,rfl,rfl,rfl,rfl,rfl⟩⟩,rfl,rfl⟩
       ·exact absurd (by simpa using h61) hne
      ·subst h0;refine T<|A<|C<|M (bX XF)<|ab<|ah ?_ ?_<;>intro h61
       ·simp at h61
       ·refine ai ?_;rw[show h.first+(N - 122)=(eO h rows (N - 122)).first from rfl];exact cJ (D59,(eO h rows (N - 122)),used9,bl9) (.inl ⟨hroom,hck, .inr ⟨rfl,rfl,hu9,ds9,hsc9⟩⟩) [0,1,8] rfl
     ·simp at h57;have hroom:¬N - 122 - used<c.length+1:=(by omega);refine ai ?_;exact cJ (D,h,used,bl) (.inr ⟨hroom,rfl,rfl,rfl,rfl⟩) [0,1,8] rfl
    rintro ⟨D1,h1,J,S⟩ Z;simp only[] at Z ⊢;obtain ⟨hm1,hm2,hm3,hm4,hm5,hm6,hm7⟩:=Hb Z hok hS hl hrw hN0.1 hu;refine A<|C<|M aa<|gF 5 Yj rfl Zx<|gL (ptr S 0) Zi<|C<|gR (vD call180 (G7 S O 122 (N - 122) h1.first J c s' Y N (i+63) D1 hm1 ⟨by omega,by omega⟩ ⟨by omega,by omega,by decide,hm3⟩ hcl))<|T<|ac<|A<|C<|M (fX XF)<|ab<|ah ?_ ?_<;>intro h70
    ·have h70':pq 122 (N - 122) h1.first J c D1=0:=(by simpa using h70);refine al<|C<|C<|M aa<|gF 6 Yj W YM<|gU (aJ (lL O h1 S X (cX rows c).length c32) YM (by simp))<|ab<|A<|C<|T ?_
     first
     | exact ar (pcc bs (lL O h1 S X (cX rows c).length c32) 198::pcc S (gk O 122 (N - 122) h1.first (nm 122 (N - 122) h1.first J c D1)) 273::cj 179 319 O (iY 122 (N - 122) h1.first J c D1)::roL 3 X (bI (cX rows c))::roL 3 s' (bI c)::F) rfl ⟨_,iY 122 (N - 122) h1.first J c D1,h1,nm 122 (N - 122) h1.first J c D1,(cX rows c),S,X,c32, .inr ⟨hcm,0,D1,h1,J,Z, .inr ⟨rfl,rfl,rfl,rfl,rfl,(kaT h70').symm⟩⟩,rfl,rfl⟩
     | exact ar (pcc bs (lL O h1 S s rows.length cap) 198::pcc S (gk O 122 (N - 122) h1.first (nm 122 (N - 122) h1.first J c D1)) 273::cj 179 319 O (iY 122 (N - 122) h1.first J c D1)::roL 3 s (bI rows)::roL 3 s' (bI c)::F) rfl ⟨_,iY 122 (N - 122) h1.first J c D1,h1,nm 122 (N - 122) h1.first J c D1,rows,S,s,cap, .inr ⟨hcm,0,D1,h1,J,Z, .inr ⟨rfl,rfl,rfl,rfl,rfl,(kaU h70').symm⟩⟩,rfl,rfl⟩
    ·have h70':¬pq 122 (N - 122) h1.first J c D1=0:=(by simpa using h70);refine ai<|A<|C<|T ?_
     first
     | exact ar (pcc bs (lL O h1 S X (cX rows c).length c32) 198::pcc S (gk O 122 (N - 122) h1.first (nm 122 (N - 122) h1.first J c D1)) 273::cj 179 319 O (iY 122 (N - 122) h1.first J c D1)::roL 3 X (bI (cX rows c))::roL 3 s' (bI c)::F) rfl ⟨_,iY 122 (N - 122) h1.first J c D1,h1,nm 122 (N - 122) h1.first J c D1,(cX rows c),S,X,c32, .inr ⟨hcm,0,D1,h1,J,Z, .inr ⟨rfl,rfl,rfl,rfl,rfl,(kaT h70').symm⟩⟩,rfl,rfl⟩
     | exact ar (pcc bs (lL O h1 S s rows.length cap) 198::pcc S (gk O 122 (N - 122) h1.first (nm 122 (N - 122) h1.first J c D1)) 273::cj 179 319 O (iY 122 (N - 122) h1.first J c D1)::roL 3 s (bI rows)::roL 3 s' (bI c)::F) rfl ⟨_,iY 122 (N - 122) h1.first J c D1,h1,nm 122 (N - 122) h1.first J c D1,rows,S,s,cap, .inr ⟨hcm,0,D1,h1,J,Z, .inr ⟨rfl,rfl,rfl,rfl,rfl,(kaU h70').symm⟩⟩,rfl,rfl⟩
def nP Z rows c s Y(cap cap' used many:Nat)(hl:rows.length<=80)(hs:srt rows)(hcl:c.length<=9223372036854775807)(hu:used<=many/\many<=1000000)F:cqq 39 [ptr Z 0,sl Y c.length cap'] (pcc Z #[sl s (rows.length) cap,I ((used:Int)),I (many:Int)] 91::roL 3 s (bI rows)::roL 3 Y (bI c)::F) (λv L'=>(xw many rows c≠0/\v=I (xw many rows c)/\L'=pcc Z #[sl s (rows.length) cap,I ((used:Int)),I (many:Int)] 91::roL 3 s (bI rows)::roL 3 Y (bI c)::F)\/(xw many rows c=0/\∃s2 cap2,v=I 0/\L'=pcc Z #[sl s2 ((cX rows c).length) cap2,I ((((if many - used<c.length+1 then 0 else used)+c.length+1):Nat)),I (many:Int)] 91::roL 3 s2 (bI (cX rows c))::roL 3 Y (bI c)::F)):=by
 refine Ct.of func39 W 75 ntmps39 (by simp) λw0=>?_;refine A<|T<|ac<|A<|C<|M (aP Xy)<|M aQ<|ab<|ah ?_ ?_<;>intro h10
 ·simp at h10;have hlong:72<c.length:=(by omega);refine A<|T ?_;exact ar (pcc Z #[sl s (rows.length) cap,I ((used:Int)),I (many:Int)] 91::roL 3 s (bI rows)::roL 3 Y (bI c)::F) rfl<|.inl ⟨by rw[tU hlong];decide,by rw[tU hlong];rfl,rfl⟩
 ·simp at h10;have J:c.length<=72:=(by omega);refine ai<|ac<|A<|T<|ak ?_;refine aL (α:=Nat) (λk=>k<=c.length/\lb c=lb (c.drop k)) (λk=>U [(0,ptr Z 0),(1,sl Y c.length cap'),(5,I (k:Int))]) (λk=>pcc Z #[sl s (rows.length) cap,I ((used:Int)),I (many:Int)] 91::roL 3 s (bI rows)::roL 3 Y (bI c)::F) (λk=>c.length - k) 0 ⟨kcS _,rfl⟩ [0,1,5] rfl ?_;rintro k ⟨hk,hfk⟩;refine ac<|A<|C<|C<|M (aP Xy)<|M aG<|ab<|ah ?_ ?_<;>intro h14
  ·simp at h14;have hkn:k<c.length:=(by omega);obtain ⟨x,hx⟩:∃x,c[k]? =some x:=⟨_,kbN hkn⟩;have hkr:k<(bI c).length:=(by rw[aT];exact hkn);have hfd:=tL hx;have hnn:=Cw x;refine ai<|ac<|ak<|A<|C<|C<|M (av k Xy Xw hkn hkr)<|M (bO (row:=bg x) XU Xw (de hx))<|gR (vA call106 (vh x))<|T<|A<|C<|M aQ<|ab<|ah ?_ ?_<;>intro h23
   ·simp at h23;have X:¬d7 x=0:=(by omega);have hfx:lb c=d7 x:=(by rw[hfk,hfd,kaU X]);refine A<|C<|T ?_;exact ar (pcc Z #[sl s (rows.length) cap,I ((used:Int)),I (many:Int)] 91::roL 3 s (bI rows)::roL 3 Y (bI c)::F) rfl<|.inl ⟨by rw[xx J (by rw[hfx];exact X),hfx];exact X,by rw[xx J (by rw[hfx];exact X),hfx];rfl,rfl⟩
   ·simp at h23;have X:d7 x=0:=(by omega);refine ai<|aE<|al<|C<|M (bx (r:=((k+1:Nat):Int)) (by rw[show (k:Int)+1=((k+1:Nat):Int) by omega];exact cK (by omega)))<|T ?_;exact an (k+1) ⟨by omega,by rw[hfk,hfd,kaT X]⟩ (by omega) [0,1,5] rfl
  ·simp at h14;obtain rfl:k=c.length:=(by omega);rw[kcz] at hfk;have hf0:lb c=0:=hfk;refine aF ?_;refine A<|C<|M aa<|gF 0 Zk W YM<|gL (sl s rows.length cap) Zj<|C<|gI (uC call107 (CI rows c s Y cap cap' hs (by omega) (by omega))) ?_;rintro _ _ ⟨S,V,rfl,rfl⟩;refine bz (ec:=174) (cap:=V) S ?_;refine T<|ac<|A<|C<|M (aP Xy)<|M aQ<|C<|gK ao<|gK (aP Xy)<|gK (bx (r:=((c.length+1:Nat):Int)) (by rw[show (c.length:Int)+1=((c.length+1:Nat):Int) by omega];exact cK (by omega)))<|gK ao<|gK aa<|gK (aw 2 Zk rfl Xu)<|gK (aA (v:=I (many:Int)) Xv)<|gK aQ<|M cv<|ab ?_;apply ah<;>intro h43
   ·simp at h43;have O:80<(cX rows c).length\/many<c.length+1:=(by omega);refine A<|T ?_;exact ar (pcc Z #[sl s (rows.length) cap,I ((used:Int)),I (many:Int)] 91::roL 3 s (bI rows)::roL 3 Y (bI c)::F) rfl<|.inl ⟨by rw[tV J hf0 O];decide,by rw[tV J hf0 O];rfl,rfl⟩
   ·simp at h43;have O:¬(80<(cX rows c).length\/many<c.length+1):=(by omega);have hcm:=MK J hf0 O;refine ai<|ac<|ac ?_;refine dy jU ?_;refine dM rfl<|dV rfl (aP Xy)<|dV rfl (bx (r:=((c.length+1:Nat):Int)) (by rw[show (c.length:Int)+1=((c.length+1:Nat):Int) by omega];exact cK (by omega)))<|dM rfl<|dV rfl aa<|dF rfl 2 Zk rfl Xu<|dL rfl (I (many:Int)) Xv<|dM rfl<|dV rfl aa<|dF rfl 1 Zk rfl Xu<|dL rfl (I (used:Int)) Xv<|dV rfl (eG (r:=((many - used:Nat):Int)) (by rw[show (many:Int) - (used:Int)=((many - used:Nat):Int) by omega];exact cK (by omega)))<|dV rfl aQ ?_;refine aN<|ah ?_ ?_<;>intro h56
    ·simp at h56;have R:many - used<c.length+1:=(by omega);refine al<|C<|M aa<|gF 1 Zk W Xu<|gU (aJ #[sl s rows.length cap,I ((if many - used<c.length+1 then 0 else used:Nat):Int),I (many:Int)] Xu (by simp) (hcs:=by rw[kaT R];rfl))<|ab<|ac ?_
     first
     | rw[show I (used:Int)=I ((if many - used<c.length+1 then 0 else used:Nat):Int) by rw[kaU R]]
     | skip
     refine al<|C<|C<|M aa<|gF 1 Zk rfl Xu<|gL (I ((if many - used<c.length+1 then 0 else used:Nat):Int)) Xv<|C<|M (aP Xy)<|M (bx (r:=(((if many - used<c.length+1 then 0 else used)+c.length:Nat):Int)) (by rw[show (((if many - used<c.length+1 then 0 else used:Nat):Nat):Int)+(c.length:Int)=(((if many - used<c.length+1 then 0 else used)+c.length:Nat):Int) by omega];exact cK (by split <;> omega)))<|M (bx (r:=((((if many - used<c.length+1 then 0 else used)+c.length+1):Nat):Int)) (by rw[show (((if many - used<c.length+1 then 0 else used)+c.length:Nat):Int)+1=((((if many - used<c.length+1 then 0 else used)+c.length+1):Nat):Int) by omega];exact cK (by split <;> omega)))<|M aa<|gF 1 Zk rfl Xu<|gU (aJ #[sl s rows.length cap,I ((((if many - used<c.length+1 then 0 else used)+c.length+1):Nat):Int),I (many:Int)] Xu (by simp))<|ab<|A<|C<|C<|M aa<|gF 0 Zk rfl YM<|gU (aJ #[sl S (cX rows c).length V,I ((((if many - used<c.length+1 then 0 else used)+c.length+1):Nat):Int),I (many:Int)] YM (by simp))<|ab<|A<|T ?_;exact ar (pcc Z #[sl S ((cX rows c).length) V,I ((((if many - used<c.length+1 then 0 else used)+c.length+1):Nat)),I (many:Int)] 91::roL 3 S (bI (cX rows c))::roL 3 Y (bI c)::F) rfl<|.inr ⟨hcm,S,V,rfl,rfl⟩
    ·simp at h56;have R:¬many - used<c.length+1:=(by omega);refine ai<|ac ?_
     first
     | rw[show I (used:Int)=I ((if many - used<c.length+1 then 0 else used:Nat):Int) by rw[kaU R]]
     | skip
     refine al<|C<|C<|M aa<|gF 1 Zk rfl Xu<|gL (I ((if many - used<c.length+1 then 0 else used:Nat):Int)) Xv<|C<|M (aP Xy)<|M (bx (r:=(((if many - used<c.length+1 then 0 else used)+c.length:Nat):Int)) (by rw[show (((if many - used<c.length+1 then 0 else used:Nat):Nat):Int)+(c.length:Int)=(((if many - used<c.length+1 then 0 else used)+c.length:Nat):Int) by omega];exact cK (by split <;> omega)))<|M (bx (r:=((((if many - used<c.length+1 then 0 else used)+c.length+1):Nat):Int)) (by rw[show (((if many - used<c.length+1 then 0 else used)+c.length:Nat):Int)+1=((((if many - used<c.length+1 then 0 else used)+c.length+1):Nat):Int) by omega];exact cK (by split <;> omega)))<|M aa<|gF 1 Zk rfl Xu<|gU (aJ #[sl s rows.length cap,I ((((if many - used<c.length+1 then 0 else used)+c.length+1):Nat):Int),I (many:Int)] Xu (by simp))<|ab<|A<|C<|C<|M aa<|gF 0 Zk rfl YM<|gU (aJ #[sl S (cX rows c).length V,I ((((if many - used<c.length+1 then 0 else used)+c.length+1):Nat):Int),I (many:Int)] YM (by simp))<|ab<|A<|T ?_;exact ar (pcc Z #[sl S ((cX rows c).length) V,I ((((if many - used<c.length+1 then 0 else used)+c.length+1):Nat)),I (many:Int)] 91::roL 3 S (bI (cX rows c))::roL 3 Y (bI c)::F) rfl<|.inr ⟨hcm,S,V,rfl,rfl⟩
abbrev PV (bd:Nat)(h:HdM)(lv:Value)(s:Option Addr)(n cap:Nat):Array Value:=#[ptr bd 0,I h.ep,I h.side,I h.size,I h.first,lv,sl s n cap]
def D7 (L:List Bytes)(side k:Nat):Bytes:=((L.drop (2+side*60)).take k).flatten
theorem yF {L side}(h:2+side*60+k<L.length):D7 L side k++L.getD (2+side*60+k) []=D7 L side (k+1):=by
 simp_all[D7,mc]
def Iw {L side}(J:∀x∈L,x.length=80):∀k,2+side*60+k<=L.length->(D7 L side k).length=80*k
 | 0,_=>rfl
 | k+1,h=>by
  rw[<-yF (by omega),kcp,Iw J k (by omega),qr (by omega) J];omega
def yG:∀(ds:cY) {r:List ChangeM},srt r->srt (ds.foldl cX r)
 | [],r,h=>h
 | d::ds,r,h=>yG ds (rc h d).1
abbrev wO (r0:List ChangeM)(gl:KB)(k:Nat):List ChangeM:=((gl.map (·.1)).take k).foldl cX r0
def TM {O J x}(h:J[k]? =some x):cX (wO O J k) x.1=wO O J (k+1):=by
 unfold wO
 simp_all[mc]
def rY J N D(hN:D.now.length=N)(hNb:N<=260)(hS:∀x∈D.now,x.length=80)hx Z ds used(hg:D.down=false->196<=N->(oG D.now).ep≠0->Good D.now hx Z ds used)F:cqq 41 [ptr J 0] (cj 179 319 J (D)::F) (λv L'=>(D.down=true/\v= .tuple #[.pointer none,bQ 9]/\L'=cj 179 319 J (D)::F)\/(D.down=false/\N<196/\v= .tuple #[.pointer none,bQ 4]/\L'=cj 179 319 J (D)::F)\/(D.down=false/\196<=N/\(oG D.now).ep=0/\v= .tuple #[.pointer none,bQ 4]/\L'=cj 179 319 J (D)::F)\/(D.down=false/\196<=N/\(oG D.now).ep≠0/\∃bs bl s cap,v= .tuple #[ptr bs 0,bQ 0]/\L'=pcc bs (lL J hx bl s (cur Z ds).length cap) 198::pcc bl (gk J 122 (N - 122) hx.first used) 273::cj 179 319 J (D)::roL 3 s (bI (cur Z ds))::F)):=by
 refine Ct.of func41 W 144 ntmps41 (by simp) λw0=>?_;refine A<|gA<|T<|ac<|A<|C<|gR (vB call111 (tC J D))<|ab<|ah ?_ ?_<;>intro h21
 ·refine A<|M (ba XG)<|gA<|T ?_;exact ar (cj 179 319 J (D)::F) rfl<|.inl ⟨h21,rfl,rfl⟩
 ·have V:D.down=false:=(by simpa using h21);refine ai<|ac<|A<|C<|gI (uB (R:=λF=>R1 (I ((D).now.length:Int)) (cj 179 319 J (D)::F)) call112 (ew J D)) ?_;rintro _ _ ⟨rfl,rfl⟩;refine M aG<|ab<|ah ?_ ?_<;>intro h25
  ·simp at h25;have h25':N<196:=(by omega);refine A<|M (ba XG)<|gA<|T ?_;exact ar (cj 179 319 J (D)::F) rfl<|.inr<|.inl ⟨V,h25',rfl,rfl⟩
  ·simp at h25;have h25':196<=N:=(by omega);refine ai<|A<|C<|M (aS (L3 _ W))<|gI (dw (PV J (D6 D.now 0) (.pointer none) none 0 0)) ?_;rintro _ _ ⟨X,rfl,rfl⟩;refine T<|ac<|A<|C<|ab<|ak ?_;refine aL (α:=Nat) (λk=>k<=2) (λk=>U [(0,ptr J 0),(4,ptr X 0),(30,I (k:Int))]) (λk=>pcc X (PV J (D6 D.now k) ((.pointer none)) none (0) 0) 198::cj 179 319 J (D)::F) (λk=>2 - k) 0 (by decide) [0,4,30] rfl ?_;intro k hk;refine A<|M aG<|ab<|ac<|ah ?_ ?_<;>intro h31
   ·simp at h31;have hk2:k<2:=(by omega);refine ai<|ac<|ak<|A<|C<|T<|A<|C<|C<|gR (vB call113 (pj J D ((k:Nat):Int))) ?_;rw[show qj D ((k:Nat):Int)=(D.now.getD (k) [],0) from tA V (by omega) (by rw[kcy];exact xq (by omega))];refine C<|gX (ay (D.now.getD k []))<|gX (bQ 0)<|gA<|T<|ac<|A<|C<|M (bX XF)<|ab<|ah ?_ ?_<;>intro h40
    ·simp at h40
    ·refine ai<|A<|C<|gR (vA call114 (wN (D.now.getD k []) (qr (by omega) hS)))<|gI (aO #[I 0,I 0,I 0,I 0] Zl) ?_;rintro _ _ ⟨b8,rfl,rfl⟩;refine gU (az (cs:=#[I 0,I 0,I 0,I 0]) (vs:=cO (dU (D.now.getD k []))) (cO (dU (D.now.getD k []))).toArray XO (by decide) (hcs:=by exact bG (h:=yE _)))<|ab<|ac<|gG (plN [0,2,4,6,8,10,12,14])<|dF W 0 Ye W Xu<|dL W (I (dU (D.now.getD k [])).ep) Xv<|dM W<|dV W aa<|dF W 1 Yj W XO<|dF W 0 Ye W Xu<|dL W (I (D6 D.now k).ep) Xv<|dV W aQ ?_;refine aN<|ah ?_ ?_<;>intro h51
     ·have hgt:(D6 D.now k).ep<(dU (D.now.getD k [])).ep:=(by have:=kd0 h51;omega);refine al<|C<|M (bj (vs:=cO (dU (D.now.getD k []))) Yi XO bM)<|M aa<|gF 1 Yj rfl XO<|gU (az (cs:=PV J (D6 D.now k) (.pointer none) none 0 0) (vs:=cO (dU (D.now.getD k []))) (PV J (dU (D.now.getD k [])) (.pointer none) none 0 0) XO (by simp))<|ab<|aE<|al<|M (bx (r:=((k+1:Nat):Int)) (by rw[show (((k:Nat):Int):Int)+(1:Int)=((k+1:Nat):Int) by omega];exact cK (by omega)))<|C<|ab ?_;rw[show dU (D.now.getD k [])=D6 D.now (k+1) by rw[D6,kaT hgt]];exact an (k+1) (by omega) (by omega) [0,4,30] rfl
     ·have hgt:¬(D6 D.now k).ep<(dU (D.now.getD k [])).ep:=(by have:=kd1 h51;omega);refine ai<|aE<|al<|M (bx (r:=((k+1:Nat):Int)) (by rw[show (((k:Nat):Int):Int)+(1:Int)=((k+1:Nat):Int) by omega];exact cK (by omega)))<|C<|ab ?_;rw[show D6 D.now k=D6 D.now (k+1) by rw[D6,kaU hgt]];exact an (k+1) (by omega) (by omega) [0,4,30] rfl
   ·simp at h31;obtain rfl:k=2:=(by omega);refine aF ?_;refine ac<|A<|C<|M aa<|gF 1 Yj W XO<|gF 0 Ye W Xu<|gL (I (D6 D.now 2).ep) Xv<|M bE<|ab<|ah ?_ ?_<;>intro h62
    ·simp at h62;have he0:(oG D.now).ep=0:=(by show (D6 D.now 2).ep=0;omega);refine A<|M (ba XG)<|gA<|T ?_;exact ar (cj 179 319 J (D)::F) rfl<|.inr<|.inr<|.inl ⟨V,h25',he0,rfl,rfl⟩
    ·simp at h62;have he0:(oG D.now).ep≠0:=(by show (D6 D.now 2).ep≠0;omega);have O:=hg V h25' he0;rw[show D6 D.now 2=hx from O.best];refine ai<|A<|T<|ac<|A<|C<|ab<|ak ?_;refine aL (α:=Nat) (λk=>k<=60) (λk=>U [(0,ptr J 0),(4,ptr X 0),(9,ay (D7 D.now hx.side k)),(64,I (k:Int))]) (λk=>pcc X (PV J (hx) ((.pointer none)) none (0) 0) 198::cj 179 319 J (D)::F) (λk=>60 - k) 0 (by decide) [0,4,9,64] rfl ?_;intro k hk;have hside:=O.side;have htl:=Iw (side:=hx.side) hS k (by omega);refine A<|M aG<|ab<|ac<|ah ?_ ?_<;>intro h65
     ·simp at h65;have hk60:k<60:=(by omega);have hsl:(D.now.getD (2+hx.side*60+k) []).length=80:=qr (by omega) hS;refine ai<|ac<|ak<|A<|C<|T<|A<|C<|C<|M aa<|gF 1 Yj rfl XO<|gF 1 Ye rfl Xu<|gL (I hx.side) Xv<|M (lW (r:=((hx.side*60:Nat):Int)) (by rw[show (hx.side:Int)*(60:Int)=((hx.side*60:Nat):Int) by omega];exact cK (by omega)))<|M (bx (r:=((2+hx.side*60:Nat):Int)) (by rw[show (2:Int)+(((hx.side*60:Nat):Int):Int)=((2+hx.side*60:Nat):Int) by omega];exact cK (by omega)))<|C<|M (bx (r:=((2+hx.side*60+k:Nat):Int)) (by rw[show (((2+hx.side*60:Nat):Int):Int)+(((k:Nat):Int):Int)=((2+hx.side*60+k:Nat):Int) by omega];exact cK (by omega)))<|gR (vB call113 (pj J D (((2+hx.side*60+k):Nat):Int))) ?_;rw[show qj D ((2+hx.side*60+k:Nat):Int)=(D.now.getD (2+hx.side*60+k) [],0) from tA V (by omega) (by rw[kcy];exact xq (by omega))];refine C<|gX (ay (D.now.getD (2+hx.side*60+k) []))<|gX (bQ 0)<|gA<|T<|ac<|A<|C<|M (bX XF)<|ab<|ah ?_ ?_<;>intro h82
      ·simp at h82
      ·refine ai<|al<|C<|C<|M (cf (by rw[htl,hsl];omega))<|T<|aE<|al<|M (bx (r:=((k+1:Nat):Int)) (by rw[show (((k:Nat):Int):Int)+(1:Int)=((k+1:Nat):Int) by omega];exact cK (by omega)))<|C<|ab ?_;rw[yF (by omega)];exact an (k+1) (by omega) (by omega) [0,4,9,64] rfl
     ·simp at h65;obtain rfl:k=60:=(by omega);have hsz:hx.size<=(D7 D.now hx.side 60).length:=by
       have h1:=O.size;have h2:=mN O.hok;have h3:=O.len;omega
      refine aF ?_;refine A<|C<|C<|M aa<|gF 1 Yj W XO<|gF 2 Ye W Xu<|gL (I hx.size) Xv<|M (Ia (h:=hx.size) Xz W W W hsz) ?_;rw[show (D7 D.now hx.side 60).take hx.size=bP Z from O.text];refine gI (uA call115 (yD Z (by have:=O.len;omega) O.hsrt O.hok)) ?_;rintro _ _ ⟨s96,c96,rfl,rfl⟩;refine C<|gX (sl s96 Z.length c96)<|gX (Bo true)<|gA<|T<|ac<|A<|C<|M cS<|ab<|ah ?_ ?_<;>intro h100
      ·simp at h100
      ·refine ai<|ac<|gD (Lf:=[pcc X (PV J hx (.pointer none) none 0 0) 198]) (plN [0,2,8,10,12,14,16,5,6,19,20,22,24,26,28,30,32])<|dM rfl<|dM rfl<|dM rfl<|dV rfl aa<|dF rfl 1 Yj rfl XO<|dF rfl 3 Ye rfl Xu<|dL rfl (I hx.first) Xv<|cQ rfl (uB (R:=λF=>R1 (I ((D).now.length:Int)) (cj 179 319 J (D)::F)) call112 (ew J D)) ?_;rintro _ _ ⟨rfl,rfl⟩;refine dV rfl (eG (r:=((N - 122:Nat):Int)) (by rw[hN,show (N:Int) - 122=((N - 122:Nat):Int) by omega];exact cK (by omega)))<|cQ rfl (uB call116 (wA J D 122 ((N - 122:Nat):Int) hx.first hS ⟨by omega,by have:=O.first;omega⟩)) ?_;rintro _ _ (⟨hbad,_,_⟩ | ⟨_,hdn,_,_⟩ | ⟨_,_,bl,S,so,co,Y,rfl,hul,hgll,hsc,rfl⟩)
       ·exfalso;unfold yr at hbad;have:=O.first;omega
       ·rw[V] at hdn;cases hdn
       rw[show gk J ((122:Int)).toNat ((N - 122:Nat):Int).toNat (hx.first:Int).toNat Y=gk J 122 (N - 122) hx.first Y from rfl]
       replace hgll:S.length<=N - 122:=hgll
       replace hsc:dg hx.first (px D 122) (N - 122) 0 [] [] 0=(S.map (·.1),Y):=hsc
       have hlg:=O.log;rw[hN] at hlg;have hlg2:dg hx.first (px D 122) (N - 122) 0 [] [] 0=(ds,used):=hlg;rw[hsc] at hlg2;injection hlg2 with hq1 hq2;obtain rfl:used=Y:=hq2.symm;have hfit:=O.fits;rw[<-hq1] at hfit;have hlen72:∀y∈S,y.1.length<=72:=λy hy=>O.lens _ (by rw[<-hq1];exact kaY hy);refine dM W<|dV W (aB (v:=ptr bl 0))<|dV W (aB (v:=sl so S.length co))<|dV W (aB (v:=bQ 0))<|dV W ax<|dV W ax<|dV W ax ?_;refine aN ?_;refine ac<|A<|C<|M (bX XF)<|ab<|ah ?_ ?_<;>intro h117
       ·simp at h117
       ·refine ai<|A<|C<|C<|C<|C<|M aa<|gF 5 Yj W Zx<|gU (aJ (PV J hx (ptr bl 0) none 0 0) Zx (by simp))<|M aa<|gF 6 Yj W YM<|gU (aJ (PV J hx (ptr bl 0) s96 (wO Z S (0)).length c96) YM (by simp))<|ab<|ac<|ac ?_;rw[show bI Z=bI (wO Z S 0) from rfl];refine al<|C<|M (aP kaa)<|C<|ab<|ak ?_;refine aL (α:=Nat×Option Addr×Nat) (λz=>z.1<=S.length) (λz=>U [(4,ptr X 0),(127,sl so S.length co),(128,I S.length),(129,I (z.1:Int))]) (λz=>pcc X (PV J (hx) (ptr bl 0) z.2.1 ((wO Z S (z.1)).length) z.2.2) 198::roL 3 z.2.1 (bI (wO Z S (z.1)))::pcc bl (gk J 122 (N - 122) hx.first used) 273::be 33 1 so co (dR S)::rF S::cj 179 319 J (D)::F) (λz=>S.length - z.1) (0,s96,c96) (by simp) [4,127,128,129] rfl ?_;rintro ⟨k,sA,cA⟩ hk;simp only[] at hk ⊢;refine A<|M aG<|ab<|ac<|ah ?_ ?_<;>intro h130
        ·simp at h130;have hkn:k<S.length:=(by omega);obtain ⟨x,hx'⟩:∃x,S[k]? =some x:=⟨_,kbN hkn⟩;refine ai<|ac<|ak<|A<|M (av k kaa YM hkn (by rw[Mp];exact hkn))<|M (aI (v:=sl x.2.1 x.1.length x.2.2) Zj (by exact Vp hx') W)<|T ?_;refine Mq S (kbe hx') ?_;refine al<|C<|C<|M aa<|gF 6 Yj W YM<|gL (sl sA (wO Z S (k)).length cA) Zj<|C<|gI (uC call117 (pz (wO Z S (k)) x.1 sA x.2.1 cA x.2.2 (yG _ O.hsrt) (kaB (hfit k) (by decide)) (by have:=hlen72 x (kbe hx');omega))) ?_;rintro _ _ ⟨s139,c139,rfl,rfl⟩;rw[TM hx'];refine bz (ec:=174) (cap:=c139) s139 ?_;refine M aa<|gF 6 Yj rfl YM<|gU (aJ (PV J hx (ptr bl 0) s139 (wO Z S (k+1)).length c139) YM (by simp))<|ab<|aE<|al<|M (bx (r:=((k+1:Nat):Int)) (by rw[show (((k:Nat):Int):Int)+(1:Int)=((k+1:Nat):Int) by omega];exact cK (by omega)))<|C<|ab ?_;exact an (k+1,s139,c139) (by simp only[];omega) (by simp only[];omega) [4,127,128,129] rfl
        ·simp at h130;obtain rfl:k=S.length:=(by omega);have hcu:wO Z S S.length=cur Z ds:=(by unfold wO cur;rw[kcI (by simp),hq1]);rw[hcu];refine aF ?_;refine A<|C<|gA<|T ?_;exact ar (pcc X (lL J hx bl sA (cur Z ds).length cA) 198::pcc bl (gk J 122 (N - 122) hx.first used) 273::cj 179 319 J (D)::roL 3 sA (bI (cur Z ds))::F) rfl<|.inr<|.inr<|.inr ⟨V,h25',he0,X,bl,sA,cA,rfl,rfl⟩
def wP O N i D(hok:oE N i D)(hi:i<=100000)(hN0:N<=260)F:cqq 102 [ptr O 0] (cj 179 319 O (D)::F) (λv L'=>(N<196/\v=bQ 8/\L'=cj 179 319 O (D)::F)\/(196<=N/\∃e D1,ct D (Bj N)=(e,D1)/\v=bQ e/\L'=cj 179 319 O (D1)::F)):=by
 refine Ct.of func102 W 39 ntmps102 (by simp) λw0=>?_;refine A<|T<|ac<|A<|C<|gI (uB (R:=λF=>R1 (I ((D).now.length:Int)) (cj 179 319 O (D)::F)) call112 (ew O D)) ?_;rintro _ _ ⟨rfl,rfl⟩;refine M aG<|ab<|ah ?_ ?_<;>intro h7
 ·simp at h7;have h7':N<196:=(by have:=hok.2.1;omega);refine A<|M (ba XG)<|T ?_;exact ar (cj 179 319 O (D)::F) rfl<|.inl ⟨h7',rfl,rfl⟩
 ·simp at h7;have h7':196<=N:=(by have:=hok.2.1;omega);refine ai<|A<|C<|gR (vB call175 (fp O D ((0:Nat):Int) [] hok.2.2.1 (by have:=hok.2.2.2.2;omega)))<|T<|ac<|A<|T<|ak ?_;refine aL (α:=Nat×Int×DiskM) (λz=>z.1<=N - 122/\ct D (u3 z.1)=(z.2.1,z.2.2)) (λz=>U [(0,ptr O 0),(3,bQ z.2.1),(4,I ((122+z.1:Nat):Int))]) (λz=>cj 179 319 O (z.2.2)::F) (λz=>N - z.1) (0,du D ((0:Nat):Int) [],cH D ((0:Nat):Int) []) ⟨kcS _,kE (l:=[]) rfl⟩ [0,3,4] rfl ?_;rintro ⟨k,e,X⟩ ⟨hk,Y⟩;simp only[] at hk Y ⊢;have J:=iX (u3 k) i D hok;rw[Y,tT] at J;simp only at J;refine ac<|A<|C<|C<|gI (uB (R:=λF=>R1 (I ((X).now.length:Int)) (cj 179 319 O (X)::F)) call112 (ew O X)) ?_;rintro _ _ ⟨rfl,rfl⟩;refine M aG<|C<|gK ao<|gK (fX XF)<|M dc<|ab<|ah ?_ ?_<;>intro Z
  ·simp at Z;have he0:e=0:=Z.2;have hkn:122+k<N:=(by have:=J.2.1;omega);refine ai<|ac<|ak<|al<|C<|C<|gR (vB call175 (fp O X ((122+k:Nat):Int) [] J.2.2.1 (by have:=J.2.2.2.2;omega)))<|T<|aE<|al<|C<|M (bx (r:=((122+(k+1):Nat):Int)) (by rw[show ((122+k:Nat):Int)+1=((122+(k+1):Nat):Int) by omega];exact cK (by omega)))<|T ?_;exact an (k+1,du X ((122+k:Nat):Int) [],cH X ((122+k:Nat):Int) []) ⟨by simp only[];omega,by simp only[];rw[u3,kE (by rw[Y,he0])];rfl⟩ (by simp only[];omega) [0,3,4] rfl
  ·simp at Z;have hst:k=N - 122\/e≠0:=by
    have:=J.2.1;by_cases he:e=0
    ·left;by_cases hx:122+k<N
     ·exact absurd he<|Z (by omega)
     ·omega
    ·exact .inr he
   have hf:=MI Y hst hk;refine aF ?_;refine ac<|A<|C<|M (fX XF)<|ab ?_;refine lV (α:=Int×DiskM) (λz=>ct D (u3 (N - 122)++ [none])=z) (λz=>U [(0,ptr O 0),(3,bQ z.1)]) (λz=>cj 179 319 O (z.2)::F) ?_ ?_
   ·apply ah<;>intro h25
    ·have he:e=0:=(by simpa using h25);subst he;refine al<|C<|gR (vB call176 (ig O X J.2.2.1 (by rw[J.1,J.2.1]) (by rw[J.2.1];omega)))<|T ?_;exact cJ (dm X,cL X) (kE (x:=none) hf) [0,3] rfl
    ·have he:¬e=0:=(by simpa using h25);refine ai ?_;exact cJ (e,X) (kF hf he) [0,3] rfl
   rintro ⟨e1,X1⟩ h1;simp only at h1 ⊢;have V:=iX (u3 (N - 122)++ [none]) i D hok;rw[h1,kcp,tT] at V;simp only[kaX,kcO] at V;refine ac<|A<|C<|M (fX XF)<|ab ?_;refine lV (α:=Int×DiskM) (λz=>ct D (u3 (N - 122)++ [none]++ [some (1,dt hd1)])=z) (λz=>U [(0,ptr O 0),(3,bQ z.1)]) (λz=>cj 179 319 O (z.2)::F) ?_ ?_
   ·apply ah<;>intro h29
    ·have he1:e1=0:=(by simpa using h29);subst he1;refine al<|C<|M (aS (eY _ W _ W _ W _ W))<|gR (vA call177 (rX hd1))<|gR (vB call175 (fp O X1 ((1:Nat):Int) (dt hd1) V.2.2.1 (by have:=V.2.2.2.2;omega)))<|T ?_;exact cJ (du X1 ((1:Nat):Int) (dt hd1),cH X1 ((1:Nat):Int) (dt hd1)) (kE h1) [0,3] rfl
    ·have he1:¬e1=0:=(by simpa using h29);refine ai ?_;exact cJ (e1,X1) (kF h1 he1) [0,3] rfl
   rintro ⟨e2,X2⟩ h2;simp only at h2 ⊢;have S:=iX (u3 (N - 122)++ [none]++ [some (1,dt hd1)]) i D hok;rw[h2,kcp,kcp,tT] at S;simp only[kaX,kcO] at S;refine ac<|A<|C<|M (fX XF)<|ab ?_;refine lV (α:=Int×DiskM) (λz=>ct D (Bj N)=z) (λz=>U [(0,ptr O 0),(3,bQ z.1)]) (λz=>cj 179 319 O (z.2)::F) ?_ ?_
   ·apply ah<;>intro h35
    ·have he2:e2=0:=(by simpa using h35);subst he2;refine al<|C<|gR (vB call176 (ig O X2 S.2.2.1 (by rw[S.1,S.2.1]) (by rw[S.2.1];omega)))<|T ?_;exact cJ (dm X2,cL X2) (by have:=kE (x:=none) h2;rw[kbx,kbx] at this;exact this) [0,3] rfl
    ·have he2:¬e2=0:=(by simpa using h35);refine ai ?_;exact cJ (e2,X2) (by have:=kF (r:=[none]) h2 he2;rw[kbx,kbx] at this;exact this) [0,3] rfl
   rintro ⟨e3,X3⟩ h3;simp only at h3 ⊢;refine A<|C<|T ?_;exact ar (cj 179 319 O (X3)::F) rfl<|.inr ⟨h7',e3,X3,h3,rfl,rfl⟩
end Go.Proofs.YthdjckbjjfiopabGreatDoor
namespace Go.Proofs.YthdjckbjjfiopabGreatDoor
open Go.Sl Go.Proofs
def TN {l c}(h:∀r∈l,CJ r)(J:d7 c=0):∀r∈Gp l c,CJ r:=by
 intro r hr;unfold Gp at hr;simp only[kbF] at hr;rcases hr with (hr | hr) | hr
 grind
 ·split at hr
  ·cases hr
  ·rename_i O;rw[kcv] at hr;subst hr;exact ⟨J,by simpa using O⟩
 ·exact h r (kcd.1 hr).1
def Ix:∀(c:List ChangeM) {l:List ChangeM},(∀r∈l,CJ r)->(∀x∈c,d7 x=0)->∀r∈cX l c,CJ r
 | [],l,h,_=>h
 | x::c,l,h,J=>Ix c (TN h (J x (by simp))) λy hy=>J y (kcn _ hy)
def Iy:∀(ds:cY) {l:List ChangeM},(∀r∈l,CJ r)->(∀d∈ds,∀x∈d,d7 x=0)->∀r∈cur l ds,CJ r
 | [],l,h,_=>h
 | d::ds,l,h,J=>Iy ds (Ix d h (J d (by simp))) λe he=>J e (kcn _ he)
theorem yH J ds c:cur J (ds++ [c])=cX (cur J ds) c:=by grind[cur]
variable {L:List Bytes}{h:HdM}{J:List ChangeM}{ds:cY}{used:Nat}
theorem Good.srtC (g:Good L h J ds used):srt (cur J ds):=yG ds g.hsrt
theorem Good.okC (g:Good L h J ds used):∀r∈cur J ds,CJ r:=Iy ds g.hok g.chk
theorem Good.lenC (g:Good L h J ds used):(cur J ds).length<=80:=by
 have:=g.fits ds.length;rw[kbl] at this;exact this
def rZ (a b:HdM):HdM:=if (if HdM.no.ep<a.ep then a else HdM.no).ep<b.ep then b else if HdM.no.ep<a.ep then a else HdM.no
theorem CM L:oG L=rZ (dU (L.getD 0 [])) (dU (L.getD 1 [])):=rfl
variable {L':List Bytes}
theorem EW (h0:L'.getD 0 []=L.getD 0 [])(h1:L'.getD 1 []=L.getD 1 []):oG L'=oG L:=by grind[CM]
def Xd:HdM.no.ep=0:=rfl
theorem VA a b:a.ep<=(rZ a b).ep/\b.ep<=(rZ a b).ep:=by
 grind[rZ]
theorem QC {a b}(hh:(rZ a b).ep<h.ep):rZ h b=h:=by
 grind[rZ]
theorem QD {a b}(hh:(rZ a b).ep<h.ep):rZ a h=h:=by
 grind[rZ]
def Iz {L L' side}(hl:L'.length=L.length):∀k,2+side*60+k<=L.length->(∀m,2+side*60<=m->m<2+side*60+k->L'.getD m []=L.getD m [])->D7 L' side k=D7 L side k
 | 0,_,_=>rfl
 | k+1,hk,h=>by
  rw[<-yF (by omega),<-yF (L:=L) (by omega),Iz hl k (by omega) (λm a b=>h m a (by omega)),h _ (by omega) (by omega)]
variable {X:List ChangeM}
def EX {J O}(g:Good L h X ds used)(hl:L'.length=L.length)(Y:122<=L.length)(R:∀m,m<2->L'.getD m []=L.getD m [])(V:∀m,2+h.side*60<=m->m<2+h.side*60+60->L'.getD m []=L.getD m [])(S:dg h.first (mK L' 122) (L.length - 122) 0 [] [] 0=(J,O))(h1:∀d∈J,d.length<=72)(Z:∀d∈J,∀x∈d,d7 x=0)(h3:∀k,((J.take k).foldl cX X).length<=80):Good L' h X J O:=by
 have hs:=g.side;have ht:D7 L' h.side 60=D7 L h.side 60:=Iz hl 60 (by omega) V;exact ⟨(EW (R 0 (by decide)) (R 1 (by decide))).trans g.best,g.ep,g.side,g.first,g.size,by
  have:=g.text;show (D7 L' h.side 60).take h.size=_;rw[ht];exact this,g.hsrt,g.hok,g.len,by rw[hl];exact S,h1,Z,h3⟩
variable {V:List ChangeM}
theorem KN (g:Good L h V ds used)(hl:L'.length=L.length)(J:122<=L.length)(O:∀m,m<2->L'.getD m []=L.getD m [])(S:∀m,2+h.side*60<=m->m<2+h.side*60+60->L'.getD m []=L.getD m [])(R:∀m,122<=m->L'.getD m []=L.getD m []):Good L' h V ds used:=
 EX g hl J O S (by
  have:mK L' 122=mK L 122:=funext λi=>R _ (by omega);rw[this];exact g.log) g.lens g.chk g.fits
def vr (B:Nat)(s:Bytes):Prop:=∀n,B<=n->n<4294967296->fN n s=none
def KO {B J s}(h:vr B s)(R:B<=J):vr J s:=λn h1 O=>h n (by omega) O
theorem yI B:vr B (ca []):=λn _ _=>mH n
theorem ML {m n}(hm:m<4294967296)(hn:n<4294967296)(h:bC m=bC n):m=n:=by grind[EO]
theorem Bm {B m k s}(hm:m<B)(O:B<=4294967296):vr B (ca (d8 k m s)):=λn h1 J=>by
 unfold fN;rw[kaU];intro h;have e:((ca (d8 k m s)).take 5).drop 1=bC m:=by
  grind[ca,d8,bC]
 rw[e] at h;have:=ML (by omega) J h.1;omega
structure AllP (P:Nat->Bytes->Prop) (D:DiskM):Prop where
 now:∀m,P m (D.now.getD m [])
 kept:∀m,P m (D.kept.getD m [])
 wait:∀t∈D.wait,P t.1 t.2
def TO (P:Nat->Bytes->Prop):ni->Prop
 | some x=>P x.1 (ca x.2)
 | none=>True
variable {P:Nat->Bytes->Prop}{D:DiskM}
theorem AllP.step (h:AllP P D):AllP P (dx D):=⟨by rw[fq];exact h.now,by rw[eb];exact h.kept,by rw[fe];exact h.wait⟩
theorem AllP.st {x}(h:AllP P D)(hx:TO P x):AllP P (GW D x):=by
 cases x with
 | none=>
  show AllP P (cL D);unfold cL;split
  ·exact ⟨h.step.now,h.step.now,λt ht=>by cases ht⟩
  ·exact h.step
 | some y=>
  show AllP P (cH D y.1 y.2);unfold cH;split
  ·exact h
  ·split
   ·refine ⟨λm=>?_,h.step.kept,λt ht=>?_⟩
    ·show P m (((dx D).now.set ((y.1:Int)).toNat (ca y.2)).getD m []);rw[hZ];split
     ·rename_i J;rw[<-J.1,kcy];exact hx
     ·exact h.step.now m
    ·simp only[eA,kbF,kcv] at ht;rcases ht with ht | rfl
     ·exact h.step.wait t ht
     ·simp only[kcy];exact hx
   ·exact h.step
theorem AllP.run:∀(l:List ni) {D:DiskM},AllP P D->(∀x∈l,TO P x)->AllP P (ct D l).2
 | [],D,h,_=>h
 | x::l,D,h,ho=>by
  have h1:=h.st (ho x (kcq ..));by_cases h0:GV D x=0
  ·rw[lQ h0];exact AllP.run l h1 λy hy=>ho y (kcn _ hy)
  grind[lz]
theorem AllP.rest (h:AllP P D)keep m:P m ((fv keep D).getD m []):=by
 rcases ra (keep:=keep) (w:=D.wait) (K:=D.kept) D.wait.length m with e | ⟨t,ht,J,O⟩
 ·show P m ((hO keep D.wait D.kept D.wait.length).getD m []);rw[e];exact h.kept m
 ·show P m ((hO keep D.wait D.kept D.wait.length).getD m []);rw[O,<-J];exact h.wait t ht
theorem AllP.calm (hk:D.kept=D.now)(hw:D.wait=[])(h:∀m,P m (D.now.getD m [])):AllP P D:=⟨h,by rw[hk];exact h,by grind⟩
theorem vt keep D:(fv keep D).length=D.kept.length:=iW ..
theorem xy:∀(l:List ni) {D J:DiskM},(∀x∈l,ka D.now.length x)->ct D l=(0,J)->J.now=eh D.now l
 | [],D,J,_,h=>by injection h with _ h;rw[<-h];rfl
 | none::l,D,J,ho,h=>by
  by_cases h0:dm D=0
  ·rw[nM h0] at h;have hn:=(lc h0).2;have:=xy l (D:=cL D) (λx hx=>by grind) h;rw[this,hn];rfl
  grind[mJ]
 | some y::l,D,J,ho,h=>by
  obtain ⟨n,s⟩:=y;have hy:=ho _ (kcq ..);have R:¬ox D (n:Int) s:=(by unfold ox;have h1:=hy.1;have O:=hy.2;simp only at h1 O;omega);by_cases h0:du D (n:Int) s=0
  ·rw[q6 h0] at h;have hs:dm D=0:=(by grind[du]);have hn:(cH D (n:Int) s).now=D.now.set n (ca s):=by
    unfold cH;rw[kaU R,kaT hs];show (dx D).now.set ((n:Int)).toNat _=_;rw[fq,kcy]
   have:=xy l (D:=cH D (n:Int) s) (λx hx=>by grind) h;rw[this,hn];rfl
  grind[oF]
theorem IA {side t}:∀(f k:Nat) (L:List Bytes) (m:Nat),(eh L (np side t k f)).getD m []=if 2+side*60+k<=m/\m<2+side*60+k+f/\m<L.length then ca (d9 t (m - (2+side*60))) else L.getD m []
 | 0,k,L,m=>by rw[iOm];rfl
 | f+1,k,L,m=>by
  rw[np,eh,IA f (k+1),kbO,hZ]
  grind
variable {t:Bytes}
theorem EY {k}(h:80*(k+1)<=t.length):ca (d9 t k)=d9 t k:=by
 have:(d9 t k).length=80:=by grind[mh]
 simp_all[ca,jq]
theorem yJ {k}:t.take (80*k)++d9 t k=t.take (80*(k+1)):=by
 grind[d9]
theorem CN {L side t}(O:2+side*60+60<=L.length)(hs:∀k,k<ci t->L.getD (2+side*60+k) []=ca (d9 t k))(J:ci t<=60):∀k,80*k<=t.length->D7 L side k=t.take (80*k)
 | 0,_=>rfl
 | k+1,h=>by
  have hk:k<ci t:=chunks_lt.2 (by omega);rw[<-yF (by omega),CN O hs J k (by omega),hs k hk,EY h,yJ]
theorem IB {L side}(J:2+side*60+60<=L.length):∀(g k:Nat),k+g<=60->∃r,D7 L side (k+g)=D7 L side k++r
 | 0,k,_=>⟨[],by simp⟩
 | g+1,k,h=>by
  obtain ⟨r,hr⟩:=IB J g k (by omega)
  grind[yF]
theorem TP {side}(O:2+side*60+60<=L.length)(hs:∀k,k<ci t->L.getD (2+side*60+k) []=ca (d9 t k))(J:ci t<=60):(D7 L side 60).take t.length=t:=by
 have hq:∃r,D7 L side (ci t)=t++r:=by
  by_cases he:80*ci t=t.length
  ·exact ⟨[],by grind[CN,List.take_length]⟩
  ·obtain ⟨q,hq⟩:∃q,ci t=q+1:=⟨ci t - 1,by unfold ci at*;omega⟩;have h1:80*q<t.length:=chunks_lt.1 (by omega);refine ⟨jq (80 - (d9 t q).length),?_⟩;rw[hq,<-yF (by omega),CN O hs J q (by omega),hs q (by omega)]
   grind[ca,yJ,List.take_of_length_le,ci]
 obtain ⟨r,hr⟩:=hq;obtain ⟨r2,R⟩:=IB O (60 - ci t) (ci t) (by omega)
 grind
theorem MN {i}(hi:i<2)(J:2<=L.length)(O:(oG L).ep<h.ep)(ho:dU (ca (dt h))=h):oG (L.set i (ca (dt h)))=h:=by
 grind[CM,QC,QD]
theorem MO (g:Good L h J ds used)(hL:196<=L.length/\L.length<=260)(hep:h.ep<=1000000)(hfi:h.first<=900000000)(X:∀m,122<=m->m<L.length->vr (h.first+(L.length - 122)) (L.getD m [])):
  Good ((eh L (np (1 - h.side) (bP (cur J ds)) 0 (ci (bP (cur J ds))))).set ((h.ep+1) % 2) (ca (dt (eO h (cur J ds) (L.length - 122))))) (eO h (cur J ds) (L.length - 122)) (cur J ds) [] 0:=by
 have Y:=ld g.lenC g.okC;have hal:=mN g.okC;have hlc:=g.lenC;have hs:=g.side;generalize O:eh L (np (1 - h.side) (bP (cur J ds)) 0 (ci (bP (cur J ds))))=L2;have V:L2.length=L.length:=(by rw[<-O,iL]);have hat:∀m,L2.getD m []=if 2+(1 - h.side)*60<=m/\m<2+(1 - h.side)*60+ci (bP (cur J ds))/\m<L.length then ca (d9 (bP (cur J ds)) (m - (2+(1 - h.side)*60))) else L.getD m []:=λm=>by rw[<-O,IA];rfl
 have S:dU (ca (dt (eO h (cur J ds) (L.length - 122))))=eO h (cur J ds) (L.length - 122):=yB (by simp only[eO];omega) (by simp only[eO];omega) (by simp only[eO];omega) (by grind[eO]);have Z:∀m,2<=m->(L2.set ((h.ep+1) % 2) (ca (dt (eO h (cur J ds) (L.length - 122))))).getD m []=L2.getD m []:=λm hm=>(by grind);have R:oG L2=h:=(EW (by grind) (by grind)).trans g.best;refine ⟨MN (by omega) (by omega) (by grind[eO]) S,by simp only[eO];omega,by simp only[eO];omega,by grind[eO],rfl,?_,g.srtC,g.okC,g.lenC,?_,(λd hd=>by cases hd),(λd hd=>by cases hd),λk=>by grind⟩
 ·show (D7 _ (1 - h.side) 60).take (bP (cur J ds)).length=_
  grind[TP]
 ·rw[kbO,V];have h0:mK (L2.set ((h.ep+1) % 2) (ca (dt (eO h (cur J ds) (L.length - 122))))) 122 0=L.getD 122 []:=by
   show List.getD _ _ _=_
   grind
  obtain ⟨m,hm⟩:∃m,L.length - 122=m+1:=⟨L.length - 123,by omega⟩;rw[show L.length - 122=m+1 from hm];refine vn ?_;show fN (h.first+(m+1)+0) (mK _ 122 0)=none;rw[<-hm,h0];exact X 122 (kax _) (by omega) _ (by omega) (by omega)
theorem QE (J:ci t<=60):∀x∈np (1 - h.side) t 0 (ci t),TO (λm s=>(m<2+(1 - h.side)*60\/2+(1 - h.side)*60+60<=m)->s=L.getD m []) x:=by
 have:∀(f k:Nat),k+f<=60->∀x∈np (1 - h.side) t k f,TO (λm s=>(m<2+(1 - h.side)*60\/2+(1 - h.side)*60+60<=m)->s=L.getD m []) x:=by
  intro f
  induction f with
  | zero=>grind[np]
  | succ f O=>
   intro k hk x hx;rw[np] at hx;rcases kbn.1 hx with rfl | hx
   ·intro hm;simp only at hm;omega
   grind
 exact this _ 0 (by omega)
variable {O:List ChangeM}
theorem KQ (g:Good L h O ds used)(hl:L'.length=L.length)(J:122<=L.length)(R:∀m,(m<2+(1 - h.side)*60\/2+(1 - h.side)*60+60<=m)->L'.getD m []=L.getD m []):Good L' h O ds used:=by
 grind[KN]
def IC {many first used}:∀(c:List ChangeM) (k:Nat),used+k+c.length<=many->first+many<=4294967296->∀x∈lD 122 first used k c,TO (λm s=>122<=m/\vr (first+many) s) x
 | [],k,_,_,x,h=>by simp[lD] at h
 | y::c,k,hk,J,x,h=>by
  rw[lD] at h;simp only[kaX] at hk;rcases kbn.1 h with rfl | h
  ·exact ⟨by simp only;omega,Bm (by omega) J⟩
  ·exact IC c (k+1) (by omega) J x h
variable {many:Nat}{c:List ChangeM}
def QF {first}(O:used+c.length+1<=many)(J:first+many<=4294967296):∀x∈k9 122 many first used c,TO (λm s=>122<=m/\vr (first+many) s) x:=by
 intro x hx;unfold k9 od at hx;simp only[kbF,kbn,kcx,or_false] at hx;rcases hx with (hx | hx) | rfl | rfl | rfl
 ·exact IC c 0 (by omega) J x hx
 ·unfold pp at hx;split at hx
  ·simp only[kcv] at hx;subst hx;exact ⟨by simp only;omega,yI _⟩
  ·simp at hx
 ·trivial
 ·exact ⟨by simp only;omega,Bm (by omega) J⟩
 ·trivial
theorem vu (h:∀k,((ds.take k).foldl cX J).length<=80)(O:(cX (cur J ds) c).length<=80):∀k,(((ds++ [c]).take k).foldl cX J).length<=80:=λk=>by
 grind[List.take_of_length_le,cur]
theorem oH {α:Type}{p:α->Prop}{l c}(h:∀d∈l,p d)(J:p c):∀d∈l++ [c],p d:=λd hd=>by
 grind
structure Inv (N:Nat) (D:DiskM) (h:HdM) (r0:List ChangeM) (ds:cY) (used:Nat):Prop where
 len:D.now.length=N
 big:196<=N/\N<=260
 good:Good D.now h r0 ds used
 num:∀m,122<=m->m<N->vr (h.first+(N - 122)) (D.now.getD m [])
variable {N:Nat}
theorem Inv.used_le (I:Inv N D h J ds used):used<=N - 122:=by
 have:=Bc I.good.log;rw[I.len] at this;exact this
theorem Inv.now {J}(I:Inv N D h O ds used)(hn:J.now=D.now):Inv N J h O ds used:=⟨by rw[hn];exact I.len,I.big,by rw[hn];exact I.good,by rw[hn];exact I.num⟩
theorem xz h t L:eh L (wC h t)=(eh L (np h.side t 0 (ci t))).set (h.ep % 2) (ca (dt h)):=by unfold wC;rw[jr];rfl
variable {D1:DiskM}
theorem Inv.new (I:Inv N D h J ds used)(O:h.ep<=1000000)(V:h.first<=900000000)(hn:D1.now=eh D.now (wC (eO h (cur J ds) (N - 122)) (bP (cur J ds)))):
  Inv N D1 (eO h (cur J ds) (N - 122)) (cur J ds) [] 0:=by
 have hl:=I.len;have g:=MO I.good (by rw[hl];exact I.big) O V (by rw[hl];exact I.num);rw[hl] at g;rw[xz] at hn;have R:=ld I.good.lenC I.good.okC;refine ⟨by rw[hn,kbO,iL,hl],I.big,by rw[hn];exact g,λm h1 S=>?_⟩;rw[hn,hZ,kaU (by simp only[eO];omega),IA,kaU (by simp only[eO];omega)];exact KO (I.num m h1 S) (by simp only[eO];omega)
def MP (S:wu D)(I:Inv N D h J ds used)(O:h.ep<=1000000)(R:h.first<=900000000):
  ∃D1,ct D (wC (eO h (cur J ds) (N - 122)) (bP (cur J ds)))=(0,D1)/\wu D1/\Inv N D1 (eO h (cur J ds) (N - 122)) (cur J ds) [] 0:=by
 obtain ⟨r1,r2,V⟩:=pu _ D S (by rw[I.len];exact EU (h:=h) I.good.lenC I.good.okC I.big.1);exact ⟨_,Prod.ext r1 rfl,r2,I.new O R V⟩
theorem vv {first J a b u v}(h1:dg first J many 0 [] [] 0=(a,u))(O:dg first J many 0 [] [] 0=(b,v)):a=b/\u=v:=by
 grind
theorem Inv.add {J O}(I:Inv N D h V ds used)(hl:D1.now.length=N)(S:∀m,(m<122->D1.now.getD m []=D.now.getD m [])/\(122<=m->m<N->vr (h.first+(N - 122)) (D1.now.getD m [])))(R:dg h.first (mK D1.now 122) (N - 122) 0 [] [] 0=(J,O))(h1:∀d∈J,d.length<=72)(X:∀d∈J,∀x∈d,d7 x=0)(Y:∀k,((J.take k).foldl cX V).length<=80):Inv N D1 h V J O:=by
 have Z:=I.big;have hs:=I.good.side;exact ⟨hl,I.big,EX I.good (by rw[hl,I.len]) (by rw[I.len];omega) (λm hm=>(S m).1 (by omega)) (λm a b=>(S m).1 (by omega)) (by rw[I.len];exact R) h1 X Y,λm a b=>(S m).2 a b⟩
def VB (I:Inv N D h J ds used)(R:h.first<=900000000)(hv:nk (N - 122) used c=0):∀x∈k9 122 (N - 122) h.first used c,TO (λm s=>(m<122->s=D.now.getD m [])/\(122<=m->m<N->vr (h.first+(N - 122)) s)) x:=by
 obtain ⟨v1,v2,v3⟩:=pr hv;have O:=I.big;intro x hx;have:=QF (many:=N - 122) (first:=h.first) (used:=used) (c:=c) (by omega) (by omega) x hx;cases x with
 | none=>trivial
 | some y=>exact ⟨λhm=>absurd this.1 (by omega),λ_ _=>this.2⟩
theorem TQ {r0}(Z:wu D)(V:∀x∈D.now,x.length=80)(I:Inv N D h r0 ds used)(hf:h.first<=900000000)(hv:nk (N - 122) used c=0)(R:(cX (cur r0 ds) c).length<=80):
  pq 122 (N - 122) h.first used c D=0/\wu (iY 122 (N - 122) h.first used c D)/\nm 122 (N - 122) h.first used c D=used+c.length+1/\Inv N (iY 122 (N - 122) h.first used c D) h r0 (ds++ [c]) (used+c.length+1):=by
 obtain ⟨v1,v2,v3⟩:=pr hv;have hb:=I.big;have J:=I.good.log;rw[I.len] at J;obtain ⟨a1,a2,a3,a4,a5⟩:=Tv Z V (by rw[I.len];omega) hv J;refine ⟨a1,a2,by grind[nm],?_⟩;have O:AllP (λm s=>(m<122->s=D.now.getD m [])/\(122<=m->m<N->vr (h.first+(N - 122)) s)) {D with kept:=D.now,wait:=[]}:=AllP.calm rfl rfl λm=>⟨λ_=>rfl,λh1 h2=>I.num m h1 h2⟩;have hD:iY 122 (N - 122) h.first used c D=(ct D (k9 122 (N - 122) h.first used c)).2:=(by grind[iY]);have hok:∀x∈k9 122 (N - 122) h.first used c,ka D.now.length x:=(by rw[I.len];exact xp (by omega) hv);have Y:=(pu _ D Z hok).2.2;have S:=(pu _ ({D with kept:=D.now,wait:=[]}:DiskM) Z hok).2.2;have X:=(O.run (k9 122 (N - 122) h.first used c) (VB I hf hv)).now;rw[S] at X;rw[<-Y,<-hD] at X;exact I.add (by rw[a4,I.len]) X a5 (oH I.good.lens v1) (oH I.good.chk v3)<|vu I.good.fits R
theorem Xe {rows}(h:xw many rows c=0):c.length<=72/\lb c=0/\(cX rows c).length<=80/\c.length+1<=many:=by
 grind[xw]
theorem MQ {Y e D2 h2 R}(hu:wu D)(hS:tQ D)(I:Inv N D h Y ds used)(hep:h.ep<=1000000)(hf:h.first<=800000000)(hc:ET D h (cur Y ds) (N - 122) used c e D2 h2 R J):
  e=xw (N - 122) (cur Y ds) c/\wu D2/\tQ D2/\h2.ep<=h.ep+1/\h2.first<=h.first+N/\J=(if xw (N - 122) (cur Y ds) c=0 then cX (cur Y ds) c else cur Y ds)/\
   R=(if xw (N - 122) (cur Y ds) c=0 then (if N - 122 - used<c.length+1 then 0 else used)+c.length+1 else used)/\∃r0' ds',Inv N D2 h2 r0' ds' R/\cur r0' ds'=J:=by
 have hb:=I.big;rcases hc with ⟨hne,rfl,rfl,rfl,rfl,rfl⟩ | ⟨h0,e1,D1,h1,O,hmid,Z⟩
 ·grind
 ·obtain ⟨c1,c2,c3,c4⟩:=Xe h0;have hm:e1=0/\wu D1/\tQ D1/\h1.ep<=h.ep+1/\h1.first<=h.first+N/\O=(if N - 122 - used<c.length+1 then 0 else used)/\∃r1 d1,Inv N D1 h1 r1 d1 O/\cur r1 d1=cur Y ds:=by
   rcases hmid with ⟨S,X,hck⟩ | ⟨S,rfl,rfl,rfl,rfl⟩
   ·obtain ⟨D1',hr1,hu1,I1⟩:=MP hu I hep (by omega);rw[hr1] at X;injection X with q1 q2;subst q1 q2;have h80:=pB _ D hS (EU (h:=h) I.good.lenC I.good.okC I.big.1);rw[hr1] at h80;rcases hck with ⟨hx,_⟩ | ⟨_,rfl,hu1',d',hsc⟩
    ·exact absurd rfl hx
    ·have V:=I1.good.log;rw[I1.len] at V;have:=(vv hsc V).2;subst this;exact ⟨rfl,hu1,h80,by simp only[eO];omega,by simp only[eO];omega,by rw[kaT S],_,_,I1,rfl⟩
   grind
  obtain ⟨rfl,hu1,hS1,m1,m2,m3,r1,d1,I1,hcur⟩:=hm;rcases Z with ⟨hx,_⟩ | ⟨_,rfl,rfl,rfl,rfl,rfl⟩
  ·exact absurd rfl hx
  ·have hv:nk (N - 122) O c=0:=(by grind[CE]);obtain ⟨a1,a2,a3,a4⟩:=TQ (c:=c) hu1 hS1.2.1 I1 (by omega) hv (by rw[hcur];exact c3);refine ⟨by rw[a1,h0],a2,Ir hS1 (N:=N) (by omega),m1,m2,by rw[kaT a1,kaT h0],by rw[a3,kaT h0,m3],r1,d1++ [c],by rw[a3];exact a4,?_⟩
   grind[yH]
theorem MR {i}(h:oE N i D)from_ many first used c:oE N (i+200) (iY from_ many first used c D):=by
 unfold iY;split
 ·rename_i hv;obtain ⟨h1,_,_⟩:=pr hv;refine j3 (iX _ _ _ h) ?_
  grind[EG,k9]
 grind[j3]
theorem MS {i e V Y O}(hok:oE N i D)(Z:tQ D)(I:Inv N D h X ds used)(hc:ET D h (cur X ds) (N - 122) used c e V Y O J):oE N (i+263) V:=by
 rcases hc with ⟨_,_,rfl,_⟩ | ⟨_,e1,D1,h1,S,R,hr⟩
 ·exact j3 hok (by omega)
 ·have hm:=(Hb R hok Z I.good.lenC I.good.okC I.big.1 I.used_le).1
  grind[j3,MR]
theorem CO:∀(k:Nat) (L:List Bytes) (m:Nat),(eh L (u3 k)).getD m []=if (m=0\/(122<=m/\m<122+k))/\m<L.length then ca [] else L.getD m []
 | 0,L,m=>by
  show (L.set 0 (ca [])).getD m []=_
  grind
 | k+1,L,m=>by
  rw[u3,jr];show ((eh L (u3 k)).set (122+k) (ca [])).getD m []=_;rw[hZ,iL,CO k L m]
  grind
def MT {N}(J:196<=N):∀k,122+k<=N->∀x∈u3 k,ka N x
 | 0,_,x,h=>by
  rw[u3,kcv] at h;subst h;exact ⟨by simp only;omega,by simp⟩
 | k+1,hk,x,h=>by
  rw[u3] at h;rcases kbF.1 h with h | h
  ·exact MT J k (by omega) x h
  ·rw[kcv] at h;subst h;exact ⟨by simp only;omega,by simp⟩
theorem yK (J:196<=N):∀x∈Bj N,ka N x:=λx hx=>by
 unfold Bj WJ at hx;simp only[kbF,kbn,kcx,or_false] at hx;rcases hx with hx | rfl | rfl | rfl
 ·exact MT J _ (by omega) x hx
 ·trivial
 ·exact ⟨by simp only;omega,by rw[vq];decide⟩
 ·trivial
def EZ:dU (ca [])=HdM.no:=by
 unfold dU;rw[kaT];left;decide
theorem MU (R:196<=L.length):Good (eh L (Bj L.length)) hd1 [] [] 0:=by
 have e:eh L (Bj L.length)=(eh L (u3 (L.length - 122))).set 1 (ca (dt hd1)):=(by unfold Bj;rw[jr];rfl);rw[e];have J:=CO (L.length - 122) L;have hl:(eh L (u3 (L.length - 122))).length=L.length:=iL ..;generalize eh L (u3 (L.length - 122))=bq at J hl ⊢;have hh:dU (ca (dt hd1))=hd1:=yB (by decide) (by decide) (by decide) (by decide);refine ⟨?_,by decide,by decide,by decide,rfl,?_,List.Pairwise.nil,(λr hr=>by cases hr),by decide,?_,(λd hd=>by cases hd),(λd hd=>by cases hd),λk=>by grind⟩
 ·rw[CM,hZ,hZ,kaU (λO=>absurd O.1 (by decide)),kaT ⟨rfl,by omega⟩,J,kaT ⟨.inl rfl,by omega⟩,EZ,hh]
  rfl
 ·show List.take 0 _=_
  rfl
 ·rw[kbO,hl];obtain ⟨m,hm⟩:∃m,L.length - 122=m+1:=⟨L.length - 123,by omega⟩
  grind[vn,hZ,mH]
theorem ID (J:196<=N/\N<=260)(hl:D.now.length=N)(hn:D1.now=eh D.now (Bj N)):Inv N D1 hd1 [] [] 0:=by
 have e:eh D.now (Bj N)=(eh D.now (u3 (N - 122))).set 1 (ca (dt hd1)):=(by unfold Bj;rw[jr];rfl);have g:=MU (L:=D.now) (by rw[hl];exact J.1);rw[hl] at g;refine ⟨by rw[hn,iL,hl],J,by rw[hn];exact g,λm h1 O=>?_⟩
 grind[hZ,CO,yI]
end Go.Proofs.YthdjckbjjfiopabGreatDoor