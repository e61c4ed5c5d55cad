/- Several texts in one: walks and rules used by them. No condition. -/
import Derived.Test.YthdjckbjjfiopabGreatDoorCartC
import Derived.Test.YthdjckbjjfiopabGreatDoorCartB
import Derived.KernelRfl
import Derived.Test.YthdjckbjjfiopabGreatDoorCartA
import Derived.Test.YthdjckbjjfiopabGreatDoorProg
import GoSem.Extern.AbiNoEscape
set_option linter.unusedSimpArgs false
set_option linter.unusedVariables false
set_option synthInstance.maxSize 9999
set_option synthInstance.maxHeartbeats 0
set_option linter.defProp false
set_option maxHeartbeats 800000
namespace Go.Proofs.YthdjckbjjfiopabGreatDoor
open _root_.Go.Proofs.Tryz
open Go Go.Sl Go.Proofs
def Tn:∃fn,Tryz.prog.funcs[271]? =some fn/\(fn.name== "runtime.NumGoroutine")=false/\fn.body.isNone=true/\Extern.findNext fn=none/\Extern.find fn=some Extern.BytealgCompare.compare:=
 ⟨(Tryz.prog.funcs[271]?).get (by kernel_rfl),(kap _).symm,by kernel_rfl,by kernel_rfl,by kernel_rfl,by kernel_rfl⟩
def JN (a b:ak)(w:World):(callFunc 271 [aC a,aC b].toArray).run Tryz.prog w= .ok (.value (I (Lib.compareBytes a b))) w:=by
 obtain ⟨fn,h1,J,O,R,S⟩:=Tn;rw[run_callFunc_extern h1 J O R S];show ((Extern.BytealgCompare.compare #[.string ⟨⟨a⟩⟩, .string ⟨⟨b⟩⟩]).run Tryz.prog w).andThen _=_;rw[Lib.run_compareString]
 rfl
def JO (l:List ChangeM)(i:Nat):(bx l).take i++((bx l).drop (i+1)).take (l.length - (i+1))=bx (l.eraseIdx i):=by
 simp_all[kaq,bx,kar]
def p7 (l:List ChangeM):∀r∈bx l,ones r=true:=λr hr=>by simp only[bx,Zz] at hr;obtain ⟨x,_,rfl⟩:=hr;rfl
def lP (l:List ChangeM):∀r∈bx l,r.length=3:=λr hr=>by simp only[bx,Zz] at hr;obtain ⟨x,_,rfl⟩:=hr;rfl
def jz (a b:ak)(F:List ag):Ct Tryz.prog 245 [aC a,aC b] (F) (R1 (I (Lib.compareBytes a b)) F):=by
 refine Ct.of func245 rR 8 ntmps245 (by simp) λw0=>?_;refine gS (gQ (gS (gM (gM (gR (Hv (v:=I (Lib.compareBytes a b)) (JN a b) rR) (gQ ?_))))));refine ao rR rR ?_;exact rfl
def mh (a b:ak)(F:List ag):Ct Tryz.prog 188 [aC a,aC b] (F) (R1 (I (Lib.compareBytes a b)) F):=by
 refine Ct.of func188 rR 8 ntmps188 (by simp) λw0=>?_;refine gS (gQ (gS (gM (gM (gR (vA call245 (jz a b)) (gQ ?_))))));refine ao rR rR ?_;exact rfl
def rx (x:ChangeM)(k:ak)(F:List ag):Ct Tryz.prog 187 [.agg (aV x).toArray,aC k] (F) (R1 (I (Lib.compareBytes x.key k)) F):=by
 refine Ct.of func187 rR 9 ntmps187 (by simp) λw0=>?_;refine gS (gI (di (aV x).toArray) ?_);rintro _ _ ⟨J,rfl,rfl⟩;refine gQ (gS (gF 0 Vp rR Vh (gL (aC x.key) Vj (gM (gR (vA call188 (mh x.key k)) (gQ ?_))))));refine ao rR rR ?_;exact rfl
def pu (l:List ChangeM)(s:Option Addr)(cap:Nat)(hl:l.length<=1000000)(F:List ag):Ct Tryz.prog 121 [sl s l.length cap] (roL 3 s (bx l)::F) (ww 174 3 l.length (bx l) (roL 3 s (bx l)::F)):=by
 refine Ct.of func121 rR 8 ntmps121 (by simp) λw0=>?_;refine BR (φ:=s=none->l=[]) (λw V hs=>by
  have h1:=(SlR.ro (sz:=3) (s:=s) (rows:=bx l) (L:=F)).out w0 w V;rcases h1 with h | ⟨b,o,Z,h,_⟩
  ·simpa [bx] using h
  ·rw[hs] at h;cases h) (λJ=>?_)
 refine gS (gQ (ac (gS (gM (gV (Gb Ve rR) (ab ?_))))));apply ah<;>intro S
 ·have R:s=none:=(by simpa using S);have O:=J R;subst O;refine bH 174 3 (bx []) ?_;refine gS (gQ ?_);exact df rfl rfl rfl rfl
 ·refine ai (gS (gI (xO Ve Vd) ?_));rintro _ _ ⟨X,rfl,rfl⟩;refine gM (gI (bo Ve Vd Vo Tryz.typeInfo174 (hm:=by exact aQ l) (lP l) (p7 l) ⟨by omega,by decide,by decide⟩) ?_);rintro _ _ ⟨s7,Y,rfl,rfl⟩;rw[YR];simp only[Zg];refine gQ ?_;exact df rfl rfl rfl rfl
def u5 (l:List ChangeM)(s:Option Addr)(cap i:Nat)(hi:i<l.length)(hl:l.length<=1000000)(F:List ag):Ct Tryz.prog 189 [sl s l.length cap,I i,I ((i:Int)+1)] (bi 174 3 s cap (bx l)::F) (R1 (sl s (l.length - 1) cap) (bi 174 3 s cap (bx (l.eraseIdx i))::F)):=by
 refine Ct.of func189 rR 33 ntmps189 (by simp) λw0=>?_;refine ta s λJ=>?_;rw[aQ] at J;refine gS (gQ (gS (gM (gM (gM (gM (gV (aX Ve) (gV (La (l:=i) (h:=i+1) (q:=l.length) Ve Vd rR rR rR rR (by omega) rR rR (by omega) (by omega) J) (ab (ac (gS (gM (gM (gV bT (ab ?_)))))))))))))));apply ah<;>intro O
 ·simp at O;omega
 ·refine ai (gS (gM (gV (aX Ve) (gQ (ac ?_)))));refine cO (Lf:=F) jD ?_;refine dM rR (dM rR (dV rR (lX (h:=i) Ve Vd rR rR rR (by omega)) (dM rR (dM rR (dV rR (iU (l:=i+1) Ve Vd rR rR (by omega) (by omega)) (d7 rR (xR (s:=s) (p:=i+1) Ve Vd (by decide) rR rR (by unfold At;split;exact .inr (.inr (by omega));exact .inr (.inl rR)) (by rw[aQ];omega) (by rw[aQ];omega) (by rw[aQ];omega) (by rw[aQ];omega) (p7 l)) ?_))))));rintro _ _ ⟨rfl,rfl⟩;rw[JO];refine dV rR aD ?_;refine aP ?_;refine gS (gM (gM (gV (aX Ve) (gM (gV (D4 (l:=i+(l.length - (i+1))) (h:=l.length) Ve Vd rR rR rR rR rR (by omega) J) (ir (mU (sz:=3) (l:=i+(l.length - (i+1))) s Ve Vo rR rR (by unfold At;split;exact .inr (.inr (by omega));exact .inr (.inl rR)) (by rw[aQ,kas];split <;> omega) (by omega)) ?_))))));rintro _ _ ⟨rfl,rfl⟩;refine ab (gS (gM (gQ ?_)));exact ao rfl rfl (by rw[show l.length - 1=i+(l.length - (i+1)) by omega];rfl)
def oS (l:List ChangeM)(s:Option Addr)(cap:Nat)(k:ak)(hs:srt l)(hl:l.length<=1000000)(F:List ag):Ct Tryz.prog 186 [sl s l.length cap,aC k, .func (.func 187) #[] #[]] (bi 174 3 s cap (bx l)::F) (R1 (.tuple #[I (ln l k),Bo (uK l k)]) (bi 174 3 s cap (bx l)::F)):=by
 refine Ct.of func186 rR 49 ntmps186 (by simp) λw0=>?_;refine gS (gA (gQ (gS (gM (gV (aX Ve) (gQ (gS (gM (gA (gQ (ac (al ?_))))))))))));refine aM (α:=Nat×Nat) (λz=>z.1<=ln l k/\ln l k<=z.2/\z.2<=l.length) (λz=>U [(0,sl s l.length cap),(1,aC k),(2, .func (.func 187) #[] #[]),(8,I l.length),(9,I z.1),(10,I z.2)]) (λ_=>bi 174 3 s cap (bx l)::F) (λz=>z.2 - z.1) (0,l.length) ⟨by simp,HF _ _,Yf _⟩ [0,1,2,8,9,10] rfl ?_;rintro ⟨i,j⟩ ⟨hi,hj,Y⟩;simp only[] at hi hj Y ⊢;refine ac (gS (gM (gM (gV aI (ab ?_)))));apply ah<;>intro X
 ·simp at X;refine ai (al (ac ?_));have S:(i+j) / 2<l.length:=(by omega);obtain ⟨x,hx⟩:∃x,l[(i+j) / 2]? =some x:=⟨_,Zu S⟩;have V:(i+j) / 2<(bx l).length:=(by rw[aQ];exact S);have Z:=Lz hs k hx;refine am (gM (gM (gP (gV (cP Vf Xn (sT (by omega))) (gV (lU (r:=(((i+j) / 2:Nat):Int)) (by rw[show min ((1:Int).toNat) IntKind.u64.bits=1 by decide,kau _ (by decide)];omega)) (gV (cP Xn Vf (da (by omega))) (gQ (gS (gM (gM (gM (gV (ay ((i+j) / 2) Ve Vd S V) (gV (bJ (row:=aV x) Vz Vd (cY hx)) (gM ?_))))))))))))));refine gI (fW (fi:=[]) (cap:=[]) (Pre:=[]) call187 rR rR (rx x k)) ?_;rintro _ _ ⟨rfl,rfl⟩;refine gV aI (ab ?_);apply ah<;>intro O
  ·simp at O;refine am (gM (gP (gQ (aG ?_))));exact ap ((i+j) / 2+1,j) ⟨by simp only[];have:=Z.1 ((wj _ _).1.1 O);omega,hj,Y⟩ (by simp only[];omega) [0,1,2,8,9,10] rfl
  ·simp at O;refine am (gM (gQ (aG ?_)));exact ap (i,(i+j) / 2) ⟨hi,by simp only[];rcases YL ((i+j) / 2) (ln l k) with h | h;have:=(wj _ _).1.2 (Z.2 h);omega;exact h,by simp only[];omega⟩ (by simp only[];omega) [0,1,2,8,9,10] rfl
 ·simp at X;obtain rfl:i=ln l k:=(by omega);refine aF ?_;refine gS (gM (gM (gM (gV aI (gM ?_)))));by_cases R:ln l k<l.length
  ·obtain ⟨x,hx⟩:∃x,l[ln l k]? =some x:=⟨_,Zu R⟩;have V:ln l k<(bx l).length:=(by rw[aQ];exact R);have J:decide ((ln l k:Int)<l.length)=true:=Zv (by omega);refine bc (hw:=by exact J) aq (bc (hw:=by exact J) aq (bc (hw:=by exact J) aq (bc (hw:=by exact J) (ay (ln l k) Ve Vd R V) (bc (hw:=by exact J) (bJ (row:=aV x) Vz Vd (cY hx)) (bc (hw:=by exact J) aq ?_)))));refine rQ (hw:=by exact J) (fW (fi:=[]) (cap:=[]) (Pre:=[]) call187 rR rR (rx x k)) ?_;rintro _ _ ⟨rfl,rfl⟩;refine bc (hw:=by exact J) bT (gV dD (gA (gQ ?_)));exact ao rfl rfl (by rw[yu hs,hx];show Value.tuple #[I (ln l k),Bo (decide ((ln l k:Int)<l.length) && decide (Lib.compareBytes x.key k=0))]=_;rw[J,Z0,decide_eq_decide.2 (wj x.key k).2])
  ·have J:decide ((ln l k:Int)<l.length)=false:=Zt (by omega);refine bE (hw:=by rw[J];rfl) (bE (hw:=by rw[J];rfl) (bE (hw:=by rw[J];rfl) (bE (hw:=by rw[J];rfl) (bE (hw:=by rw[J];rfl) (bE (hw:=by rw[J];rfl) (bE (hw:=by rw[J];rfl) (bE (hw:=by rw[J];rfl) (gV (eT (hq:=by exact J)) (gA (gQ ?_))))))))));exact ao rfl rfl (by rw[yu hs,kav (by omega)];rfl)
section
variable {c:Cx}{g:Option (Nat×Bool)}{E:dr}{L:List ag}{d:Option Tmp}{ty:TypeId}{pos:String}{af:Array Edge}{gu:Option (Nat×Bool)}{x:Operand}{t e:TypeId}{s:Option Addr}{n cap:Nat}
def Rs (R:c.P.underlying t=some (.slice e))(hx:ev g E x=some (sl s n cap)):OpV c g E L ⟨d, .call {callee:= .builtin .cap,args:=#[x],argTypes:=#[t]},ty,pos,af,gu⟩ (I cap):= .mk λa w J O S=>by
 simp[execOp,resolve,invoke,builtin,Builtin.cap_,underlying,program,Sem.run,R,J.ev O hx,sl,goInt]
end
def Ru:∃fn,Tryz.prog.funcs[246]? =some fn/\(fn.name== "runtime.NumGoroutine")=false/\fn.body.isNone=true/\Extern.findNext fn=none/\Extern.find fn=some (Extern.SlicesOverlaps.overlaps #[33,33] #[4]):=
 ⟨(Tryz.prog.funcs[246]?).get (by kernel_rfl),(kap _).symm,by kernel_rfl,by kernel_rfl,by kernel_rfl,by kernel_rfl⟩
def GD {w0 w:World}{L R O:List ag}{b1 J c1 c2 l1 l2 n1 n2 p:Nat}{r1 r2:List (List Value)}[R1:Rem L (bi 174 3 (some ⟨b1,0,none⟩) c1 r1) R][R2:Rem R (bi 174 3 (some ⟨J,0,none⟩) c2 r2) O](h0:0<r2.length)(hS:Sat w0 w L):
  (callFunc 246 [sl (some ⟨b1,0,none⟩) l1 n1,sl (some ⟨J,p,none⟩) l2 n2].toArray).run Tryz.prog w= .ok (.value (Bo false)) w:=by
 obtain ⟨fn,h1,Y,Z,h4,h5⟩:=Ru;have S:=R1.sat hS;have r3:Rem (bi 174 3 (some ⟨b1,0,none⟩) c1 r1::R) (bi 174 3 (some ⟨J,0,none⟩) c2 r2) (bi 174 3 (some ⟨b1,0,none⟩) c1 r1::O):=inferInstance;have V:=r3.sat S;have r4:Rem (bi 174 3 (some ⟨J,0,none⟩) c2 r2::bi 174 3 (some ⟨b1,0,none⟩) c1 r1::O) (bi 174 3 (some ⟨b1,0,none⟩) c1 r1) (bi 174 3 (some ⟨J,0,none⟩) c2 r2::O):=inferInstance;have X:=r4.sat V;rw[run_callFunc_extern h1 Y Z h4 h5];have:=OE (P:=Tryz.prog) (t:=33) (tR:=4) (l1:=l1) (l2:=l2) (n1:=n1) (n2:=n2) (p:=p) Ve Vd (by decide) h0 X;show ((Extern.SlicesOverlaps.overlaps _ _ #[.slice (some ⟨b1,0,none⟩) l1 n1, .slice (some ⟨J,p,none⟩) l2 n2]).run Tryz.prog w).andThen _=_;rw[this]
 rfl
def yv (l:List ChangeM)(i:Nat)(c:ChangeM):List ChangeM:=l.take i++ [c]++l.drop i
theorem xc (a b:List ChangeM):bx (a++b)=bx a++bx b:=by simp[bx]
theorem yw (a:List ChangeM)(i:Nat):bx (a.take i)=(bx a).take i:=by simp[bx]
theorem yx (a:List ChangeM)(i:Nat):bx (a.drop i)=(bx a).drop i:=by simp[bx]
section
variable {l:List ChangeM}{i:Nat}{c:ChangeM}
theorem To {α:Type}(A R:List α)(y x:α):(A++y::R).take A.length++ [x]++(A++y::R).drop (A.length+1)=A++x::R:=by
 simp_all
def UA {α:Type}(P R X:List α)(h:X.length=R.length):(P++R).take P.length++X.take R.length++(P++R).drop (P.length+R.length)=P++X:=by
 grind
def UB (hi:i<=l.length){q:Nat}(hq:Nat.min 1 q=1){z:List Value}:((bx l).take i++List.replicate (l.length+1 - i) z).take i++([aV c].drop 0).take (Nat.min 1 q)++((bx l).take i++List.replicate (l.length+1 - i) z).drop (i+Nat.min 1 q)=bx (l.take i++ [c])++List.replicate (l.length - i) z:=by
 rw[hq];have h1:((bx l).take i).length=i:=(by rw[Y8,aQ];omega);have J:List.replicate (l.length+1 - i) z=z::List.replicate (l.length - i) z:=by rw[show l.length+1 - i=(l.length - i)+1 by omega];rfl
 grind[To,bx,yw]
def UC (hi:i<=l.length){m q:Nat}(hm:Nat.min m q=l.length - i){z:List Value}:(bx (l.take i++ [c])++List.replicate (l.length - i) z).take (i+1)++((bx l).drop i).take (Nat.min m q)++(bx (l.take i++ [c])++List.replicate (l.length - i) z).drop (i+1+Nat.min m q)=bx (yv l i c):=by
 rw[hm];have h1:(bx (l.take i++ [c])).length=i+1:=(by rw[aQ];simp;omega);have J:=UA (bx (l.take i++ [c])) (List.replicate (l.length - i) z) ((bx l).drop i) (by rw[kaw,aQ,ZA]);rw[h1,ZA] at J
 grind[yv,xc,yx]
def yy (hi:i<=l.length){g:List Value}:((bx l++ [g]).drop i).take (l.length - i)=(bx l).drop i:=by
 grind[aQ]
def UD (hi:i<l.length){m q:Nat}(hm:Nat.min m q=l.length - i){g:List Value}:(bx l++ [g]).take (i+1)++((bx l++ [g]).drop i).take (Nat.min m q)++(bx l++ [g]).drop (i+1+Nat.min m q)=bx (l.take (i+1)++l.drop i):=by
 rw[hm];have J:(bx l++ [g]).take (i+1)=(bx l).take (i+1):=Zq (by rw[aQ];omega);have O:=yy (l:=l) (i:=i) (by omega) (g:=g);have R:(bx l++ [g]).drop (i+1+(l.length - i))=[]:=Z9 (by grind)
 grind[xc,yw,yx]
def UE (hi:i<l.length){q:Nat}(hq:Nat.min 1 q=1):(bx (l.take (i+1)++l.drop i)).take i++([aV c].drop 0).take (Nat.min 1 q)++(bx (l.take (i+1)++l.drop i)).drop (i+Nat.min 1 q)=bx (yv l i c):=by
 rw[hq,<-yw,<-yx];have h1:(l.take (i+1)).length=i+1:=(by grind);have J:(l.take (i+1)++l.drop i).take i=l.take i:=by
  grind
 have O:(l.take (i+1)++l.drop i).drop (i+1)=l.drop i:=List.drop_left' h1;rw[J,O];unfold yv;rw[xc _ (l.drop i),xc]
 rfl
end
def u6 (l:List ChangeM)(c:ChangeM)(s:Option Addr)(cap Z i:Nat)(hi:i<=l.length)(hl:l.length<=1000)(F:List ag):Ct Tryz.prog 190 [sl s l.length cap,I i,sl (some ⟨Z,0,none⟩) 1 1] (bi 174 3 s cap (bx l)::bi 174 3 (some ⟨Z,0,none⟩) 1 [aV c]::F) (ww 174 3 (l.length+1) (bx (yv l i c)) F):=by
 refine Ct.of func190 rR 95 ntmps190 (by simp) λw0=>?_;refine ta s λX=>?_;rw[aQ] at X;refine gS (gQ (gS (gM (gM (gV (iU (l:=i) Ve Vd rR rR (by omega) (by omega)) (ab (gS (gM (gV (aX Ve) (gQ (ac (gS (gM (gV bT (ab ?_)))))))))))))));apply ah<;>intro h16
 ·simp at h16
 ·refine ai (gS (gM (gV (aX Ve) (gQ (ac (gS (gM (gM (gV bT (ab ?_))))))))));apply ah<;>intro R
  ·simp at R;refine gS (gM (gM (gI (bo Ve Vd Vo Tryz.typeInfo174 (hn:=by exact aQ l) (by simp[aV]) (by simp[aV,ones,one]) ⟨by omega,by decide,by decide⟩) ?_)));rintro _ _ ⟨s25,c25,rfl,rfl⟩;rw[show bx l++ [aV c]=bx (yv l i c) by unfold yv;rw[show i=l.length by omega];simp[bx]];refine gQ ?_;exact df rfl rfl rfl rfl
  ·simp at R;refine ai (ac (gS (gM (gM (gP (gM (gV (Rs Ve rR) (gV aT (ab ?_)))))))));apply ah<;>intro S
   ·simp at S;refine gS (gM (gM (gV (lX (h:=i) Ve Vd rR rR rR (by omega)) (gM (gM (gP (gM (gV (fe (da (by omega))) (gI (uR (m:=l.length+1 - i) Ve Vf Vd Vo rR Tryz.typeInfo174 (by decide) rR rR (by omega) (by rw[aQ];exact hi) (lP l) (by omega) (by omega) ⟨by omega,by decide,by decide⟩) ?_)))))))));rintro _ _ ⟨O,c40,rfl,rfl⟩;refine ta (some ⟨O,0,none⟩) λV=>?_;rw[Z1,Y8,aQ,ZA] at V;refine gQ (gS (gM (gM (gV (iU (l:=i) Ve Vd rR rR (by omega) (by omega)) (gM ?_)))));refine gR (uP (s:=(some ⟨O,0,none⟩)) (s2:=(some ⟨Z,0,none⟩)) (l:=i) (p:=0) Ve Vd (by decide) rR rR (by unfold At;split;exact .inr (.inr (by omega));exact .inr (.inl rR)) (.inl ⟨rfl,rfl⟩) (by simp[bx];omega) (by simp) (by simp[aV]) (by simp[aV,ones,one])) ?_;refine kE (some ⟨O,0,none⟩) (bx (l.take i++ [c])++List.replicate (l.length - i) (aV AP)) (UB hi (by show min _ _=_;omega)) ?_;refine ab (ac ?_);refine cO (Lf:=F) jK ?_;refine dM rR (dM rR (dM rR (dV rR (bO (da (by omega))) (dV rR (iU (l:=i+1) Ve Vd rR rR (by omega) (by omega)) (dM rR (dM rR (dV rR (iU (l:=i) Ve Vd rR rR (by omega) (by omega)) ?_)))))));refine d7 rR (uP (s:=(some ⟨O,0,none⟩)) (s2:=s) (l:=i+1) (p:=i) Ve Vd (by decide) rR rR (by unfold At;split;exact .inr (.inr (by omega));exact .inr (.inl rR)) (by unfold At;split;exact .inr (.inr (by omega));exact .inr (.inl rR)) (by simp[bx];omega) (by rw[aQ];omega) (lP l) (p7 l)) ?_;rintro _ _ ⟨rfl,rfl⟩;refine kE (some ⟨O,0,none⟩) (bx (yv l i c)) (UC hi (by show min _ _=_;omega)) ?_;refine aP ?_;refine gS (gM (gQ ?_));exact df rfl rfl rfl (by omega)
   ·simp at S;refine ai (ac ?_);have Y:i<l.length:=(by omega);have J:Nat.min (l.length+1 - i) (l.length+1 - (i+1))=l.length - i:=(by show min _ _=_;omega);refine Rc s (by rw[aQ];omega) ?_;rintro b rfl;refine am (gM (gM (gM (gP (gV (lX (h:=l.length+1) Ve Vd rR rR (by omega) (by omega)) (gQ (ac (gS (gM (gM (gM (gM (gP (gV (iU (l:=i+1) Ve Vd rR rR (by omega) (by omega)) ?_))))))))))))));rw[YC (show ¬cap=i+1 by omega),show ((some (⟨b,0,none⟩:Addr)).map (·.add ((i+1)*3)))=some ⟨b,0+(i+1)*3,none⟩ from Yg some (ga _ _ _)];refine gR (Lc (v:=Bo false) (λw hS=>GD (c1:=1) (r1:=[aV c]) (c2:=cap) (r2:=bx l) (by rw[aQ];omega) hS) rR) (gV cE (ab ?_));apply ah<;>intro h68
    ·refine ac ?_;refine Lb (some ⟨b,0,none⟩) (by rw[aQ];omega) ?_;intro gr hgr;refine cO (Lf:=F) jK ?_;refine dM rR (dM rR (dM rR (dV rR (bO (da (by omega))) (dV rR (iU (l:=i+1) Ve Vd rR rR (by omega) (by omega)) (dM rR (dM rR (dV rR (iU (l:=i) Ve Vd rR rR (by omega) (by omega)) (d7 rR (OB (s:=(some ⟨b,0,none⟩)) (s2:=(some ⟨b,0,none⟩)) (l:=i+1) (p:=i) Ve Vd (by decide) rR rR (by unfold At;split;exact .inr (.inr (by omega));exact .inr (.inl rR)) (by unfold At;split;exact .inr (.inr (by omega));exact .inr (.inl rR)) (by rw[J,Z1,aQ];simp;omega) (by rw[J,Z1,aQ];simp;omega) (by rw[J,yy (by omega)];exact λr hr=>lP l r (Zb hr)) (by rw[J,yy (by omega)];exact λr hr=>p7 l r (Zb hr))) ?_))))))));rintro _ _ ⟨rfl,rfl⟩;refine kE (some ⟨b,0,none⟩) (bx (l.take (i+1)++l.drop i)) (UD Y J) ?_;refine aP ?_;refine gS (gM (gM (gV (iU (l:=i) Ve Vd rR rR (by omega) (by omega)) (gM ?_))));refine gR (uP (s:=(some ⟨b,0,none⟩)) (s2:=(some ⟨Z,0,none⟩)) (l:=i) (p:=0) Ve Vd (by decide) rR rR (by unfold At;split;exact .inr (.inr (by omega));exact .inr (.inl rR)) (.inl ⟨rfl,rfl⟩) (by simp[bx];omega) (by simp) (by simp[aV]) (by simp[aV,ones,one])) ?_;refine kE (some ⟨b,0,none⟩) (bx (yv l i c)) (UE Y (by show min _ _=_;omega)) ?_;refine ab (gS (gM (gQ ?_)));exact df rfl rfl rfl rfl
    ·simp at h68
section
variable {c:Cx}{E:dr}{L:List ag}{K:List KI}
end
def qR {l:List ChangeM}(h:srt l):∀cs:List ChangeM,srt (cU l cs)/\(cU l cs).length<=l.length+cs.length:=by
 intro cs
 induction cs generalizing l with
 | nil=>exact ⟨h,by simp[cU]⟩
 | cons c cs J=>
  grind[Rp,Rq,cU]
def Qz {l:List ChangeM}(h:srt l){k:ak}(hi:uK l k=true):ln l k<l.length:=by
 grind[yu]
section
variable {c r:ChangeM}{z:Bool×List ChangeM}
def OR (h:(!z.1 && (kl c.key r.key || decide (c.key=r.key)))=true)(J:r.key≠c.key):iB c z r=(true,z.2++ [c]++ [r]):=by grind[iB]
def OS (h:(!z.1 && (kl c.key r.key || decide (c.key=r.key)))=true)(J:¬r.key≠c.key):iB c z r=(true,z.2++ [c]):=by grind[iB]
def OT (h:¬(!z.1 && (kl c.key r.key || decide (c.key=r.key)))=true)(J:r.key≠c.key):iB c z r=(z.1,z.2++ [r]):=by grind[iB]
def OU (h:¬(!z.1 && (kl c.key r.key || decide (c.key=r.key)))=true)(J:¬r.key≠c.key):iB c z r=z:=by grind[iB]
end
def LB (c:ChangeM):∀(l:List ChangeM) (z:Bool×List ChangeM),(l.foldl (iB c) z).2.length<=z.2.length+2*l.length
 | [],z=>by simp
 | r::l,z=>by
  have h1:=LB c l (iB c z r)
  grind[iB]
def qS (a:List ChangeM)(x:ChangeM):bx a++ [aV x]=bx (a++ [x]):=by simp[bx]
-- counterfoil/counterfoillaw.goodRows is not in this seat
def oT (l cs:List ChangeM)(s s':Option Addr)(cap Z:Nat)(hs:srt l)(hl:l.length<=400)(hc:cs.length<=100)(F:List ag):Ct Tryz.prog 117 [sl s l.length cap,sl s' cs.length Z] (roL 3 s (bx l)::roL 3 s' (bx cs)::F) (ww 174 3 (cU l cs).length (bx (cU l cs)) (roL 3 s (bx l)::roL 3 s' (bx cs)::F)):=by
 refine Ct.of func117 rR 52 ntmps117 (by simp) λw0=>?_;refine gS (gQ (gS (gM (gI (uB call121 (pu l s cap (by omega))) ?_))));rintro _ _ ⟨s10,c10,rfl,rfl⟩;show G _ _ _ (bi 174 3 s10 c10 (bx (cU l (cs.take 0)))::roL 3 s (bx l)::roL 3 s' (bx cs)::F);refine gQ (ac (gS (gM (gV (aX Ve) (gM (ab (al ?_)))))));refine aM (α:=Nat×Option Addr×Nat) (λz=>z.1<=cs.length) (λz=>U [(0,sl z.2.1 (cU l (cs.take z.1)).length z.2.2),(11,sl s' cs.length Z),(12,I cs.length),(13,I z.1)]) (λz=>bi 174 3 z.2.1 z.2.2 (bx (cU l (cs.take z.1)))::roL 3 s (bx l)::roL 3 s' (bx cs)::F) (λz=>cs.length - z.1) (0,s10,c10) (by simp) [0,11,12,13] rfl ?_;rintro ⟨k,sA,cA⟩ hk;simp only[] at hk ⊢;refine gS (gV aI (ab (ac ?_)));apply ah<;>intro h14
 ·simp at h14;have hin:k<cs.length:=(by omega);obtain ⟨x,hx⟩:∃x,cs[k]? =some x:=⟨_,Zu hin⟩;have hir:k<(bx cs).length:=(by rw[aQ];exact hin);have S:=Ey (l:=l) hx;have J:=(qR hs (cs.take k)).1;have hRl:=(qR hs (cs.take k)).2;rw[Y8] at hRl;generalize hRd:cU l (cs.take k)=R at*;refine ai (ac (al (gS (gV (ay k Ve Vd hin hir) (gV (bJ (row:=aV x) Vz Vd (cY hx)) (gI (aO #[aC [],aC [],Bo false] Vo) ?_))))));rintro _ _ ⟨b6,rfl,rfl⟩;refine gU (ax (cs:=#[aC [],aC [],Bo false]) (vs:=aV x) (aV x).toArray Vd (by decide) (hcs:=by exact bk)) (ab (gS (gM (gF 0 Vp rR Vh (gL (aC x.key) Vj (gR (vB call186 (oS R sA cA x.key J (by omega))) (gM (gX (I (ln R x.key)) (gX (Bo (uK R x.key)) (gA (gQ (al (gS (gM (gM (gK (aw 2 Vp rR Vt) (gK (az (v:=Bo x.gone) V6) (gV dD (gQ ?_)))))))))))))))))));apply ah<;>intro O
  ·simp at O;have V:=Qz J O.1;refine am (gM (gM (gM (gP (gR (vB call189 (u5 R sA cA (ln R x.key) V (by omega))) (gQ (aG (aG (am (gP (gM (ab ?_))))))))))));rw[show R.length - 1=(cU l (cs.take (k+1))).length by rw[S,m7 J,YB O.1,YB O.2];rw[kas,YB V],show R.eraseIdx (ln R x.key)=cU l (cs.take (k+1)) by rw[S,m7 J,YB O.1,YB O.2]];exact ap (k+1,sA,cA) (by simp only[];omega) (by simp only[];omega) [0,11,12,13] rfl
  ·simp at O;refine gS (gM (gQ ?_));apply ah<;>intro X
   ·have V:=Qz J X;have Y:¬x.gone=true:=(by simp[O X]);refine am (gM (gM (gV (aU (vs:=aV x) Vz Vd bp) (gV (ay (ln R x.key) Ve Vd V (by rw[aQ];exact V)) (ir (uS (vs:=aV x) Vd rR rR rR rR (by rw[aQ];exact V) (by decide)) ?_)))));rintro _ _ rfl;rw[show (bx R).set (ln R x.key) (aV x)=bx (R.set (ln R x.key) x) by simp[bx,Y1]];refine ab (aG (aG (am (gP (gM (ab ?_))))));rw[show R.length=(cU l (cs.take (k+1))).length by rw[S,m7 J,YB X,YC Y];rw[Z8],show R.set (ln R x.key) x=cU l (cs.take (k+1)) by rw[S,m7 J,YB X,YC Y]];exact ap (k+1,sA,cA) (by simp only[];omega) (by simp only[];omega) [0,11,12,13] rfl
   ·have hni:¬uK R x.key=true:=(by rw[X];simp);refine gS (gF 2 Vp rR Vt (gL (Bo x.gone) V6 (gV cE (gQ ?_))));apply ah<;>intro h41
    ·have Y:¬x.gone=true:=(by simpa using h41);have hlb:=HF R x.key;refine am (gM (gM (gV (aU (vs:=aV x) Vz Vd bp) (gI (av [aV x] Ve Vd Vo (by simp[aV])) ?_))));rintro _ _ ⟨b48,rfl,rfl⟩;refine gI (uC call190 (u6 R x sA cA b48 (ln R x.key) (HF _ _) (by omega))) ?_;rintro _ _ ⟨s49,c49,rfl,rfl⟩;refine gQ (aG (aG (am (gP (gM (ab ?_))))));rw[show R.length+1=(cU l (cs.take (k+1))).length by rw[S,m7 J,YC hni,YC Y];simp[yv];omega,show yv R (ln R x.key) x=cU l (cs.take (k+1)) by rw[S,m7 J,YC hni,YC Y];rfl];exact ap (k+1,s49,c49) (by simp only[];omega) (by simp only[];omega) [0,11,12,13] rfl
    ·simp at h41;refine ai (aG (aG (am (gP (gM (ab ?_))))));rw[show R=cU l (cs.take (k+1)) by rw[S,m7 J,YC hni,YB h41]];exact ap (k+1,sA,cA) (by simp only[];omega) (by simp only[];omega) [0,11,12,13] rfl
 ·simp at h14;obtain rfl:k=cs.length:=(by omega);rw[Y3];refine aF ?_;refine gS (gM (gQ ?_));exact df rfl rfl rfl rfl
def Cp (l cs:List ChangeM)(s s':Option Addr)(cap Z:Nat)(hs:srt l)(hl:l.length<=400)(hc:cs.length<=100)(F:List ag):Ct Tryz.prog 107 [sl s l.length cap,sl s' cs.length Z] (roL 3 s (bx l)::roL 3 s' (bx cs)::F) (ww 174 3 (cU l cs).length (bx (cU l cs)) (roL 3 s (bx l)::roL 3 s' (bx cs)::F)):=by
 refine Ct.of func107 rR 80 ntmps107 (by simp) λw0=>?_;refine gS (gQ (ac ?_));refine bH 174 3 [] ?_;refine am (gM (gI (bo Ve Vd Vo Tryz.typeInfo174 (hm:=by exact aQ l) (lP l) (p7 l) ⟨by omega,by decide,by decide⟩) ?_));rintro _ _ ⟨s11,c11,rfl,rfl⟩;rw[YR];simp only[Zg];show G _ _ _ (bi 174 3 s11 c11 (bx (cU l (cs.take 0)))::roL 3 s (bx l)::roL 3 s' (bx cs)::F);refine gQ (ac (gS (gQ (al ?_))));refine aM (α:=Nat×Option Addr×Nat) (λz=>z.1<=cs.length) (λz=>U [(1,sl s' cs.length Z),(5,sl z.2.1 (cU l (cs.take z.1)).length z.2.2),(6,I z.1)]) (λz=>bi 174 3 z.2.1 z.2.2 (bx (cU l (cs.take z.1)))::roL 3 s (bx l)::roL 3 s' (bx cs)::F) (λz=>cs.length - z.1) (0,s11,c11) (by simp) [1,5,6] rfl ?_;rintro ⟨k,sA,cA⟩ hk;simp only[] at hk ⊢;refine ac (gS (gM (gM (gV (aX Ve) (gV aI (ab ?_))))));apply ah<;>intro h15
 ·simp at h15;have V:k<cs.length:=(by omega);obtain ⟨x,hx⟩:∃x,cs[k]? =some x:=⟨_,Zu V⟩;have O:k<(bx cs).length:=(by rw[aQ];exact V);have hnx:=Ey (l:=l) hx;have hRs:=(qR hs (cs.take k)).1;have hRl:=(qR hs (cs.take k)).2;rw[Y8] at hRl;generalize hRd:cU l (cs.take k)=R at*;refine ai (ac (al (gS (gQ (gS (gM (gM (gV (ay k Ve Vd V O) (gV (aE (j:=k) 2 Vp rR Vt O) (gV (bC (v:=Bo x.gone) V6 (cY hx)) (gQ (ac (ac ?_)))))))))))));refine bH 174 3 (bx (AZ x (R.take 0)).2) ?_;rw[show x.gone=(AZ x (R.take 0)).1 from rfl];refine am (gQ (al ?_));refine aM (α:=Nat×Option Addr×Nat) (λy=>y.1<=R.length) (λy=>U [(1,sl s' cs.length Z),(5,sl sA R.length cA),(6,I k),(7,sl y.2.1 (AZ x (R.take y.1)).2.length y.2.2),(8,Bo (AZ x (R.take y.1)).1),(9,I y.1)]) (λy=>bi 174 3 y.2.1 y.2.2 (bx ((AZ x (R.take y.1)).2))::bi 174 3 sA cA (bx (R))::roL 3 s (bx l)::roL 3 s' (bx cs)::F) (λy=>R.length - y.1) (0,none,0) (by simp) [1,5,6,7,8,9] rfl ?_;rintro ⟨j,sN,cN⟩ hj;simp only[] at hj ⊢;have hN:=LB x (R.take j) (x.gone,[]);rw[Y8] at hN;change (AZ x (R.take j)).2.length<=0+_ at hN;refine ac (gS (gM (gM (gV (aX Ve) (gV aI (ab ?_))))));apply ah<;>intro h26
  ·simp at h26;have Y:j<R.length:=(by omega);obtain ⟨r,hr⟩:∃r,R[j]? =some r:=⟨_,Zu Y⟩;have X:j<(bx R).length:=(by rw[aQ];exact Y);have hst:=OQ (c:=x) hr;generalize AZ x (R.take j)=z at*;refine ai (ac (al (ac (ac ?_))));refine cV jM ?_;refine dM rR (dV rR cE (dM rR (dJ rR aq (dJ rR aq (dJ rR (ay k Ve Vd V O) (dJ rR (aE (j:=k) 0 Vp rR Vh O) (dJ rR (bC (v:=aC x.key) Vj (cY hx)) (dJ rR aq (dJ rR aq (dJ rR (ay j Ve Vd Y X) (dJ rR (aE (j:=j) 0 Vp rR Vh X) (dJ rR (bC (v:=aC r.key) Vj (cY hr)) (dJ rR (KQ rR rR) (dV rR dD ?_))))))))))))));refine aP ?_;apply ah<;>intro h43
   ·refine gS (gM (gM (gM (gV (ay k Ve Vd V O) (gV (bJ (row:=aV x) Vz Vd (cY hx)) (gI (av [aV x] Ve Vd Vo (by simp[aV])) ?_))))));rintro _ _ ⟨b49,rfl,rfl⟩;refine gI (bo Ve Vd Vo Tryz.typeInfo174 (hn:=by exact aQ _) (by simp[aV]) (by simp[aV,ones,one]) ⟨by omega,by decide,by decide⟩) ?_;rintro _ _ ⟨s50,c50,rfl,rfl⟩;rw[qS];refine gQ (am (gQ (ac ?_)));refine cV jF ?_;refine dM rR (dM rR (dV rR (ay j Ve Vd Y X) (dV rR (aE (j:=j) 0 Vp rR Vh X) (dV rR (bC (v:=aC r.key) Vj (cY hr)) (dM rR (dM rR (dV rR (ay k Ve Vd V O) (dV rR (aE (j:=k) 0 Vp rR Vh O) (dV rR (bC (v:=aC x.key) Vj (cY hx)) (dV rR np ?_))))))))));refine aP ?_;apply ah<;>intro J
    ·simp at J;have J:r.key≠x.key:=J;refine am (gM (gM (gM (gV (ay j Ve Vd Y X) (gV (bJ (row:=aV r) Vz Vd (cY hr)) (gI (av [aV r] Ve Vd Vo (by simp[aV])) ?_))))));rintro _ _ ⟨b67,rfl,rfl⟩;refine gI (bo Ve Vd Vo Tryz.typeInfo174 (hn:=by simp[bx]) (by simp[aV]) (by simp[aV,ones,one]) ⟨by omega,by decide,by decide⟩) ?_;rintro _ _ ⟨s68,c68,rfl,rfl⟩;rw[qS];refine gQ (aG (am (gM (gP (gQ ?_)))));have S:AZ x (R.take (j+1))=_:=hst.trans (OR h43 J);rw[show z.2++ [x]++ [r]=(AZ x (R.take (j+1))).2 by rw[S]];exact ap (j+1,s68,c68) (by simp only[];omega) (by simp only[];omega) [1,5,6,7,8,9] rfl (he:=by rw[S] <;> simp[U])
    ·simp at J;have h61':¬r.key≠x.key:=λhh=>hh J;refine ai (aG (am (gM (gP (gQ ?_)))));have S:AZ x (R.take (j+1))=_:=hst.trans (OS h43 h61');rw[show z.2++ [x]=(AZ x (R.take (j+1))).2 by rw[S]];exact ap (j+1,s50,c50) (by simp only[];omega) (by simp only[];omega) [1,5,6,7,8,9] rfl (he:=by rw[S] <;> simp[U])
   ·have h43':¬(!z.1 && (kl x.key r.key || decide (x.key=r.key)))=true:=(by rw[h43];simp);refine ai (ac ?_);refine cV jF ?_;refine dM rR (dM rR (dV rR (ay j Ve Vd Y X) (dV rR (aE (j:=j) 0 Vp rR Vh X) (dV rR (bC (v:=aC r.key) Vj (cY hr)) (dM rR (dM rR (dV rR (ay k Ve Vd V O) (dV rR (aE (j:=k) 0 Vp rR Vh O) (dV rR (bC (v:=aC x.key) Vj (cY hx)) (dV rR np ?_))))))))));refine aP ?_;apply ah<;>intro J
    ·simp at J;have J:r.key≠x.key:=J;refine am (gM (gM (gM (gV (ay j Ve Vd Y X) (gV (bJ (row:=aV r) Vz Vd (cY hr)) (gI (av [aV r] Ve Vd Vo (by simp[aV])) ?_))))));rintro _ _ ⟨b67,rfl,rfl⟩;refine gI (bo Ve Vd Vo Tryz.typeInfo174 (hn:=by simp[bx]) (by simp[aV]) (by simp[aV,ones,one]) ⟨by omega,by decide,by decide⟩) ?_;rintro _ _ ⟨s68,c68,rfl,rfl⟩;rw[qS];refine gQ (aG (am (gM (gP (gQ ?_)))));have S:AZ x (R.take (j+1))=_:=hst.trans (OT h43' J);rw[show z.2++ [r]=(AZ x (R.take (j+1))).2 by rw[S]];exact ap (j+1,s68,c68) (by simp only[];omega) (by simp only[];omega) [1,5,6,7,8,9] rfl (he:=by rw[S] <;> simp[U])
    ·simp at J;have h61':¬r.key≠x.key:=λhh=>hh J;refine ai (aG (am (gM (gP (gQ ?_)))));rw[show z=AZ x (R.take (j+1)) by rw[hst,OU h43' h61']];exact ap (j+1,sN,cN) (by simp only[];omega) (by simp only[];omega) [1,5,6,7,8,9] rfl
  ·simp at h26;obtain rfl:j=R.length:=(by omega);have hA:=Rr hRs x;rw[Y3] at hN ⊢;generalize AZ x R=z at*;refine aF ?_;refine ac (gS (gM (gV cE (ab ?_))));apply ah<;>intro h70
   ·simp at h70;have hE1:cU l (cs.take (k+1))=z.2++ [x]:=(by rw[hnx,<-hA];unfold Ex;rw[YC (by rw[h70];simp)]);refine am (gM (gM (gM (gV (ay k Ve Vd V O) (gV (bJ (row:=aV x) Vz Vd (cY hx)) (gI (av [aV x] Ve Vd Vo (by simp[aV])) ?_))))));rintro _ _ ⟨b76,rfl,rfl⟩;refine gI (bo Ve Vd Vo Tryz.typeInfo174 (hn:=by exact aQ _) (by simp[aV]) (by simp[aV,ones,one]) ⟨by omega,by decide,by decide⟩) ?_;rintro _ _ ⟨s77,c77,rfl,rfl⟩;rw[qS];refine gQ (am (gM (gQ (aG (am (gM (gP (gQ ?_))))))));rw[show z.2.length+1=(cU l (cs.take (k+1))).length by rw[hE1];simp,show z.2++ [x]=cU l (cs.take (k+1)) from hE1.symm];exact ap (k+1,s77,c77) (by simp only[];omega) (by simp only[];omega) [1,5,6] rfl
   ·simp at h70;have hE1:cU l (cs.take (k+1))=z.2:=(by rw[hnx,<-hA];unfold Ex;rw[YB h70]);refine ai (am (gM (gQ (aG (am (gM (gP (gQ ?_))))))));rw[show z.2=cU l (cs.take (k+1)) from hE1.symm];exact ap (k+1,sN,cN) (by simp only[];omega) (by simp only[];omega) [1,5,6] rfl
 ·simp at h15;obtain rfl:k=cs.length:=(by omega);rw[Y3];refine aF ?_;refine gS (gM (gQ ?_));exact df rfl rfl rfl rfl
end Go.Proofs.YthdjckbjjfiopabGreatDoor
namespace Go.Proofs.YthdjckbjjfiopabGreatDoor
open Go.Sl Go.Proofs
structure HdM where
 ep:Nat
 side:Nat
 size:Nat
 first:Nat
deriving DecidableEq
def HdM.no:HdM:=⟨0,0,0,0⟩
abbrev cK (h:HdM):List Value:=[I h.ep,I h.side,I h.size,I h.first]
def dq (h:HdM):ak:=[72]++bj h.ep++bj h.side++bj h.size++bj h.first
def Rv (s:ak):Nat:=(sk s 0).toNat+2 ^ 8*(sk s 1).toNat+2 ^ 16*(sk s 2).toNat+2 ^ 24*(sk s 3).toNat
def eC (s:ak):HdM:=⟨Rv ((s.take 5).drop 1),Rv ((s.take 9).drop 5),Rv ((s.take 13).drop 9),Rv ((s.take 17).drop 13)⟩
def lJ (s:ak):Prop:=sk s 0≠72\/1<(eC s).side\/4800<(eC s).size\/(eC s).first<1
instance (s:ak):Decidable (lJ s):=by unfold lJ;infer_instance
def dU (s:ak):HdM:=if lJ s then HdM.no else eC s
def HG (x:UInt8):x.toNat<256:=x.toNat_lt
theorem Ez {n:Nat}(h:n<4294967296):Rv (bj n)=n:=by
 grind[Rv,bj,sk,UInt8.toNat_ofNat']
theorem u7 (h:HdM):(dq h).length=17:=by simp[dq,bj]
theorem JP {h:HdM}(h1:h.ep<4294967296)(R:h.side<4294967296)(S:h.size<4294967296)(V:h.first<4294967296):eC (bV (dq h))=h/\sk (bV (dq h)) 0=72:=by
 have e:bV (dq h)=72::(bj h.ep++(bj h.side++(bj h.size++(bj h.first++i8 (80 - (dq h).length))))):=by
  unfold bV dq;simp
 rw[e];generalize i8 (80 - (dq h).length)=z;have l:∀n,(bj n).length=4:=λn=>rfl;refine ⟨?_,rfl⟩;unfold eC;have f1:(List.drop 1 (List.take 5 (72::(bj h.ep++(bj h.side++(bj h.size++(bj h.first++z)))))))=bj h.ep:=(by simp[bj]);have f2:(List.drop 5 (List.take 9 (72::(bj h.ep++(bj h.side++(bj h.size++(bj h.first++z)))))))=bj h.side:=(by simp[bj]);have J:(List.drop 9 (List.take 13 (72::(bj h.ep++(bj h.side++(bj h.size++(bj h.first++z)))))))=bj h.size:=(by simp[bj]);have O:(List.drop 13 (List.take 17 (72::(bj h.ep++(bj h.side++(bj h.size++(bj h.first++z)))))))=bj h.first:=by simp[bj]
 simp_all[Ez]
def yz {h:HdM}(h1:h.ep<4294967296)(J:h.side<=1)(O:h.size<=4800)(R:1<=h.first/\h.first<4294967296):dU (bV (dq h))=h:=by
 grind[JP,dU,lJ]
def yA (r:ChangeM):ak:=[UInt8.ofNat r.key.length,UInt8.ofNat r.val.length,UInt8.ofNat (r.val.length / 256)]++r.key++r.val
def bK (l:List ChangeM):ak:=l.flatMap yA
def Cq (r:ChangeM):Prop:=dX r=0/\r.gone=false
def xd {r:ChangeM}(h:Cq r):(yA r).length<=59/\4<=(yA r).length:=by
 obtain ⟨hk,_,h1,J⟩:=qK h.1;unfold yA;have:r.key.length≠0:=λe=>hk (YT.1 e);simp;omega
theorem mj:∀{l:List ChangeM},(∀r∈l,Cq r)->(bK l).length<=59*l.length
 | [],_=>by simp[bK]
 | r::l,h=>by
  have h1:=xd (h r (by simp));have J:=mj (l:=l) λx hx=>h x (kac _ hx)
  grind[bK]
theorem JQ (r:ChangeM)(l:List ChangeM):bK (r::l)=yA r++bK l:=rfl
def JR (l:List ChangeM)(r:ChangeM):bK (l++ [r])=bK l++yA r:=by simp[bK]
def LC {l:List ChangeM}{r:ChangeM}(h:srt (l++ [r]))(hr:r.gone=false):FQ l r=l++ [r]:=by
 have h1:=kan.1 h
 grind[FQ,Co,HE,lI]
def EA {l:List ChangeM}(h:srt l)(k:Nat):srt (l.take k):=h.sublist (kax k l)
def dZ (t:ak)(k:Nat):ak:=(t.drop (80*k)).take 80
def ci (t:ak):Nat:=(t.length+79) / 80
def mJ (side:Nat)(t:ak):Nat->Nat->List mG
 | k,0=>[]
 | k,f+1=>some (2+side*60+k,dZ t k)::mJ side t (k+1) f
def xe (side:Nat)(t:ak):∀f k,(mJ side t k f).length=f
 | 0,_=>rfl
 | f+1,k=>by simp[mJ,xe side t f]
def wk (h:HdM)(t:ak):List mG:=mJ h.side t 0 (ci t)++ [none,some (h.ep % 2,dq h),none]
def eE (h:HdM)(rows:List ChangeM)(many:Nat):HdM:=⟨h.ep+1,1 - h.side,(bK rows).length,h.first+many⟩
def A7 (t:ak)(k:Nat):(dZ t k).length<=80:=by grind[dZ]
def DI (L:List ak):Nat->HdM
 | 0=>HdM.no
 | k+1=>if (DI L k).ep<(dU (L.getD k [])).ep then dU (L.getD k []) else DI L k
def nQ (L:List ak):HdM:=DI L 2
def U6 (L:List ak)(side:Nat):ak:=((L.drop (2+side*60)).take 60).flatten
structure Good (L:List ak) (h:HdM) (r0:List ChangeM) (ds:dc) (used:Nat):Prop where
 best:nQ L=h
 ep:1<=h.ep
 side:h.side<=1
 first:1<=h.first/\h.first<=1000000000
 size:h.size=(bK r0).length
 text:(U6 L h.side).take h.size=bK r0
 hsrt:srt r0
 hok:∀r∈r0,Cq r
 len:r0.length<=80
 log:dh h.first (λi=>L.getD (122+i) []) (L.length - 122) 0 [] [] 0=(ds,used)
 lens:∀d∈ds,d.length<=72
 chk:∀d∈ds,∀x∈d,dX x=0
 fits:∀k,((ds.take k).foldl cU r0).length<=80
def cur (r0:List ChangeM)(ds:dc):List ChangeM:=ds.foldl cU r0
def xf (many:Nat)(rows c:List ChangeM):Int:=if 72<c.length then 2 else if kG c≠0 then kG c else if 80<(cU rows c).length\/many<c.length+1 then 8 else 0
open _root_.Go.Proofs.Tryz
def OV (w:World):(Instr.build 183 #[]).run Tryz.prog w= .ok (.agg #[aC [],I 0]) w:=by
 simp[Instr.build,Wk,Yb,Instr.fill,bB,sl]
def HH (w:World):(Instr.build 187 #[]).run Tryz.prog w= .ok (.agg #[I 0,I 0,I 0,I 0,I 0]) w:=by
 simp[Instr.build,Wa,XY,Instr.fill,bB,sl]
def tu (w:World):(Instr.build 195 #[]).run Tryz.prog w= .ok (.agg #[I 0,I 0,I 0,I 0]) w:=by
 simp[Instr.build,WY,Yc,Instr.fill,bB,sl]
def Rw (q x:Nat)(hq:q<=24)(hx:x<256):IntKind.i64.wrap ((x:Int)*2 ^ (min ((q:Nat):Int).toNat IntKind.i64.bits))=((2 ^ q*x:Nat):Int):=by
 rw[show ((q:Nat):Int).toNat=q from rfl,show min q IntKind.i64.bits=q from Y9 (by show q<=64;omega)];have J:2 ^ q*x<2 ^ 24*256:=Nat.lt_of_le_of_lt (YQ x (Ze (by decide) hq)) (Nat.mul_lt_mul_of_pos_left hx (by decide))
 grind[da]
abbrev lg (bd:Nat)(h:HdM)(bl:Nat)(s:Option Addr)(n cap:Nat):Array Value:=#[ptr bd 0,I h.ep,I h.side,I h.size,I h.first,ptr bl 0,sl s n cap]
def k5 (n:Nat)(F:List ag):Ct Tryz.prog 239 [I n] (F) (R1 (aC (bj n)) F):=by
 refine Ct.of func239 rR 16 ntmps239 (by simp) λw0=>?_;refine gS (gQ (gS (gM (gV (cP (r:=((n % 256:Nat):Int)) Vf Vq (JJ _)) (gM (gV (lU (r:=((n / 256:Nat):Int)) (wd n 256)) (gV (cP (r:=((n / 256 % 256:Nat):Int)) Vf Vq (JJ _)) (gM (gV (lU (r:=((n / 65536:Nat):Int)) (wd n 65536)) (gV (cP (r:=((n / 65536 % 256:Nat):Int)) Vf Vq (JJ _)) (gM (gV (lU (r:=((n / 16777216:Nat):Int)) (wd n 16777216)) (gV (cP (r:=((n / 16777216 % 256:Nat):Int)) Vf Vq (JJ _)) (gI (av (aA (bj n)) Vs VP V0 (hr:=by exact yo n) (by simp[aA])) ?_))))))))))))));rintro _ _ ⟨J,rfl,rfl⟩;refine gV (cg (l:=bj n) Vs Vq Vg rR) (gQ ?_);refine ao rR rR ?_;exact rfl
def cz (s:ak)(hs:s.length=4)(F:List ag):Ct Tryz.prog 182 [aC s] (F) (R1 (I (Rv s)) F):=by
 refine Ct.of func182 rR 21 ntmps182 (by simp) λw0=>?_;have h0:=HG (sk s 0);have h1:=HG (sk s 1);have J:=HG (sk s 2);have O:=HG (sk s 3);refine gS (gQ (ac ?_));refine cV jI ?_;refine dM rR (dV rR (cr (r:=sk s 0) 0 Vg (by exact mX)) (dV rR (cP (r:=(((sk s 0).toNat:Nat):Int)) Vq Vf (da (by omega))) (dM rR (dV rR (cr (r:=sk s 1) 1 Vg (by exact mX)) (dV rR (cP (r:=(((sk s 1).toNat:Nat):Int)) Vq Vf (da (by omega))) (dV rR (KN (r:=((2 ^ 8*(sk s 1).toNat:Nat):Int)) rR rR (by decide) (Rw 8 _ (by decide) (by omega))) (dV rR (Lk (sk s 0).toNat 8 _ rR rR (by omega) (by omega)) (dM rR (dV rR (cr (r:=sk s 2) 2 Vg (by exact mX)) (dV rR (cP (r:=(((sk s 2).toNat:Nat):Int)) Vq Vf (da (by omega))) (dV rR (KN (r:=((2 ^ 16*(sk s 2).toNat:Nat):Int)) rR rR (by decide) (Rw 16 _ (by decide) (by omega))) (dV rR (Lk ((sk s 0).toNat+2 ^ 8*(sk s 1).toNat) 16 _ rR rR (by omega) (by omega)) (dM rR (dV rR (cr (r:=sk s 3) 3 Vg (by exact mX)) (dV rR (cP (r:=(((sk s 3).toNat:Nat):Int)) Vq Vf (da (by omega))) (dV rR (KN (r:=((2 ^ 24*(sk s 3).toNat:Nat):Int)) rR rR (by decide) (Rw 24 _ (by decide) (by omega))) (dV rR (Lk ((sk s 0).toNat+2 ^ 8*(sk s 1).toNat+2 ^ 16*(sk s 2).toNat) 24 _ rR rR (by omega) (by omega)) (dV rR aD ?_))))))))))))))))));refine aP ?_;refine ao rR rR ?_;exact rfl
def ry (h:HdM)(F:List ag):Ct Tryz.prog 177 [.agg (cK h).toArray] (F) (R1 (aC (dq h)) F):=by
 refine Ct.of func177 rR 19 ntmps177 (by simp) λw0=>?_;refine gS (gI (di (cK h).toArray) ?_);rintro _ _ ⟨b1,rfl,rfl⟩;refine gQ (ac (gG [(0,false),(1,false),(4,false),(5,false),(8,false),(9,false),(12,false),(13,false),(2,true),(3,false),(6,true),(7,false),(10,true),(11,false),(14,true),(15,false),(16,false)] (dF rfl 0 VS rfl Vb (dL rfl (I h.ep) Vc (dF rfl 1 VS rfl Vb (dL rfl (I h.side) Vc (dF rfl 2 VS rfl Vb (dL rfl (I h.size) Vc (dF rfl 3 VS rfl Vb (dL rfl (I h.first) Vc (d7 rfl (uA call239 (k5 h.ep)) ?_)))))))))));rintro _ _ ⟨rfl,rfl⟩;refine dV rR (cS (by simp[bj])) (d7 rR (uA call239 (k5 h.side)) ?_);rintro _ _ ⟨rfl,rfl⟩;refine dV rR (cS (by simp[bj])) (d7 rR (uA call239 (k5 h.size)) ?_);rintro _ _ ⟨rfl,rfl⟩;refine dV rfl (cS (by simp[bj])) (d7 rfl (uA call239 (k5 h.first)) ?_);rintro _ _ ⟨rfl,rfl⟩;refine dV rR (cS (by simp[bj])) (dV rR aD ?_);refine aP ?_;refine ao rR rR ?_;exact rfl
def wz (s:ak)(hs:s.length=80)(F:List ag):Ct Tryz.prog 114 [aC s] (F) (R1 (.agg (cK (dU s)).toArray) F):=by
 refine Ct.of func114 rR 37 ntmps114 (by simp) λw0=>?_;refine gS (gI (aO #[I 0,I 0,I 0,I 0] WY) ?_);rintro _ _ ⟨S,rfl,rfl⟩;refine ab (ac ?_);refine qI (Lf:=[]) (.q 0 (.q 1 (.q 3 (.q 4 (.q 6 (.q 7 (.q 9 (.q 10 (.alt (.l 2 (.alt (.l 5 (.alt (.l 8 (.alt (.l 11 (.q 12 (.l 13 (.l 14 (.nil))))) (.l 13 (.l 11 (.q 12 (.l 14 (.nil))))))) (.l 13 (.l 8 (.l 11 (.q 12 (.l 14 (.nil)))))))) (.l 13 (.l 5 (.l 8 (.l 11 (.q 12 (.l 14 (.nil))))))))) (.l 13 (.l 2 (.l 5 (.l 8 (.l 11 (.q 12 (.l 14 (.nil))))))))))))))))) ?_;refine eA rR aq ?_;refine eA rR (gc (l:=1) (h:=5) Vg (by decide)) ?_;refine eA rR aq ?_;refine eA rR (gc (l:=5) (h:=9) Vg (by decide)) ?_;refine eA rR aq ?_;refine eA rR (gc (l:=9) (h:=13) Vg (by decide)) ?_;refine eA rR aq ?_;refine eA rR (gc (l:=13) (h:=17) Vg (by decide)) ?_;refine nI ?_ ?_
 ·refine lu rR (uA call182 (cz ((s.take 5).drop 1) (by simp only[kaw,Y8];omega))) ?_;rintro _ _ ⟨rfl,rfl⟩;refine nI ?_ ?_
  ·refine lu rR (uA call182 (cz ((s.take 9).drop 5) (by simp only[kaw,Y8];omega))) ?_;rintro _ _ ⟨rfl,rfl⟩;refine nI ?_ ?_
   ·refine lu rR (uA call182 (cz ((s.take 13).drop 9) (by simp only[kaw,Y8];omega))) ?_;rintro _ _ ⟨rfl,rfl⟩;refine nI ?_ ?_
    ·refine lu rR (uA call182 (cz ((s.take 17).drop 13) (by simp only[kaw,Y8];omega))) ?_;rintro _ _ ⟨rfl,rfl⟩;refine eA rR (aR (eM _ rR _ rR _ rR _ rR)) ?_;refine lu rR (aO #[I 0,I 0,I 0,I 0] WY) ?_;rintro _ _ ⟨R,rfl,rfl⟩;refine Gk rR (ax (cs:=#[I 0,I 0,I 0,I 0]) (vs:=cK (eC s)) (cK (eC s)).toArray Vu (by decide) (hcs:=by exact bk)) ?_;rintro _ _ rfl;refine kc ?_;refine ac (gS (gM (gV (cr (r:=sk s 0) 0 Vg (by exact mX)) (gV fZ (gM (gK (aw 1 VS rfl Vb) (gK (az (v:=I (eC s).side) Vc) (gK aT (gV cu (gM (gK (aw 2 VS rfl Vb) (gK (az (v:=I (eC s).size) Vc) (gK aT (gV cu (gM (gK (aw 3 VS rfl Vb) (gK (az (v:=I (eC s).first) Vc) (gK aI (gV cu (ab ?_))))))))))))))))))));apply ah<;>intro O
     ·have J:lJ s:=by
       unfold lJ;simp at O;rcases O with ((h | h) | h) | h
       ·exact .inl (λe=>h (by rw[e];rfl))
       ·exact .inr (.inl (by omega))
       ·exact .inr (.inr (.inl (by omega)))
       ·exact .inr (.inr (.inr (by omega)))
      refine gS (gV (aR (tu)) (gU (ax (cs:=#[I 0,I 0,I 0,I 0]) (vs:=cK HdM.no) (cK HdM.no).toArray Vu (by decide) (hcs:=by exact bk)) (ab ?_)))
      first
      | exact ew (cK HdM.no) (by unfold dU;rw[YB J]) rfl rfl VW Vu rfl bp
      | exact ew (cK (eC s)) (by unfold dU;rw[YC J]) rfl rfl VW Vu rfl bp
     ·have J:¬lJ s:=by
       unfold lJ;simp at O;rintro (h | h | h | h)
       ·exact h (UInt8.toNat_inj.1 (by rw[show (72:UInt8).toNat=72 from rfl];omega))
       ·omega
       ·omega
       ·omega
      refine ai (gS (gV (aU (vs:=cK (eC s)) VW Vu bp) (gU (ax (cs:=#[I 0,I 0,I 0,I 0]) (vs:=cK (eC s)) (cK (eC s)).toArray Vu (by decide) (hcs:=by exact bk)) (ab ?_))))
      first
      | exact ew (cK HdM.no) (by unfold dU;rw[YB J]) rfl rfl VW Vu rfl bp
      | exact ew (cK (eC s)) (by unfold dU;rw[YC J]) rfl rfl VW Vu rfl bp
    ·refine lu rR (aO #[I 0,I 0,I 0,I 0] WY) ?_;rintro _ _ ⟨R,rfl,rfl⟩;refine lu rR (uA call182 (cz ((s.take 17).drop 13) (by simp only[kaw,Y8];omega))) ?_;rintro _ _ ⟨rfl,rfl⟩;refine eA rR (aR (eM _ rR _ rR _ rR _ rR)) ?_;refine Gk rR (ax (cs:=#[I 0,I 0,I 0,I 0]) (vs:=cK (eC s)) (cK (eC s)).toArray Vu (by decide) (hcs:=by exact bk)) ?_;rintro _ _ rfl;refine kc ?_;refine ac (gS (gM (gV (cr (r:=sk s 0) 0 Vg (by exact mX)) (gV fZ (gM (gK (aw 1 VS rfl Vb) (gK (az (v:=I (eC s).side) Vc) (gK aT (gV cu (gM (gK (aw 2 VS rfl Vb) (gK (az (v:=I (eC s).size) Vc) (gK aT (gV cu (gM (gK (aw 3 VS rfl Vb) (gK (az (v:=I (eC s).first) Vc) (gK aI (gV cu (ab ?_))))))))))))))))))));apply ah<;>intro O
     ·have J:lJ s:=by
       unfold lJ;simp at O;rcases O with ((h | h) | h) | h
       ·exact .inl (λe=>h (by rw[e];rfl))
       ·exact .inr (.inl (by omega))
       ·exact .inr (.inr (.inl (by omega)))
       ·exact .inr (.inr (.inr (by omega)))
      refine gS (gV (aR (tu)) (gU (ax (cs:=#[I 0,I 0,I 0,I 0]) (vs:=cK HdM.no) (cK HdM.no).toArray Vu (by decide) (hcs:=by exact bk)) (ab ?_)))
      first
      | exact ew (cK HdM.no) (by unfold dU;rw[YB J]) rfl rfl VW Vu rfl bp
      | exact ew (cK (eC s)) (by unfold dU;rw[YC J]) rfl rfl VW Vu rfl bp
     ·have J:¬lJ s:=by
       unfold lJ;simp at O;rintro (h | h | h | h)
       ·exact h (UInt8.toNat_inj.1 (by rw[show (72:UInt8).toNat=72 from rfl];omega))
       ·omega
       ·omega
       ·omega
      refine ai (gS (gV (aU (vs:=cK (eC s)) VW Vu bp) (gU (ax (cs:=#[I 0,I 0,I 0,I 0]) (vs:=cK (eC s)) (cK (eC s)).toArray Vu (by decide) (hcs:=by exact bk)) (ab ?_))))
      first
      | exact ew (cK HdM.no) (by unfold dU;rw[YB J]) rfl rfl VW Vu rfl bp
      | exact ew (cK (eC s)) (by unfold dU;rw[YC J]) rfl rfl VW Vu rfl bp
   ·refine lu rR (aO #[I 0,I 0,I 0,I 0] WY) ?_;rintro _ _ ⟨R,rfl,rfl⟩;refine lu rR (uA call182 (cz ((s.take 13).drop 9) (by simp only[kaw,Y8];omega))) ?_;rintro _ _ ⟨rfl,rfl⟩;refine lu rR (uA call182 (cz ((s.take 17).drop 13) (by simp only[kaw,Y8];omega))) ?_;rintro _ _ ⟨rfl,rfl⟩;refine eA rR (aR (eM _ rR _ rR _ rR _ rR)) ?_;refine Gk rR (ax (cs:=#[I 0,I 0,I 0,I 0]) (vs:=cK (eC s)) (cK (eC s)).toArray Vu (by decide) (hcs:=by exact bk)) ?_;rintro _ _ rfl;refine kc ?_;refine ac (gS (gM (gV (cr (r:=sk s 0) 0 Vg (by exact mX)) (gV fZ (gM (gK (aw 1 VS rfl Vb) (gK (az (v:=I (eC s).side) Vc) (gK aT (gV cu (gM (gK (aw 2 VS rfl Vb) (gK (az (v:=I (eC s).size) Vc) (gK aT (gV cu (gM (gK (aw 3 VS rfl Vb) (gK (az (v:=I (eC s).first) Vc) (gK aI (gV cu (ab ?_))))))))))))))))))));apply ah<;>intro O
    ·have J:lJ s:=by
      unfold lJ;simp at O;rcases O with ((h | h) | h) | h
      ·exact .inl (λe=>h (by rw[e];rfl))
      ·exact .inr (.inl (by omega))
      ·exact .inr (.inr (.inl (by omega)))
      ·exact .inr (.inr (.inr (by omega)))
     refine gS (gV (aR (tu)) (gU (ax (cs:=#[I 0,I 0,I 0,I 0]) (vs:=cK HdM.no) (cK HdM.no).toArray Vu (by decide) (hcs:=by exact bk)) (ab ?_)))
     first
     | exact ew (cK HdM.no) (by unfold dU;rw[YB J]) rfl rfl VW Vu rfl bp
     | exact ew (cK (eC s)) (by unfold dU;rw[YC J]) rfl rfl VW Vu rfl bp
    ·have J:¬lJ s:=by
      unfold lJ;simp at O;rintro (h | h | h | h)
      ·exact h (UInt8.toNat_inj.1 (by rw[show (72:UInt8).toNat=72 from rfl];omega))
      ·omega
      ·omega
      ·omega
     refine ai (gS (gV (aU (vs:=cK (eC s)) VW Vu bp) (gU (ax (cs:=#[I 0,I 0,I 0,I 0]) (vs:=cK (eC s)) (cK (eC s)).toArray Vu (by decide) (hcs:=by exact bk)) (ab ?_))))
     first
     | exact ew (cK HdM.no) (by unfold dU;rw[YB J]) rfl rfl VW Vu rfl bp
     | exact ew (cK (eC s)) (by unfold dU;rw[YC J]) rfl rfl VW Vu rfl bp
  ·refine lu rR (aO #[I 0,I 0,I 0,I 0] WY) ?_;rintro _ _ ⟨R,rfl,rfl⟩;refine lu rR (uA call182 (cz ((s.take 9).drop 5) (by simp only[kaw,Y8];omega))) ?_;rintro _ _ ⟨rfl,rfl⟩;refine lu rR (uA call182 (cz ((s.take 13).drop 9) (by simp only[kaw,Y8];omega))) ?_;rintro _ _ ⟨rfl,rfl⟩;refine lu rR (uA call182 (cz ((s.take 17).drop 13) (by simp only[kaw,Y8];omega))) ?_;rintro _ _ ⟨rfl,rfl⟩;refine eA rR (aR (eM _ rR _ rR _ rR _ rR)) ?_;refine Gk rR (ax (cs:=#[I 0,I 0,I 0,I 0]) (vs:=cK (eC s)) (cK (eC s)).toArray Vu (by decide) (hcs:=by exact bk)) ?_;rintro _ _ rfl;refine kc ?_;refine ac (gS (gM (gV (cr (r:=sk s 0) 0 Vg (by exact mX)) (gV fZ (gM (gK (aw 1 VS rfl Vb) (gK (az (v:=I (eC s).side) Vc) (gK aT (gV cu (gM (gK (aw 2 VS rfl Vb) (gK (az (v:=I (eC s).size) Vc) (gK aT (gV cu (gM (gK (aw 3 VS rfl Vb) (gK (az (v:=I (eC s).first) Vc) (gK aI (gV cu (ab ?_))))))))))))))))))));apply ah<;>intro O
   ·have J:lJ s:=by
     unfold lJ;simp at O;rcases O with ((h | h) | h) | h
     ·exact .inl (λe=>h (by rw[e];rfl))
     ·exact .inr (.inl (by omega))
     ·exact .inr (.inr (.inl (by omega)))
     ·exact .inr (.inr (.inr (by omega)))
    refine gS (gV (aR (tu)) (gU (ax (cs:=#[I 0,I 0,I 0,I 0]) (vs:=cK HdM.no) (cK HdM.no).toArray Vu (by decide) (hcs:=by exact bk)) (ab ?_)))
    first
    | exact ew (cK HdM.no) (by unfold dU;rw[YB J]) rfl rfl VW Vu rfl bp
    | exact ew (cK (eC s)) (by unfold dU;rw[YC J]) rfl rfl VW Vu rfl bp
   ·have J:¬lJ s:=by
     unfold lJ;simp at O;rintro (h | h | h | h)
     ·exact h (UInt8.toNat_inj.1 (by rw[show (72:UInt8).toNat=72 from rfl];omega))
     ·omega
     ·omega
     ·omega
    refine ai (gS (gV (aU (vs:=cK (eC s)) VW Vu bp) (gU (ax (cs:=#[I 0,I 0,I 0,I 0]) (vs:=cK (eC s)) (cK (eC s)).toArray Vu (by decide) (hcs:=by exact bk)) (ab ?_))))
    first
    | exact ew (cK HdM.no) (by unfold dU;rw[YB J]) rfl rfl VW Vu rfl bp
    | exact ew (cK (eC s)) (by unfold dU;rw[YC J]) rfl rfl VW Vu rfl bp
 ·refine lu rR (aO #[I 0,I 0,I 0,I 0] WY) ?_;rintro _ _ ⟨R,rfl,rfl⟩;refine lu rR (uA call182 (cz ((s.take 5).drop 1) (by simp only[kaw,Y8];omega))) ?_;rintro _ _ ⟨rfl,rfl⟩;refine lu rR (uA call182 (cz ((s.take 9).drop 5) (by simp only[kaw,Y8];omega))) ?_;rintro _ _ ⟨rfl,rfl⟩;refine lu rR (uA call182 (cz ((s.take 13).drop 9) (by simp only[kaw,Y8];omega))) ?_;rintro _ _ ⟨rfl,rfl⟩;refine lu rR (uA call182 (cz ((s.take 17).drop 13) (by simp only[kaw,Y8];omega))) ?_;rintro _ _ ⟨rfl,rfl⟩;refine eA rR (aR (eM _ rR _ rR _ rR _ rR)) ?_;refine Gk rR (ax (cs:=#[I 0,I 0,I 0,I 0]) (vs:=cK (eC s)) (cK (eC s)).toArray Vu (by decide) (hcs:=by exact bk)) ?_;rintro _ _ rfl;refine kc ?_;refine ac (gS (gM (gV (cr (r:=sk s 0) 0 Vg (by exact mX)) (gV fZ (gM (gK (aw 1 VS rfl Vb) (gK (az (v:=I (eC s).side) Vc) (gK aT (gV cu (gM (gK (aw 2 VS rfl Vb) (gK (az (v:=I (eC s).size) Vc) (gK aT (gV cu (gM (gK (aw 3 VS rfl Vb) (gK (az (v:=I (eC s).first) Vc) (gK aI (gV cu (ab ?_))))))))))))))))))));apply ah<;>intro O
  ·have J:lJ s:=by
    unfold lJ;simp at O;rcases O with ((h | h) | h) | h
    ·exact .inl (λe=>h (by rw[e];rfl))
    ·exact .inr (.inl (by omega))
    ·exact .inr (.inr (.inl (by omega)))
    ·exact .inr (.inr (.inr (by omega)))
   refine gS (gV (aR (tu)) (gU (ax (cs:=#[I 0,I 0,I 0,I 0]) (vs:=cK HdM.no) (cK HdM.no).toArray Vu (by decide) (hcs:=by exact bk)) (ab ?_)))
   first
   | exact ew (cK HdM.no) (by unfold dU;rw[YB J]) rfl rfl VW Vu rfl bp
   | exact ew (cK (eC s)) (by unfold dU;rw[YC J]) rfl rfl VW Vu rfl bp
  ·have J:¬lJ s:=by
    unfold lJ;simp at O;rintro (h | h | h | h)
    ·exact h (UInt8.toNat_inj.1 (by rw[show (72:UInt8).toNat=72 from rfl];omega))
    ·omega
    ·omega
    ·omega
   refine ai (gS (gV (aU (vs:=cK (eC s)) VW Vu bp) (gU (ax (cs:=#[I 0,I 0,I 0,I 0]) (vs:=cK (eC s)) (cK (eC s)).toArray Vu (by decide) (hcs:=by exact bk)) (ab ?_))))
   first
   | exact ew (cK HdM.no) (by unfold dU;rw[YB J]) rfl rfl VW Vu rfl bp
   | exact ew (cK (eC s)) (by unfold dU;rw[YC J]) rfl rfl VW Vu rfl bp
-- (*counterfoil/store.Store).Room is not in this seat
def Aj (bs J:Nat)(h:HdM)(bl:Nat)(s:Option Addr)(cap:Nat)(rows:List ChangeM)(hr:rows.length<=400)(F:List ag):Ct Tryz.prog 43 [ptr bs 0] (pt bs (.cells (lg J h bl s (rows.length) cap) 198 (0,0))::roL 3 s (bx rows)::F) (ww 174 3 rows.length (bx rows) (pt bs (.cells (lg J h bl s (rows.length) cap) 198 (0,0))::roL 3 s (bx rows)::F)):=by
 refine Ct.of func43 rR 8 ntmps43 (by simp) λw0=>?_;refine gS (gQ (gS (gM (gV aa (gF 6 VX rR Wl (gL (sl s rows.length cap) WP (gI (uB call121 (pu rows s cap (by omega))) ?_)))))));rintro _ _ ⟨R,O,rfl,rfl⟩;refine gQ ?_;exact df rfl rfl rfl rfl
open Go Go.Sl Go.Proofs
def OW:∃fn,Tryz.prog.funcs[310]? =some fn/\(fn.name== "runtime.NumGoroutine")=false/\fn.body.isNone=true/\Extern.findNext fn=none/\Extern.find fn=some Extern.AbiNoEscape.same:=
 ⟨(Tryz.prog.funcs[310]?).get (by kernel_rfl),(kap _).symm,by kernel_rfl,by kernel_rfl,by kernel_rfl,by kernel_rfl⟩
def EB (v:Value)(w:World):(callFunc 310 [v].toArray).run Tryz.prog w= .ok (.value v) w:=by
 obtain ⟨fn,h1,J,O,R,S⟩:=OW;rw[run_callFunc_extern h1 J O R S]
 rfl
def GE (a b:Nat):[[By ((a % 256:Nat):Int)],[By ((b % 256:Nat):Int)],[By ((b / 256 % 256:Nat):Int)]]=aA [UInt8.ofNat a,UInt8.ofNat b,UInt8.ofNat (b / 256)]:=by
 simp only[aA,Yw,Yx,UInt8.toNat_ofNat']
def Tp (k v:ak)(w:World):(Instr.build 174 #[(0,aC k),(1,aC v)]).run Tryz.prog w= .ok (.agg (aV ⟨k,v,false⟩).toArray) w:=by
 simp[Instr.build,Vo,Xv,Vh,Vt,Instr.fill,bB,aV,show ∀s:ak,(aC s).cells=#[aC s] from λ_=>rfl]
def A8 {l:List ChangeM}{k:Nat}{x:ChangeM}(h:l[k]? =some x):bK (l.take (k+1))=bK (l.take k)++yA x:=by rw[lF h,JR]
def A9 {l:List ChangeM}{k:Nat}{x:ChangeM}(h:l[k]? =some x):bK (l.drop k)=yA x++bK (l.drop (k+1)):=by
 grind[List.drop_eq_getElem_cons,JQ]
def Cr {l:List ChangeM}(h:∀r∈l,Cq r)(k:Nat):(bK (l.take k)).length<=59*l.length:=by
 grind[mj]
def JS {l:List ChangeM}{k:Nat}{x:ChangeM}(hs:srt l)(hx:l[k]? =some x)(J:x.gone=false):cU (l.take k) [x]=l.take (k+1):=by
 have h:=EA hs (k+1);rw[lF hx] at h ⊢;exact LC h J
def p8 (bb:Nat)(p s:Option Addr)(n cap:Nat)(hp:p=none\/p=some ⟨bb,0,none⟩)(F:List ag):Ct Tryz.prog 273 [ptr bb 0] (pt bb (.cells #[(.pointer p),sl s n cap] 327 (0,0))::F) (R1 (.tuple #[]) (pt bb (.cells #[ptr bb 0,sl s n cap] 327 (0,0))::F)):=by
 refine Ct.of func273 rR 20 ntmps273 (by simp) λw0=>?_;refine gS (gM (gV aa (gF 0 Xo rR XP (gL (.pointer p) isAgg325 (gV (rX XQ) (ab ?_))))));apply ah<;>intro R
 ·refine am (gM (gM (gV (OG XQ underlying367 XZ (by decide) rR (by simp)) (gR (Hv (λw=>EB _ w) rR) (gV (OH underlying367 XQ XZ (by decide) rR rR) (gV aa (gF 0 Xo rR XP (gU (aK #[ptr bb 0,sl s n cap] XP (by simp)) (ab ?_)))))))));refine fY rR rR ?_;exact rfl
 ·have O:p=some ⟨bb,0,none⟩:=by
   rcases hp with h | h
   ·rw[h] at R;cases R
   ·exact h
  rw[O];refine gS (gM (gV aa (gF 0 Xo rR XP (gL (ptr bb 0) isAgg325 (gM (gV (Gp XQ XZ rR rR) (ab ?_)))))));apply ah<;>intro J
  ·cases J
  ·refine ai ?_;refine fY rR rR ?_;exact rfl
def oU (bb:Nat)(p s:Option Addr)(cap:Nat)(l t:ak)(hp:p=none\/p=some ⟨bb,0,none⟩)(V:l.length+t.length<=1000000)(F:List ag):Ct Tryz.prog 250 [ptr bb 0,aC t] (pt bb (.cells #[(.pointer p),sl s l.length cap] 327 (0,0))::bi 5 1 s cap (aA (l))::F) (λv L'=>∃S R,v= .tuple #[I t.length, .nilIface]/\L'=pt bb (.cells #[ptr bb 0,sl S (l++t).length R] 327 (0,0))::bi 5 1 S R (aA (l++t))::F):=by
 refine Ct.of func250 rR 19 ntmps250 (by simp) λw0=>?_;refine gS (gA (gQ (gS (gM (gR (vB call273 (p8 bb p s l.length cap hp)) (ab (gS (gM (gM (gV aa (gF 1 Xo rR XI (gL (sl s l.length cap) Xz (gM (gI (Ll Vs Vg VP V0 rR Tryz.typeInfo5 rR rR rR ⟨by omega,by decide,by decide⟩) ?_))))))))))))));rintro _ _ ⟨O,J,rfl,_,rfl⟩;refine gV aa (gF 1 Xo rR XI (gU (aK #[ptr bb 0,sl O (l++t).length J] XI (by simp)) (ab (gS (gM (gV (cW Vg) (gA (gQ ?_))))))));exact an (pt bb (.cells #[ptr bb 0,sl O (l++t).length J] 327 (0,0))::bi 5 1 O J (aA (l++t))::F) rfl ⟨O,J,rfl,rfl⟩
def tv (bb:Nat)(p s:Option Addr)(cap:Nat)(l:ak)(h0:l≠ []\/s=none)(J:l.length<=1000000)(F:List ag):Ct Tryz.prog 251 [ptr bb 0] (pt bb (.cells #[(.pointer p),sl s l.length cap] 327 (0,0))::bi 5 1 s cap (aA (l))::F) (R1 (aC l) (pt bb (.cells #[(.pointer p),sl s l.length cap] 327 (0,0))::F)):=by
 refine Ct.of func251 rR 14 ntmps251 (by simp) λw0=>?_;refine gS (gQ (ac (gD (Lf:=[pt bb (.cells #[(.pointer p),sl s l.length cap] 327 (0,0))]) [(0,false),(1,false),(2,false),(3,false),(5,false),(6,false),(7,false),(8,false),(9,false),(4,true),(10,true),(11,false)] (dM rR (dV rR aa (dF rR 1 Xo rR XI (dL rR (sl s l.length cap) Xz (dM rR (dV rR aa (dF rR 1 Xo rR XI (dL rR (sl s l.length cap) Xz (dV rR (aX Vs) (d7 rR (Te (l:=l) rR h0) ?_)))))))))))));rintro _ _ ⟨rfl,rfl⟩;refine d7 rR (Re (l:=l) underlying337 (wb (VP default)) rR rR rR h0 (by omega)) ?_;rintro _ _ ⟨rfl,rfl⟩;refine dV rR aD ?_;refine aP ?_;refine ao rR rR ?_;exact rfl
def Cs (rows:List ChangeM)(s:Option Addr)(cap:Nat)(hl:rows.length<=400)(hok:∀r∈rows,Cq r)(F:List ag):Ct Tryz.prog 199 [sl s rows.length cap] (roL 3 s (bx rows)::F) (R1 (aC (bK rows)) (roL 3 s (bx rows)::F)):=by
 refine Ct.of func199 rR 36 ntmps199 (by simp) λw0=>?_;have J:=Cr hok;refine gS (gQ (gS (gI (aO #[.pointer none,sl none 0 0] zeroValue327) ?_)));rintro _ _ ⟨R,rfl,rfl⟩;refine ab (ac (ac ?_));rw[show sl none 0 0=sl none (bK (rows.take 0)).length 0 from rfl];refine bH 5 1 (aA (bK (rows.take 0))) ?_;refine am (gM (gV (aX Ve) (gM (ab (al ?_)))));refine aM (α:=Nat×Option Addr×Option Addr×Nat) (λz=>z.1<=rows.length/\(z.2.1=none\/z.2.1=some ⟨R,0,none⟩)/\(bK (rows.take z.1)≠ []\/z.2.2.1=none)) (λz=>U [(3,ptr R 0),(6,sl s rows.length cap),(7,I rows.length),(8,I z.1)]) (λz=>pt R (.cells #[(.pointer z.2.1),sl z.2.2.1 (bK (rows.take z.1)).length z.2.2.2] 327 (0,0))::bi 5 1 z.2.2.1 z.2.2.2 (aA (bK (rows.take z.1)))::roL 3 s (bx rows)::F) (λz=>rows.length - z.1) (0,none,none,0) ⟨by simp, .inl rfl, .inr rfl⟩ [3,6,7,8] rfl ?_;rintro ⟨k,p,sB,Y⟩ ⟨hk,hp,hne⟩;simp only[] at hk hp hne ⊢;refine gS (gV aI (ab (ac ?_)));apply ah<;>intro Z
 ·simp at Z;have O:k<rows.length:=(by omega);obtain ⟨x,hx⟩:∃x,rows[k]? =some x:=⟨_,Zu O⟩;have V:k<(bx rows).length:=(by rw[aQ];exact O);have hxl:=xd (hok x (YW hx));obtain ⟨_,_,hxk,hxv⟩:=qK (hok x (YW hx)).1;refine ai (ac (al (gS (gV (ay k Ve Vd O V) (gV (bJ (row:=aV x) Vz Vd (cY hx)) (gI (aO #[aC [],aC [],Bo false] Vo) ?_))))));rintro _ _ ⟨b5,rfl,rfl⟩;refine gU (ax (cs:=#[aC [],aC [],Bo false]) (vs:=aV x) (aV x).toArray Vd (by decide) (hcs:=by exact bk)) (ab (am (gF 0 Vp rR Vh (gL (aC x.key) Vj (gV (cW Vg) (gV (cP (r:=((x.key.length % 256:Nat):Int)) Vf Vq (JJ _)) (gF 1 Vp rR Vh (gL (aC x.val) Vj (gV (cW Vg) (gV (cP (r:=((x.val.length % 256:Nat):Int)) Vf Vq (JJ _)) (gF 1 Vp rR Vh (gL (aC x.val) Vj (gV (cW Vg) (gV (lU (r:=((x.val.length / 256:Nat):Int)) (wd x.val.length 256)) (gV (cP (r:=((x.val.length / 256 % 256:Nat):Int)) Vf Vq (JJ _)) (gI (av (aA ([UInt8.ofNat x.key.length,UInt8.ofNat x.val.length,UInt8.ofNat (x.val.length / 256)])) Vs VP V0 (hr:=by exact GE x.key.length x.val.length) (by simp[aA])) ?_))))))))))))))));rintro _ _ ⟨b25,rfl,rfl⟩;refine gV (cg (l:=[UInt8.ofNat x.key.length,UInt8.ofNat x.val.length,UInt8.ofNat (x.val.length / 256)]) Vs Vq Vg rR) (gF 0 Vp rR Vh (gL (aC x.key) Vj (gV (cS (by simp <;> omega)) (gF 1 Vp rR Vh (gL (aC x.val) Vj (gV (cS (by simp <;> omega)) (gI (uC call250 (oU R p sB Y (bK (rows.take k)) (yA x) hp (by have:=J k;have:=xd (hok x (YW hx));omega))) ?_)))))));rintro _ _ ⟨X,S,rfl,rfl⟩;rw[<-A8 hx];refine ab (aG (am (gV (bO (r:=((k+1:Nat):Int)) (by rw[show (k:Int)+1=((k+1:Nat):Int) by omega];exact da (by omega))) (gM (ab ?_)))));refine ap (k+1,some ⟨R,0,none⟩,X,S) ⟨by simp only[];omega, .inr rfl, .inl ?_⟩ (by simp only[];omega) [3,6,7,8] rfl;simp only[];rw[A8 hx];intro e;have:=Yg List.length e;rw[Z1,kay] at this;omega
 ·simp at Z;obtain rfl:k=rows.length:=(by omega);rw[Y3] at hne ⊢;refine aF ?_;refine gS (gR (vC call251 (tv R p sB Y (bK rows) hne (by have:=J rows.length;rw[Y3] at this;omega))) (gQ ?_));refine ao rR rR ?_;exact rfl
def yB (rows:List ChangeM)(hl:rows.length<=400)(hs:srt rows)(hok:∀r∈rows,Cq r)(F:List ag):Ct Tryz.prog 115 [aC (bK rows)] (F) (λv L'=>∃s cap,v= .tuple #[sl s rows.length cap,Bo true]/\L'=roL 3 s (bx rows)::F):=by
 refine Ct.of func115 rR 64 ntmps115 (by simp) λw0=>?_;have hlen:∀k,(bK (rows.drop k)).length<=59*400:=λk=>by
  have:=mj (l:=rows.drop k) λr hr=>hok r (Zb hr);rw[kaw] at this;omega
 refine sM 3 (bx (rows.take 0)) ?_;refine gS (gA (gQ (gS (gQ (ac (al ?_))))));refine aM (α:=Nat×Option Addr×Nat) (λz=>z.1<=rows.length) (λz=>U [(0,aC (bK (rows.drop z.1))),(4,sl z.2.1 (rows.take z.1).length z.2.2)]) (λz=>roL 3 z.2.1 (bx (rows.take z.1))::F) (λz=>rows.length - z.1) (0,none,0) (by simp) [0,4] rfl ?_;rintro ⟨k,sA,cA⟩ hk;simp only[] at hk ⊢;refine ac (gS (gM (gV np (ab ?_))));apply ah<;>intro Z
 ·simp at Z;have hkn:k<rows.length:=by
   rcases YL k rows.length with h | h
   ·exact h
   ·rw[List.drop_eq_nil_of_le h] at Z;exact absurd rfl Z
  obtain ⟨x,hx⟩:∃x,rows[k]? =some x:=⟨_,Zu hkn⟩;have Y:=hok x (YW hx);obtain ⟨hk0,hg1,hxk,hxv⟩:=qK Y.1;have hc0:=Y.1;have S:=Y.2;have hd:=A9 hx;have hdl:=hlen k;obtain ⟨J,X,hx0e⟩:∃y:UInt8,y.toNat=x.key.length/\UInt8.ofNat x.key.length=y:=⟨_,mY (by omega),rfl⟩;obtain ⟨O,hx1,hx1e⟩:∃y:UInt8,y.toNat=x.val.length/\UInt8.ofNat x.val.length=y:=⟨_,mY (by omega),rfl⟩;obtain ⟨R,hx2,hx2e⟩:∃y:UInt8,y.toNat=0/\UInt8.ofNat (x.val.length / 256)=y:=⟨_,by rw[show x.val.length / 256=0 by omega];rfl,rfl⟩;rw[show yA x++bK (rows.drop (k+1))=(J::O::R::(x.key++(x.val++bK (rows.drop (k+1))))) by unfold yA;rw[hx0e,hx1e,hx2e];simp] at hd;rw[hd] at hdl Z ⊢;simp only[YF,Z1] at hdl;have V:(J::O::R::(x.key++(x.val++bK (rows.drop (k+1))))).drop (J.toNat+3+O.toNat)=bK (rows.drop (k+1)):=by
   rw[X,hx1,show x.key.length+3+x.val.length=(x.key.length+x.val.length)+3 by omega];simp only[kaz];rw[show x.key.length+x.val.length=(x.key++x.val).length by simp,<-Zf,kab]
  have hkey:((J::O::R::(x.key++(x.val++bK (rows.drop (k+1))))).take (J.toNat+3)).drop 3=x.key:=by
   rw[X];simp only[kaA,kaz,Zp];rw[kaa]
  have hval:((J::O::R::(x.key++(x.val++bK (rows.drop (k+1))))).take (J.toNat+3+O.toNat)).drop (J.toNat+3)=x.val:=by
   rw[X,hx1,show x.key.length+3+x.val.length=(x.key.length+x.val.length)+3 by omega];simp only[kaA,kaz];rw[show x.key.length+x.val.length=(x.key++x.val).length by simp,<-Zf,kaa,kab]
  have hbld:∀w,(Instr.build 174 #[(0,aC (((J::O::R::(x.key++(x.val++bK (rows.drop (k+1))))).take (J.toNat+3)).drop 3)),(1,aC (((J::O::R::(x.key++(x.val++bK (rows.drop (k+1))))).take (J.toNat+3+O.toNat)).drop (J.toNat+3)))]).run Tryz.prog w= .ok (.agg (aV x).toArray) w:=λw=>by
   rw[hkey,hval,Tp x.key x.val w];obtain ⟨xk,xv,xg⟩:=x;simp only at S;subst S
   rfl
  refine ai (al (ac (ac ?_)));refine cV jR ?_;refine dM rR (dV rR (cW Vg) (dV rR aI (dM rR (aN rR (hw:=by exact Zt (by simp only[YF];omega)) aq (aN rR (hw:=by exact Zt (by simp only[YF];omega)) (cr (r:=J) 0 Vg (by rfl)) (aN rR (hw:=by exact Zt (by simp only[YF];omega)) (cP (r:=((J.toNat:Nat):Int)) Vq Vf (da (by omega))) (aN rR (hw:=by exact Zt (by simp only[YF];omega)) (bO (da (by omega))) (aN rR (hw:=by exact Zt (by simp only[YF];omega)) aq (aN rR (hw:=by exact Zt (by simp only[YF];omega)) (cr (r:=O) 1 Vg (by rfl)) (aN rR (hw:=by exact Zt (by simp only[YF];omega)) (cP (r:=((O.toNat:Nat):Int)) Vq Vf (da (by omega))) (aN rR (hw:=by exact Zt (by simp only[YF];omega)) (bO (da (by omega))) (aN rR (hw:=by exact Zt (by simp only[YF];omega)) aq (aN rR (hw:=by exact Zt (by simp only[YF];omega)) (cr (r:=R) 2 Vg (by rfl)) (aN rR (hw:=by exact Zt (by simp only[YF];omega)) (cP (r:=((R.toNat:Nat):Int)) Vq Vf (da (by omega))) (aN rR (hw:=by exact Zt (by simp only[YF];omega)) (j5 (da (by omega))) (aN rR (hw:=by exact Zt (by simp only[YF];omega)) (bO (da (by omega))) (aN rR (hw:=by exact Zt (by simp only[YF];omega)) aq (aN rR (hw:=by exact Zt (by simp only[YF];omega)) (cW Vg) (aN rR (hw:=by exact Zt (by simp only[YF];omega)) aT (dV rR cu ?_))))))))))))))))))));refine aP ?_;apply ah<;>intro h30
  ·exfalso;simp at h30;omega
  ·refine ai (gS (gM (gV (cr (r:=J) 0 Vg (by rfl)) (gV (cP (r:=((J.toNat:Nat):Int)) Vq Vf (da (by omega))) (gP (gQ (ac ?_)))))));refine cV jF ?_;refine dM rR (dM rR (dV rR (cr (r:=O) 1 Vg (by rfl)) (dV rR (cP (r:=((O.toNat:Nat):Int)) Vq Vf (da (by omega))) (dV rR (bO (da (by omega))) (dM rR (dV rR (cr (r:=R) 2 Vg (by rfl)) (dV rR (cP (r:=((R.toNat:Nat):Int)) Vq Vf (da (by omega))) (dV rR (j5 (da (by omega))) (dV rR (bO (da (by omega))) (dV rR aD ?_))))))))));refine aP ?_;refine ac ?_;refine cV jS ?_;refine dM rR (dM rR (dV rR (gc (l:=3) (h:=J.toNat+3) Vg (hm2:=by omega) (by omega) (hh:=by simp;omega)) (dM rR (dM rR (dM rR (dV rR (gc (l:=J.toNat+3) (h:=J.toNat+3+O.toNat) Vg (hm:=by omega) (hm2:=by omega) (by omega) (hh:=by simp;omega)) (dV rR (aR hbld) (d7 rR (aO #[aC [],aC [],Bo false] Vo) ?_))))))));rintro _ _ ⟨b7,rfl,rfl⟩;refine rc rR (ax (cs:=#[aC [],aC [],Bo false]) (vs:=aV x) (aV x).toArray Vd (by decide) (hcs:=by exact bk)) ?_;rintro _ _ rfl;refine aP ?_;refine ac (gS (gV (aU (vs:=aV x) Vz Vd bp) (gR (vA call178 (ke x)) ?_)));rw[hc0];refine gV (ck Vl) (ab ?_);apply ah<;>intro h55
   ·simp at h55
   ·refine ai (gS (gM (gV (aU (vs:=aV x) Vz Vd bp) (gI (av [aV x] Ve Vd Vo (by simp[aV])) ?_))));rintro _ _ ⟨b58,rfl,rfl⟩;refine bR (T:=174) (cap:=1) (some ⟨b58,0,none⟩) ?_;rw[show [aV x]=bx [x] from rfl];refine gI (uC call117 (oT (rows.take k) [x] sA (some ⟨b58,0,none⟩) cA 1 (EA hs k) (by rw[Y8];omega) (by simp))) ?_;rintro _ _ ⟨s59,c59,rfl,rfl⟩;rw[JS hs hx S];refine bR (T:=174) (cap:=c59) s59 ?_;refine gQ (am (gM (gM (gV (wU (l:=J.toNat+3+O.toNat) Vg (hm:=by omega) (by simp;omega)) (gQ (aG ?_))))));rw[show (J::O::R::(x.key++(x.val++bK (rows.drop (k+1))))).drop (J.toNat+3+O.toNat)=bK (rows.drop (k+1)) from V];exact ap (k+1,s59,c59) (by simp only[];omega) (by simp only[];omega) [0,4] rfl
 ·simp at Z;obtain rfl:k=rows.length:=by
   rcases YL k rows.length with h | h
   ·exfalso;obtain ⟨x,hx⟩:∃x,rows[k]? =some x:=⟨_,Zu h⟩;have:=A9 hx;rw[Z] at this;have h2:=xd (hok x (YW hx));have h3:=Yg List.length this;rw[Z1,kay] at h3;omega
   ·omega
  rw[Y3];refine aF ?_;refine gS (gM (gA (gQ ?_)));exact an (roL 3 sA (bx rows)::F) rfl ⟨sA,cA,rfl,rfl⟩
end Go.Proofs.YthdjckbjjfiopabGreatDoor
namespace Go.Proofs.YthdjckbjjfiopabGreatDoor
open Go.Sl Go.Proofs
def tw (D:DiskM):Prop:=(∀x∈D.kept,x.length=80)/\(∀x∈D.now,x.length=80)/\∀t∈D.wait,t.2.length=80
def Rx {L:List ak}{n:Nat}{s:ak}(h:∀x∈L,x.length=80)(hs:s.length=80):∀x∈L.set n s,x.length=80:=λx hx=>by
 grind
def tx {D:DiskM}(h:tw D):tw (du D):=⟨by rw[eb];exact h.1,by rw[fk];exact h.2.1,by rw[eY];exact h.2.2⟩
def Ry {N:Nat}{D:DiskM}{x:mG}(h:tw D)(ho:jv N x):tw (Gw D x):=by
 cases x with
 | none=>
  show tw (cJ D);unfold cJ;split
  ·have:=tx h;exact ⟨this.2.1,this.2.1,λt ht=>by cases ht⟩
  ·exact tx h
 | some y=>
  show tw (cG D y.1 y.2);unfold cG;split
  ·exact h
  ·split
   ·have:=tx h;refine ⟨this.1,Rx this.2.1 (yl ho.2),λt ht=>?_⟩;simp only[eu,Zn,kad] at ht;rcases ht with ht | rfl
    ·exact this.2.2 t ht
    ·exact yl ho.2
   ·exact tx h
def oV {N:Nat}:∀(l:List mG) (D:DiskM),tw D->(∀x∈l,jv N x)->tw (cv D l).2
 | [],D,h,_=>h
 | x::l,D,h,ho=>by
  have h1:=Ry h (ho x (Z2 ..));by_cases h0:Gv D x=0
  ·rw[lm h0];exact oV l _ h1 (λy hy=>ho y (kac _ hy))
  grind[kY]
def HI {from_ many first used N:Nat}{c:List ChangeM}{D:DiskM}(h:tw D)(J:from_+many<=N):tw (iL from_ many first used c D):=by
 unfold iL;split
 ·rename_i hv;exact oV _ _ h (w9 J hv)
 ·exact h
def EC (side:Nat)(t:ak):∀(f k:Nat),mJ side t k (f+1)=mJ side t k f++ [some (2+side*60+(k+f),dZ t (k+f))]
 | 0,k=>rfl
 | f+1,k=>by
  rw[mJ,EC side t f (k+1),mJ,Zh,show k+1+f=k+(f+1) by omega]
def HJ (side:Nat)(t:ak):∀(f g k:Nat),mJ side t k (f+g)=mJ side t k f++mJ side t (k+f) g
 | 0,g,k=>by rw[YR];rfl
 | f+1,g,k=>by
  rw[show f+1+g=(f+g)+1 by omega,mJ,HJ side t f g (k+1),mJ,Zh,show k+1+f=k+(f+1) by omega]
theorem lK {t:ak}{k:Nat}:(dZ t k).length=Nat.min 80 (t.length - 80*k):=by grind[dZ]
def chunks_lt {t:ak}{k:Nat}:k<ci t ↔ 80*k<t.length:=by unfold ci;omega
def LD {side N:Nat}{t:ak}(J:2+side*60+ci t<=N):∀(f k:Nat),k+f<=ci t->∀x∈mJ side t k f,jv N x
 | 0,k,_,x,h=>by simp[mJ] at h
 | f+1,k,hk,x,h=>by
  rw[mJ] at h;rcases Y5.1 h with rfl | h
  ·exact ⟨by simp only;omega,A7 t k⟩
  ·exact LD J f (k+1) (by omega) x h
def LF {h:HdM}{t:ak}{N:Nat}(J:2+h.side*60+ci t<=N):∀x∈wk h t,jv N x:=by
 intro x hx;unfold wk at hx;simp only[Zn,Y5,kaf,or_false] at hx;rcases hx with hx | rfl | rfl | rfl
 ·exact LD J _ 0 (by omega) x hx
 ·trivial
 ·exact ⟨by simp only;omega,by rw[u7];decide⟩
 ·trivial
def kg {l:List mG}{x:mG}{D D1:DiskM}(h:cv D l=(0,D1)):cv D (l++ [x])=(Gv D1 x,Gw D1 x):=by
 grind[oL,lm,qO,kY]
theorem kh {l r:List mG}{D D1:DiskM}{e:Int}(h:cv D l=(e,D1))(he:e≠0):cv D (l++r)=(e,D1):=by
 grind[oL]
def LG {l r:List mG}{D D1:DiskM}(h:cv D l=(0,D1)):cv D (l++r)=cv D1 r:=by rw[oL,h];rfl
def QA:∀(l:List mG) (D:DiskM),(∀x∈l,jv D.now.length x)->(cv D l).1=0\/(cv D l).1=9
 | [],D,_=> .inl rfl
 | x::l,D,h=>by
  have hx:=h x (Z2 ..);have J:Gv D x=0\/Gv D x=9:=by
   cases x with
   | none=>exact go D
   | some y=>
    show dt D y.1 y.2=0\/dt D y.1 y.2=9;unfold dt;rw[YC (by unfold nK;have h1:=hx.1;have O:=hx.2;omega)];exact go D
  rcases J with h0 | h0
  ·rw[lm h0];refine QA l _ λy hy=>?_;have:=h y (kac _ hy);have hl:(Gw D x).now.length=D.now.length:=by
    cases x with
    | none=>
     show (cJ D).now.length=_
     grind[cJ,iy,fk]
    | some z=>
     show (cG D z.1 z.2).now.length=_
     grind[cG,eu,fk]
   rw[hl];exact this
  grind[kY]
def uL:Nat->List mG
 | 0=>[some (0,[])]
 | k+1=>uL k++ [some (122+k,[])]
def hd1:HdM:=⟨1,0,0,1⟩
def Us:List mG:=[none,some (1,dq hd1),none]
def Ba (N:Nat):List mG:=uL (N - 122)++Us
def HK:∀(g k:Nat),∃r,uL (k+g)=uL k++r
 | 0,k=>⟨[],by simp⟩
 | g+1,k=>by
  obtain ⟨r,hr⟩:=HK g k
  grind[uL]
def LH {k m:Nat}{D X:DiskM}{e:Int}(h:cv D (uL k)=(e,X))(he:k=m\/e≠0)(hk:k<=m):cv D (uL m)=(e,X):=by
 rcases he with rfl | he
 ·exact h
 ·obtain ⟨r,hr⟩:=HK (m - k) k
  grind[kh]
theorem tz:∀k,(uL k).length=k+1
 | 0=>rfl
 | k+1=>by rw[uL,Z1,tz k];rfl
def U7 (D:DiskM)(h:HdM)(rows:List ChangeM)(many used:Nat)(e:Int)(D1:DiskM)(h1:HdM)(used1:Nat):Prop:=
 cv D (wk (eE h rows many) (bK rows))=(e,D1)/\((e≠0/\h1=h/\used1=used)\/(e=0/\h1=eE h rows many/\used1<=many/\∃ds,dh (h.first+many) (oR D1 122) many 0 [] [] 0=(ds,used1)))
def Rz (D:DiskM)(h:HdM)(rows:List ChangeM)(many used:Nat)(c:List ChangeM)(e:Int)(D1:DiskM)(h1:HdM)(used1:Nat):Prop:=
 (many - used<c.length+1/\U7 D h rows many used e D1 h1 used1)\/(¬many - used<c.length+1/\e=0/\D1=D/\h1=h/\used1=used)
def ED (D:DiskM)(h:HdM)(rows:List ChangeM)(many used:Nat)(c:List ChangeM)(e:Int)(D2:DiskM)(h2:HdM)(used2:Nat)(rows2:List ChangeM):Prop:=
 (xf many rows c≠0/\e=xf many rows c/\D2=D/\h2=h/\used2=used/\rows2=rows)\/
 (xf many rows c=0/\∃e1 D1 h1 used1,Rz D h rows many used c e1 D1 h1 used1/\((e1≠0/\e=e1/\D2=D1/\h2=h1/\used2=used1/\rows2=rows)\/
  (e1=0/\e=oN 122 many h1.first used1 c D1/\D2=iL 122 many h1.first used1 c D1/\h2=h1/\used2=mI 122 many h1.first used1 c D1/\rows2=if e=0 then cU rows c else rows)))
theorem HL (h:HdM)(t:ak):(wk h t).length=ci t+3:=by simp[wk,xe]
theorem kI {rows:List ChangeM}(hl:rows.length<=80)(hr:∀r∈rows,Cq r):ci (bK rows)<=60:=by
 grind[mj,ci]
def EE {h:HdM}{rows:List ChangeM}{N:Nat}(hl:rows.length<=80)(hr:∀r∈rows,Cq r)(J:196<=N):∀x∈wk (eE h rows (N - 122)) (bK rows),jv N x:=by
 have:=kI hl hr;exact LF (by show 2+(1 - h.side)*60+ci (bK rows)<=N;omega)
def GF {D:DiskM}{h:HdM}{rows:List ChangeM}{N used i:Nat}{c:List ChangeM}{e:Int}{D1:DiskM}{h1:HdM}{J:Nat}(hm:Rz D h rows (N - 122) used c e D1 h1 J)(hok:nO N i D)(X:tw D)(hl:rows.length<=80)(hr:∀r∈rows,Cq r)(V:196<=N)(Z:used<=N - 122):
  nO N (i+63) D1/\tw D1/\J<=N - 122/\h1.first<=h.first+N/\h1.ep<=h.ep+1/\(h.side<=1->h1.side<=1)/\h.first<=h1.first:=by
 rcases hm with ⟨_,O,Y⟩ | ⟨_,_,rfl,rfl,rfl⟩
 ·have R:=iK (wk (eE h rows (N - 122)) (bK rows)) i D hok;rw[O,HL] at R;have S:=oV _ D X (EE (h:=h) hl hr V)
  grind[kI,jm,eE]
 grind[jm]
open _root_.Go.Proofs.Tryz
open Go Go.Sl Go.Proofs
abbrev Ut (b:Nat)(t:ak)(k:Nat):Value:=sl (some ⟨b,80*k,none⟩) (dZ t k).length (dZ t k).length
def OX (b2 b3 b cap:Nat)(t:ak):List ag:=[pt b2 (.cells #[sl (some ⟨b,0,none⟩) t.length cap] 268 (0,0)),pt b3 (.cells #[I 80] 3 (0,0)),roL 1 (some ⟨b,0,none⟩) (aA t)]
def JT {t:ak}{k:Nat}:(if (((t.length - 80*k:Nat):Nat):Int)<80 then ((t.length - 80*k:Nat):Int) else 80)=(((dZ t k).length:Nat):Int):=by
 grind[lK]
def RA {t:ak}{k b:Nat}(hk:80*k<t.length):sl (if 80*k+(dZ t k).length=80*k then (some ⟨b,0,none⟩:Option Addr) else (some ⟨b,0,none⟩:Option Addr).map (·.add (80*k*1))) (80*k+(dZ t k).length - 80*k) (80*k+(dZ t k).length - 80*k)=Ut b t k:=by
 grind[lK,ga]
def LI (s:Option Addr)(n cap:Nat)(F:List ag):Ct Tryz.prog 201 [sl s n cap,I 80] (F) (λv L'=>∃J O,v= .func (.func 252) #[] #[ptr J 0,ptr O 0]/\L'=pt J (.cells #[sl s n cap] 268 (0,0))::pt O (.cells #[I 80] 3 (0,0))::F):=by
 refine Ct.of func201 rR 9 ntmps201 (by simp) λw0=>?_;refine gS (gI (di #[sl s n cap]) ?_);rintro _ _ ⟨J,rfl,rfl⟩;refine gI (di #[I 80]) ?_;rintro _ _ ⟨O,rfl,rfl⟩;refine gQ (ac (gS (gL (I 80) Vc (gV aI (ab ?_)))));apply ah<;>intro R
 ·simp at R
 ·refine ai (gS (gV fK (gQ ?_)));exact an (pt J (.cells #[sl s n cap] 268 (0,0))::pt O (.cells #[I 80] 3 (0,0))::F) rfl ⟨J,O,rfl,rfl⟩
def JU (J O b cap l:Nat)(t:ak)(w0:World)(A:Nat->List ag)(B:List ag)(Y:t.length<=cap)(hlen:t.length<=1000000)
  (hr:∀k,k<ci t->Cf Tryz.prog l (Ut b t k) w0 (OX J O b cap t++A k) (OX J O b cap t++A (k+1)) (OX J O b cap t++B)):
  ∀w,Sat w0 w (OX J O b cap t++A 0)->Calls Tryz.prog 252 (.func (.yield l) #[] #[]:: [ptr J 0,ptr O 0]).toArray w λe w'=>match e with
   | .returned _=>Sat w0 w' (OX J O b cap t++A (ci t))\/Sat w0 w' (OX J O b cap t++B)
   | _=>False:=λw hw=>by
 refine Calls.mono (Ln func252 rR 31 ntmps252 (by simp) (L:=pt J (.cells #[sl (some ⟨b,0,none⟩) t.length cap] 268 (0,0))::pt O (.cells #[I 80] 3 (0,0))::roL 1 (some ⟨b,0,none⟩) (aA t)::A 0) (R:=λv L'=>L'=OX J O b cap t++A (ci t)\/L'=OX J O b cap t++B) ?_ w hw) λe w' he=>?_;rotate_left
 ·cases e with
  | returned v=>
    obtain ⟨L',h1,V | V⟩:=he <;> subst V
    ·exact .inl h1
    ·exact .inr h1
  | panicked ch=>exact he
  | outgrown=>exact he
 refine gS (gQ (al ?_));refine aM (α:=Nat) (λk=>k<=ci t) (λk=>U [(0, .func (.yield l) #[] #[]),(1,ptr J 0),(2,ptr O 0),(4,I ((80*k:Nat):Int))]) (λk=>pt J (.cells #[sl (some ⟨b,0,none⟩) t.length cap] 268 (0,0))::pt O (.cells #[I 80] 3 (0,0))::roL 1 (some ⟨b,0,none⟩) (aA t)::A k) (λk=>ci t - k) 0 (kaB _) [0,1,2,4] rfl ?_;intro k hk;refine ac (gS (gM (gL (sl (some ⟨b,0,none⟩) t.length cap) Xz (gV (aX Vs) (gV aI (ab ?_))))));apply ah<;>intro X
 ·simp at X;have S:80*k<t.length:=(by omega);have hcl:=lK (t:=t) (k:=k);have Z:(dZ t k).length<=80/\80*k+(dZ t k).length<=t.length:=by
   have h1:Nat.min 80 (t.length - 80*k)<=80:=Nat.min_le_left ..;have V:Nat.min 80 (t.length - 80*k)<=t.length - 80*k:=Zo ..;omega
  refine ai (ac (al (ac ?_)));refine cV jN ?_;refine dL rR (I 80) Vc (dL rR (sl (some ⟨b,0,none⟩) t.length cap) Xz (dM rR (dV rR (iU (l:=80*k) Vs VP rR rR rR (by omega)) (dV rR (aX Vs) (dV rR (KV rR rR) (dV rR aD ?_))))));refine aP ?_;rw[JT];refine ac ?_;refine Rj ?_;refine KD aq ?_;refine KD (az (v:=sl (some ⟨b,0,none⟩) t.length cap) Xz) ?_;refine KD aq ?_;refine KD aq ?_;refine KD aq ?_;refine KD (bO (r:=((80*k+(dZ t k).length:Nat):Int)) (by rw[show ((80*k:Nat):Int)+(((dZ t k).length:Nat):Int)=((80*k+(dZ t k).length:Nat):Int) by omega];exact da (by omega))) ?_;refine KD aq ?_;refine KD aq ?_;refine KD (bO (r:=((80*k+(dZ t k).length:Nat):Int)) (by rw[show ((80*k:Nat):Int)+(((dZ t k).length:Nat):Int)=((80*k+(dZ t k).length:Nat):Int) by omega];exact da (by omega))) ?_;refine KD (La (l:=80*k) (h:=80*k+(dZ t k).length) (q:=80*k+(dZ t k).length) Vs VP rR rR rR rR rR rR rR (by omega) (by omega) (by omega)) ?_;rw[RA S];refine OL (l:=l) (v:=Ut b t k) rR rR (hr k (chunks_lt.2 S)) rR ?_ ?_;rotate_left
  ·refine KD cE ?_;refine Qx ?_;refine eH ?_;exact an (OX J O b cap t++B) rfl (.inr rfl)
  show G _ _ _ (pt J (.cells #[sl (some ⟨b,0,none⟩) t.length cap] 268 (0,0))::pt O (.cells #[I 80] 3 (0,0))::roL 1 (some ⟨b,0,none⟩) (aA t)::A (k+1));refine KD cE ?_;refine Qx ?_;refine dW ?_;refine ai (aG (am (gM (gL (I 80) Vc (gV (bO (r:=((80*(k+1):Nat):Int)) (by rw[show ((80*k:Nat):Int)+80=((80*(k+1):Nat):Int) by omega];exact da (by omega))) (gQ ?_))))));exact ap (k+1) (chunks_lt.2 S) (by have:=chunks_lt.2 S;omega) [0,1,2,4] rfl
 ·simp at X;obtain rfl:k=ci t:=by
   rcases YL k (ci t) with h | h
   ·have:=chunks_lt.1 h;omega
   ·omega
  refine aF ?_;exact S6 (vs:=[]) rfl (.inl rfl)
def Ak (T TT b:Nat)(φ:DiskM->Prop):ag:=λm=>∃D,φ D/\cf T TT b D m
section
variable {c:Cx}{E:dr}{L F:List ag}{K:List KI}{T TT b l:Nat}{Q:fu}{φ:DiskM->Prop}
def Bb {w0 w:World}(h:Sat w0 w (Ak T TT b φ::F)):∃D,φ D/\Sat w0 w (cf T TT b D::F):=by
 have h1:Sat w0 w (QV (λD=>DR (kz (φ D)) (cf T TT b D))::F):=h.weak λm ⟨D,h1,J⟩=>⟨D,λ_=>none,m,(λ_ _ _ h=>nomatch h),(λ_ _ h=>nomatch h),Res.sub.refl m,h1,J⟩;obtain ⟨D,J⟩:=h1.ex;exact ⟨D,J.star.pure_.1,J.star.pure_.2⟩
def RB [R:Rem L (Ak T TT b φ) F](h:∀D,φ D->H c l Q K E (cf T TT b D::F)):H c l Q K E L:=λa w O S=>by
 obtain ⟨D,h1,J⟩:=Bb (R.sat S);exact h D h1 a w O J
def RC [R:Rem L (Ak T TT b φ) F](h:∀D,φ D->G c K E (cf T TT b D::F)):G c K E L:=λa w O S=>by
 obtain ⟨D,h1,J⟩:=Bb (R.sat S);exact h D h1 a w O J
def OY (D:DiskM)(J:φ D)[R:Rem L (cf T TT b D) F](h:H c l Q K E (Ak T TT b φ::F)):H c l Q K E L:=λa w O S=>h a w O ((R.sat S).weak λm hm=>⟨D,J,hm⟩)
def OZ (D:DiskM)(J:φ D)[R:Rem L (cf T TT b D) F](h:G c K E (Ak T TT b φ::F)):G c K E L:=λa w O S=>h a w O ((R.sat S).weak λm hm=>⟨D,J,hm⟩)
end
def yC (h:HdM):(cK h).length=4:=rfl
def HM (e:Int):one (bM e)=true:=by unfold bM fv;split <;> rfl
def ly (bs J:Nat)(h:HdM)(bl:Nat)(s:Option Addr)(cap:Nat)(rows:List ChangeM)(N i used:Nat)(D:DiskM)(hok:nO N i D)(hi:i<=100000)(hS:tw D)(hN0:196<=N/\N<=260)(hh:h.ep<=1000000/\h.side<=1/\1<=h.first/\h.first<=1000000000)(hl:rows.length<=80)(hrw:∀r∈rows,Cq r)(F:List ag):Ct Tryz.prog 126 [ptr bs 0] (pt bs (.cells (lg J h bl s (rows.length) cap) 198 (0,0))::pt bl (.cells (ge J 122 (N - 122) h.first (used)) 273 (0,0))::cf 179 319 J (D)::roL 3 s (bx rows)::F) (λv L'=>∃e D1,cv D (wk (eE h rows (N - 122)) (bK rows))=(e,D1)/\((e≠0/\v=bM e/\L'=pt bs (.cells (lg J h bl s (rows.length) cap) 198 (0,0))::pt bl (.cells (ge J 122 (N - 122) h.first (used)) 273 (0,0))::cf 179 319 J (D1)::roL 3 s (bx rows)::F)\/(e=0/\∃bl' ds V,V<=N - 122/\dh (h.first+(N - 122)) (oR D1 122) (N - 122) 0 [] [] 0=(ds,V)/\v=bM 0/\L'=pt bs (.cells (lg J (eE h rows (N - 122)) bl' s (rows.length) cap) 198 (0,0))::pt bl' (.cells (ge J 122 (N - 122) (h.first+(N - 122)) (V)) 273 (0,0))::cf 179 319 J (D1)::roL 3 s (bx rows)::F))):=by
 refine Ct.of func126 rR 113 ntmps126 (by simp) λw0=>?_;have hal:=mj hrw;have hcs:ci (bK rows)<=60:=(by unfold ci;omega);have hckl:∀x∈wk (eE h rows (N - 122)) (bK rows),jv N x:=LF (by show 2+(1 - h.side)*60+ci (bK rows)<=N;omega);refine gS (gI (di #[ptr bs 0]) ?_);rintro _ _ ⟨b1,rfl,rfl⟩;refine gI (pQ (.nilIface) zeroValue37) ?_;rintro _ _ ⟨b2,rfl,rfl⟩;refine ab (gS (gL (ptr bs 0) WH (gV aa (gF 6 VX rR Wl (gL (sl s rows.length cap) WP (gR (vB call199 (Cs rows s cap (by omega) hrw)) (gQ (ac ?_))))))));refine ls (λ_:Nat=>True) (λY=>U [(1,ptr b1 0),(2,ptr b2 0),(3,aC (bK rows)),(4,ptr Y 0)]) (λY=>pt Y (.cells (cK (eE h rows (N - 122))).toArray 195 (0,0))::pt b2 (.cells #[.nilIface] 37 (0,0))::pt b1 (.cells #[ptr bs 0] 95 (0,0))::pt bs (.cells (lg J h bl s (rows.length) cap) 198 (0,0))::pt bl (.cells (ge J 122 (N - 122) h.first (used)) 273 (0,0))::cf 179 319 J (D)::roL 3 s (bx rows)::F) ?_ ?_
 ·refine qI (Lf:=[pt b1 (.cells #[ptr bs 0] 95 (0,0)),pt bs (.cells (lg J h bl s (rows.length) cap) 198 (0,0))]) (.q 0 (.q 1 (.q 2 (.q 3 (.q 4 (.q 5 (.q 6 (.q 7 (.q 8 (.q 9 (.q 10 (.q 11 (.q 12 (.q 13 (.q 14 (.q 15 (.q 16 (.q 17 (.alt (.l 18 (.q 19 (.l 20 (.l 21 (.nil))))) (.l 20 (.l 18 (.q 19 (.l 21 (.nil)))))))))))))))))))))))) ?_;refine eA rR (az (v:=ptr bs 0) WH) ?_;refine eA rR aa ?_;refine eA rR (aw 1 VX rR Vu) ?_;refine eA rR (aw 0 VS rR Vb) ?_;refine eA rR (az (v:=I h.ep) Vc) ?_;refine eA rfl (bO (r:=((h.ep+1:Nat):Int)) (by rw[show (h.ep:Int)+(1:Int)=((h.ep+1:Nat):Int) by omega];exact da (by omega))) ?_;refine eA rR (az (v:=ptr bs 0) WH) ?_;refine eA rR aa ?_;refine eA rR (aw 1 VX rR Vu) ?_;refine eA rR (aw 1 VS rR Vb) ?_;refine eA rR (az (v:=I h.side) Vc) ?_;refine eA rfl (fe (r:=((1 - h.side:Nat):Int)) (by rw[show (1:Int) - (h.side:Int)=((1 - h.side:Nat):Int) by omega];exact da (by omega))) ?_;refine eA rR aq ?_;refine eA rR (cW Vg) ?_;refine eA rR (az (v:=ptr bs 0) WH) ?_;refine eA rR aa ?_;refine eA rR (aw 5 VX rR Xd) ?_;refine eA rR (az (v:=ptr bl 0) WU) ?_;refine nI ?_ ?_
  ·refine lu rfl (uB call200 (wh bl J 122 (N - 122) h.first used ⟨by omega,by omega⟩)) ?_;rintro _ _ ⟨rfl,rfl⟩;refine eA rR (aR (eM _ rR _ rR _ rR _ rR)) ?_;refine lu rR (aO #[I 0,I 0,I 0,I 0] WY) ?_;rintro _ _ ⟨Y,rfl,rfl⟩;refine Gk rR (ax (cs:=#[I 0,I 0,I 0,I 0]) (vs:=cK (eE h rows (N - 122))) (cK (eE h rows (N - 122))).toArray Vu (by decide) (hcs:=by exact bk (h:=yC _))) ?_;rintro _ _ rfl;refine kc ?_;exact cF Y trivial [1,2,3,4] rfl
  ·refine lu rR (aO #[I 0,I 0,I 0,I 0] WY) ?_;rintro _ _ ⟨Y,rfl,rfl⟩;refine lu rfl (uB call200 (wh bl J 122 (N - 122) h.first used ⟨by omega,by omega⟩)) ?_;rintro _ _ ⟨rfl,rfl⟩;refine eA rR (aR (eM _ rR _ rR _ rR _ rR)) ?_;refine Gk rR (ax (cs:=#[I 0,I 0,I 0,I 0]) (vs:=cK (eE h rows (N - 122))) (cK (eE h rows (N - 122))).toArray Vu (by decide) (hcs:=by exact bk (h:=yC _))) ?_;rintro _ _ rfl;refine kc ?_;exact cF Y trivial [1,2,3,4] rfl
 intro Y _;refine gS (gI (pQ (I 0) VL) ?_);rintro _ _ ⟨b5,rfl,rfl⟩;refine gU (aK #[I ((0:Nat):Int)] Vb (by decide)) (ab (ac (gS (gM (gI (Gl Vg Vs Vq rR) ?_)))));rintro _ _ ⟨S,c37,rfl,hc37,rfl⟩;refine gI (uA call201 (LI (some ⟨S,0,none⟩) (bK rows).length c37)) ?_;rintro _ _ ⟨Z,d38,rfl,rfl⟩;refine ab (al ?_);obtain ⟨eN,DN,hN⟩:∃e X,cv D (mJ (1 - h.side) (bK rows) 0 ((ci (bK rows))))=(e,X):=⟨_,_,rfl⟩;refine OZ (T:=179) (TT:=319) (b:=J) (φ:=λX=>cv D (mJ (1 - h.side) (bK rows) 0 (0))=(0,X)) D rR ?_;refine iR (L2:=pt Z (.cells #[sl (some ⟨S,0,none⟩) (bK rows).length c37] 268 (0,0))::pt d38 (.cells #[I 80] 3 (0,0))::roL 1 (some ⟨S,0,none⟩) (aA (bK rows))::Ak 179 319 J (λX=>cv D (mJ (1 - h.side) (bK rows) 0 (0))=(0,X))::pt b5 (.cells #[I ((0:Nat):Int)] 3 (0,0))::pt b2 (.cells #[.nilIface] 37 (0,0))::pt b1 (.cells #[ptr bs 0] 95 (0,0))::pt Y (.cells (cK (eE h rows (N - 122))).toArray 195 (0,0))::pt bs (.cells (lg J h bl s (rows.length) cap) 198 (0,0))::pt bl (.cells (ge J 122 (N - 122) h.first (used)) 273 (0,0))::roL 3 s (bx rows)::F) ?_;refine Eh (Pre:=[pt Z (.cells #[sl (some ⟨S,0,none⟩) (bK rows).length c37] 268 (0,0)),pt d38 (.cells #[I 80] 3 (0,0)),roL 1 (some ⟨S,0,none⟩) (aA (bK rows))]) (A:=λk=>Ak 179 319 J (λX=>cv D (mJ (1 - h.side) (bK rows) 0 (k))=(0,X))::pt b5 (.cells #[I ((k:Nat):Int)] 3 (0,0))::pt b2 (.cells #[.nilIface] 37 (0,0))::pt b1 (.cells #[ptr bs 0] 95 (0,0))::pt Y (.cells (cK (eE h rows (N - 122))).toArray 195 (0,0))::pt bs (.cells (lg J h bl s (rows.length) cap) 198 (0,0))::pt bl (.cells (ge J 122 (N - 122) h.first (used)) 273 (0,0))::roL 3 s (bx rows)::F) (B:=kz (eN≠0)::cf 179 319 J (DN)::pt b2 (.cells #[bM eN] 37 (0,0))::pt b1 (.cells #[ptr bs 0] 95 (0,0))::pt Y (.cells (cK (eE h rows (N - 122))).toArray 195 (0,0))::pt bs (.cells (lg J h bl s (rows.length) cap) 198 (0,0))::pt bl (.cells (ge J 122 (N - 122) h.first (used)) 273 (0,0))::roL 3 s (bx rows)::F) (N:=(ci (bK rows))) (v:=Ut S (bK rows)) (cap:=[ptr Z 0,ptr d38 0]) rfl rfl rfl call252 (λl A' B' hr w hw=>JU Z d38 S c37 l (bK rows) _ A' B' hc37 (by omega) hr w hw) rfl (λl k a w hE=>Uz hE rfl) ?_ ?_ ?_
 ·intro l D' O k hk;show H _ _ (HA _ (pt Z (.cells #[sl (some ⟨S,0,none⟩) (bK rows).length c37] 268 (0,0))::pt d38 (.cells #[I 80] 3 (0,0))::roL 1 (some ⟨S,0,none⟩) (aA (bK rows))::pt l O::pt D' dO::Ak 179 319 J (λX=>cv D (mJ (1 - h.side) (bK rows) 0 ((k+1)))=(0,X))::pt b5 (.cells #[I (((k+1):Nat):Int)] 3 (0,0))::pt b2 (.cells #[.nilIface] 37 (0,0))::pt b1 (.cells #[ptr bs 0] 95 (0,0))::pt Y (.cells (cK (eE h rows (N - 122))).toArray 195 (0,0))::pt bs (.cells (lg J h bl s (rows.length) cap) 198 (0,0))::pt bl (.cells (ge J 122 (N - 122) h.first (used)) 273 (0,0))::roL 3 s (bx rows)::F) (pt Z (.cells #[sl (some ⟨S,0,none⟩) (bK rows).length c37] 268 (0,0))::pt d38 (.cells #[I 80] 3 (0,0))::roL 1 (some ⟨S,0,none⟩) (aA (bK rows))::pt l O::pt D' dO::kz (eN≠0)::cf 179 319 J (DN)::pt b2 (.cells #[bM eN] 37 (0,0))::pt b1 (.cells #[ptr bs 0] 95 (0,0))::pt Y (.cells (cK (eE h rows (N - 122))).toArray 195 (0,0))::pt bs (.cells (lg J h bl s (rows.length) cap) 198 (0,0))::pt bl (.cells (ge J 122 (N - 122) h.first (used)) 273 (0,0))::roL 3 s (bx rows)::F)) _ _ (pt Z (.cells #[sl (some ⟨S,0,none⟩) (bK rows).length c37] 268 (0,0))::pt d38 (.cells #[I 80] 3 (0,0))::roL 1 (some ⟨S,0,none⟩) (aA (bK rows))::pt l O::pt D' dO::Ak 179 319 J (λX=>cv D (mJ (1 - h.side) (bK rows) 0 (k))=(0,X))::pt b5 (.cells #[I ((k:Nat):Int)] 3 (0,0))::pt b2 (.cells #[.nilIface] 37 (0,0))::pt b1 (.cells #[ptr bs 0] 95 (0,0))::pt Y (.cells (cK (eE h rows (N - 122))).toArray 195 (0,0))::pt bs (.cells (lg J h bl s (rows.length) cap) 198 (0,0))::pt bl (.cells (ge J 122 (N - 122) h.first (used)) 273 (0,0))::roL 3 s (bx rows)::F);refine RB (T:=179) (TT:=319) (b:=J) (φ:=λX=>cv D (mJ (1 - h.side) (bK rows) 0 (k))=(0,X)) ?_;intro Dk hDk;have hokk:=iK (mJ (1 - h.side) (bK rows) 0 (k)) i D hok;rw[hDk,xe] at hokk;simp only at hokk;have hckl1:=A7 (bK rows) k;refine Ri (m:=80*k) (n:=80) (t:=(bK rows)) (b:=S) ?_;rw[show (List.drop (80*k) (bK rows)).take 80=dZ (bK rows) k from rfl];refine OJ ?_;refine Hz ?_;refine Rh (Lf:=[pt b1 (.cells #[ptr bs 0] 95 (0,0)),pt Y (.cells (cK (eE h rows (N - 122))).toArray 195 (0,0)),pt b5 (.cells #[I ((k:Nat):Int)] 3 (0,0)),pt bs (.cells (lg J h bl s (rows.length) cap) 198 (0,0)),roL 1 (some ⟨S,80*k,none⟩) (aA (dZ (bK rows) k))]) [(0,false),(1,false),(2,false),(3,false),(4,false),(5,false),(6,false),(7,false),(8,false),(9,false),(10,false),(11,false),(12,true),(13,false)] (α:=Unit) (λ_=>True) (λ_=>U [(2,ptr b2 0),(5,ptr b5 0),(7,bM (dt Dk ((2+(1 - h.side)*60+k:Nat):Int) (dZ (bK rows) k)))]) (λ_=>pt Z (.cells #[sl (some ⟨S,0,none⟩) (bK rows).length c37] 268 (0,0))::pt d38 (.cells #[I 80] 3 (0,0))::roL 1 (some ⟨S,0,none⟩) (aA (bK rows))::pt l O::pt D' dO::cf 179 319 J ((cG Dk ((2+(1 - h.side)*60+k:Nat):Int) (dZ (bK rows) k)))::pt b5 (.cells #[I ((k:Nat):Int)] 3 (0,0))::pt b2 (.cells #[.nilIface] 37 (0,0))::pt b1 (.cells #[ptr bs 0] 95 (0,0))::pt Y (.cells (cK (eE h rows (N - 122))).toArray 195 (0,0))::pt bs (.cells (lg J h bl s (rows.length) cap) 198 (0,0))::pt bl (.cells (ge J 122 (N - 122) h.first (used)) 273 (0,0))::roL 3 s (bx rows)::F) (by kernel_rfl) (by kernel_rfl) rfl (by kernel_rfl) (by kernel_rfl) ?_ ?_
  ·refine dL rfl (ptr bs 0) WH (dV rfl aa (dF rfl 0 VX rfl WG (dL rfl (ptr J 0) WO (dF rfl 1 VS rfl Vb (dL rfl (I (((1 - h.side):Nat):Int)) Vc (dV rfl (j5 (r:=(((1 - h.side)*60:Nat):Int)) (by rw[show ((((1 - h.side):Nat):Int):Int)*(60:Int)=(((1 - h.side)*60:Nat):Int) by omega];exact da (by omega))) (dV rfl (bO (r:=((2+(1 - h.side)*60:Nat):Int)) (by rw[show (2:Int)+((((1 - h.side)*60:Nat):Int):Int)=((2+(1 - h.side)*60:Nat):Int) by omega];exact da (by omega))) (dL rfl (I (k:Int)) Vc (dV rfl (bO (r:=((2+(1 - h.side)*60+k:Nat):Int)) (by rw[show (((2+(1 - h.side)*60:Nat):Int):Int)+(k:Int)=((2+(1 - h.side)*60+k:Nat):Int) by omega];exact da (by omega))) (dM rfl (dV rfl (cg (l:=dZ (bK rows) k) Vs Vq Vg rfl) (d7 rfl (uB call175 (ff J Dk ((2+(1 - h.side)*60+k:Nat):Int) (dZ (bK rows) k) hokk.2.2.1 (by have:=hokk.2.2.2.2;omega))) ?_))))))))))));rintro _ _ ⟨rfl,rfl⟩;refine dV rR aD ?_;refine aP ?_;exact cF () trivial [2,5,7] rfl
  intro _ _;obtain ⟨e1,he1⟩:∃e,dt Dk ((2+(1 - h.side)*60+k:Nat):Int) (dZ (bK rows) k)=e:=⟨_,rfl⟩;obtain ⟨D1,hD1⟩:∃X,cG Dk ((2+(1 - h.side)*60+k:Nat):Int) (dZ (bK rows) k)=X:=⟨_,rfl⟩;rw[he1,hD1];have hsn:cv D (mJ (1 - h.side) (bK rows) 0 (k+1))=(e1,D1):=by
   rw[EC,YR,kg hDk,<-he1,<-hD1]
   rfl
  refine Hz ?_;refine Hz ?_;refine Lm (α:=Unit) (λ_=>True) (λ_=>U [(2,ptr b2 0),(5,ptr b5 0),(7,bM e1),(54,Bo (!decide (e1=0)))]) (λ_=>pt Z (.cells #[sl (some ⟨S,0,none⟩) (bK rows).length c37] 268 (0,0))::pt d38 (.cells #[I 80] 3 (0,0))::roL 1 (some ⟨S,0,none⟩) (aA (bK rows))::pt l O::pt D' dO::cf 179 319 J (D1)::pt b5 (.cells #[I ((k:Nat):Int)] 3 (0,0))::pt b2 (.cells #[.nilIface] 37 (0,0))::pt b1 (.cells #[ptr bs 0] 95 (0,0))::pt Y (.cells (cK (eE h rows (N - 122))).toArray 195 (0,0))::pt bs (.cells (lg J h bl s (rows.length) cap) 198 (0,0))::pt bl (.cells (ge J 122 (N - 122) h.first (used)) 273 (0,0))::roL 3 s (bx rows)::F) (by kernel_rfl) ?_ ?_
  ·refine gM (gV (ck Vl) (ab ?_));exact cF () trivial [2,5,7,54] rfl
  intro _ _;refine Rg rR (λh54=>?_) (λh54=>?_)
  ·have h54':e1≠0:=(by simpa using h54);have hNe:cv D (mJ (1 - h.side) (bK rows) 0 ((ci (bK rows))))=(e1,D1):=by
    rw[show ci (bK rows)=(k+1)+(ci (bK rows) - (k+1)) by omega,HJ];exact kh hsn h54'
   rw[hN] at hNe;injection hNe with hq1 hq2;obtain rfl:eN=e1:=hq1;obtain rfl:DN=D1:=hq2;refine Hz ?_;refine Lm (α:=Unit) (λ_=>True) (λ_=>U []) (λ_=>pt Z (.cells #[sl (some ⟨S,0,none⟩) (bK rows).length c37] 268 (0,0))::pt d38 (.cells #[I 80] 3 (0,0))::roL 1 (some ⟨S,0,none⟩) (aA (bK rows))::pt l O::pt D' dO::cf 179 319 J (DN)::pt b5 (.cells #[I ((k:Nat):Int)] 3 (0,0))::pt b2 (.cells #[bM eN] 37 (0,0))::pt b1 (.cells #[ptr bs 0] 95 (0,0))::pt Y (.cells (cK (eE h rows (N - 122))).toArray 195 (0,0))::pt bs (.cells (lg J h bl s (rows.length) cap) 198 (0,0))::pt bl (.cells (ge J 122 (N - 122) h.first (used)) 273 (0,0))::roL 3 s (bx rows)::F) (by kernel_rfl) ?_ ?_
   ·refine gM (gU (aK #[bM eN] sizeOf37 (h1:=by exact HM _) (by simp)) (ab ?_));exact cF () trivial [] rfl
   intro _ _;refine Ju (φ:=eN≠0) h54' ?_;exact Th
  ·have h54':e1=0:=(by simpa using h54);refine Rf ?_;refine Lm (α:=Unit) (λ_=>True) (λ_=>U []) (λ_=>pt Z (.cells #[sl (some ⟨S,0,none⟩) (bK rows).length c37] 268 (0,0))::pt d38 (.cells #[I 80] 3 (0,0))::roL 1 (some ⟨S,0,none⟩) (aA (bK rows))::pt l O::pt D' dO::cf 179 319 J (D1)::pt b5 (.cells #[I (((k+1):Nat):Int)] 3 (0,0))::pt b2 (.cells #[.nilIface] 37 (0,0))::pt b1 (.cells #[ptr bs 0] 95 (0,0))::pt Y (.cells (cK (eE h rows (N - 122))).toArray 195 (0,0))::pt bs (.cells (lg J h bl s (rows.length) cap) 198 (0,0))::pt bl (.cells (ge J 122 (N - 122) h.first (used)) 273 (0,0))::roL 3 s (bx rows)::F) (by kernel_rfl) ?_ ?_
   ·refine gL (I (k:Int)) Vc (gV (bO (r:=((k+1:Nat):Int)) (by rw[show (k:Int)+(1:Int)=((k+1:Nat):Int) by omega];exact da (by omega))) (gU (aK #[I ((k+1:Nat):Int)] Vb (by simp)) (ab ?_)));exact cF () trivial [] rfl
   intro _ _;refine Tf ?_;refine OY (T:=179) (TT:=319) (b:=J) (φ:=λX=>cv D (mJ (1 - h.side) (bK rows) 0 ((k+1)))=(0,X)) D1 (by rw[hsn,h54']) ?_;exact Tg
 rotate_left
 ·intro D';show G _ _ _ (pt D' dO::pt Z (.cells #[sl (some ⟨S,0,none⟩) (bK rows).length c37] 268 (0,0))::pt d38 (.cells #[I 80] 3 (0,0))::roL 1 (some ⟨S,0,none⟩) (aA (bK rows))::kz (eN≠0)::cf 179 319 J (DN)::pt b2 (.cells #[bM eN] 37 (0,0))::pt b1 (.cells #[ptr bs 0] 95 (0,0))::pt Y (.cells (cK (eE h rows (N - 122))).toArray 195 (0,0))::pt bs (.cells (lg J h bl s (rows.length) cap) 198 (0,0))::pt bl (.cells (ge J 122 (N - 122) h.first (used)) 273 (0,0))::roL 3 s (bx rows)::F);refine OK (φ:=eN≠0) ?_;intro hne;exact Gq (b:=b2) (o:=0) (v:=bM eN) (Lf:=pt bs (.cells (lg J h bl s (rows.length) cap) 198 (0,0))::pt bl (.cells (ge J 122 (N - 122) h.first (used)) 273 (0,0))::cf 179 319 J (DN)::roL 3 s (bx rows)::F) rfl rfl rfl isAgg37 rfl ⟨eN,DN,kh hN hne, .inl ⟨hne,rfl,rfl⟩⟩
 intro D';show G _ _ _ (pt D' dO::pt Z (.cells #[sl (some ⟨S,0,none⟩) (bK rows).length c37] 268 (0,0))::pt d38 (.cells #[I 80] 3 (0,0))::roL 1 (some ⟨S,0,none⟩) (aA (bK rows))::Ak 179 319 J (λX=>cv D (mJ (1 - h.side) (bK rows) 0 ((ci (bK rows))))=(0,X))::pt b5 (.cells #[I (((ci (bK rows)):Nat):Int)] 3 (0,0))::pt b2 (.cells #[.nilIface] 37 (0,0))::pt b1 (.cells #[ptr bs 0] 95 (0,0))::pt Y (.cells (cK (eE h rows (N - 122))).toArray 195 (0,0))::pt bs (.cells (lg J h bl s (rows.length) cap) 198 (0,0))::pt bl (.cells (ge J 122 (N - 122) h.first (used)) 273 (0,0))::roL 3 s (bx rows)::F);refine RC (T:=179) (TT:=319) (b:=J) (φ:=λX=>cv D (mJ (1 - h.side) (bK rows) 0 ((ci (bK rows))))=(0,X)) ?_;intro D1 hD1;rw[hN] at hD1;injection hD1 with hq1 hq2;subst hq1;obtain rfl:DN=D1:=hq2;have hokN:=iK (mJ (1 - h.side) (bK rows) 0 ((ci (bK rows)))) i D hok;rw[hN,xe] at hokN;simp only at hokN;refine aG (gS (gL (ptr bs 0) WH (gV aa (gF 0 VX rR WG (gL (ptr J 0) WO (gR (vB call176 (hG J DN hokN.2.2.1 (by rw[hokN.1,hokN.2.1]) (by rw[hokN.2.1];omega))) (gQ (ac (gS (gM (gV (fO Vl) (ab ?_))))))))))));refine ls (α:=Int×DiskM) (λz=>cv DN [none,some ((h.ep+1) % 2,dq (eE h rows (N - 122)))]=z) (λz=>U [(1,ptr b1 0),(2,ptr b2 0),(4,ptr Y 0),(8,bM z.1)]) (λz=>pt D' dO::cf 179 319 J (z.2)::pt b2 (.cells #[.nilIface] 37 (0,0))::pt b1 (.cells #[ptr bs 0] 95 (0,0))::pt Y (.cells (cK (eE h rows (N - 122))).toArray 195 (0,0))::pt bs (.cells (lg J h bl s (rows.length) cap) 198 (0,0))::pt bl (.cells (ge J 122 (N - 122) h.first (used)) 273 (0,0))::roL 3 s (bx rows)::F) ?_ ?_
 ·apply ah<;>intro h64
  ·have hs0:dm DN=0:=(by simpa using h64);have hokF:nO N (i+ci (bK rows)+1) (cJ DN):=qM hokN;refine gD (Lf:=[pt b1 (.cells #[ptr bs 0] 95 (0,0)),pt Y (.cells (cK (eE h rows (N - 122))).toArray 195 (0,0)),pt bs (.cells (lg J h bl s (rows.length) cap) 198 (0,0))]) [(0,false),(1,false),(2,false),(3,false),(4,false),(5,false),(6,false),(7,false),(8,true),(9,true),(10,false)] (dL rR (ptr bs 0) WH (dV rR aa (dF rR 0 VX rR WG (dL rR (ptr J 0) WO (dF rR 0 VS rR Vb (dL rR (I ((h.ep+1:Nat):Int)) Vc (dV rR (vT (r:=(((h.ep+1) % 2:Nat):Int)) (by rfl)) (dV rR (aU (vs:=cK (eE h rows (N - 122))) VW Vu bp) (d7 rR (uA call177 (ry (eE h rows (N - 122)))) ?_)))))))));rintro _ _ ⟨rfl,rfl⟩;refine d7 rR (uB call175 (ff J (cJ DN) (((h.ep+1) % 2:Nat):Int) (dq (eE h rows (N - 122))) hokF.2.2.1 (by have:=hokF.2.2.2.2;omega))) ?_;rintro _ _ ⟨rfl,rfl⟩;refine dV rR aD ?_;refine aP ?_;exact cF (dt (cJ DN) (((h.ep+1) % 2:Nat):Int) (dq (eE h rows (N - 122))),cG (cJ DN) (((h.ep+1) % 2:Nat):Int) (dq (eE h rows (N - 122)))) (by rw[mZ hs0];exact kg (l:=[]) rfl) [1,2,4,8] rfl
  ·have hs0:¬dm DN=0:=(by simpa using h64);refine ai ?_;exact cF (dm DN,cJ DN) (md hs0) [1,2,4,8] rfl
 rintro ⟨e2,D2⟩ h2;simp only at h2 ⊢;have hok2:=iK [none,some ((h.ep+1) % 2,dq (eE h rows (N - 122)))] _ DN hokN;rw[h2] at hok2;simp only[YF,kay] at hok2;refine ac (gS (gM (gV (fO Vl) (ab ?_))));refine ls (α:=Int×DiskM) (λz=>cv DN [none,some ((h.ep+1) % 2,dq (eE h rows (N - 122))),none]=z/\(z.1=0->z.2.down=false)) (λz=>U [(1,ptr b1 0),(2,ptr b2 0),(4,ptr Y 0),(8,bM z.1)]) (λz=>pt D' dO::cf 179 319 J (z.2)::pt b2 (.cells #[.nilIface] 37 (0,0))::pt b1 (.cells #[ptr bs 0] 95 (0,0))::pt Y (.cells (cK (eE h rows (N - 122))).toArray 195 (0,0))::pt bs (.cells (lg J h bl s (rows.length) cap) 198 (0,0))::pt bl (.cells (ge J 122 (N - 122) h.first (used)) 273 (0,0))::roL 3 s (bx rows)::F) ?_ ?_
 ·apply ah<;>intro h76
  ·have h76':e2=0:=(by simpa using h76);refine am (gL (ptr bs 0) WH (gV aa (gF 0 VX rR WG (gL (ptr J 0) WO (gR (vB call176 (hG J D2 hok2.2.2.1 (by rw[hok2.1,hok2.2.1]) (by rw[hok2.2.1];omega))) (gQ ?_))))));exact cF (dm D2,cJ D2) ⟨kg (l:=[none,some ((h.ep+1) % 2,dq (eE h rows (N - 122)))]) (x:=none) (by rw[h2,h76']),λh=>(kH h).1.2.2⟩ [1,2,4,8] rfl
  ·have h76':¬e2=0:=(by simpa using h76);refine ai ?_;exact cF (e2,D2) ⟨kh (l:=[none,some ((h.ep+1) % 2,dq (eE h rows (N - 122)))]) (r:=[none]) h2 h76',λh=>absurd h h76'⟩ [1,2,4,8] rfl
 rintro ⟨e3,D3⟩ ⟨h3,hdn3⟩;simp only at h3 hdn3 ⊢;have hall:cv D (wk (eE h rows (N - 122)) (bK rows))=(e3,D3):=(LG hN).trans h3;have hok3:=iK (wk (eE h rows (N - 122)) (bK rows)) i D hok;rw[hall] at hok3;simp only at hok3;have hS3:=oV (wk (eE h rows (N - 122)) (bK rows)) D hS hckl;rw[hall] at hS3;simp only at hS3;refine ac (gS (gM (gV (ck Vl) (ab ?_))));apply ah<;>intro h83
 ·have h83':e3≠0:=(by simpa using h83);refine gS (gM (gU (aK #[bM e3] sizeOf37 (h1:=by exact HM _) (by decide)) (ab ?_)));exact Gq (b:=b2) (o:=0) (v:=bM e3) (Lf:=pt bs (.cells (lg J h bl s (rows.length) cap) 198 (0,0))::pt bl (.cells (ge J 122 (N - 122) h.first (used)) 273 (0,0))::cf 179 319 J (D3)::roL 3 s (bx rows)::F) rfl rfl rfl isAgg37 rfl ⟨e3,D3,hall, .inl ⟨h83',rfl,rfl⟩⟩
 ·have h83':e3=0:=(by simpa using h83);subst h83'
  replace hdn3:=hdn3 rfl
  refine ai (ac (gD (Lf:=[pt b1 (.cells #[ptr bs 0] 95 (0,0)),pt Y (.cells (cK (eE h rows (N - 122))).toArray 195 (0,0)),pt bs (.cells (lg J h bl s (rows.length) cap) 198 (0,0))]) [(0,false),(1,false),(2,false),(3,false),(4,false),(5,false),(6,false),(7,false),(10,false),(11,false),(8,true),(9,false),(12,true),(13,false),(14,false),(15,false),(16,false),(17,false),(18,false),(19,false)] (dL rfl (ptr bs 0) WH (dV rfl aa (dF rfl 0 VX rfl WG (dL rfl (ptr J 0) WO (dL rfl (ptr bs 0) WH (dV rfl aa (dF rfl 0 VX rfl WG (dL rfl (ptr J 0) WO (dF rfl 3 VS rfl Vb (dL rfl (I ((h.first+(N - 122):Nat):Int)) Vc (d7 rfl (uB (R:=λF=>R1 (I (D3.now.length:Int)) (cf 179 319 J (D3)::F)) call112 (eo J D3)) ?_)))))))))))));rintro _ _ ⟨rfl,rfl⟩;refine dV rfl (fe (r:=((N - 122:Nat):Int)) (by rw[hok3.2.1,show (N:Int) - 122=((N - 122:Nat):Int) by omega];exact da (by omega))) (d7 rfl (uB call116 (wi J D3 122 ((N - 122:Nat):Int) ((h.first+(N - 122):Nat):Int) hS3.2.1 ⟨by rw[hok3.2.1];omega,by omega⟩)) ?_);rintro _ _ (⟨hbad,_,_⟩ | ⟨_,hdn,_,_⟩ | ⟨_,_,bl',gl,so,co,V,rfl,hul,_,hsc,rfl⟩)
  ·exfalso;unfold yp at hbad;rw[hok3.2.1] at hbad;omega
  ·rw[hdn3] at hdn;cases hdn
  rw[show ge J ((122:Int)).toNat ((N - 122:Nat):Int).toNat ((h.first+(N - 122):Nat):Int).toNat V=ge J 122 (N - 122) (h.first+(N - 122)) V from rfl]
  replace hul:V<=N - 122:=hul
  replace hsc:dh (h.first+(N - 122)) (oR D3 122) (N - 122) 0 [] [] 0=(gl.map (·.1),V):=hsc
  refine dM rR (dV rR (aH (v:=ptr bl' 0)) (dV rR (aH (v:=sl so gl.length co)) (dV rR (aH (v:=bM 0)) (dV rR aD (dV rR aD (dV rR aD ?_))))));refine aP ?_;refine ac (gS (gM (gV (fO Vl) (ab ?_))));refine eH ?_;refine gD (Lf:=[pt b1 (.cells #[ptr bs 0] 95 (0,0)),pt Y (.cells (cK (eE h rows (N - 122))).toArray 195 (0,0))]) [(0,false),(1,false),(2,false),(3,false),(4,false),(5,false),(6,true),(7,false),(8,false),(9,true)] (dL rR (ptr bs 0) WH (dL rR (ptr bs 0) WH (dV rR (aU (vs:=cK (eE h rows (N - 122))) VW Vu bp) (dM rR (dV rR aa (dF rR 1 VX rR Vu (rc rR (ax (cs:=lg J h bl s rows.length cap) (vs:=cK (eE h rows (N - 122))) (lg J (eE h rows (N - 122)) bl s rows.length cap) Vu (by simp)) ?_)))))));rintro _ _ rfl;refine dV rR aa (dF rR 5 VX rR Xd (rc rR (aK (lg J (eE h rows (N - 122)) bl' s rows.length cap) Xd (by simp)) ?_));rintro _ _ rfl;refine aP ?_;refine gS (gM (gU (aK #[bM 0] sizeOf37 (by decide)) (ab ?_)));exact Gq (b:=b2) (o:=0) (v:=bM 0) (Lf:=pt bs (.cells (lg J (eE h rows (N - 122)) bl' s (rows.length) cap) 198 (0,0))::pt bl' (.cells (ge J 122 (N - 122) (h.first+(N - 122)) (V)) 273 (0,0))::cf 179 319 J (D3)::roL 3 s (bx rows)::F) rfl rfl rfl isAgg37 rfl ⟨0,D3,hall, .inr ⟨rfl,bl',gl.map (·.1),V,hul,hsc,rfl,rfl⟩⟩
def tA {many:Nat}{rows c:List ChangeM}(h:72<c.length):xf many rows c=2:=by unfold xf;rw[YB h]
def xh {many:Nat}{rows c:List ChangeM}(h:c.length<=72)(J:kG c≠0):xf many rows c=kG c:=by grind[xf]
def tB {many:Nat}{rows c:List ChangeM}(h:c.length<=72)(O:kG c=0)(J:80<(cU rows c).length\/many<c.length+1):xf many rows c=8:=by grind[xf]
def LJ {many:Nat}{rows c:List ChangeM}(h:c.length<=72)(O:kG c=0)(J:¬(80<(cU rows c).length\/many<c.length+1)):xf many rows c=0:=by grind[xf]
def pw (bs O:Nat)(h:HdM)(bl:Nat)(s:Option Addr)(cap:Nat)(rows:List ChangeM)(N i used:Nat)(D:DiskM)(hok:nO N i D)(hi:i<=100000)(hS:tw D)(hN0:196<=N/\N<=260)(hh:h.ep<=1000000/\h.side<=1/\1<=h.first/\h.first<=1000000000)(hl:rows.length<=80)(hrw:∀r∈rows,Cq r)(hu:used<=N - 122)(hs:srt rows)(c:List ChangeM)(s':Option Addr)(Y:Nat)(hcl:c.length<=9223372036854775807)(F:List ag):Ct Tryz.prog 103 [ptr bs 0,sl s' c.length Y] (pt bs (.cells (lg O h bl s (rows.length) cap) 198 (0,0))::pt bl (.cells (ge O 122 (N - 122) h.first (used)) 273 (0,0))::cf 179 319 O (D)::roL 3 s (bx rows)::roL 3 s' (bx c)::F) (λv L'=>∃e D2 h2 used2 rows2 bl2 s2 cap2,ED D h rows (N - 122) used c e D2 h2 used2 rows2/\v=bM e/\L'=pt bs (.cells (lg O h2 bl2 s2 rows2.length cap2) 198 (0,0))::pt bl2 (.cells (ge O 122 (N - 122) h2.first used2) 273 (0,0))::cf 179 319 O (D2)::roL 3 s2 (bx rows2)::roL 3 s' (bx c)::F):=by
 refine Ct.of func103 rR 76 ntmps103 (by simp) λw0=>?_;refine gS (gQ (ac (gS (gM (gV (aX Ve) (gV aT (ab ?_)))))));apply ah<;>intro h13
 ·simp at h13;have hlong:72<c.length:=(by omega);refine gS (gV (aZ Vn) (gQ ?_));exact an (pt bs (.cells (lg O h bl s (rows.length) cap) 198 (0,0))::pt bl (.cells (ge O 122 (N - 122) h.first (used)) 273 (0,0))::cf 179 319 O (D)::roL 3 s (bx rows)::roL 3 s' (bx c)::F) rfl ⟨2,D,h,used,rows,bl,s,cap, .inl ⟨by rw[tA hlong];decide,by rw[tA hlong],rfl,rfl,rfl,rfl⟩,rfl,rfl⟩
 ·simp at h13;have V:c.length<=72:=(by omega);refine ai (ac (gS (gM (gV (aX Ve) (gM (ab (al ?_)))))));refine aM (α:=Nat) (λk=>k<=c.length/\kG c=kG (c.drop k)) (λk=>U [(0,ptr bs 0),(1,sl s' c.length Y),(15,sl s' c.length Y),(16,I c.length),(17,I (k:Int))]) (λk=>pt bs (.cells (lg O h bl s (rows.length) cap) 198 (0,0))::pt bl (.cells (ge O 122 (N - 122) h.first (used)) 273 (0,0))::cf 179 319 O (D)::roL 3 s (bx rows)::roL 3 s' (bx c)::F) (λk=>c.length - k) 0 ⟨kaB _,rfl⟩ [0,1,15,16,17] rfl ?_;rintro k ⟨hk,hfk⟩;refine gS (gV aI (ab (ac ?_)));apply ah<;>intro h18
  ·simp at h18;have hkn:k<c.length:=(by omega);obtain ⟨x,hx⟩:∃x,c[k]? =some x:=⟨_,Zu hkn⟩;have hkr:k<(bx c).length:=(by rw[aQ];exact hkn);have hfd:=tq hx;refine ai (ac (al (gS (gV (ay k Ve Vd hkn hkr) (gV (bJ (row:=aV x) Vz Vd (cY hx)) (gI (aO #[aC [],aC [],Bo false] Vo) ?_))))));rintro _ _ ⟨b6,rfl,rfl⟩;refine gU (ax (cs:=#[aC [],aC [],Bo false]) (vs:=aV x) (aV x).toArray Vd (by decide) (hcs:=by exact bk)) (ab (gS (gV (aU (vs:=aV (x)) Vz Vd bp) (gR (vA call178 (ke x)) (gQ (gS (gM (gV (ck Vl) (ab ?_)))))))));apply ah<;>intro h24
   ·have hx0:¬dX x=0:=(by simpa using h24);have hfx:kG c=dX x:=(by rw[hfk,hfd,YC hx0]);refine gS (gM (gQ ?_));exact an (pt bs (.cells (lg O h bl s (rows.length) cap) 198 (0,0))::pt bl (.cells (ge O 122 (N - 122) h.first (used)) 273 (0,0))::cf 179 319 O (D)::roL 3 s (bx rows)::roL 3 s' (bx c)::F) rfl ⟨(dX x),D,h,used,rows,bl,s,cap, .inl ⟨by rw[xh V (by rw[hfx];exact hx0),hfx];exact hx0,by rw[xh V (by rw[hfx];exact hx0),hfx],rfl,rfl,rfl,rfl⟩,rfl,rfl⟩
   ·have hx0:dX x=0:=(by simpa using h24);refine ai (aG (am (gV (bO (r:=((k+1:Nat):Int)) (by rw[show (k:Int)+1=((k+1:Nat):Int) by omega];exact da (by omega))) (gM (ab ?_)))));exact ap (k+1) ⟨by omega,by rw[hfk,hfd,YB hx0]⟩ (by omega) [0,1,15,16,17] rfl
  ·simp at h18;obtain rfl:k=c.length:=(by omega);rw[kah] at hfk;have hf0:kG c=0:=hfk;refine aF ?_;refine gS (gM (gV aa (gF 6 VX rR Wl (gL (sl s rows.length cap) WP (gM (gI (uC call117 (oT rows c s s' cap Y hs (by omega) (by omega))) ?_))))));rintro _ _ ⟨X,c32,rfl,rfl⟩;refine bR (T:=174) (cap:=c32) X ?_;refine gQ (ac (gS (gM (gV (aX Ve) (gV aT (gM (gK aq (gK (aX Ve) (gK (bO (r:=((c.length+1:Nat):Int)) (by rw[show (c.length:Int)+1=((c.length+1:Nat):Int) by omega];exact da (by omega))) (gK aq (gK aa (gK (aw 0 VX rfl WG) (gK (az (v:=ptr O 0) WO) ?_)))))))))))));refine Ol (λhg=>cX (Pre:=[cf 179 319 O (D)]) (R:=λF=>R1 (I ((D).now.length:Int)) (cf 179 319 O (D)::F)) call112 (eo O D)) rR ?_;refine gK (fe (r:=((N - 122:Nat):Int)) (by rw[hok.2.1,show (N:Int) - 122=((N - 122:Nat):Int) by omega];exact da (by omega))) (gK aT (gV cu (ab ?_)));apply ah<;>intro h47
   ·simp at h47;have hfull:80<(cU rows c).length\/N - 122<c.length+1:=(by omega);refine gS (gV (aZ Vn) (gQ ?_));exact an (pt bs (.cells (lg O h bl s (rows.length) cap) 198 (0,0))::pt bl (.cells (ge O 122 (N - 122) h.first (used)) 273 (0,0))::cf 179 319 O (D)::roL 3 s (bx rows)::roL 3 s' (bx c)::F) rfl ⟨8,D,h,used,rows,bl,s,cap, .inl ⟨by rw[tB V hf0 hfull];decide,by rw[tB V hf0 hfull],rfl,rfl,rfl,rfl⟩,rfl,rfl⟩
   ·simp at h47;have hfull:¬(80<(cU rows c).length\/N - 122<c.length+1):=(by omega);have hcm:=LJ V hf0 hfull;refine ai (ac (gS (gM (gV (aX Ve) (gV (bO (r:=((c.length+1:Nat):Int)) (by rw[show (c.length:Int)+1=((c.length+1:Nat):Int) by omega];exact da (by omega))) (gM (gV aa (gF 5 VX rfl Xd (gL (ptr bl 0) WU (gR (vB call179 (wg bl O 122 (N - 122) h.first used ⟨hu,by omega⟩)) (gV aT (ab ?_))))))))))));refine ls (α:=DiskM×HdM×Nat×Nat) (λz=>Rz D h rows (N - 122) used c 0 z.1 z.2.1 z.2.2.1) (λz=>U [(0,ptr bs 0),(1,sl s' c.length Y),(8,sl X (cU rows c).length c32)]) (λz=>pt bs (.cells (lg O z.2.1 z.2.2.2 s rows.length cap) 198 (0,0))::pt z.2.2.2 (.cells (ge O 122 (N - 122) z.2.1.first z.2.2.1) 273 (0,0))::cf 179 319 O (z.1)::roL 3 s (bx rows)::roL 3 s' (bx c)::roL 3 X (bx (cU rows c))::F) ?_ ?_
    ·apply ah<;>intro h57
     ·simp at h57;have hroom:N - 122 - used<c.length+1:=(by omega);refine gS (gM (gI (uE call126 (ly bs O h bl s cap rows N i used D hok hi hS hN0 hh hl hrw)) ?_));rintro _ _ ⟨e59,D59,hck,⟨hne,rfl,rfl⟩ | ⟨h0,bl9,ds9,used9,hu9,hsc9,rfl,rfl⟩⟩
      ·refine gQ (gS (gM (gV (ck Vl) (ab ?_))));apply ah<;>intro h61
       ·refine gS (gM (gQ ?_));exact an (pt bs (.cells (lg O h bl s (rows.length) cap) 198 (0,0))::pt bl (.cells (ge O 122 (N - 122) h.first (used)) 273 (0,0))::cf 179 319 O (D59)::roL 3 s (bx rows)::roL 3 s' (bx c)::F) rfl ⟨e59,D59,h,used,rows,bl,s,cap, .inr ⟨hcm,e59,D59,h,used, .inl ⟨hroom,hck, .inl ⟨hne,rfl,rfl⟩⟩, .inl ⟨hne,rfl,rfl,rfl,rfl,rfl⟩⟩,rfl,rfl⟩
       ·exact absurd (by simpa using h61) hne
      ·subst h0;refine gQ (gS (gM (gV (ck Vl) (ab ?_))));apply ah<;>intro h61
       ·simp at h61
       ·refine ai ?_;rw[show h.first+(N - 122)=(eE h rows (N - 122)).first from rfl];exact cF (D59,(eE h rows (N - 122)),used9,bl9) (.inl ⟨hroom,hck, .inr ⟨rfl,rfl,hu9,ds9,hsc9⟩⟩) [0,1,8] rfl
     ·simp at h57;have hroom:¬N - 122 - used<c.length+1:=(by omega);refine ai ?_;exact cF (D,h,used,bl) (.inr ⟨hroom,rfl,rfl,rfl,rfl⟩) [0,1,8] rfl
    rintro ⟨D1,h1,J,S⟩ Z;simp only[] at Z ⊢;obtain ⟨hm1,hm2,hm3,hm4,hm5,hm6,hm7⟩:=GF Z hok hS hl hrw hN0.1 hu;refine gS (gM (gV aa (gF 5 VX rfl Xd (gL (ptr S 0) WU (gM (gR (vD call180 rfl (GB S O 122 (N - 122) h1.first J c s' Y N (i+63) D1 hm1 ⟨by omega,by omega⟩ ⟨by omega,by omega,by decide,hm3⟩ hcl)) (gQ (ac (gS (gM (gV (fO Vl) (ab ?_))))))))))));apply ah<;>intro h70
    ·have h70':oN 122 (N - 122) h1.first J c D1=0:=(by simpa using h70);refine am (gM (gM (gV aa (gF 6 VX rR Wl (gU (aK (lg O h1 S X (cU rows c).length c32) Wl (by simp)) (ab (gS (gM (gQ ?_)))))))))
     first
     | exact an (pt bs (.cells (lg O h1 S X (cU rows c).length c32) 198 (0,0))::pt S (.cells (ge O 122 (N - 122) h1.first (mI 122 (N - 122) h1.first J c D1)) 273 (0,0))::cf 179 319 O (iL 122 (N - 122) h1.first J c D1)::roL 3 X (bx (cU rows c))::roL 3 s' (bx c)::F) rfl ⟨_,iL 122 (N - 122) h1.first J c D1,h1,mI 122 (N - 122) h1.first J c D1,(cU rows c),S,X,c32, .inr ⟨hcm,0,D1,h1,J,Z, .inr ⟨rfl,rfl,rfl,rfl,rfl,(YB h70').symm⟩⟩,rfl,rfl⟩
     | exact an (pt bs (.cells (lg O h1 S s rows.length cap) 198 (0,0))::pt S (.cells (ge O 122 (N - 122) h1.first (mI 122 (N - 122) h1.first J c D1)) 273 (0,0))::cf 179 319 O (iL 122 (N - 122) h1.first J c D1)::roL 3 s (bx rows)::roL 3 s' (bx c)::F) rfl ⟨_,iL 122 (N - 122) h1.first J c D1,h1,mI 122 (N - 122) h1.first J c D1,rows,S,s,cap, .inr ⟨hcm,0,D1,h1,J,Z, .inr ⟨rfl,rfl,rfl,rfl,rfl,(YC h70').symm⟩⟩,rfl,rfl⟩
    ·have h70':¬oN 122 (N - 122) h1.first J c D1=0:=(by simpa using h70);refine ai (gS (gM (gQ ?_)))
     first
     | exact an (pt bs (.cells (lg O h1 S X (cU rows c).length c32) 198 (0,0))::pt S (.cells (ge O 122 (N - 122) h1.first (mI 122 (N - 122) h1.first J c D1)) 273 (0,0))::cf 179 319 O (iL 122 (N - 122) h1.first J c D1)::roL 3 X (bx (cU rows c))::roL 3 s' (bx c)::F) rfl ⟨_,iL 122 (N - 122) h1.first J c D1,h1,mI 122 (N - 122) h1.first J c D1,(cU rows c),S,X,c32, .inr ⟨hcm,0,D1,h1,J,Z, .inr ⟨rfl,rfl,rfl,rfl,rfl,(YB h70').symm⟩⟩,rfl,rfl⟩
     | exact an (pt bs (.cells (lg O h1 S s rows.length cap) 198 (0,0))::pt S (.cells (ge O 122 (N - 122) h1.first (mI 122 (N - 122) h1.first J c D1)) 273 (0,0))::cf 179 319 O (iL 122 (N - 122) h1.first J c D1)::roL 3 s (bx rows)::roL 3 s' (bx c)::F) rfl ⟨_,iL 122 (N - 122) h1.first J c D1,h1,mI 122 (N - 122) h1.first J c D1,rows,S,s,cap, .inr ⟨hcm,0,D1,h1,J,Z, .inr ⟨rfl,rfl,rfl,rfl,rfl,(YC h70').symm⟩⟩,rfl,rfl⟩
def m8 (Z:Nat)(rows c:List ChangeM)(s Y:Option Addr)(cap cap' used many:Nat)(hl:rows.length<=80)(hs:srt rows)(hcl:c.length<=9223372036854775807)(hu:used<=many/\many<=1000000)(F:List ag):Ct Tryz.prog 39 [ptr Z 0,sl Y c.length cap'] (pt Z (.cells #[sl s (rows.length) cap,I ((used:Int)),I (many:Int)] 91 (0,0))::roL 3 s (bx rows)::roL 3 Y (bx c)::F) (λv L'=>(xf many rows c≠0/\v=I (xf many rows c)/\L'=pt Z (.cells #[sl s (rows.length) cap,I ((used:Int)),I (many:Int)] 91 (0,0))::roL 3 s (bx rows)::roL 3 Y (bx c)::F)\/(xf many rows c=0/\∃s2 cap2,v=I 0/\L'=pt Z (.cells #[sl s2 ((cU rows c).length) cap2,I ((((if many - used<c.length+1 then 0 else used)+c.length+1):Nat)),I (many:Int)] 91 (0,0))::roL 3 s2 (bx (cU rows c))::roL 3 Y (bx c)::F)):=by
 refine Ct.of func39 rR 75 ntmps39 (by simp) λw0=>?_;refine gS (gQ (ac (gS (gM (gV (aX Ve) (gV aT (ab ?_)))))));apply ah<;>intro h10
 ·simp at h10;have hlong:72<c.length:=(by omega);refine gS (gQ ?_);exact an (pt Z (.cells #[sl s (rows.length) cap,I ((used:Int)),I (many:Int)] 91 (0,0))::roL 3 s (bx rows)::roL 3 Y (bx c)::F) rfl (.inl ⟨by rw[tA hlong];decide,by rw[tA hlong];rfl,rfl⟩)
 ·simp at h10;have J:c.length<=72:=(by omega);refine ai (ac (gS (gQ (al ?_))));refine aM (α:=Nat) (λk=>k<=c.length/\kG c=kG (c.drop k)) (λk=>U [(0,ptr Z 0),(1,sl Y c.length cap'),(5,I (k:Int))]) (λk=>pt Z (.cells #[sl s (rows.length) cap,I ((used:Int)),I (many:Int)] 91 (0,0))::roL 3 s (bx rows)::roL 3 Y (bx c)::F) (λk=>c.length - k) 0 ⟨kaB _,rfl⟩ [0,1,5] rfl ?_;rintro k ⟨hk,hfk⟩;refine ac (gS (gM (gM (gV (aX Ve) (gV aI (ab ?_))))));apply ah<;>intro h14
  ·simp at h14;have hkn:k<c.length:=(by omega);obtain ⟨x,hx⟩:∃x,c[k]? =some x:=⟨_,Zu hkn⟩;have hkr:k<(bx c).length:=(by rw[aQ];exact hkn);have hfd:=tq hx;have hnn:=Ch x;refine ai (ac (al (gS (gM (gM (gV (ay k Ve Vd hkn hkr) (gV (bJ (row:=aV x) Vz Vd (cY hx)) (gR (vA call106 (uY x)) (gQ (gS (gM (gV aT (ab ?_)))))))))))));apply ah<;>intro h23
   ·simp at h23;have X:¬dX x=0:=(by omega);have hfx:kG c=dX x:=(by rw[hfk,hfd,YC X]);refine gS (gM (gQ ?_));exact an (pt Z (.cells #[sl s (rows.length) cap,I ((used:Int)),I (many:Int)] 91 (0,0))::roL 3 s (bx rows)::roL 3 Y (bx c)::F) rfl (.inl ⟨by rw[xh J (by rw[hfx];exact X),hfx];exact X,by rw[xh J (by rw[hfx];exact X),hfx];rfl,rfl⟩)
   ·simp at h23;have X:dX x=0:=(by omega);refine ai (aG (am (gM (gV (bO (r:=((k+1:Nat):Int)) (by rw[show (k:Int)+1=((k+1:Nat):Int) by omega];exact da (by omega))) (gQ ?_)))));exact ap (k+1) ⟨by omega,by rw[hfk,hfd,YB X]⟩ (by omega) [0,1,5] rfl
  ·simp at h14;obtain rfl:k=c.length:=(by omega);rw[kah] at hfk;have hf0:kG c=0:=hfk;refine aF ?_;refine gS (gM (gV aa (gF 0 WV rR Wl (gL (sl s rows.length cap) WP (gM (gI (uC call107 (Cp rows c s Y cap cap' hs (by omega) (by omega))) ?_))))));rintro _ _ ⟨S,V,rfl,rfl⟩;refine bR (T:=174) (cap:=V) S ?_;refine gQ (ac (gS (gM (gV (aX Ve) (gV aT (gM (gK aq (gK (aX Ve) (gK (bO (r:=((c.length+1:Nat):Int)) (by rw[show (c.length:Int)+1=((c.length+1:Nat):Int) by omega];exact da (by omega))) (gK aq (gK aa (gK (aw 2 WV rfl Vb) (gK (az (v:=I (many:Int)) Vc) (gK aT (gV cu (ab ?_))))))))))))))));apply ah<;>intro h43
   ·simp at h43;have O:80<(cU rows c).length\/many<c.length+1:=(by omega);refine gS (gQ ?_);exact an (pt Z (.cells #[sl s (rows.length) cap,I ((used:Int)),I (many:Int)] 91 (0,0))::roL 3 s (bx rows)::roL 3 Y (bx c)::F) rfl (.inl ⟨by rw[tB J hf0 O];decide,by rw[tB J hf0 O];rfl,rfl⟩)
   ·simp at h43;have O:¬(80<(cU rows c).length\/many<c.length+1):=(by omega);have hcm:=LJ J hf0 O;refine ai (ac (ac ?_));refine cV jT ?_;refine dM rfl (dV rfl (aX Ve) (dV rfl (bO (r:=((c.length+1:Nat):Int)) (by rw[show (c.length:Int)+1=((c.length+1:Nat):Int) by omega];exact da (by omega))) (dM rfl (dV rfl aa (dF rfl 2 WV rfl Vb (dL rfl (I (many:Int)) Vc (dM rfl (dV rfl aa (dF rfl 1 WV rfl Vb (dL rfl (I (used:Int)) Vc (dV rfl (fe (r:=((many - used:Nat):Int)) (by rw[show (many:Int) - (used:Int)=((many - used:Nat):Int) by omega];exact da (by omega))) (dV rfl aT ?_))))))))))));refine aP ?_;apply ah<;>intro h56
    ·simp at h56;have R:many - used<c.length+1:=(by omega);refine am (gM (gV aa (gF 1 WV rR Vb (gU (aK #[sl s rows.length cap,I ((if many - used<c.length+1 then 0 else used:Nat):Int),I (many:Int)] Vb (by simp) (hcs:=by rw[YB R];rfl)) (ab (ac ?_))))))
     first
     | rw[show I (used:Int)=I ((if many - used<c.length+1 then 0 else used:Nat):Int) by rw[YC R]]
     | skip
     refine am (gM (gM (gV aa (gF 1 WV rfl Vb (gL (I ((if many - used<c.length+1 then 0 else used:Nat):Int)) Vc (gM (gV (aX Ve) (gV (bO (r:=(((if many - used<c.length+1 then 0 else used)+c.length:Nat):Int)) (by rw[show (((if many - used<c.length+1 then 0 else used:Nat):Nat):Int)+(c.length:Int)=(((if many - used<c.length+1 then 0 else used)+c.length:Nat):Int) by omega];exact da (by split <;> omega))) (gV (bO (r:=((((if many - used<c.length+1 then 0 else used)+c.length+1):Nat):Int)) (by rw[show (((if many - used<c.length+1 then 0 else used)+c.length:Nat):Int)+1=((((if many - used<c.length+1 then 0 else used)+c.length+1):Nat):Int) by omega];exact da (by split <;> omega))) (gV aa (gF 1 WV rfl Vb (gU (aK #[sl s rows.length cap,I ((((if many - used<c.length+1 then 0 else used)+c.length+1):Nat):Int),I (many:Int)] Vb (by simp)) (ab (gS (gM (gM (gV aa (gF 0 WV rfl Wl (gU (aK #[sl S (cU rows c).length V,I ((((if many - used<c.length+1 then 0 else used)+c.length+1):Nat):Int),I (many:Int)] Wl (by simp)) (ab (gS (gQ ?_))))))))))))))))))))));exact an (pt Z (.cells #[sl S ((cU rows c).length) V,I ((((if many - used<c.length+1 then 0 else used)+c.length+1):Nat)),I (many:Int)] 91 (0,0))::roL 3 S (bx (cU rows c))::roL 3 Y (bx c)::F) rfl (.inr ⟨hcm,S,V,rfl,rfl⟩)
    ·simp at h56;have R:¬many - used<c.length+1:=(by omega);refine ai (ac ?_)
     first
     | rw[show I (used:Int)=I ((if many - used<c.length+1 then 0 else used:Nat):Int) by rw[YC R]]
     | skip
     refine am (gM (gM (gV aa (gF 1 WV rfl Vb (gL (I ((if many - used<c.length+1 then 0 else used:Nat):Int)) Vc (gM (gV (aX Ve) (gV (bO (r:=(((if many - used<c.length+1 then 0 else used)+c.length:Nat):Int)) (by rw[show (((if many - used<c.length+1 then 0 else used:Nat):Nat):Int)+(c.length:Int)=(((if many - used<c.length+1 then 0 else used)+c.length:Nat):Int) by omega];exact da (by split <;> omega))) (gV (bO (r:=((((if many - used<c.length+1 then 0 else used)+c.length+1):Nat):Int)) (by rw[show (((if many - used<c.length+1 then 0 else used)+c.length:Nat):Int)+1=((((if many - used<c.length+1 then 0 else used)+c.length+1):Nat):Int) by omega];exact da (by split <;> omega))) (gV aa (gF 1 WV rfl Vb (gU (aK #[sl s rows.length cap,I ((((if many - used<c.length+1 then 0 else used)+c.length+1):Nat):Int),I (many:Int)] Vb (by simp)) (ab (gS (gM (gM (gV aa (gF 0 WV rfl Wl (gU (aK #[sl S (cU rows c).length V,I ((((if many - used<c.length+1 then 0 else used)+c.length+1):Nat):Int),I (many:Int)] Wl (by simp)) (ab (gS (gQ ?_))))))))))))))))))))));exact an (pt Z (.cells #[sl S ((cU rows c).length) V,I ((((if many - used<c.length+1 then 0 else used)+c.length+1):Nat)),I (many:Int)] 91 (0,0))::roL 3 S (bx (cU rows c))::roL 3 Y (bx c)::F) rfl (.inr ⟨hcm,S,V,rfl,rfl⟩)
abbrev Oe (bd:Nat)(h:HdM)(lv:Value)(s:Option Addr)(n cap:Nat):Array Value:=#[ptr bd 0,I h.ep,I h.side,I h.size,I h.first,lv,sl s n cap]
def DJ (L:List ak)(side k:Nat):ak:=((L.drop (2+side*60)).take k).flatten
theorem yD {L:List ak}{side k:Nat}(h:2+side*60+k<L.length):DJ L side k++L.getD (2+side*60+k) []=DJ L side (k+1):=by
 simp_all[DJ,lF]
def HN {L:List ak}{side:Nat}(J:∀x∈L,x.length=80):∀k,2+side*60+k<=L.length->(DJ L side k).length=80*k
 | 0,_=>rfl
 | k+1,h=>by
  rw[<-yD (by omega),Z1,HN J k (by omega),p6 (by omega) J];omega
def yE:∀(ds:dc) {r:List ChangeM},srt r->srt (ds.foldl cU r)
 | [],r,h=>h
 | d::ds,r,h=>yE ds (qR h d).1
abbrev wA (r0:List ChangeM)(gl:JK)(k:Nat):List ChangeM:=((gl.map (·.1)).take k).foldl cU r0
def RD {O:List ChangeM}{J:JK}{k:Nat}{x:List ChangeM×u0}(h:J[k]? =some x):cU (wA O J k) x.1=wA O J (k+1):=by
 unfold wA
 simp_all[lF]
def rz (J N:Nat)(D:DiskM)(hN:D.now.length=N)(hNb:N<=260)(hS:∀x∈D.now,x.length=80)(hx:HdM)(Z:List ChangeM)(ds:dc)(used:Nat)(hg:D.down=false->196<=N->(nQ D.now).ep≠0->Good D.now hx Z ds used)(F:List ag):Ct Tryz.prog 41 [ptr J 0] (cf 179 319 J (D)::F) (λv L'=>(D.down=true/\v= .tuple #[.pointer none,bM 9]/\L'=cf 179 319 J (D)::F)\/(D.down=false/\N<196/\v= .tuple #[.pointer none,bM 4]/\L'=cf 179 319 J (D)::F)\/(D.down=false/\196<=N/\(nQ D.now).ep=0/\v= .tuple #[.pointer none,bM 4]/\L'=cf 179 319 J (D)::F)\/(D.down=false/\196<=N/\(nQ D.now).ep≠0/\∃bs bl s cap,v= .tuple #[ptr bs 0,bM 0]/\L'=pt bs (.cells (lg J hx bl s (cur Z ds).length cap) 198 (0,0))::pt bl (.cells (ge J 122 (N - 122) hx.first used) 273 (0,0))::cf 179 319 J (D)::roL 3 s (bx (cur Z ds))::F)):=by
 refine Ct.of func41 rR 144 ntmps41 (by simp) λw0=>?_;refine gS (gA (gQ (ac (gS (gM (gR (vB call111 (tk J D)) (ab ?_)))))));apply ah<;>intro h21
 ·refine gS (gV (aZ Vn) (gA (gQ ?_)));exact an (cf 179 319 J (D)::F) rfl (.inl ⟨h21,rfl,rfl⟩)
 ·have V:D.down=false:=(by simpa using h21);refine ai (ac (gS (gM (gI (uB (R:=λF=>R1 (I ((D).now.length:Int)) (cf 179 319 J (D)::F)) call112 (eo J D)) ?_))));rintro _ _ ⟨rfl,rfl⟩;refine gV aI (ab ?_);apply ah<;>intro h25
  ·simp at h25;have h25':N<196:=(by omega);refine gS (gV (aZ Vn) (gA (gQ ?_)));exact an (cf 179 319 J (D)::F) rfl (.inr (.inl ⟨V,h25',rfl,rfl⟩))
  ·simp at h25;have h25':196<=N:=(by omega);refine ai (gS (gM (gV (aR (KX _ rR)) (gI (di (Oe J (DI D.now 0) (.pointer none) none 0 0)) ?_))));rintro _ _ ⟨X,rfl,rfl⟩;refine gQ (ac (gS (gM (ab (al ?_)))));refine aM (α:=Nat) (λk=>k<=2) (λk=>U [(0,ptr J 0),(4,ptr X 0),(30,I (k:Int))]) (λk=>pt X (.cells (Oe J (DI D.now k) ((.pointer none)) none (0) 0) 198 (0,0))::cf 179 319 J (D)::F) (λk=>2 - k) 0 (by decide) [0,4,30] rfl ?_;intro k hk;refine gS (gV aI (ab (ac ?_)));apply ah<;>intro h31
   ·simp at h31;have hk2:k<2:=(by omega);refine ai (ac (al (gS (gM (gQ (gS (gM (gM (gR (vB call113 (oK J D ((k:Nat):Int))) ?_)))))))));rw[show pX D ((k:Nat):Int)=(D.now.getD (k) [],0) from ti V (by omega) (by rw[kag];exact xb (by omega))];refine gM (gX (aC (D.now.getD k [])) (gX (bM 0) (gA (gQ (ac (gS (gM (gV (ck Vl) (ab ?_)))))))));apply ah<;>intro h40
    ·simp at h40
    ·refine ai (gS (gM (gR (vA call114 (wz (D.now.getD k []) (p6 (by omega) hS))) (gI (aO #[I 0,I 0,I 0,I 0] WY) ?_))));rintro _ _ ⟨b8,rfl,rfl⟩;refine gU (ax (cs:=#[I 0,I 0,I 0,I 0]) (vs:=cK (dU (D.now.getD k []))) (cK (dU (D.now.getD k []))).toArray Vu (by decide) (hcs:=by exact bk (h:=yC _))) (ab (ac (gG [(0,false),(1,false),(2,false),(3,false),(4,false),(5,false),(6,false),(7,false)] (dF rR 0 VS rR Vb (dL rR (I (dU (D.now.getD k [])).ep) Vc (dM rR (dV rR aa (dF rR 1 VX rR Vu (dF rR 0 VS rR Vb (dL rR (I (DI D.now k).ep) Vc (dV rR aT ?_)))))))))));refine aP ?_;apply ah<;>intro h51
     ·have hgt:(DI D.now k).ep<(dU (D.now.getD k [])).ep:=(by have:=of_decide_eq_true h51;omega);refine am (gM (gV (aU (vs:=cK (dU (D.now.getD k []))) VW Vu bp) (gV aa (gF 1 VX rfl Vu (gU (ax (cs:=Oe J (DI D.now k) (.pointer none) none 0 0) (vs:=cK (dU (D.now.getD k []))) (Oe J (dU (D.now.getD k [])) (.pointer none) none 0 0) Vu (by simp)) (ab (aG (am (gV (bO (r:=((k+1:Nat):Int)) (by rw[show (((k:Nat):Int):Int)+(1:Int)=((k+1:Nat):Int) by omega];exact da (by omega))) (gM (ab ?_)))))))))));rw[show dU (D.now.getD k [])=DI D.now (k+1) by rw[DI,YB hgt]];exact ap (k+1) (by omega) (by omega) [0,4,30] rfl
     ·have hgt:¬(DI D.now k).ep<(dU (D.now.getD k [])).ep:=(by have:=of_decide_eq_false h51;omega);refine ai (aG (am (gV (bO (r:=((k+1:Nat):Int)) (by rw[show (((k:Nat):Int):Int)+(1:Int)=((k+1:Nat):Int) by omega];exact da (by omega))) (gM (ab ?_)))));rw[show DI D.now k=DI D.now (k+1) by rw[DI,YC hgt]];exact ap (k+1) (by omega) (by omega) [0,4,30] rfl
   ·simp at h31;obtain rfl:k=2:=(by omega);refine aF ?_;refine ac (gS (gM (gV aa (gF 1 VX rR Vu (gF 0 VS rR Vb (gL (I (DI D.now 2).ep) Vc (gV bT (ab ?_))))))));apply ah<;>intro h62
    ·simp at h62;have he0:(nQ D.now).ep=0:=(by show (DI D.now 2).ep=0;omega);refine gS (gV (aZ Vn) (gA (gQ ?_)));exact an (cf 179 319 J (D)::F) rfl (.inr (.inr (.inl ⟨V,h25',he0,rfl,rfl⟩)))
    ·simp at h62;have he0:(nQ D.now).ep≠0:=(by show (DI D.now 2).ep≠0;omega);have O:=hg V h25' he0;rw[show DI D.now 2=hx from O.best];refine ai (gS (gQ (ac (gS (gM (ab (al ?_)))))));refine aM (α:=Nat) (λk=>k<=60) (λk=>U [(0,ptr J 0),(4,ptr X 0),(9,aC (DJ D.now hx.side k)),(64,I (k:Int))]) (λk=>pt X (.cells (Oe J (hx) ((.pointer none)) none (0) 0) 198 (0,0))::cf 179 319 J (D)::F) (λk=>60 - k) 0 (by decide) [0,4,9,64] rfl ?_;intro k hk;have hside:=O.side;have htl:=HN (side:=hx.side) hS k (by omega);refine gS (gV aI (ab (ac ?_)));apply ah<;>intro h65
     ·simp at h65;have hk60:k<60:=(by omega);have hsl:(D.now.getD (2+hx.side*60+k) []).length=80:=p6 (by omega) hS;refine ai (ac (al (gS (gM (gQ (gS (gM (gM (gV aa (gF 1 VX rfl Vu (gF 1 VS rfl Vb (gL (I hx.side) Vc (gV (j5 (r:=((hx.side*60:Nat):Int)) (by rw[show (hx.side:Int)*(60:Int)=((hx.side*60:Nat):Int) by omega];exact da (by omega))) (gV (bO (r:=((2+hx.side*60:Nat):Int)) (by rw[show (2:Int)+(((hx.side*60:Nat):Int):Int)=((2+hx.side*60:Nat):Int) by omega];exact da (by omega))) (gM (gV (bO (r:=((2+hx.side*60+k:Nat):Int)) (by rw[show (((2+hx.side*60:Nat):Int):Int)+(((k:Nat):Int):Int)=((2+hx.side*60+k:Nat):Int) by omega];exact da (by omega))) (gR (vB call113 (oK J D (((2+hx.side*60+k):Nat):Int))) ?_)))))))))))))))));rw[show pX D ((2+hx.side*60+k:Nat):Int)=(D.now.getD (2+hx.side*60+k) [],0) from ti V (by omega) (by rw[kag];exact xb (by omega))];refine gM (gX (aC (D.now.getD (2+hx.side*60+k) [])) (gX (bM 0) (gA (gQ (ac (gS (gM (gV (ck Vl) (ab ?_)))))))));apply ah<;>intro h82
      ·simp at h82
      ·refine ai (am (gM (gM (gV (cS (by rw[htl,hsl];omega)) (gQ (aG (am (gV (bO (r:=((k+1:Nat):Int)) (by rw[show (((k:Nat):Int):Int)+(1:Int)=((k+1:Nat):Int) by omega];exact da (by omega))) (gM (ab ?_))))))))));rw[yD (by omega)];exact ap (k+1) (by omega) (by omega) [0,4,9,64] rfl
     ·simp at h65;obtain rfl:k=60:=(by omega);have hsz:hx.size<=(DJ D.now hx.side 60).length:=by
       have h1:=O.size;have h2:=mj O.hok;have h3:=O.len;omega
      refine aF ?_;refine gS (gM (gM (gV aa (gF 1 VX rR Vu (gF 2 VS rR Vb (gL (I hx.size) Vc (gV (Ov (h:=hx.size) Vg rR rR rR hsz) ?_)))))));rw[show (DJ D.now hx.side 60).take hx.size=bK Z from O.text];refine gI (uA call115 (yB Z (by have:=O.len;omega) O.hsrt O.hok)) ?_;rintro _ _ ⟨s96,c96,rfl,rfl⟩;refine gM (gX (sl s96 Z.length c96) (gX (Bo true) (gA (gQ (ac (gS (gM (gV cE (ab ?_)))))))));apply ah<;>intro h100
      ·simp at h100
      ·refine ai (ac (gD (Lf:=[pt X (.cells (Oe J hx (.pointer none) none 0 0) 198 (0,0))]) [(0,false),(1,false),(4,false),(5,false),(6,false),(7,false),(8,false),(2,true),(3,false),(9,true),(10,false),(11,false),(12,false),(13,false),(14,false),(15,false),(16,false)] (dM rfl (dM rfl (dM rfl (dV rfl aa (dF rfl 1 VX rfl Vu (dF rfl 3 VS rfl Vb (dL rfl (I hx.first) Vc (d7 rfl (uB (R:=λF=>R1 (I ((D).now.length:Int)) (cf 179 319 J (D)::F)) call112 (eo J D)) ?_))))))))));rintro _ _ ⟨rfl,rfl⟩;refine dV rfl (fe (r:=((N - 122:Nat):Int)) (by rw[hN,show (N:Int) - 122=((N - 122:Nat):Int) by omega];exact da (by omega))) (d7 rfl (uB call116 (wi J D 122 ((N - 122:Nat):Int) hx.first hS ⟨by omega,by have:=O.first;omega⟩)) ?_);rintro _ _ (⟨hbad,_,_⟩ | ⟨_,hdn,_,_⟩ | ⟨_,_,bl,S,so,co,Y,rfl,hul,hgll,hsc,rfl⟩)
       ·exfalso;unfold yp at hbad;have:=O.first;omega
       ·rw[V] at hdn;cases hdn
       rw[show ge J ((122:Int)).toNat ((N - 122:Nat):Int).toNat (hx.first:Int).toNat Y=ge J 122 (N - 122) hx.first Y from rfl]
       replace hgll:S.length<=N - 122:=hgll
       replace hsc:dh hx.first (oR D 122) (N - 122) 0 [] [] 0=(S.map (·.1),Y):=hsc
       have hlg:=O.log;rw[hN] at hlg;have hlg2:dh hx.first (oR D 122) (N - 122) 0 [] [] 0=(ds,used):=hlg;rw[hsc] at hlg2;injection hlg2 with hq1 hq2;obtain rfl:used=Y:=hq2.symm;have hfit:=O.fits;rw[<-hq1] at hfit;have hlen72:∀y∈S,y.1.length<=72:=λy hy=>O.lens _ (by rw[<-hq1];exact YG hy);refine dM rR (dV rR (aH (v:=ptr bl 0)) (dV rR (aH (v:=sl so S.length co)) (dV rR (aH (v:=bM 0)) (dV rR aD (dV rR aD (dV rR aD ?_))))));refine aP ?_;refine ac (gS (gM (gV (ck Vl) (ab ?_))));apply ah<;>intro h117
       ·simp at h117
       ·refine ai (gS (gM (gM (gM (gM (gV aa (gF 5 VX rR Xd (gU (aK (Oe J hx (ptr bl 0) none 0 0) Xd (by simp)) (gV aa (gF 6 VX rR Wl (gU (aK (Oe J hx (ptr bl 0) s96 (wA Z S (0)).length c96) Wl (by simp)) (ab (ac (ac ?_))))))))))))));rw[show bx Z=bx (wA Z S 0) from rfl];refine am (gM (gV (aX XO) (gM (ab (al ?_)))));refine aM (α:=Nat×Option Addr×Nat) (λz=>z.1<=S.length) (λz=>U [(4,ptr X 0),(127,sl so S.length co),(128,I S.length),(129,I (z.1:Int))]) (λz=>pt X (.cells (Oe J (hx) (ptr bl 0) z.2.1 ((wA Z S (z.1)).length) z.2.2) 198 (0,0))::roL 3 z.2.1 (bx (wA Z S (z.1)))::pt bl (.cells (ge J 122 (N - 122) hx.first used) 273 (0,0))::bi 33 1 so co (dR S)::re S::cf 179 319 J (D)::F) (λz=>S.length - z.1) (0,s96,c96) (by simp) [4,127,128,129] rfl ?_;rintro ⟨k,sA,cA⟩ hk;simp only[] at hk ⊢;refine gS (gV aI (ab (ac ?_)));apply ah<;>intro h130
        ·simp at h130;have hkn:k<S.length:=(by omega);obtain ⟨x,hx'⟩:∃x,S[k]? =some x:=⟨_,Zu hkn⟩;refine ai (ac (al (gS (gV (ay k XO Wl hkn (by rw[Ls];exact hkn)) (gV (bI (v:=sl x.2.1 x.1.length x.2.2) WP (by exact Tk hx') rR) (gQ ?_))))));refine Lt S (YW hx') ?_;refine am (gM (gM (gV aa (gF 6 VX rR Wl (gL (sl sA (wA Z S (k)).length cA) WP (gM (gI (uC call117 (oT (wA Z S (k)) x.1 sA x.2.1 cA x.2.2 (yE _ O.hsrt) (Yj (hfit k) (by decide)) (by have:=hlen72 x (YW hx');omega))) ?_)))))));rintro _ _ ⟨s139,c139,rfl,rfl⟩;rw[RD hx'];refine bR (T:=174) (cap:=c139) s139 ?_;refine gV aa (gF 6 VX rfl Wl (gU (aK (Oe J hx (ptr bl 0) s139 (wA Z S (k+1)).length c139) Wl (by simp)) (ab (aG (am (gV (bO (r:=((k+1:Nat):Int)) (by rw[show (((k:Nat):Int):Int)+(1:Int)=((k+1:Nat):Int) by omega];exact da (by omega))) (gM (ab ?_))))))));exact ap (k+1,s139,c139) (by simp only[];omega) (by simp only[];omega) [4,127,128,129] rfl
        ·simp at h130;obtain rfl:k=S.length:=(by omega);have hcu:wA Z S S.length=cur Z ds:=(by unfold wA cur;rw[kaq (by simp),hq1]);rw[hcu];refine aF ?_;refine gS (gM (gA (gQ ?_)));exact an (pt X (.cells (lg J hx bl sA (cur Z ds).length cA) 198 (0,0))::pt bl (.cells (ge J 122 (N - 122) hx.first used) 273 (0,0))::cf 179 319 J (D)::roL 3 sA (bx (cur Z ds))::F) rfl (.inr (.inr (.inr ⟨V,h25',he0,X,bl,sA,cA,rfl,rfl⟩)))
end Go.Proofs.YthdjckbjjfiopabGreatDoor