/- Several texts in one: walks and rules used by them. No condition. -/
import Derived.Test.YthdjckbjjfiopabGreatDoorPartC
import Derived.KernelRfl
import GoSem.Extern.AbiNoEscape
import Derived.Test.YthdjckbjjfiopabGreatDoorPartA
import Derived.Test.YthdjckbjjfiopabGreatDoorProg
set_option linter.unusedSimpArgs false
set_option linter.unusedVariables false
set_option linter.defProp false
set_option maxHeartbeats 800000
namespace Go.Proofs.YthdjckbjjfiopabGreatDoor
open _root_.Go.Proofs.Tryz
open Go Go.Sl Go.Proofs
def J0:∃fn,Tryz.prog.funcs[310]? =some fn/\(fn.name== "runtime.NumGoroutine")=false/\fn.body.isNone=true/\Extern.findNext fn=none/\Extern.find fn=some Extern.AbiNoEscape.same:=
 ⟨(Tryz.prog.funcs[310]?).get (by kernel_rfl),(Uz _).symm,by kernel_rfl,by kernel_rfl,by kernel_rfl,by kernel_rfl⟩
def J1 (v:Value)(w:World):(callFunc 310 [v].toArray).run Tryz.prog w= .ok (.value v) w:=by
 obtain ⟨fn,h,D,J,O,R⟩:=J0;rw[run_callFunc_extern h D J O R]
 rfl
def J2 (a b:Nat):[[By ((a % 256:Nat):Int)],[By ((b % 256:Nat):Int)],[By ((b / 256 % 256:Nat):Int)]]=qq [UInt8.ofNat a,UInt8.ofNat b,UInt8.ofNat (b / 256)]:=by
 simp only[qq,Rv,RC,UInt8.toNat_ofNat']
def oL (k v:ab)(w:World):(Instr.build 174 #[(0,ac k),(1,ac v)]).run Tryz.prog w= .ok (.agg (ym ⟨k,v,false⟩).toArray) w:=by
 simp[Instr.build,OR,Qy,ON,Pv,Instr.fill,qW,ym,show ∀s:ab,(ac s).cells=#[ac s] from λ_=>rfl]
def Cz {l:List ChangeM}{k:Nat}{x:ChangeM}(h:l[k]? =some x):yG (l.take (k+1))=yG (l.take k)++iH x:=by rw[mz h,JU]
def CA {l:List ChangeM}{k:Nat}{x:ChangeM}(h:l[k]? =some x):yG (l.drop k)=iH x++yG (l.drop (k+1)):=by
 obtain ⟨D,rfl⟩:=Re.1 h;rw[Uc D,JT]
def J3 {l:List ChangeM}(h:∀r∈l,eJ r)(k:Nat):(yG (l.take k)).length<=59*l.length:=by
 have:=lK (l:=l.take k) λr D=>h r (SD D);rw[Sv] at this;omega
def J4 {l:List ChangeM}{k:Nat}{x:ChangeM}(J:srt l)(hx:l[k]? =some x)(D:x.gone=false):wS (l.take k) [x]=l.take (k+1):=by
 have h:=Cu J (k+1);rw[mz hx] at h ⊢;exact JV h D
def J5 (bb:Nat)(p s:Option Addr)(n cap:Nat)(R:p=none\/p=some ⟨bb,0,none⟩)(F:List aa):Ct Tryz.prog 273 [ptr bb 0] (pt bb (.cells #[(.pointer p),sl s n cap] 327 (0,0))::F) (R1 (.tuple #[]) (pt bb (.cells #[ptr bb 0,sl s n cap] 327 (0,0))::F)):=by
 refine Ct.of func273 rR 20 ntmps273 (by simp) λw0=>?_;refine gS (gM rR (gV (qa rR) (gF 0 Qs rR QL rR (gL (.pointer p) isAgg325 rR (gV (jW QM rR) (qc ?_))))));refine qd rfl ?_ ?_ <;> intro O
 ·refine qo (gM rR (gM rR (gV (Iw QM underlying367 QV (by decide) rR (by simp)) (gR (Br (λw=>J1 _ w) rR) (gV (Iy underlying367 QM QV (by decide) rR rR) (gV (qa rR) (gF 0 Qs rR QL rR (gU (qG #[ptr bb 0,sl s n cap] QL rR rR rR (by simp) rR) (qc ?_)))))))));refine fk rR rR ?_;exact rfl
 ·have J:p=some ⟨bb,0,none⟩:=by
   rcases R with h | h
   ·rw[h] at O;cases O
   ·exact h
  rw[J];refine gS (gM rR (gV (qa rR) (gF 0 Qs rR QL rR (gL (ptr bb 0) isAgg325 rR (gM rR (gV (Iz QM QV rR rR) (qc ?_)))))));refine qd rfl ?_ ?_ <;> intro D
  ·cases D
  ·refine qf ?_;refine fk rR rR ?_;exact rfl
def J6 (bb:Nat)(p s:Option Addr)(cap:Nat)(l t:ab)(R:p=none\/p=some ⟨bb,0,none⟩)(S:l.length+t.length<=1000000)(F:List aa):Ct Tryz.prog 250 [ptr bb 0,ac t] (pt bb (.cells #[(.pointer p),sl s l.length cap] 327 (0,0))::ai 5 1 s cap (qq (l))::F) (λv L'=>∃O J,v= .tuple #[I t.length, .nilIface]/\L'=pt bb (.cells #[ptr bb 0,sl O (l++t).length J] 327 (0,0))::ai 5 1 O J (qq (l++t))::F):=by
 refine Ct.of func250 rR 19 ntmps250 (by simp) λw0=>?_;refine gS (gA rR (gQ rR (gS (gM rR (gR (vB call273 rR (J5 bb p s l.length cap R)) (qc (gS (gM rR (gM rR (gV (qa rR) (gF 1 Qs rR QH rR (gL (sl s l.length cap) QB rR (gM rR (gI (Iu OW OM Pi Pu rR Tryz.typeInfo5 rR rR rR ⟨by omega,by decide,by decide⟩) ?_))))))))))))));rintro _ _ ⟨D,h,rfl,_,rfl⟩;refine gV (qa rR) (gF 1 Qs rR QH rR (gU (qG #[ptr bb 0,sl D (l++t).length h] QH rR rR rR (by simp) rR) (qc (gS (gM rR (gV (yZ OM rR) (gA rR (gQ rR ?_))))))));exact qh (pt bb (.cells #[ptr bb 0,sl D (l++t).length h] 327 (0,0))::ai 5 1 D h (qq (l++t))::F) rfl ⟨D,h,rfl,rfl⟩
def J7 (bb:Nat)(p s:Option Addr)(cap:Nat)(l:ab)(h:l≠ []\/s=none)(D:l.length<=1000000)(F:List aa):Ct Tryz.prog 251 [ptr bb 0] (pt bb (.cells #[(.pointer p),sl s l.length cap] 327 (0,0))::ai 5 1 s cap (qq (l))::F) (R1 (ac l) (pt bb (.cells #[(.pointer p),sl s l.length cap] 327 (0,0))::F)):=by
 refine Ct.of func251 rR 14 ntmps251 (by simp) λw0=>?_;refine gS (gQ rR (qb (gD (Lf:=[pt bb (.cells #[(.pointer p),sl s l.length cap] 327 (0,0))]) [(0,false),(1,false),(2,false),(3,false),(5,false),(6,false),(7,false),(8,false),(9,false),(4,true),(10,true),(11,false)] (dM rR rR rR (dV rR (qa rR) (dF rR 1 Qs rR QH rR (dL rR (sl s l.length cap) QB rR (dM rR rR rR (dV rR (qa rR) (dF rR 1 Qs rR QH rR (dL rR (sl s l.length cap) QB rR (dV rR (qY OW rR) (av rR (n5 (l:=l) rR h) rR ?_)))))))))))));rintro _ _ ⟨rfl,rfl⟩;refine av rR (Iv (l:=l) underlying337 (BH (Pi default)) rR rR rR h (by omega)) rR ?_;rintro _ _ ⟨rfl,rfl⟩;refine dV rR (qt rR) ?_;refine qI ?_;refine ql rR rR ?_;exact rfl
def J8 (rows:List ChangeM)(s:Option Addr)(cap:Nat)(hl:rows.length<=400)(hok:∀r∈rows,eJ r)(F:List aa):Ct Tryz.prog 199 [sl s rows.length cap] (roL 3 s (ah rows)::F) (R1 (ac (yG rows)) (roL 3 s (ah rows)::F)):=by
 refine Ct.of func199 rR 36 ntmps199 (by simp) λw0=>?_;have h:=J3 hok;refine gS (gQ rR (gS (gI (qA #[.pointer none,sl none 0 0] zeroValue327) ?_)));rintro _ _ ⟨O,rfl,rfl⟩;refine qc (qb (qb ?_));rw[show sl none 0 0=sl none (yG (rows.take 0)).length 0 from rfl];refine yi 5 1 (qq (yG (rows.take 0))) rR ?_;refine qo (gM rR (gV (qY OK rR) (gM rR (qc (qg ?_)))));refine qC (α:=Nat×Option Addr×Option Addr×Nat) (λz=>z.1<=rows.length/\(z.2.1=none\/z.2.1=some ⟨O,0,none⟩)/\(yG (rows.take z.1)≠ []\/z.2.2.1=none)) (λz=>U [(3,ptr O 0),(6,sl s rows.length cap),(7,I rows.length),(8,I z.1)]) (λz=>pt O (.cells #[(.pointer z.2.1),sl z.2.2.1 (yG (rows.take z.1)).length z.2.2.2] 327 (0,0))::ai 5 1 z.2.2.1 z.2.2.2 (qq (yG (rows.take z.1)))::roL 3 s (ah rows)::F) (λz=>rows.length - z.1) (0,none,none,0) ⟨by simp, .inl rfl, .inr rfl⟩ [3,6,7,8] rfl rR ?_;rintro ⟨k,p,sB,X⟩ ⟨hk,Z,J⟩;simp only[] at hk Z J ⊢;refine gS (gV (qH rR rR) (qc (qb ?_)));refine qd rfl ?_ ?_ <;> intro Y
 ·simp at Y;have D:k<rows.length:=(by omega);obtain ⟨x,hx⟩:∃x,rows[k]? =some x:=⟨_,S6 D⟩;have S:k<(ah rows).length:=(by rw[qx];exact D);have hxl:=sU (hok x (R5 hx));obtain ⟨_,_,hxk,hxv⟩:=mL (hok x (R5 hx)).1;refine qf (qb (qg (gS (gV (qv k OK OJ rR rR rR D S) (gV (qZ (row:=ym x) O4 OJ rR (yX hx) rR) (gI (qA #[ac [],ac [],Bo false] OR) ?_))))));rintro _ _ ⟨b5,rfl,rfl⟩;refine gU (qp (cs:=#[ac [],ac [],Bo false]) (vs:=ym x) (ym x).toArray OJ rR rR rR rR (by decide) (qV rR)) (qc (qo (gF 0 OS rR ON rR (gL (ac x.key) OQ rR (gV (yZ OM rR) (gV (yS (r:=((x.key.length % 256:Nat):Int)) OL OU rR (gn _)) (gF 1 OS rR ON rR (gL (ac x.val) OQ rR (gV (yZ OM rR) (gV (yS (r:=((x.val.length % 256:Nat):Int)) OL OU rR (gn _)) (gF 1 OS rR ON rR (gL (ac x.val) OQ rR (gV (yZ OM rR) (gV (fA (r:=((x.val.length / 256:Nat):Int)) rR rR (by decide) (kS x.val.length 256)) (gV (yS (r:=((x.val.length / 256 % 256:Nat):Int)) OL OU rR (gn _)) (gI (qj (qq ([UInt8.ofNat x.key.length,UInt8.ofNat x.val.length,UInt8.ofNat (x.val.length / 256)])) OW Pi Pu rR rR (J2 x.key.length x.val.length) (by simp[qq]) (by decide) (by decide)) ?_))))))))))))))));rintro _ _ ⟨b25,rfl,rfl⟩;refine gV (yg (l:=[UInt8.ofNat x.key.length,UInt8.ofNat x.val.length,UInt8.ofNat (x.val.length / 256)]) OW OU OM rR rR rR) (gF 0 OS rR ON rR (gL (ac x.key) OQ rR (gV (wj rR rR (by simp <;> omega)) (gF 1 OS rR ON rR (gL (ac x.val) OQ rR (gV (wj rR rR (by simp <;> omega)) (gI (uC call250 rR (J6 O p sB X (yG (rows.take k)) (iH x) Z (by have:=h k;have:=sU (hok x (R5 hx));omega))) ?_)))))));rintro _ _ ⟨V,R,rfl,rfl⟩;rw[<-Cz hx];refine qc (qD (qo (gV (yr (r:=((k+1:Nat):Int)) rfl rfl (by rw[show (k:Int)+1=((k+1:Nat):Int) by omega];exact ao (by omega))) (gM rfl (qc ?_)))));refine qk (k+1,some ⟨O,0,none⟩,V,R) ⟨by simp only[];omega, .inr rfl, .inl ?_⟩ (by simp only[];omega) [3,6,7,8] rfl rfl;simp only[];rw[Cz hx];intro e;have:=Rd List.length e;rw[Sx,Uh] at this;omega
 ·simp at Y;obtain rfl:k=rows.length:=(by omega);rw[S7] at J ⊢;refine qw rR ?_;refine gS (gR (vC call251 rR (J7 O p sB X (yG rows) J (by have:=h rows.length;rw[S7] at this;omega))) (gQ rR ?_));refine ql rR rR ?_;exact rfl
def J9 (rows:List ChangeM)(hl:rows.length<=400)(hs:srt rows)(hok:∀r∈rows,eJ r)(F:List aa):Ct Tryz.prog 115 [ac (yG rows)] (F) (λv L'=>∃s cap,v= .tuple #[sl s rows.length cap,Bo true]/\L'=roL 3 s (ah rows)::F):=by
 refine Ct.of func115 rR 64 ntmps115 (by simp) λw0=>?_;have hlen:∀k,(yG (rows.drop k)).length<=59*400:=λk=>by
  have:=lK (l:=rows.drop k) λr hr=>hok r (SB hr);rw[Ul] at this;omega
 refine A7 3 (ah (rows.take 0)) rR ?_;refine gS (gA rR (gQ rR (gS (gQ rR (qb (qg ?_))))));refine qC (α:=Nat×Option Addr×Nat) (λz=>z.1<=rows.length) (λz=>U [(0,ac (yG (rows.drop z.1))),(4,sl z.2.1 (rows.take z.1).length z.2.2)]) (λz=>roL 3 z.2.1 (ah (rows.take z.1))::F) (λz=>rows.length - z.1) (0,none,0) (by simp) [0,4] rfl rR ?_;rintro ⟨k,sA,cA⟩ hk;simp only[] at hk ⊢;refine qb (gS (gM rR (gV (iu rR rR) (qc ?_))));refine qd rfl ?_ ?_ <;> intro Y
 ·simp at Y;have hkn:k<rows.length:=by
   rcases Rq k rows.length with h | h
   ·exact h
   ·rw[List.drop_eq_nil_of_le h] at Y;exact absurd rfl Y
  obtain ⟨x,hx⟩:∃x,rows[k]? =some x:=⟨_,S6 hkn⟩;have X:=hok x (R5 hx);obtain ⟨hk0,hg1,hxk,hxv⟩:=mL X.1;have hc0:=X.1;have R:=X.2;have hd:=CA hx;have hdl:=hlen k;obtain ⟨D,V,hx0e⟩:∃y:UInt8,y.toNat=x.key.length/\UInt8.ofNat x.key.length=y:=⟨_,ol (by omega),rfl⟩;obtain ⟨J,hx1,hx1e⟩:∃y:UInt8,y.toNat=x.val.length/\UInt8.ofNat x.val.length=y:=⟨_,ol (by omega),rfl⟩;obtain ⟨O,hx2,hx2e⟩:∃y:UInt8,y.toNat=0/\UInt8.ofNat (x.val.length / 256)=y:=⟨_,by rw[show x.val.length / 256=0 by omega];rfl,rfl⟩;rw[show iH x++yG (rows.drop (k+1))=(D::J::O::(x.key++(x.val++yG (rows.drop (k+1))))) by unfold iH;rw[hx0e,hx1e,hx2e];simp] at hd;rw[hd] at hdl Y ⊢;simp only[RX,Sx] at hdl;have S:(D::J::O::(x.key++(x.val++yG (rows.drop (k+1))))).drop (D.toNat+3+J.toNat)=yG (rows.drop (k+1)):=by
   rw[V,hx1,show x.key.length+3+x.val.length=(x.key.length+x.val.length)+3 by omega];simp only[T8];rw[show x.key.length+x.val.length=(x.key++x.val).length by simp,<-Sr,Ua]
  have hkey:((D::J::O::(x.key++(x.val++yG (rows.drop (k+1))))).take (D.toNat+3)).drop 3=x.key:=by
   rw[V];simp only[T7,T8,SX];rw[T9]
  have hval:((D::J::O::(x.key++(x.val++yG (rows.drop (k+1))))).take (D.toNat+3+J.toNat)).drop (D.toNat+3)=x.val:=by
   rw[V,hx1,show x.key.length+3+x.val.length=(x.key.length+x.val.length)+3 by omega];simp only[T7,T8];rw[show x.key.length+x.val.length=(x.key++x.val).length by simp,<-Sr,T9,Ua]
  have hbld:∀w,(Instr.build 174 #[(0,ac (((D::J::O::(x.key++(x.val++yG (rows.drop (k+1))))).take (D.toNat+3)).drop 3)),(1,ac (((D::J::O::(x.key++(x.val++yG (rows.drop (k+1))))).take (D.toNat+3+J.toNat)).drop (D.toNat+3)))]).run Tryz.prog w= .ok (.agg (ym x).toArray) w:=λw=>by
   rw[hkey,hval,oL x.key x.val w];obtain ⟨xk,xv,xg⟩:=x;simp only at R;subst R
   rfl
  refine qf (qg (qb (qb (gG [(0,false),(1,false),(2,false),(3,false),(4,false),(5,false),(6,false),(7,false),(8,false),(9,false),(10,false),(11,false),(12,false),(13,false),(14,false),(15,false),(16,false),(17,false),(18,false),(19,false),(20,false)] (dM rR rR rR (dV rR (yZ OM rR) (dV rR (qH rR rR) (dM rR rR rR (qz rR rR rR (S5 (by simp only[RX];omega)) (qn rR) rR (qz rR rR rR (S5 (by simp only[RX];omega)) (yo (r:=D) 0 OM rR rR rR rR) rR (qz rR rR rR (S5 (by simp only[RX];omega)) (yS (r:=((D.toNat:Nat):Int)) OU OL rR (ao (by omega))) rR (qz rR rR rR (S5 (by simp only[RX];omega)) (yr rR rR (ao (by omega))) rR (qz rR rR rR (S5 (by simp only[RX];omega)) (qn rR) rR (qz rR rR rR (S5 (by simp only[RX];omega)) (yo (r:=J) 1 OM rR rR rR rR) rR (qz rR rR rR (S5 (by simp only[RX];omega)) (yS (r:=((J.toNat:Nat):Int)) OU OL rR (ao (by omega))) rR (qz rR rR rR (S5 (by simp only[RX];omega)) (yr rR rR (ao (by omega))) rR (qz rR rR rR (S5 (by simp only[RX];omega)) (qn rR) rR (qz rR rR rR (S5 (by simp only[RX];omega)) (yo (r:=O) 2 OM rR rR rR rR) rR (qz rR rR rR (S5 (by simp only[RX];omega)) (yS (r:=((O.toNat:Nat):Int)) OU OL rR (ao (by omega))) rR (qz rR rR rR (S5 (by simp only[RX];omega)) (ey rR rR (ao (by omega))) rR (qz rR rR rR (S5 (by simp only[RX];omega)) (yr rR rR (ao (by omega))) rR (qz rR rR rR (S5 (by simp only[RX];omega)) (qn rR) rR (qz rR rR rR (S5 (by simp only[RX];omega)) (yZ OM rR) rR (qz rR rR rR (S5 (by simp only[RX];omega)) (qX rR rR) rR (dV rR (aD rR rR) ?_)))))))))))))))))))))))));refine qI ?_;refine qd rfl ?_ ?_ <;> intro h30
  ·exfalso;simp at h30;omega
  ·refine qf (gS (gM rR (gV (yo (r:=D) 0 OM rR rR rR rR) (gV (yS (r:=((D.toNat:Nat):Int)) OU OL rR (ao (by omega))) (gP rR rR (by omega) (gQ rR (qb ?_)))))));refine eT jE (by kernel_rfl) (by kernel_rfl) rR (by kernel_rfl) ?_;refine dM rR rR rR (dM rR rR rR (dV rR (yo (r:=J) 1 OM rR rR rR rR) (dV rR (yS (r:=((J.toNat:Nat):Int)) OU OL rR (ao (by omega))) (dV rR (yr rR rR (ao (by omega))) (dM rR rR rR (dV rR (yo (r:=O) 2 OM rR rR rR rR) (dV rR (yS (r:=((O.toNat:Nat):Int)) OU OL rR (ao (by omega))) (dV rR (ey rR rR (ao (by omega))) (dV rR (yr rR rR (ao (by omega))) (dV rR (qt rR) ?_))))))))));refine qI ?_;refine qb ?_;refine eT jP (by kernel_rfl) (by kernel_rfl) rR (by kernel_rfl) ?_;refine dM rR rR rR (dM rR rR rR (dV rR (ix (l:=3) (h:=D.toNat+3) OM rR rR rR rR (by omega) (by omega) (by simp;omega)) (dM rR rR rR (dM rR rR rR (dM rR rR rR (dV rR (ix (l:=D.toNat+3) (h:=D.toNat+3+J.toNat) OM rR rR (by omega) rR (by omega) (by omega) (by simp;omega)) (dV rR (qF rR hbld) (av rR (qA #[ac [],ac [],Bo false] OR) rR ?_))))))));rintro _ _ ⟨b7,rfl,rfl⟩;refine fl rR (qp (cs:=#[ac [],ac [],Bo false]) (vs:=ym x) (ym x).toArray OJ rR rR rR rR (by decide) (qV rR)) ?_;rintro _ _ rfl;refine qI ?_;refine qb (gS (gV (qJ (vs:=ym x) O4 OJ rR rR qQ) (gR (vA call178 rR (oh x)) ?_)));rw[hc0];refine gV (yP OT rR) (qc ?_);refine qd rfl ?_ ?_ <;> intro h55
   ·simp at h55
   ·refine qf (gS (gM rR (gV (qJ (vs:=ym x) O4 OJ rR rR qQ) (gI (qj [ym x] OK OJ OR rR rR rR (by simp[ym]) (by decide) (by decide)) ?_))));rintro _ _ ⟨Z,rfl,rfl⟩;refine yv (T:=174) (cap:=1) (some ⟨Z,0,none⟩) ?_;rw[show [ym x]=ah [x] from rfl];refine gI (uC call117 rR (vZ (rows.take k) [x] sA (some ⟨Z,0,none⟩) cA 1 (Cu hs k) (by rw[Sv];omega) (by simp))) ?_;rintro _ _ ⟨s59,c59,rfl,rfl⟩;rw[J4 hs hx R];refine yv (T:=174) (cap:=c59) s59 ?_;refine gQ rR (qo (gM rR (gM rR (gV (rW (l:=D.toNat+3+J.toNat) OM rR rR (by omega) (by simp;omega)) (gQ rR (qD ?_))))));rw[show (D::J::O::(x.key++(x.val++yG (rows.drop (k+1))))).drop (D.toNat+3+J.toNat)=yG (rows.drop (k+1)) from S];exact qk (k+1,s59,c59) (by simp only[];omega) (by simp only[];omega) [0,4] rfl rfl
 ·simp at Y;obtain rfl:k=rows.length:=by
   rcases Rq k rows.length with h | h
   ·exfalso;obtain ⟨x,hx⟩:∃x,rows[k]? =some x:=⟨_,S6 h⟩;have:=CA hx;rw[Y] at this;have h2:=sU (hok x (R5 hx));have h3:=Rd List.length this;rw[Sx,Uh] at h3;omega
   ·omega
  rw[S7];refine qw rR ?_;refine gS (gM rR (gA rR (gQ rR ?_)));exact qh (roL 3 sA (ah rows)::F) rfl ⟨sA,cA,rfl,rfl⟩
end Go.Proofs.YthdjckbjjfiopabGreatDoor
namespace Go.Proofs.YthdjckbjjfiopabGreatDoor
open Go.Sl Go.Proofs
def cE (D:DiskM):Prop:=(∀x∈D.kept,x.length=80)/\(∀x∈D.now,x.length=80)/\∀t∈D.wait,t.2.length=80
def Ka {L:List ab}{n:Nat}{s:ab}(h:∀x∈L,x.length=80)(J:s.length=80):∀x∈L.set n s,x.length=80:=λx hx=>by
 rcases Sf hx with D | D
 ·exact h x D
 ·rw[D];exact J
def sX {D:DiskM}(h:cE D):cE (wy D):=⟨by rw[wq];exact h.1,by rw[wV];exact h.2.1,by rw[wM];exact h.2.2⟩
def Kb {N:Nat}{D:DiskM}{x:bq}(h:cE D)(O:ed N x):cE (fE D x):=by
 cases x with
 | none=>
  show cE (yJ D);unfold yJ;split
  ·have:=sX h;exact ⟨this.2.1,this.2.1,λt J=>by cases J⟩
  ·exact sX h
 | some y=>
  show cE (yH D y.1 y.2);unfold yH;split
  ·exact h
  ·split
   ·have:=sX h;refine ⟨this.1,Ka this.2.1 (vK O.2),λt J=>?_⟩;simp only[wP,Sc,Ub] at J;rcases J with J | rfl
    ·exact this.2.2 t J
    ·exact vK O.2
   ·exact sX h
def lM {N:Nat}:∀(l:List bq) (D:DiskM),cE D->(∀x∈l,ed N x)->cE (wA D l).2
 | [],D,h,_=>h
 | x::l,D,h,R=>by
  have O:=Kb h (R x (TQ ..));by_cases J:fq D x=0
  ·rw[hZ J];exact lM l _ O (λy S=>R y (Th _ S))
  ·rw[iE J];exact O
def CB {from_ many first used N:Nat}{c:List ChangeM}{D:DiskM}(h:cE D)(J:from_+many<=N):cE (ce from_ many first used c D):=by
 unfold ce;split
 ·rename_i O;exact lM _ _ h (sO J O)
 ·exact h
def CC (side:Nat)(t:ab):∀(f k:Nat),bu side t k (f+1)=bu side t k f++ [some (2+side*60+(k+f),bC t (k+f))]
 | 0,k=>rfl
 | f+1,k=>by
  rw[bu,CC side t f (k+1),bu,SM,show k+1+f=k+(f+1) by omega]
def CD (side:Nat)(t:ab):∀(f g k:Nat),bu side t k (f+g)=bu side t k f++bu side t (k+f) g
 | 0,g,k=>by rw[Sa];rfl
 | f+1,g,k=>by
  rw[show f+1+g=(f+g)+1 by omega,bu,CD side t f g (k+1),bu,SM,show k+1+f=k+(f+1) by omega]
def sY {t:ab}{k:Nat}:(bC t k).length=Nat.min 80 (t.length - 80*k):=by unfold bC;simp[Sv,Ul]
def chunks_lt {t:ab}{k:Nat}:k<yq t ↔ 80*k<t.length:=by unfold yq;omega
def CE {side N:Nat}{t:ab}(D:2+side*60+yq t<=N):∀(f k:Nat),k+f<=yq t->∀x∈bu side t k f,ed N x
 | 0,k,_,x,h=>by simp[bu] at h
 | f+1,k,J,x,h=>by
  rw[bu] at h;rcases RR.1 h with rfl | h
  ·exact ⟨by simp only;omega,Cv t k⟩
  ·exact CE D f (k+1) (by omega) x h
def CF {h:HdM}{t:ab}{N:Nat}(D:2+h.side*60+yq t<=N):∀x∈cW h t,ed N x:=by
 intro x hx;unfold cW at hx;simp only[Sc,RR,Uf,or_false] at hx;rcases hx with hx | rfl | rfl | rfl
 ·exact CE D _ 0 (by omega) x hx
 ·trivial
 ·exact ⟨by simp only;omega,by rw[w9];decide⟩
 ·trivial
def j7 {l:List bq}{x:bq}{D D1:DiskM}(h:wA D l=(0,D1)):wA D (l++ [x])=(fq D1 x,fE D1 x):=by
 rw[lE,h];simp only[if_true];by_cases J:fq D1 x=0
 ·rw[hZ J,mO,J]
 ·rw[iE J]
def j8 {l r:List bq}{D D1:DiskM}{e:Int}(h:wA D l=(e,D1))(J:e≠0):wA D (l++r)=(e,D1):=by
 rw[lE,h];simp only;rw[RJ J]
def CG {l r:List bq}{D D1:DiskM}(h:wA D l=(0,D1)):wA D (l++r)=wA D1 r:=by rw[lE,h];rfl
def CH:∀(l:List bq) (D:DiskM),(∀x∈l,ed D.now.length x)->(wA D l).1=0\/(wA D l).1=9
 | [],D,_=> .inl rfl
 | x::l,D,h=>by
  have hx:=h x (TQ ..);have O:fq D x=0\/fq D x=9:=by
   cases x with
   | none=>exact kO D
   | some y=>
    show wc D y.1 y.2=0\/wc D y.1 y.2=9;unfold wc;rw[RJ (by unfold d8;have V:=hx.1;have X:=hx.2;omega)];exact kO D
  rcases O with J | J
  ·rw[hZ J];refine CH l _ λy S=>?_;have:=h y (Th _ S);have R:(fE D x).now.length=D.now.length:=by
    cases x with
    | none=>
     show (yJ D).now.length=_;unfold yJ;split <;> simp[iD,wV]
    | some z=>
     show (yH D z.1 z.2).now.length=_;unfold yH;split
     ·rfl
     ·split <;> simp[wP,wV]
   rw[R];exact this
  ·rw[iE (by rw[J];decide)];exact .inr J
def cJ:Nat->List bq
 | 0=>[some (0,[])]
 | k+1=>cJ k++ [some (122+k,[])]
def hd1:HdM:=⟨1,0,0,1⟩
def sZ:List bq:=[none,some (1,wx hd1),none]
def eh (N:Nat):List bq:=cJ (N - 122)++sZ
def CI:∀(g k:Nat),∃r,cJ (k+g)=cJ k++r
 | 0,k=>⟨[],by simp⟩
 | g+1,k=>by
  obtain ⟨r,h⟩:=CI g k;exact ⟨r++ [some (122+(k+g),[])],by rw[show k+(g+1)=(k+g)+1 by omega,cJ,h,Sr]⟩
def Kc {k m:Nat}{D X:DiskM}{e:Int}(h:wA D (cJ k)=(e,X))(J:k=m\/e≠0)(R:k<=m):wA D (cJ m)=(e,X):=by
 rcases J with rfl | J
 ·exact h
 ·obtain ⟨r,O⟩:=CI (m - k) k;rw[show m=k+(m - k) by omega,O];exact j8 h J
def oM:∀k,(cJ k).length=k+1
 | 0=>rfl
 | k+1=>by rw[cJ,Sx,oM k];rfl
def Ke (D:DiskM)(h:HdM)(rows:List ChangeM)(many used:Nat)(e:Int)(D1:DiskM)(h1:HdM)(used1:Nat):Prop:=
 wA D (cW (aq h rows many) (yG rows))=(e,D1)/\((e≠0/\h1=h/\used1=used)\/(e=0/\h1=aq h rows many/\used1<=many/\∃ds,wu (h.first+many) (eI D1 122) many 0 [] [] 0=(ds,used1)))
def lN (D:DiskM)(h:HdM)(rows:List ChangeM)(many used:Nat)(c:List ChangeM)(e:Int)(D1:DiskM)(h1:HdM)(used1:Nat):Prop:=
 (many - used<c.length+1/\Ke D h rows many used e D1 h1 used1)\/(¬many - used<c.length+1/\e=0/\D1=D/\h1=h/\used1=used)
def kW (D:DiskM)(h:HdM)(rows:List ChangeM)(many used:Nat)(c:List ChangeM)(e:Int)(D2:DiskM)(h2:HdM)(used2:Nat)(rows2:List ChangeM):Prop:=
 (dm many rows c≠0/\e=dm many rows c/\D2=D/\h2=h/\used2=used/\rows2=rows)\/
 (dm many rows c=0/\∃e1 D1 h1 used1,lN D h rows many used c e1 D1 h1 used1/\((e1≠0/\e=e1/\D2=D1/\h2=h1/\used2=used1/\rows2=rows)\/
  (e1=0/\e=dN 122 many h1.first used1 c D1/\D2=ce 122 many h1.first used1 c D1/\h2=h1/\used2=dB 122 many h1.first used1 c D1/\rows2=if e=0 then wS rows c else rows)))
def CJ (h:HdM)(t:ab):(cW h t).length=yq t+3:=by simp[cW,sV]
def lO {rows:List ChangeM}(D:rows.length<=80)(h:∀r∈rows,eJ r):yq (yG rows)<=60:=by
 have:=lK h;unfold yq;omega
def oN {h:HdM}{rows:List ChangeM}{N:Nat}(D:rows.length<=80)(J:∀r∈rows,eJ r)(O:196<=N):∀x∈cW (aq h rows (N - 122)) (yG rows),ed N x:=by
 have:=lO D J;exact CF (by show 2+(1 - h.side)*60+yq (yG rows)<=N;omega)
def xb {D:DiskM}{h:HdM}{rows:List ChangeM}{N used i:Nat}{c:List ChangeM}{e:Int}{D1:DiskM}{R:HdM}{J:Nat}(hm:lN D h rows (N - 122) used c e D1 R J)(hok:bB N i D)(Y:cE D)(Z:rows.length<=80)(hr:∀r∈rows,eJ r)(hN:196<=N)(hu:used<=N - 122):
  bB N (i+63) D1/\cE D1/\J<=N - 122/\R.first<=h.first+N/\R.ep<=h.ep+1/\(h.side<=1->R.side<=1)/\h.first<=R.first:=by
 rcases hm with ⟨_,O,hc⟩ | ⟨_,_,rfl,rfl,rfl⟩
 ·have S:=gm (cW (aq h rows (N - 122)) (yG rows)) i D hok;rw[O,CJ] at S;have V:=lM _ D Y (oN (h:=h) Z hr hN);rw[O] at V;have:=lO Z hr;refine ⟨ft S (by omega),V,?_⟩;rcases hc with ⟨_,rfl,rfl⟩ | ⟨_,rfl,X,_⟩
  ·exact ⟨hu,by omega,by omega,id,Ra _⟩
  ·exact ⟨X,by simp only[aq];omega,by simp only[aq];omega,λ_=>by simp only[aq];omega,by simp only[aq];omega⟩
 ·exact ⟨ft hok (by omega),Y,hu,by omega,by omega,id,Ra _⟩
open _root_.Go.Proofs.Tryz
open Go Go.Sl Go.Proofs
abbrev s9 (b:Nat)(t:ab)(k:Nat):Value:=sl (some ⟨b,80*k,none⟩) (bC t k).length (bC t k).length
def j9 (b2 b3 b cap:Nat)(t:ab):List aa:=[pt b2 (.cells #[sl (some ⟨b,0,none⟩) t.length cap] 268 (0,0)),pt b3 (.cells #[I 80] 3 (0,0)),roL 1 (some ⟨b,0,none⟩) (qq t)]
def Kf {t:ab}{k:Nat}:(if (((t.length - 80*k:Nat):Nat):Int)<80 then ((t.length - 80*k:Nat):Int) else 80)=(((bC t k).length:Nat):Int):=by
 rw[sY];by_cases h:t.length - 80*k<80
 ·rw[RI (by omega),show Nat.min 80 (t.length - 80*k)=t.length - 80*k from Nat.min_eq_right (by omega)]
 ·rw[RJ (by omega),show Nat.min 80 (t.length - 80*k)=80 from Sw (by omega)];rfl
def Kg {t:ab}{k b:Nat}(J:80*k<t.length):sl (if 80*k+(bC t k).length=80*k then (some ⟨b,0,none⟩:Option Addr) else (some ⟨b,0,none⟩:Option Addr).map (·.add (80*k*1))) (80*k+(bC t k).length - 80*k) (80*k+(bC t k).length - 80*k)=s9 b t k:=by
 have D:(bC t k).length≠0:=by
  rw[sY];have h:1<=Nat.min 80 (t.length - 80*k):=Nat.le_min.2 ⟨by decide,by omega⟩;omega
 rw[RJ (by omega),Sb,Option.map_some,ez,Sa,TP]
def Kh (s:Option Addr)(n cap:Nat)(F:List aa):Ct Tryz.prog 201 [sl s n cap,I 80] (F) (λv L'=>∃h D,v= .func (.func 252) #[] #[ptr h 0,ptr D 0]/\L'=pt h (.cells #[sl s n cap] 268 (0,0))::pt D (.cells #[I 80] 3 (0,0))::F):=by
 refine Ct.of func201 rR 9 ntmps201 (by simp) λw0=>?_;refine gS (gI (wR #[sl s n cap] rfl rR) ?_);rintro _ _ ⟨h,rfl,rfl⟩;refine gI (wR #[I 80] rfl rR) ?_;rintro _ _ ⟨D,rfl,rfl⟩;refine gQ rR (qb (gS (gL (I 80) OI rR (gV (qH rR rR) (qc ?_)))));refine qd rfl ?_ ?_ <;> intro J
 ·simp at J
 ·refine qf (gS (gV (ju rR rR) (gQ rR ?_)));exact qh (pt h (.cells #[sl s n cap] 268 (0,0))::pt D (.cells #[I 80] 3 (0,0))::F) rfl ⟨h,D,rfl,rfl⟩
def Ki (D J b cap l:Nat)(t:ab)(w0:World)(A:Nat->List aa)(B:List aa)(Z:t.length<=cap)(hlen:t.length<=1000000)
  (hr:∀k,k<yq t->vm Tryz.prog l (s9 b t k) w0 (j9 D J b cap t++A k) (j9 D J b cap t++A (k+1)) (j9 D J b cap t++B)):
  ∀w,Sat w0 w (j9 D J b cap t++A 0)->Calls Tryz.prog 252 (.func (.yield l) #[] #[]:: [ptr D 0,ptr J 0]).toArray w λe w'=>match e with
   | .returned _=>Sat w0 w' (j9 D J b cap t++A (yq t))\/Sat w0 w' (j9 D J b cap t++B)
   | _=>False:=λw hw=>by
 refine Calls.mono (IK func252 rR 31 ntmps252 (by simp) (L:=pt D (.cells #[sl (some ⟨b,0,none⟩) t.length cap] 268 (0,0))::pt J (.cells #[I 80] 3 (0,0))::roL 1 (some ⟨b,0,none⟩) (qq t)::A 0) (R:=λv L'=>L'=j9 D J b cap t++A (yq t)\/L'=j9 D J b cap t++B) ?_ w hw) λe w' X=>?_;rotate_left
 ·cases e with
  | returned v=>
    obtain ⟨L',S,V | V⟩:=X <;> subst V
    ·exact .inl S
    ·exact .inr S
  | panicked ch=>exact X
  | outgrown=>exact X
 refine gS (gQ rR (qg ?_));refine qC (α:=Nat) (λk=>k<=yq t) (λk=>U [(0, .func (.yield l) #[] #[]),(1,ptr D 0),(2,ptr J 0),(4,I ((80*k:Nat):Int))]) (λk=>pt D (.cells #[sl (some ⟨b,0,none⟩) t.length cap] 268 (0,0))::pt J (.cells #[I 80] 3 (0,0))::roL 1 (some ⟨b,0,none⟩) (qq t)::A k) (λk=>yq t - k) 0 (UD _) [0,1,2,4] rfl rR ?_;intro k hk;refine qb (gS (gM rR (gL (sl (some ⟨b,0,none⟩) t.length cap) QB rR (gV (qY OW rR) (gV (qH rR rR) (qc ?_))))));refine qd rfl ?_ ?_ <;> intro Y
 ·simp at Y;have O:80*k<t.length:=(by omega);have hcl:=sY (t:=t) (k:=k);have hcl1:(bC t k).length<=80/\80*k+(bC t k).length<=t.length:=by
   have S:Nat.min 80 (t.length - 80*k)<=80:=Sz ..;have V:Nat.min 80 (t.length - 80*k)<=t.length - 80*k:=SA ..;omega
  refine qf (qb (qg (qb ?_)));refine eT jQ (by kernel_rfl) (by kernel_rfl) rR (by kernel_rfl) ?_;refine dL rR (I 80) OI rR (dL rR (sl (some ⟨b,0,none⟩) t.length cap) QB rR (dM rR rR rR (dV rR (fN (l:=80*k) OW Pi rR rR rR (by omega)) (dV rR (qY OW rR) (dV rR (nM rR rR) (dV rR (qt rR) ?_))))));refine qI ?_;rw[Kf];refine qb ?_;refine II ?_;refine hG (qn rR) rR ?_;refine hG (qu (v:=sl (some ⟨b,0,none⟩) t.length cap) QB rR rR) rR ?_;refine hG (qn rR) rR ?_;refine hG (qn rR) rR ?_;refine hG (qn rR) rR ?_;refine hG (yr (r:=((80*k+(bC t k).length:Nat):Int)) rfl rfl (by rw[show ((80*k:Nat):Int)+(((bC t k).length:Nat):Int)=((80*k+(bC t k).length:Nat):Int) by omega];exact ao (by omega))) rfl ?_;refine hG (qn rR) rR ?_;refine hG (qn rR) rR ?_;refine hG (yr (r:=((80*k+(bC t k).length:Nat):Int)) rfl rfl (by rw[show ((80*k:Nat):Int)+(((bC t k).length:Nat):Int)=((80*k+(bC t k).length:Nat):Int) by omega];exact ao (by omega))) rfl ?_;refine hG (Bj (l:=80*k) (h:=80*k+(bC t k).length) (q:=80*k+(bC t k).length) OW Pi rR rR rR rR rR rR rR (by omega) (by omega) (by omega)) rR ?_;rw[Kg O];refine IJ (l:=l) (v:=s9 b t k) rR rR (hr k (chunks_lt.2 O)) rR ?_ ?_;rotate_left
  ·refine hG (wb rR) rR ?_;refine BK ?_;refine wZ rR ?_;exact qh (j9 D J b cap t++B) rfl (.inr rfl)
  show G _ _ _ (pt D (.cells #[sl (some ⟨b,0,none⟩) t.length cap] 268 (0,0))::pt J (.cells #[I 80] 3 (0,0))::roL 1 (some ⟨b,0,none⟩) (qq t)::A (k+1));refine hG (wb rR) rR ?_;refine BK ?_;refine wo rR ?_;refine qf (qD (qo (gM rfl (gL (I 80) OI rfl (gV (yr (r:=((80*(k+1):Nat):Int)) rfl rfl (by rw[show ((80*k:Nat):Int)+80=((80*(k+1):Nat):Int) by omega];exact ao (by omega))) (gQ rfl ?_))))));exact qk (k+1) (chunks_lt.2 O) (by have:=chunks_lt.2 O;omega) [0,1,2,4] rfl rfl
 ·simp at Y;obtain rfl:k=yq t:=by
   rcases Rq k (yq t) with h | h
   ·have:=chunks_lt.1 h;omega
   ·omega
  refine qw rR ?_;exact nD (vs:=[]) rfl (.inl rfl)
def ji (T TT b:Nat)(φ:DiskM->Prop):aa:=λm=>∃D,φ D/\al T TT b D m
section
variable {c:Cx}{E:ap}{L F:List aa}{K:List KI}{T TT b l:Nat}{Q:ay}{φ:DiskM->Prop}
def CK {w0 w:World}(h:Sat w0 w (ji T TT b φ::F)):∃D,φ D/\Sat w0 w (al T TT b D::F):=by
 have O:Sat w0 w (ll (λD=>ny (gE (φ D)) (al T TT b D))::F):=h.weak λm ⟨D,O,J⟩=>⟨D,λ_=>none,m,(λ_ _ _ h=>nomatch h),(λ_ _ h=>nomatch h),Res.sub.refl m,O,J⟩;obtain ⟨D,J⟩:=O.ex;exact ⟨D,J.star.pure_.1,J.star.pure_.2⟩
def Kj [R:Rem L (ji T TT b φ) F](h:∀D,φ D->H c l Q K E (al T TT b D::F)):H c l Q K E L:=λa w S V=>by
 obtain ⟨D,J,O⟩:=CK (R.sat V);exact h D J a w S O
def Kk [R:Rem L (ji T TT b φ) F](h:∀D,φ D->G c K E (al T TT b D::F)):G c K E L:=λa w S V=>by
 obtain ⟨D,J,O⟩:=CK (R.sat V);exact h D J a w S O
def Kl (D:DiskM)(J:φ D)[R:Rem L (al T TT b D) F](h:H c l Q K E (ji T TT b φ::F)):H c l Q K E L:=λa w O S=>h a w O ((R.sat S).weak λm V=>⟨D,J,V⟩)
def Km (D:DiskM)(J:φ D)[R:Rem L (al T TT b D) F](h:G c K E (ji T TT b φ::F)):G c K E L:=λa w O S=>h a w O ((R.sat S).weak λm V=>⟨D,J,V⟩)
end
def xc (h:HdM):(wN h).length=4:=rfl
def CL (e:Int):one (wm e)=true:=by unfold wm bg;split <;> rfl
def CM (bs J:Nat)(h:HdM)(bl:Nat)(s:Option Addr)(cap:Nat)(rows:List ChangeM)(N i used:Nat)(D:DiskM)(hok:bB N i D)(hi:i<=100000)(hS:cE D)(hN0:196<=N/\N<=260)(hh:h.ep<=1000000/\h.side<=1/\1<=h.first/\h.first<=1000000000)(hl:rows.length<=80)(hrw:∀r∈rows,eJ r)(F:List aa):Ct Tryz.prog 126 [ptr bs 0] (pt bs (.cells (bc J h bl s (rows.length) cap) 198 (0,0))::pt bl (.cells (aC J 122 (N - 122) h.first (used)) 273 (0,0))::al 179 319 J (D)::roL 3 s (ah rows)::F) (λv L'=>∃e D1,wA D (cW (aq h rows (N - 122)) (yG rows))=(e,D1)/\((e≠0/\v=wm e/\L'=pt bs (.cells (bc J h bl s (rows.length) cap) 198 (0,0))::pt bl (.cells (aC J 122 (N - 122) h.first (used)) 273 (0,0))::al 179 319 J (D1)::roL 3 s (ah rows)::F)\/(e=0/\∃bl' ds V,V<=N - 122/\wu (h.first+(N - 122)) (eI D1 122) (N - 122) 0 [] [] 0=(ds,V)/\v=wm 0/\L'=pt bs (.cells (bc J (aq h rows (N - 122)) bl' s (rows.length) cap) 198 (0,0))::pt bl' (.cells (aC J 122 (N - 122) (h.first+(N - 122)) (V)) 273 (0,0))::al 179 319 J (D1)::roL 3 s (ah rows)::F))):=by
 refine Ct.of func126 rR 113 ntmps126 (by simp) λw0=>?_;have hal:=lK hrw;have hcs:yq (yG rows)<=60:=(by unfold yq;omega);have hckl:∀x∈cW (aq h rows (N - 122)) (yG rows),ed N x:=CF (by show 2+(1 - h.side)*60+yq (yG rows)<=N;omega);refine gS (gI (wR #[ptr bs 0] rfl rR) ?_);rintro _ _ ⟨b1,rfl,rfl⟩;refine gI (nG (.nilIface) zeroValue37 rR) ?_;rintro _ _ ⟨b2,rfl,rfl⟩;refine qc (gS (gL (ptr bs 0) PW rR (gV (qa rR) (gF 6 Pq rR PF rR (gL (sl s rows.length cap) P2 rR (gR (vB call199 rR (J8 rows s cap (by omega) hrw)) (gQ rR (qb ?_))))))));refine iq (λ_:Nat=>True) (λY=>U [(1,ptr b1 0),(2,ptr b2 0),(3,ac (yG rows)),(4,ptr Y 0)]) (λY=>pt Y (.cells (wN (aq h rows (N - 122))).toArray 195 (0,0))::pt b2 (.cells #[.nilIface] 37 (0,0))::pt b1 (.cells #[ptr bs 0] 95 (0,0))::pt bs (.cells (bc J h bl s (rows.length) cap) 198 (0,0))::pt bl (.cells (aC J 122 (N - 122) h.first (used)) 273 (0,0))::al 179 319 J (D)::roL 3 s (ah rows)::F) ?_ ?_
 ·refine mF (Lf:=[pt b1 (.cells #[ptr bs 0] 95 (0,0)),pt bs (.cells (bc J h bl s (rows.length) cap) 198 (0,0))]) (.q 0 (.q 1 (.q 2 (.q 3 (.q 4 (.q 5 (.q 6 (.q 7 (.q 8 (.q 9 (.q 10 (.q 11 (.q 12 (.q 13 (.q 14 (.q 15 (.q 16 (.q 17 (.alt (.l 18 (.q 19 (.l 20 (.l 21 (.nil))))) (.l 20 (.l 18 (.q 19 (.l 21 (.nil)))))))))))))))))))))))) (by kernel_rfl) (by kernel_rfl) (by kernel_rfl) ?_;refine ar rR (qu (v:=ptr bs 0) PW rR rR) rR ?_;refine ar rR (qa rR) rR ?_;refine ar rR (qm 1 Pq rR rR OX (by decide) rR) rR ?_;refine ar rR (qm 0 Pk rR rR OH (by decide) rR) rR ?_;refine ar rR (qu (v:=I h.ep) OI rR rR) rR ?_;refine ar rfl (yr (r:=((h.ep+1:Nat):Int)) rfl rfl (by rw[show (h.ep:Int)+(1:Int)=((h.ep+1:Nat):Int) by omega];exact ao (by omega))) rfl ?_;refine ar rR (qu (v:=ptr bs 0) PW rR rR) rR ?_;refine ar rR (qa rR) rR ?_;refine ar rR (qm 1 Pq rR rR OX (by decide) rR) rR ?_;refine ar rR (qm 1 Pk rR rR OH (by decide) rR) rR ?_;refine ar rR (qu (v:=I h.side) OI rR rR) rR ?_;refine ar rfl (cZ (r:=((1 - h.side:Nat):Int)) rfl rfl (by rw[show (1:Int) - (h.side:Int)=((1 - h.side:Nat):Int) by omega];exact ao (by omega))) rfl ?_;refine ar rR (qn rR) rR ?_;refine ar rR (yZ OM rR) rR ?_;refine ar rR (qu (v:=ptr bs 0) PW rR rR) rR ?_;refine ar rR (qa rR) rR ?_;refine ar rR (qm 5 Pq rR rR Qi (by decide) rR) rR ?_;refine ar rR (qu (v:=ptr bl 0) P4 rR rR) rR ?_;refine gh ?_ ?_
  ·refine be rfl (uB call200 rfl (Ci bl J 122 (N - 122) h.first used ⟨by omega,by omega⟩)) rfl ?_;rintro _ _ ⟨rfl,rfl⟩;refine ar rR (qF rR (wE _ rR _ rR _ rR _ rR)) rR ?_;refine be rR (qA #[I 0,I 0,I 0,I 0] P7) rR ?_;rintro _ _ ⟨Y,rfl,rfl⟩;refine lA rR (qp (cs:=#[I 0,I 0,I 0,I 0]) (vs:=wN (aq h rows (N - 122))) (wN (aq h rows (N - 122))).toArray OX rR rR rR rR (by decide) (qV (xc _))) ?_;rintro _ _ rfl;refine eE ?_;exact cT Y trivial [1,2,3,4] rfl rfl
  ·refine be rR (qA #[I 0,I 0,I 0,I 0] P7) rR ?_;rintro _ _ ⟨Y,rfl,rfl⟩;refine be rfl (uB call200 rfl (Ci bl J 122 (N - 122) h.first used ⟨by omega,by omega⟩)) rfl ?_;rintro _ _ ⟨rfl,rfl⟩;refine ar rR (qF rR (wE _ rR _ rR _ rR _ rR)) rR ?_;refine lA rR (qp (cs:=#[I 0,I 0,I 0,I 0]) (vs:=wN (aq h rows (N - 122))) (wN (aq h rows (N - 122))).toArray OX rR rR rR rR (by decide) (qV (xc _))) ?_;rintro _ _ rfl;refine eE ?_;exact cT Y trivial [1,2,3,4] rfl rfl
 intro Y _;refine gS (gI (nG (I 0) Pe rR) ?_);rintro _ _ ⟨b5,rfl,rfl⟩;refine gU (qG #[I ((0:Nat):Int)] OH rR rR rR (by decide) rR) (qc (qb (gS (gM rR (gI (Ir OM OW OU rR) ?_)))));rintro _ _ ⟨S,c37,rfl,hc37,rfl⟩;refine gI (uA call201 rR (Kh (some ⟨S,0,none⟩) (yG rows).length c37)) ?_;rintro _ _ ⟨Z,d38,rfl,rfl⟩;refine qc (qg ?_);obtain ⟨eN,DN,hN⟩:∃e X,wA D (bu (1 - h.side) (yG rows) 0 ((yq (yG rows))))=(e,X):=⟨_,_,rfl⟩;refine Km (T:=179) (TT:=319) (b:=J) (φ:=λX=>wA D (bu (1 - h.side) (yG rows) 0 (0))=(0,X)) D rR ?_;refine dK (L2:=pt Z (.cells #[sl (some ⟨S,0,none⟩) (yG rows).length c37] 268 (0,0))::pt d38 (.cells #[I 80] 3 (0,0))::roL 1 (some ⟨S,0,none⟩) (qq (yG rows))::ji 179 319 J (λX=>wA D (bu (1 - h.side) (yG rows) 0 (0))=(0,X))::pt b5 (.cells #[I ((0:Nat):Int)] 3 (0,0))::pt b2 (.cells #[.nilIface] 37 (0,0))::pt b1 (.cells #[ptr bs 0] 95 (0,0))::pt Y (.cells (wN (aq h rows (N - 122))).toArray 195 (0,0))::pt bs (.cells (bc J h bl s (rows.length) cap) 198 (0,0))::pt bl (.cells (aC J 122 (N - 122) h.first (used)) 273 (0,0))::roL 3 s (ah rows)::F) ?_;refine IL (Pre:=[pt Z (.cells #[sl (some ⟨S,0,none⟩) (yG rows).length c37] 268 (0,0)),pt d38 (.cells #[I 80] 3 (0,0)),roL 1 (some ⟨S,0,none⟩) (qq (yG rows))]) (A:=λk=>ji 179 319 J (λX=>wA D (bu (1 - h.side) (yG rows) 0 (k))=(0,X))::pt b5 (.cells #[I ((k:Nat):Int)] 3 (0,0))::pt b2 (.cells #[.nilIface] 37 (0,0))::pt b1 (.cells #[ptr bs 0] 95 (0,0))::pt Y (.cells (wN (aq h rows (N - 122))).toArray 195 (0,0))::pt bs (.cells (bc J h bl s (rows.length) cap) 198 (0,0))::pt bl (.cells (aC J 122 (N - 122) h.first (used)) 273 (0,0))::roL 3 s (ah rows)::F) (B:=gE (eN≠0)::al 179 319 J (DN)::pt b2 (.cells #[wm eN] 37 (0,0))::pt b1 (.cells #[ptr bs 0] 95 (0,0))::pt Y (.cells (wN (aq h rows (N - 122))).toArray 195 (0,0))::pt bs (.cells (bc J h bl s (rows.length) cap) 198 (0,0))::pt bl (.cells (aC J 122 (N - 122) h.first (used)) 273 (0,0))::roL 3 s (ah rows)::F) (N:=(yq (yG rows))) (v:=s9 S (yG rows)) (cap:=[ptr Z 0,ptr d38 0]) rfl rfl rfl call252 (λl A' B' hr w hw=>Ki Z d38 S c37 l (yG rows) _ A' B' hc37 (by omega) hr w hw) rfl (λl k a w hE=>vn hE rfl) ?_ ?_ ?_
 ·intro l D' O k hk;show H _ _ (ss _ (pt Z (.cells #[sl (some ⟨S,0,none⟩) (yG rows).length c37] 268 (0,0))::pt d38 (.cells #[I 80] 3 (0,0))::roL 1 (some ⟨S,0,none⟩) (qq (yG rows))::pt l O::pt D' dO::ji 179 319 J (λX=>wA D (bu (1 - h.side) (yG rows) 0 ((k+1)))=(0,X))::pt b5 (.cells #[I (((k+1):Nat):Int)] 3 (0,0))::pt b2 (.cells #[.nilIface] 37 (0,0))::pt b1 (.cells #[ptr bs 0] 95 (0,0))::pt Y (.cells (wN (aq h rows (N - 122))).toArray 195 (0,0))::pt bs (.cells (bc J h bl s (rows.length) cap) 198 (0,0))::pt bl (.cells (aC J 122 (N - 122) h.first (used)) 273 (0,0))::roL 3 s (ah rows)::F) (pt Z (.cells #[sl (some ⟨S,0,none⟩) (yG rows).length c37] 268 (0,0))::pt d38 (.cells #[I 80] 3 (0,0))::roL 1 (some ⟨S,0,none⟩) (qq (yG rows))::pt l O::pt D' dO::gE (eN≠0)::al 179 319 J (DN)::pt b2 (.cells #[wm eN] 37 (0,0))::pt b1 (.cells #[ptr bs 0] 95 (0,0))::pt Y (.cells (wN (aq h rows (N - 122))).toArray 195 (0,0))::pt bs (.cells (bc J h bl s (rows.length) cap) 198 (0,0))::pt bl (.cells (aC J 122 (N - 122) h.first (used)) 273 (0,0))::roL 3 s (ah rows)::F)) _ _ (pt Z (.cells #[sl (some ⟨S,0,none⟩) (yG rows).length c37] 268 (0,0))::pt d38 (.cells #[I 80] 3 (0,0))::roL 1 (some ⟨S,0,none⟩) (qq (yG rows))::pt l O::pt D' dO::ji 179 319 J (λX=>wA D (bu (1 - h.side) (yG rows) 0 (k))=(0,X))::pt b5 (.cells #[I ((k:Nat):Int)] 3 (0,0))::pt b2 (.cells #[.nilIface] 37 (0,0))::pt b1 (.cells #[ptr bs 0] 95 (0,0))::pt Y (.cells (wN (aq h rows (N - 122))).toArray 195 (0,0))::pt bs (.cells (bc J h bl s (rows.length) cap) 198 (0,0))::pt bl (.cells (aC J 122 (N - 122) h.first (used)) 273 (0,0))::roL 3 s (ah rows)::F);refine Kj (T:=179) (TT:=319) (b:=J) (φ:=λX=>wA D (bu (1 - h.side) (yG rows) 0 (k))=(0,X)) ?_;intro Dk hDk;have hokk:=gm (bu (1 - h.side) (yG rows) 0 (k)) i D hok;rw[hDk,sV] at hokk;simp only at hokk;have hckl1:=Cv (yG rows) k;refine IH (m:=80*k) (n:=80) (t:=(yG rows)) (b:=S) ?_;rw[show (List.drop (80*k) (yG rows)).take 80=bC (yG rows) k from rfl];refine IC ?_;refine sr ?_;refine IE (Lf:=[pt b1 (.cells #[ptr bs 0] 95 (0,0)),pt Y (.cells (wN (aq h rows (N - 122))).toArray 195 (0,0)),pt b5 (.cells #[I ((k:Nat):Int)] 3 (0,0)),pt bs (.cells (bc J h bl s (rows.length) cap) 198 (0,0)),roL 1 (some ⟨S,80*k,none⟩) (qq (bC (yG rows) k))]) [(0,false),(1,false),(2,false),(3,false),(4,false),(5,false),(6,false),(7,false),(8,false),(9,false),(10,false),(11,false),(12,true),(13,false)] (α:=Unit) (λ_=>True) (λ_=>U [(2,ptr b2 0),(5,ptr b5 0),(7,wm (wc Dk ((2+(1 - h.side)*60+k:Nat):Int) (bC (yG rows) k)))]) (λ_=>pt Z (.cells #[sl (some ⟨S,0,none⟩) (yG rows).length c37] 268 (0,0))::pt d38 (.cells #[I 80] 3 (0,0))::roL 1 (some ⟨S,0,none⟩) (qq (yG rows))::pt l O::pt D' dO::al 179 319 J ((yH Dk ((2+(1 - h.side)*60+k:Nat):Int) (bC (yG rows) k)))::pt b5 (.cells #[I ((k:Nat):Int)] 3 (0,0))::pt b2 (.cells #[.nilIface] 37 (0,0))::pt b1 (.cells #[ptr bs 0] 95 (0,0))::pt Y (.cells (wN (aq h rows (N - 122))).toArray 195 (0,0))::pt bs (.cells (bc J h bl s (rows.length) cap) 198 (0,0))::pt bl (.cells (aC J 122 (N - 122) h.first (used)) 273 (0,0))::roL 3 s (ah rows)::F) (by kernel_rfl) (by kernel_rfl) rfl (by kernel_rfl) (by kernel_rfl) ?_ ?_
  ·refine dL rfl (ptr bs 0) PW rfl (dV rfl (qa rfl) (dF rfl 0 Pq rfl PU rfl (dL rfl (ptr J 0) P1 rfl (dF rfl 1 Pk rfl OH rfl (dL rfl (I (((1 - h.side):Nat):Int)) OI rfl (dV rfl (ey (r:=(((1 - h.side)*60:Nat):Int)) rfl rfl (by rw[show ((((1 - h.side):Nat):Int):Int)*(60:Int)=(((1 - h.side)*60:Nat):Int) by omega];exact ao (by omega))) (dV rfl (yr (r:=((2+(1 - h.side)*60:Nat):Int)) rfl rfl (by rw[show (2:Int)+((((1 - h.side)*60:Nat):Int):Int)=((2+(1 - h.side)*60:Nat):Int) by omega];exact ao (by omega))) (dL rfl (I (k:Int)) OI rfl (dV rfl (yr (r:=((2+(1 - h.side)*60+k:Nat):Int)) rfl rfl (by rw[show (((2+(1 - h.side)*60:Nat):Int):Int)+(k:Int)=((2+(1 - h.side)*60+k:Nat):Int) by omega];exact ao (by omega))) (dM rfl rfl rfl (dV rfl (yg (l:=bC (yG rows) k) OW OU OM rfl rfl rfl) (av rfl (uB call175 rfl (wO J Dk ((2+(1 - h.side)*60+k:Nat):Int) (bC (yG rows) k) hokk.2.2.1 (by have:=hokk.2.2.2.2;omega))) rfl ?_))))))))))));rintro _ _ ⟨rfl,rfl⟩;refine dV rR (qt rR) ?_;refine qI ?_;exact cT () trivial [2,5,7] rfl rfl
  intro _ _;obtain ⟨e1,he1⟩:∃e,wc Dk ((2+(1 - h.side)*60+k:Nat):Int) (bC (yG rows) k)=e:=⟨_,rfl⟩;obtain ⟨D1,hD1⟩:∃X,yH Dk ((2+(1 - h.side)*60+k:Nat):Int) (bC (yG rows) k)=X:=⟨_,rfl⟩;rw[he1,hD1];have hsn:wA D (bu (1 - h.side) (yG rows) 0 (k+1))=(e1,D1):=by
   rw[CC,Sa,j7 hDk,<-he1,<-hD1]
   rfl
  refine sr ?_;refine sr ?_;refine vl (α:=Unit) (λ_=>True) (λ_=>U [(2,ptr b2 0),(5,ptr b5 0),(7,wm e1),(54,Bo (!decide (e1=0)))]) (λ_=>pt Z (.cells #[sl (some ⟨S,0,none⟩) (yG rows).length c37] 268 (0,0))::pt d38 (.cells #[I 80] 3 (0,0))::roL 1 (some ⟨S,0,none⟩) (qq (yG rows))::pt l O::pt D' dO::al 179 319 J (D1)::pt b5 (.cells #[I ((k:Nat):Int)] 3 (0,0))::pt b2 (.cells #[.nilIface] 37 (0,0))::pt b1 (.cells #[ptr bs 0] 95 (0,0))::pt Y (.cells (wN (aq h rows (N - 122))).toArray 195 (0,0))::pt bs (.cells (bc J h bl s (rows.length) cap) 198 (0,0))::pt bl (.cells (aC J 122 (N - 122) h.first (used)) 273 (0,0))::roL 3 s (ah rows)::F) (by kernel_rfl) ?_ ?_
  ·refine gM rR (gV (yP OT rR) (qc ?_));exact cT () trivial [2,5,7,54] rfl rfl
  intro _ _;refine ID rR (λh54=>?_) (λh54=>?_)
  ·have h54':e1≠0:=(by simpa using h54);have hNe:wA D (bu (1 - h.side) (yG rows) 0 ((yq (yG rows))))=(e1,D1):=by
    rw[show yq (yG rows)=(k+1)+(yq (yG rows) - (k+1)) by omega,CD];exact j8 hsn h54'
   rw[hN] at hNe;injection hNe with hq1 hq2;obtain rfl:eN=e1:=hq1;obtain rfl:DN=D1:=hq2;refine sr ?_;refine vl (α:=Unit) (λ_=>True) (λ_=>U []) (λ_=>pt Z (.cells #[sl (some ⟨S,0,none⟩) (yG rows).length c37] 268 (0,0))::pt d38 (.cells #[I 80] 3 (0,0))::roL 1 (some ⟨S,0,none⟩) (qq (yG rows))::pt l O::pt D' dO::al 179 319 J (DN)::pt b5 (.cells #[I ((k:Nat):Int)] 3 (0,0))::pt b2 (.cells #[wm eN] 37 (0,0))::pt b1 (.cells #[ptr bs 0] 95 (0,0))::pt Y (.cells (wN (aq h rows (N - 122))).toArray 195 (0,0))::pt bs (.cells (bc J h bl s (rows.length) cap) 198 (0,0))::pt bl (.cells (aC J 122 (N - 122) h.first (used)) 273 (0,0))::roL 3 s (ah rows)::F) (by kernel_rfl) ?_ ?_
   ·refine gM rR (gU (qG #[wm eN] sizeOf37 rR rR (CL _) (by simp) rR) (qc ?_));exact cT () trivial [] rfl rfl
   intro _ _;refine IF (φ:=eN≠0) h54' ?_;exact n9
  ·have h54':e1=0:=(by simpa using h54);refine IB ?_;refine vl (α:=Unit) (λ_=>True) (λ_=>U []) (λ_=>pt Z (.cells #[sl (some ⟨S,0,none⟩) (yG rows).length c37] 268 (0,0))::pt d38 (.cells #[I 80] 3 (0,0))::roL 1 (some ⟨S,0,none⟩) (qq (yG rows))::pt l O::pt D' dO::al 179 319 J (D1)::pt b5 (.cells #[I (((k+1):Nat):Int)] 3 (0,0))::pt b2 (.cells #[.nilIface] 37 (0,0))::pt b1 (.cells #[ptr bs 0] 95 (0,0))::pt Y (.cells (wN (aq h rows (N - 122))).toArray 195 (0,0))::pt bs (.cells (bc J h bl s (rows.length) cap) 198 (0,0))::pt bl (.cells (aC J 122 (N - 122) h.first (used)) 273 (0,0))::roL 3 s (ah rows)::F) (by kernel_rfl) ?_ ?_
   ·refine gL (I (k:Int)) OI rfl (gV (yr (r:=((k+1:Nat):Int)) rfl rfl (by rw[show (k:Int)+(1:Int)=((k+1:Nat):Int) by omega];exact ao (by omega))) (gU (qG #[I ((k+1:Nat):Int)] OH rfl rfl rfl (by simp) rfl) (qc ?_)));exact cT () trivial [] rfl rfl
   intro _ _;refine n7 ?_;refine Kl (T:=179) (TT:=319) (b:=J) (φ:=λX=>wA D (bu (1 - h.side) (yG rows) 0 ((k+1)))=(0,X)) D1 (by rw[hsn,h54']) ?_;exact n8
 rotate_left
 ·intro D';show G _ _ _ (pt D' dO::pt Z (.cells #[sl (some ⟨S,0,none⟩) (yG rows).length c37] 268 (0,0))::pt d38 (.cells #[I 80] 3 (0,0))::roL 1 (some ⟨S,0,none⟩) (qq (yG rows))::gE (eN≠0)::al 179 319 J (DN)::pt b2 (.cells #[wm eN] 37 (0,0))::pt b1 (.cells #[ptr bs 0] 95 (0,0))::pt Y (.cells (wN (aq h rows (N - 122))).toArray 195 (0,0))::pt bs (.cells (bc J h bl s (rows.length) cap) 198 (0,0))::pt bl (.cells (aC J 122 (N - 122) h.first (used)) 273 (0,0))::roL 3 s (ah rows)::F);refine IG (φ:=eN≠0) ?_;intro hne;exact vo (b:=b2) (o:=0) (v:=wm eN) (Lf:=pt bs (.cells (bc J h bl s (rows.length) cap) 198 (0,0))::pt bl (.cells (aC J 122 (N - 122) h.first (used)) 273 (0,0))::al 179 319 J (DN)::roL 3 s (ah rows)::F) rfl rfl rfl isAgg37 rfl ⟨eN,DN,j8 hN hne, .inl ⟨hne,rfl,rfl⟩⟩
 intro D';show G _ _ _ (pt D' dO::pt Z (.cells #[sl (some ⟨S,0,none⟩) (yG rows).length c37] 268 (0,0))::pt d38 (.cells #[I 80] 3 (0,0))::roL 1 (some ⟨S,0,none⟩) (qq (yG rows))::ji 179 319 J (λX=>wA D (bu (1 - h.side) (yG rows) 0 ((yq (yG rows))))=(0,X))::pt b5 (.cells #[I (((yq (yG rows)):Nat):Int)] 3 (0,0))::pt b2 (.cells #[.nilIface] 37 (0,0))::pt b1 (.cells #[ptr bs 0] 95 (0,0))::pt Y (.cells (wN (aq h rows (N - 122))).toArray 195 (0,0))::pt bs (.cells (bc J h bl s (rows.length) cap) 198 (0,0))::pt bl (.cells (aC J 122 (N - 122) h.first (used)) 273 (0,0))::roL 3 s (ah rows)::F);refine Kk (T:=179) (TT:=319) (b:=J) (φ:=λX=>wA D (bu (1 - h.side) (yG rows) 0 ((yq (yG rows))))=(0,X)) ?_;intro D1 hD1;rw[hN] at hD1;injection hD1 with hq1 hq2;subst hq1;obtain rfl:DN=D1:=hq2;have hokN:=gm (bu (1 - h.side) (yG rows) 0 ((yq (yG rows)))) i D hok;rw[hN,sV] at hokN;simp only at hokN;refine qD (gS (gL (ptr bs 0) PW rR (gV (qa rR) (gF 0 Pq rR PU rR (gL (ptr J 0) P1 rR (gR (vB call176 rR (mK J DN hokN.2.2.1 (by rw[hokN.1,hokN.2.1]) (by rw[hokN.2.1];omega))) (gQ rR (qb (gS (gM rR (gV (eA OT rR) (qc ?_))))))))))));refine iq (α:=Int×DiskM) (λz=>wA DN [none,some ((h.ep+1) % 2,wx (aq h rows (N - 122)))]=z) (λz=>U [(1,ptr b1 0),(2,ptr b2 0),(4,ptr Y 0),(8,wm z.1)]) (λz=>pt D' dO::al 179 319 J (z.2)::pt b2 (.cells #[.nilIface] 37 (0,0))::pt b1 (.cells #[ptr bs 0] 95 (0,0))::pt Y (.cells (wN (aq h rows (N - 122))).toArray 195 (0,0))::pt bs (.cells (bc J h bl s (rows.length) cap) 198 (0,0))::pt bl (.cells (aC J 122 (N - 122) h.first (used)) 273 (0,0))::roL 3 s (ah rows)::F) ?_ ?_
 ·refine qd rfl ?_ ?_ <;> intro h64
  ·have hs0:wv DN=0:=(by simpa using h64);have hokF:bB N (i+yq (yG rows)+1) (yJ DN):=sI hokN;refine gD (Lf:=[pt b1 (.cells #[ptr bs 0] 95 (0,0)),pt Y (.cells (wN (aq h rows (N - 122))).toArray 195 (0,0)),pt bs (.cells (bc J h bl s (rows.length) cap) 198 (0,0))]) [(0,false),(1,false),(2,false),(3,false),(4,false),(5,false),(6,false),(7,false),(8,true),(9,true),(10,false)] (dL rR (ptr bs 0) PW rR (dV rR (qa rR) (dF rR 0 Pq rR PU rR (dL rR (ptr J 0) P1 rR (dF rR 0 Pk rR OH rR (dL rR (I ((h.ep+1:Nat):Int)) OI rR (dV rR (kC (r:=(((h.ep+1) % 2:Nat):Int)) rR rR (by decide) rR) (dV rR (qJ (vs:=wN (aq h rows (N - 122))) Pp OX rR rR qQ) (av rR (uA call177 rR (Cy (aq h rows (N - 122)))) rR ?_)))))))));rintro _ _ ⟨rfl,rfl⟩;refine av rR (uB call175 rR (wO J (yJ DN) (((h.ep+1) % 2:Nat):Int) (wx (aq h rows (N - 122))) hokF.2.2.1 (by have:=hokF.2.2.2.2;omega))) rR ?_;rintro _ _ ⟨rfl,rfl⟩;refine dV rR (qt rR) ?_;refine qI ?_;exact cT (wc (yJ DN) (((h.ep+1) % 2:Nat):Int) (wx (aq h rows (N - 122))),yH (yJ DN) (((h.ep+1) % 2:Nat):Int) (wx (aq h rows (N - 122)))) (by rw[kP hs0];exact j7 (l:=[]) rfl) [1,2,4,8] rfl rfl
  ·have hs0:¬wv DN=0:=(by simpa using h64);refine qf ?_;exact cT (wv DN,yJ DN) (lD hs0) [1,2,4,8] rfl rfl
 rintro ⟨e2,D2⟩ h2;simp only at h2 ⊢;have hok2:=gm [none,some ((h.ep+1) % 2,wx (aq h rows (N - 122)))] _ DN hokN;rw[h2] at hok2;simp only[RX,Uh] at hok2;refine qb (gS (gM rR (gV (eA OT rR) (qc ?_))));refine iq (α:=Int×DiskM) (λz=>wA DN [none,some ((h.ep+1) % 2,wx (aq h rows (N - 122))),none]=z/\(z.1=0->z.2.down=false)) (λz=>U [(1,ptr b1 0),(2,ptr b2 0),(4,ptr Y 0),(8,wm z.1)]) (λz=>pt D' dO::al 179 319 J (z.2)::pt b2 (.cells #[.nilIface] 37 (0,0))::pt b1 (.cells #[ptr bs 0] 95 (0,0))::pt Y (.cells (wN (aq h rows (N - 122))).toArray 195 (0,0))::pt bs (.cells (bc J h bl s (rows.length) cap) 198 (0,0))::pt bl (.cells (aC J 122 (N - 122) h.first (used)) 273 (0,0))::roL 3 s (ah rows)::F) ?_ ?_
 ·refine qd rfl ?_ ?_ <;> intro h76
  ·have h76':e2=0:=(by simpa using h76);refine qo (gL (ptr bs 0) PW rR (gV (qa rR) (gF 0 Pq rR PU rR (gL (ptr J 0) P1 rR (gR (vB call176 rR (mK J D2 hok2.2.2.1 (by rw[hok2.1,hok2.2.1]) (by rw[hok2.2.1];omega))) (gQ rR ?_))))));exact cT (wv D2,yJ D2) ⟨j7 (l:=[none,some ((h.ep+1) % 2,wx (aq h rows (N - 122)))]) (x:=none) (by rw[h2,h76']),λh=>(mP h).1.2.2⟩ [1,2,4,8] rfl rfl
  ·have h76':¬e2=0:=(by simpa using h76);refine qf ?_;exact cT (e2,D2) ⟨j8 (l:=[none,some ((h.ep+1) % 2,wx (aq h rows (N - 122)))]) (r:=[none]) h2 h76',λh=>absurd h h76'⟩ [1,2,4,8] rfl rfl
 rintro ⟨e3,D3⟩ ⟨h3,hdn3⟩;simp only at h3 hdn3 ⊢;have hall:wA D (cW (aq h rows (N - 122)) (yG rows))=(e3,D3):=(CG hN).trans h3;have hok3:=gm (cW (aq h rows (N - 122)) (yG rows)) i D hok;rw[hall] at hok3;simp only at hok3;have hS3:=lM (cW (aq h rows (N - 122)) (yG rows)) D hS hckl;rw[hall] at hS3;simp only at hS3;refine qb (gS (gM rR (gV (yP OT rR) (qc ?_))));refine qd rfl ?_ ?_ <;> intro h83
 ·have h83':e3≠0:=(by simpa using h83);refine gS (gM rR (gU (qG #[wm e3] sizeOf37 rR rR (CL _) (by decide) rR) (qc ?_)));exact vo (b:=b2) (o:=0) (v:=wm e3) (Lf:=pt bs (.cells (bc J h bl s (rows.length) cap) 198 (0,0))::pt bl (.cells (aC J 122 (N - 122) h.first (used)) 273 (0,0))::al 179 319 J (D3)::roL 3 s (ah rows)::F) rfl rfl rfl isAgg37 rfl ⟨e3,D3,hall, .inl ⟨h83',rfl,rfl⟩⟩
 ·have h83':e3=0:=(by simpa using h83);subst h83'
  replace hdn3:=hdn3 rfl
  refine qf (qb (gD (Lf:=[pt b1 (.cells #[ptr bs 0] 95 (0,0)),pt Y (.cells (wN (aq h rows (N - 122))).toArray 195 (0,0)),pt bs (.cells (bc J h bl s (rows.length) cap) 198 (0,0))]) [(0,false),(1,false),(2,false),(3,false),(4,false),(5,false),(6,false),(7,false),(10,false),(11,false),(8,true),(9,false),(12,true),(13,false),(14,false),(15,false),(16,false),(17,false),(18,false),(19,false)] (dL rfl (ptr bs 0) PW rfl (dV rfl (qa rfl) (dF rfl 0 Pq rfl PU rfl (dL rfl (ptr J 0) P1 rfl (dL rfl (ptr bs 0) PW rfl (dV rfl (qa rfl) (dF rfl 0 Pq rfl PU rfl (dL rfl (ptr J 0) P1 rfl (dF rfl 3 Pk rfl OH rfl (dL rfl (I ((h.first+(N - 122):Nat):Int)) OI rfl (av rfl (uB (R:=λF=>R1 (I (D3.now.length:Int)) (al 179 319 J (D3)::F)) call112 rfl (wn J D3)) rfl ?_)))))))))))));rintro _ _ ⟨rfl,rfl⟩;refine dV rfl (cZ (r:=((N - 122:Nat):Int)) rfl rfl (by rw[hok3.2.1,show (N:Int) - 122=((N - 122:Nat):Int) by omega];exact ao (by omega))) (av rfl (uB call116 rfl (Cj J D3 122 ((N - 122:Nat):Int) ((h.first+(N - 122):Nat):Int) hS3.2.1 ⟨by rw[hok3.2.1];omega,by omega⟩)) rfl ?_);rintro _ _ (⟨hbad,_,_⟩ | ⟨_,hdn,_,_⟩ | ⟨_,_,bl',gl,so,co,V,rfl,hul,_,hsc,rfl⟩)
  ·exfalso;unfold iF at hbad;rw[hok3.2.1] at hbad;omega
  ·rw[hdn3] at hdn;cases hdn
  rw[show aC J ((122:Int)).toNat ((N - 122:Nat):Int).toNat ((h.first+(N - 122):Nat):Int).toNat V=aC J 122 (N - 122) (h.first+(N - 122)) V from rfl]
  replace hul:V<=N - 122:=hul
  replace hsc:wu (h.first+(N - 122)) (eI D3 122) (N - 122) 0 [] [] 0=(gl.map (·.1),V):=hsc
  refine dM rR rR rR (dV rR (qr (v:=ptr bl' 0) rR rR) (dV rR (qr (v:=sl so gl.length co) rR rR) (dV rR (qr (v:=wm 0) rR rR) (dV rR (qt rR) (dV rR (qt rR) (dV rR (qt rR) ?_))))));refine qI ?_;refine qb (gS (gM rR (gV (eA OT rR) (qc ?_))));refine wZ rR ?_;refine gD (Lf:=[pt b1 (.cells #[ptr bs 0] 95 (0,0)),pt Y (.cells (wN (aq h rows (N - 122))).toArray 195 (0,0))]) [(0,false),(1,false),(2,false),(3,false),(4,false),(5,false),(6,true),(7,false),(8,false),(9,true)] (dL rR (ptr bs 0) PW rR (dL rR (ptr bs 0) PW rR (dV rR (qJ (vs:=wN (aq h rows (N - 122))) Pp OX rR rR qQ) (dM rR rR rR (dV rR (qa rR) (dF rR 1 Pq rR OX rR (fl rR (qp (cs:=bc J h bl s rows.length cap) (vs:=wN (aq h rows (N - 122))) (bc J (aq h rows (N - 122)) bl s rows.length cap) OX rR rR rR rR (by simp) rR) ?_)))))));rintro _ _ rfl;refine dV rR (qa rR) (dF rR 5 Pq rR Qi rR (fl rR (qG (bc J (aq h rows (N - 122)) bl' s rows.length cap) Qi rR rR rR (by simp) rR) ?_));rintro _ _ rfl;refine qI ?_;refine gS (gM rR (gU (qG #[wm 0] sizeOf37 rR rR rR (by decide) rR) (qc ?_)));exact vo (b:=b2) (o:=0) (v:=wm 0) (Lf:=pt bs (.cells (bc J (aq h rows (N - 122)) bl' s (rows.length) cap) 198 (0,0))::pt bl' (.cells (aC J 122 (N - 122) (h.first+(N - 122)) (V)) 273 (0,0))::al 179 319 J (D3)::roL 3 s (ah rows)::F) rfl rfl rfl isAgg37 rfl ⟨0,D3,hall, .inr ⟨rfl,bl',gl.map (·.1),V,hul,hsc,rfl,rfl⟩⟩
def ta {many:Nat}{rows c:List ChangeM}(h:72<c.length):dm many rows c=2:=by unfold dm;rw[RI h]
def tc {many:Nat}{rows c:List ChangeM}(h:c.length<=72)(D:cP c≠0):dm many rows c=cP c:=by unfold dm;rw[RJ (by omega),RI D]
def td {many:Nat}{rows c:List ChangeM}(h:c.length<=72)(J:cP c=0)(D:80<(wS rows c).length\/many<c.length+1):dm many rows c=8:=by unfold dm;rw[RJ (by omega),RJ (by simpa using J),RI D]
def CN {many:Nat}{rows c:List ChangeM}(h:c.length<=72)(J:cP c=0)(D:¬(80<(wS rows c).length\/many<c.length+1)):dm many rows c=0:=by unfold dm;rw[RJ (by omega),RJ (by simpa using J),RJ D]
def CO (bs O:Nat)(h:HdM)(bl:Nat)(s:Option Addr)(cap:Nat)(rows:List ChangeM)(N i used:Nat)(D:DiskM)(hok:bB N i D)(hi:i<=100000)(hS:cE D)(hN0:196<=N/\N<=260)(hh:h.ep<=1000000/\h.side<=1/\1<=h.first/\h.first<=1000000000)(hl:rows.length<=80)(hrw:∀r∈rows,eJ r)(hu:used<=N - 122)(hs:srt rows)(c:List ChangeM)(s':Option Addr)(Z:Nat)(hcl:c.length<=9223372036854775807)(F:List aa):Ct Tryz.prog 103 [ptr bs 0,sl s' c.length Z] (pt bs (.cells (bc O h bl s (rows.length) cap) 198 (0,0))::pt bl (.cells (aC O 122 (N - 122) h.first (used)) 273 (0,0))::al 179 319 O (D)::roL 3 s (ah rows)::roL 3 s' (ah c)::F) (λv L'=>∃e D2 h2 used2 rows2 bl2 s2 cap2,kW D h rows (N - 122) used c e D2 h2 used2 rows2/\v=wm e/\L'=pt bs (.cells (bc O h2 bl2 s2 rows2.length cap2) 198 (0,0))::pt bl2 (.cells (aC O 122 (N - 122) h2.first used2) 273 (0,0))::al 179 319 O (D2)::roL 3 s2 (ah rows2)::roL 3 s' (ah c)::F):=by
 refine Ct.of func103 rR 76 ntmps103 (by simp) λw0=>?_;refine gS (gQ rR (qb (gS (gM rR (gV (qY OK rR) (gV (qX rR rR) (qc ?_)))))));refine qd rfl ?_ ?_ <;> intro h13
 ·simp at h13;have hlong:72<c.length:=(by omega);refine gS (gV (qP OY rR rR) (gQ rR ?_));exact qh (pt bs (.cells (bc O h bl s (rows.length) cap) 198 (0,0))::pt bl (.cells (aC O 122 (N - 122) h.first (used)) 273 (0,0))::al 179 319 O (D)::roL 3 s (ah rows)::roL 3 s' (ah c)::F) rfl ⟨2,D,h,used,rows,bl,s,cap, .inl ⟨by rw[ta hlong];decide,by rw[ta hlong],rfl,rfl,rfl,rfl⟩,rfl,rfl⟩
 ·simp at h13;have X:c.length<=72:=(by omega);refine qf (qb (gS (gM rR (gV (qY OK rR) (gM rR (qc (qg ?_)))))));refine qC (α:=Nat) (λk=>k<=c.length/\cP c=cP (c.drop k)) (λk=>U [(0,ptr bs 0),(1,sl s' c.length Z),(15,sl s' c.length Z),(16,I c.length),(17,I (k:Int))]) (λk=>pt bs (.cells (bc O h bl s (rows.length) cap) 198 (0,0))::pt bl (.cells (aC O 122 (N - 122) h.first (used)) 273 (0,0))::al 179 319 O (D)::roL 3 s (ah rows)::roL 3 s' (ah c)::F) (λk=>c.length - k) 0 ⟨UD _,rfl⟩ [0,1,15,16,17] rfl rfl ?_;rintro k ⟨hk,hfk⟩;refine gS (gV (qH rR rR) (qc (qb ?_)));refine qd rfl ?_ ?_ <;> intro h18
  ·simp at h18;have hkn:k<c.length:=(by omega);obtain ⟨x,hx⟩:∃x,c[k]? =some x:=⟨_,S6 hkn⟩;have hkr:k<(ah c).length:=(by rw[qx];exact hkn);have hfd:=sJ hx;refine qf (qb (qg (gS (gV (qv k OK OJ rR rR rR hkn hkr) (gV (qZ (row:=ym x) O4 OJ rR (yX hx) rR) (gI (qA #[ac [],ac [],Bo false] OR) ?_))))));rintro _ _ ⟨b6,rfl,rfl⟩;refine gU (qp (cs:=#[ac [],ac [],Bo false]) (vs:=ym x) (ym x).toArray OJ rR rR rR rR (by decide) (qV rR)) (qc (gS (gV (qJ (vs:=ym (x)) O4 OJ rR rR qQ) (gR (vA call178 rR (oh x)) (gQ rR (gS (gM rR (gV (yP OT rR) (qc ?_)))))))));refine qd rfl ?_ ?_ <;> intro h24
   ·have hx0:¬aS x=0:=(by simpa using h24);have hfx:cP c=aS x:=(by rw[hfk,hfd,RJ hx0]);refine gS (gM rR (gQ rR ?_));exact qh (pt bs (.cells (bc O h bl s (rows.length) cap) 198 (0,0))::pt bl (.cells (aC O 122 (N - 122) h.first (used)) 273 (0,0))::al 179 319 O (D)::roL 3 s (ah rows)::roL 3 s' (ah c)::F) rfl ⟨(aS x),D,h,used,rows,bl,s,cap, .inl ⟨by rw[tc X (by rw[hfx];exact hx0),hfx];exact hx0,by rw[tc X (by rw[hfx];exact hx0),hfx],rfl,rfl,rfl,rfl⟩,rfl,rfl⟩
   ·have hx0:aS x=0:=(by simpa using h24);refine qf (qD (qo (gV (yr (r:=((k+1:Nat):Int)) rfl rfl (by rw[show (k:Int)+1=((k+1:Nat):Int) by omega];exact ao (by omega))) (gM rfl (qc ?_)))));exact qk (k+1) ⟨by omega,by rw[hfk,hfd,RI hx0]⟩ (by omega) [0,1,15,16,17] rfl rfl
  ·simp at h18;obtain rfl:k=c.length:=(by omega);rw[Uk] at hfk;have hf0:cP c=0:=hfk;refine qw rR ?_;refine gS (gM rR (gV (qa rR) (gF 6 Pq rR PF rR (gL (sl s rows.length cap) P2 rR (gM rR (gI (uC call117 rR (vZ rows c s s' cap Z hs (by omega) (by omega))) ?_))))));rintro _ _ ⟨Y,c32,rfl,rfl⟩;refine yv (T:=174) (cap:=c32) Y ?_;refine gQ rfl (qb (gS (gM rfl (gV (qY OK rfl) (gV (qX rfl rfl) (gM rfl (gK rfl rfl (qn rfl) (gK rfl rfl (qY OK rfl) (gK rfl rfl (yr (r:=((c.length+1:Nat):Int)) rfl rfl (by rw[show (c.length:Int)+1=((c.length+1:Nat):Int) by omega];exact ao (by omega))) (gK rfl rfl (qn rfl) (gK rfl rfl (qa rfl) (gK rfl rfl (qm 0 Pq rfl rfl PU (by decide) rfl) (gK rfl rfl (qu (v:=ptr O 0) P1 rfl rfl) ?_)))))))))))));refine jz rR rR (λhg=>yW (Pre:=[al 179 319 O (D)]) (R:=λF=>R1 (I ((D).now.length:Int)) (al 179 319 O (D)::F)) call112 rR (wn O D)) rR rR ?_;refine gK rfl rfl (cZ (r:=((N - 122:Nat):Int)) rfl rfl (by rw[hok.2.1,show (N:Int) - 122=((N - 122:Nat):Int) by omega];exact ao (by omega))) (gK rfl rfl (qX rfl rfl) (gV (aD rfl rfl) (qc ?_)));refine qd rfl ?_ ?_ <;> intro h47
   ·simp at h47;have hfull:80<(wS rows c).length\/N - 122<c.length+1:=(by omega);refine gS (gV (qP OY rR rR) (gQ rR ?_));exact qh (pt bs (.cells (bc O h bl s (rows.length) cap) 198 (0,0))::pt bl (.cells (aC O 122 (N - 122) h.first (used)) 273 (0,0))::al 179 319 O (D)::roL 3 s (ah rows)::roL 3 s' (ah c)::F) rfl ⟨8,D,h,used,rows,bl,s,cap, .inl ⟨by rw[td X hf0 hfull];decide,by rw[td X hf0 hfull],rfl,rfl,rfl,rfl⟩,rfl,rfl⟩
   ·simp at h47;have hfull:¬(80<(wS rows c).length\/N - 122<c.length+1):=(by omega);have hcm:=CN X hf0 hfull;refine qf (qb (gS (gM rfl (gV (qY OK rfl) (gV (yr (r:=((c.length+1:Nat):Int)) rfl rfl (by rw[show (c.length:Int)+1=((c.length+1:Nat):Int) by omega];exact ao (by omega))) (gM rfl (gV (qa rfl) (gF 5 Pq rfl Qi rfl (gL (ptr bl 0) P4 rfl (gR (vB call179 rfl (Ch bl O 122 (N - 122) h.first used ⟨hu,by omega⟩)) (gV (qX rfl rfl) (qc ?_))))))))))));refine iq (α:=DiskM×HdM×Nat×Nat) (λz=>lN D h rows (N - 122) used c 0 z.1 z.2.1 z.2.2.1) (λz=>U [(0,ptr bs 0),(1,sl s' c.length Z),(8,sl Y (wS rows c).length c32)]) (λz=>pt bs (.cells (bc O z.2.1 z.2.2.2 s rows.length cap) 198 (0,0))::pt z.2.2.2 (.cells (aC O 122 (N - 122) z.2.1.first z.2.2.1) 273 (0,0))::al 179 319 O (z.1)::roL 3 s (ah rows)::roL 3 s' (ah c)::roL 3 Y (ah (wS rows c))::F) ?_ ?_
    ·refine qd rfl ?_ ?_ <;> intro h57
     ·simp at h57;have hroom:N - 122 - used<c.length+1:=(by omega);refine gS (gM rR (gI (uE call126 rR (CM bs O h bl s cap rows N i used D hok hi hS hN0 hh hl hrw)) ?_));rintro _ _ ⟨e59,D59,hck,⟨hne,rfl,rfl⟩ | ⟨h0,bl9,ds9,used9,hu9,hsc9,rfl,rfl⟩⟩
      ·refine gQ rR (gS (gM rR (gV (yP OT rR) (qc ?_))));refine qd rfl ?_ ?_ <;> intro h61
       ·refine gS (gM rR (gQ rR ?_));exact qh (pt bs (.cells (bc O h bl s (rows.length) cap) 198 (0,0))::pt bl (.cells (aC O 122 (N - 122) h.first (used)) 273 (0,0))::al 179 319 O (D59)::roL 3 s (ah rows)::roL 3 s' (ah c)::F) rfl ⟨e59,D59,h,used,rows,bl,s,cap, .inr ⟨hcm,e59,D59,h,used, .inl ⟨hroom,hck, .inl ⟨hne,rfl,rfl⟩⟩, .inl ⟨hne,rfl,rfl,rfl,rfl,rfl⟩⟩,rfl,rfl⟩
       ·exact absurd (by simpa using h61) hne
      ·subst h0;refine gQ rR (gS (gM rR (gV (yP OT rR) (qc ?_))));refine qd rfl ?_ ?_ <;> intro h61
       ·simp at h61
       ·refine qf ?_;rw[show h.first+(N - 122)=(aq h rows (N - 122)).first from rfl];exact cT (D59,(aq h rows (N - 122)),used9,bl9) (.inl ⟨hroom,hck, .inr ⟨rfl,rfl,hu9,ds9,hsc9⟩⟩) [0,1,8] rfl rfl
     ·simp at h57;have hroom:¬N - 122 - used<c.length+1:=(by omega);refine qf ?_;exact cT (D,h,used,bl) (.inr ⟨hroom,rfl,rfl,rfl,rfl⟩) [0,1,8] rfl rfl
    rintro ⟨D1,S,J,V⟩ hmid;simp only[] at hmid ⊢;obtain ⟨hm1,hm2,hm3,hm4,hm5,hm6,hm7⟩:=xb hmid hok hS hl hrw hN0.1 hu;refine gS (gM rfl (gV (qa rfl) (gF 5 Pq rfl Qi rfl (gL (ptr V 0) P4 rfl (gM rfl (gR (vD call180 rfl (Jr V O 122 (N - 122) S.first J c s' Z N (i+63) D1 hm1 ⟨by omega,by omega⟩ ⟨by omega,by omega,by decide,hm3⟩ hcl)) (gQ rfl (qb (gS (gM rfl (gV (eA OT rfl) (qc ?_))))))))))));refine qd rfl ?_ ?_ <;> intro h70
    ·have h70':dN 122 (N - 122) S.first J c D1=0:=(by simpa using h70);refine qo (gM rR (gM rR (gV (qa rR) (gF 6 Pq rR PF rR (gU (qG (bc O S V Y (wS rows c).length c32) PF rR rR rR (by simp) rR) (qc (gS (gM rR (gQ rR ?_)))))))))
     first
     | exact qh (pt bs (.cells (bc O S V Y (wS rows c).length c32) 198 (0,0))::pt V (.cells (aC O 122 (N - 122) S.first (dB 122 (N - 122) S.first J c D1)) 273 (0,0))::al 179 319 O (ce 122 (N - 122) S.first J c D1)::roL 3 Y (ah (wS rows c))::roL 3 s' (ah c)::F) rfl ⟨_,ce 122 (N - 122) S.first J c D1,S,dB 122 (N - 122) S.first J c D1,(wS rows c),V,Y,c32, .inr ⟨hcm,0,D1,S,J,hmid, .inr ⟨rfl,rfl,rfl,rfl,rfl,(RI h70').symm⟩⟩,rfl,rfl⟩
     | exact qh (pt bs (.cells (bc O S V s rows.length cap) 198 (0,0))::pt V (.cells (aC O 122 (N - 122) S.first (dB 122 (N - 122) S.first J c D1)) 273 (0,0))::al 179 319 O (ce 122 (N - 122) S.first J c D1)::roL 3 s (ah rows)::roL 3 s' (ah c)::F) rfl ⟨_,ce 122 (N - 122) S.first J c D1,S,dB 122 (N - 122) S.first J c D1,rows,V,s,cap, .inr ⟨hcm,0,D1,S,J,hmid, .inr ⟨rfl,rfl,rfl,rfl,rfl,(RJ h70').symm⟩⟩,rfl,rfl⟩
    ·have h70':¬dN 122 (N - 122) S.first J c D1=0:=(by simpa using h70);refine qf (gS (gM rR (gQ rR ?_)))
     first
     | exact qh (pt bs (.cells (bc O S V Y (wS rows c).length c32) 198 (0,0))::pt V (.cells (aC O 122 (N - 122) S.first (dB 122 (N - 122) S.first J c D1)) 273 (0,0))::al 179 319 O (ce 122 (N - 122) S.first J c D1)::roL 3 Y (ah (wS rows c))::roL 3 s' (ah c)::F) rfl ⟨_,ce 122 (N - 122) S.first J c D1,S,dB 122 (N - 122) S.first J c D1,(wS rows c),V,Y,c32, .inr ⟨hcm,0,D1,S,J,hmid, .inr ⟨rfl,rfl,rfl,rfl,rfl,(RI h70').symm⟩⟩,rfl,rfl⟩
     | exact qh (pt bs (.cells (bc O S V s rows.length cap) 198 (0,0))::pt V (.cells (aC O 122 (N - 122) S.first (dB 122 (N - 122) S.first J c D1)) 273 (0,0))::al 179 319 O (ce 122 (N - 122) S.first J c D1)::roL 3 s (ah rows)::roL 3 s' (ah c)::F) rfl ⟨_,ce 122 (N - 122) S.first J c D1,S,dB 122 (N - 122) S.first J c D1,rows,V,s,cap, .inr ⟨hcm,0,D1,S,J,hmid, .inr ⟨rfl,rfl,rfl,rfl,rfl,(RJ h70').symm⟩⟩,rfl,rfl⟩
def CP (X:Nat)(rows c:List ChangeM)(s V:Option Addr)(cap Y used many:Nat)(hl:rows.length<=80)(hs:srt rows)(hcl:c.length<=9223372036854775807)(hu:used<=many/\many<=1000000)(F:List aa):Ct Tryz.prog 39 [ptr X 0,sl V c.length Y] (pt X (.cells #[sl s (rows.length) cap,I ((used:Int)),I (many:Int)] 91 (0,0))::roL 3 s (ah rows)::roL 3 V (ah c)::F) (λv L'=>(dm many rows c≠0/\v=I (dm many rows c)/\L'=pt X (.cells #[sl s (rows.length) cap,I ((used:Int)),I (many:Int)] 91 (0,0))::roL 3 s (ah rows)::roL 3 V (ah c)::F)\/(dm many rows c=0/\∃s2 cap2,v=I 0/\L'=pt X (.cells #[sl s2 ((wS rows c).length) cap2,I ((((if many - used<c.length+1 then 0 else used)+c.length+1):Nat)),I (many:Int)] 91 (0,0))::roL 3 s2 (ah (wS rows c))::roL 3 V (ah c)::F)):=by
 refine Ct.of func39 rR 75 ntmps39 (by simp) λw0=>?_;refine gS (gQ rR (qb (gS (gM rR (gV (qY OK rR) (gV (qX rR rR) (qc ?_)))))));refine qd rfl ?_ ?_ <;> intro h10
 ·simp at h10;have Z:72<c.length:=(by omega);refine gS (gQ rR ?_);exact qh (pt X (.cells #[sl s (rows.length) cap,I ((used:Int)),I (many:Int)] 91 (0,0))::roL 3 s (ah rows)::roL 3 V (ah c)::F) rfl (.inl ⟨by rw[ta Z];decide,by rw[ta Z];rfl,rfl⟩)
 ·simp at h10;have h:c.length<=72:=(by omega);refine qf (qb (gS (gQ rR (qg ?_))));refine qC (α:=Nat) (λk=>k<=c.length/\cP c=cP (c.drop k)) (λk=>U [(0,ptr X 0),(1,sl V c.length Y),(5,I (k:Int))]) (λk=>pt X (.cells #[sl s (rows.length) cap,I ((used:Int)),I (many:Int)] 91 (0,0))::roL 3 s (ah rows)::roL 3 V (ah c)::F) (λk=>c.length - k) 0 ⟨UD _,rfl⟩ [0,1,5] rfl rR ?_;rintro k ⟨hk,hfk⟩;refine qb (gS (gM rR (gM rR (gV (qY OK rR) (gV (qH rR rR) (qc ?_))))));refine qd rfl ?_ ?_ <;> intro h14
  ·simp at h14;have hkn:k<c.length:=(by omega);obtain ⟨x,hx⟩:∃x,c[k]? =some x:=⟨_,S6 hkn⟩;have hkr:k<(ah c).length:=(by rw[qx];exact hkn);have hfd:=sJ hx;have hnn:=vt x;refine qf (qb (qg (gS (gM rR (gM rR (gV (qv k OK OJ rR rR rR hkn hkr) (gV (qZ (row:=ym x) O4 OJ rR (yX hx) rR) (gR (vA call106 rR (I4 x)) (gQ rR (gS (gM rR (gV (qX rR rR) (qc ?_)))))))))))));refine qd rfl ?_ ?_ <;> intro h23
   ·simp at h23;have S:¬aS x=0:=(by omega);have hfx:cP c=aS x:=(by rw[hfk,hfd,RJ S]);refine gS (gM rR (gQ rR ?_));exact qh (pt X (.cells #[sl s (rows.length) cap,I ((used:Int)),I (many:Int)] 91 (0,0))::roL 3 s (ah rows)::roL 3 V (ah c)::F) rfl (.inl ⟨by rw[tc h (by rw[hfx];exact S),hfx];exact S,by rw[tc h (by rw[hfx];exact S),hfx];rfl,rfl⟩)
   ·simp at h23;have S:aS x=0:=(by omega);refine qf (qD (qo (gM rfl (gV (yr (r:=((k+1:Nat):Int)) rfl rfl (by rw[show (k:Int)+1=((k+1:Nat):Int) by omega];exact ao (by omega))) (gQ rfl ?_)))));exact qk (k+1) ⟨by omega,by rw[hfk,hfd,RI S]⟩ (by omega) [0,1,5] rfl rfl
  ·simp at h14;obtain rfl:k=c.length:=(by omega);rw[Uk] at hfk;have hf0:cP c=0:=hfk;refine qw rR ?_;refine gS (gM rR (gV (qa rR) (gF 0 P5 rR PF rR (gL (sl s rows.length cap) P2 rR (gM rR (gI (uC call107 rR (JR rows c s V cap Y hs (by omega) (by omega))) ?_))))));rintro _ _ ⟨O,R,rfl,rfl⟩;refine yv (T:=174) (cap:=R) O ?_;refine gQ rfl (qb (gS (gM rfl (gV (qY OK rfl) (gV (qX rfl rfl) (gM rfl (gK rfl rfl (qn rfl) (gK rfl rfl (qY OK rfl) (gK rfl rfl (yr (r:=((c.length+1:Nat):Int)) rfl rfl (by rw[show (c.length:Int)+1=((c.length+1:Nat):Int) by omega];exact ao (by omega))) (gK rfl rfl (qn rfl) (gK rfl rfl (qa rfl) (gK rfl rfl (qm 2 P5 rfl rfl OH (by decide) rfl) (gK rfl rfl (qu (v:=I (many:Int)) OI rfl rfl) (gK rfl rfl (qX rfl rfl) (gV (aD rfl rfl) (qc ?_))))))))))))))));refine qd rfl ?_ ?_ <;> intro h43
   ·simp at h43;have D:80<(wS rows c).length\/many<c.length+1:=(by omega);refine gS (gQ rR ?_);exact qh (pt X (.cells #[sl s (rows.length) cap,I ((used:Int)),I (many:Int)] 91 (0,0))::roL 3 s (ah rows)::roL 3 V (ah c)::F) rfl (.inl ⟨by rw[td h hf0 D];decide,by rw[td h hf0 D];rfl,rfl⟩)
   ·simp at h43;have D:¬(80<(wS rows c).length\/many<c.length+1):=(by omega);have hcm:=CN h hf0 D;refine qf (qb (qb (gG [(0,false),(1,false),(2,false),(3,false),(4,false),(5,false),(6,false),(7,false),(8,false),(9,false),(10,false),(11,false),(12,false)] (dM rfl rfl rfl (dV rfl (qY OK rfl) (dV rfl (yr (r:=((c.length+1:Nat):Int)) rfl rfl (by rw[show (c.length:Int)+1=((c.length+1:Nat):Int) by omega];exact ao (by omega))) (dM rfl rfl rfl (dV rfl (qa rfl) (dF rfl 2 P5 rfl OH rfl (dL rfl (I (many:Int)) OI rfl (dM rfl rfl rfl (dV rfl (qa rfl) (dF rfl 1 P5 rfl OH rfl (dL rfl (I (used:Int)) OI rfl (dV rfl (cZ (r:=((many - used:Nat):Int)) rfl rfl (by rw[show (many:Int) - (used:Int)=((many - used:Nat):Int) by omega];exact ao (by omega))) (dV rfl (qX rfl rfl) ?_))))))))))))))));refine qI ?_;refine qd rfl ?_ ?_ <;> intro h56
    ·simp at h56;have J:many - used<c.length+1:=(by omega);refine qo (gM rR (gV (qa rR) (gF 1 P5 rR OH rR (gU (qG #[sl s rows.length cap,I ((if many - used<c.length+1 then 0 else used:Nat):Int),I (many:Int)] OH rR rR rR (by simp) (by rw[RI J];rfl)) (qc (qb ?_))))))
     first
     | rw[show I (used:Int)=I ((if many - used<c.length+1 then 0 else used:Nat):Int) by rw[RJ J]]
     | skip
     refine qo (gM rfl (gM rfl (gV (qa rfl) (gF 1 P5 rfl OH rfl (gL (I ((if many - used<c.length+1 then 0 else used:Nat):Int)) OI rfl (gM rfl (gV (qY OK rfl) (gV (yr (r:=(((if many - used<c.length+1 then 0 else used)+c.length:Nat):Int)) rfl rfl (by rw[show (((if many - used<c.length+1 then 0 else used:Nat):Nat):Int)+(c.length:Int)=(((if many - used<c.length+1 then 0 else used)+c.length:Nat):Int) by omega];exact ao (by split <;> omega))) (gV (yr (r:=((((if many - used<c.length+1 then 0 else used)+c.length+1):Nat):Int)) rfl rfl (by rw[show (((if many - used<c.length+1 then 0 else used)+c.length:Nat):Int)+1=((((if many - used<c.length+1 then 0 else used)+c.length+1):Nat):Int) by omega];exact ao (by split <;> omega))) (gV (qa rfl) (gF 1 P5 rfl OH rfl (gU (qG #[sl s rows.length cap,I ((((if many - used<c.length+1 then 0 else used)+c.length+1):Nat):Int),I (many:Int)] OH rfl rfl rfl (by simp) rfl) (qc (gS (gM rfl (gM rfl (gV (qa rfl) (gF 0 P5 rfl PF rfl (gU (qG #[sl O (wS rows c).length R,I ((((if many - used<c.length+1 then 0 else used)+c.length+1):Nat):Int),I (many:Int)] PF rfl rfl rfl (by simp) rfl) (qc (gS (gQ rfl ?_))))))))))))))))))))));exact qh (pt X (.cells #[sl O ((wS rows c).length) R,I ((((if many - used<c.length+1 then 0 else used)+c.length+1):Nat)),I (many:Int)] 91 (0,0))::roL 3 O (ah (wS rows c))::roL 3 V (ah c)::F) rfl (.inr ⟨hcm,O,R,rfl,rfl⟩)
    ·simp at h56;have J:¬many - used<c.length+1:=(by omega);refine qf (qb ?_)
     first
     | rw[show I (used:Int)=I ((if many - used<c.length+1 then 0 else used:Nat):Int) by rw[RJ J]]
     | skip
     refine qo (gM rfl (gM rfl (gV (qa rfl) (gF 1 P5 rfl OH rfl (gL (I ((if many - used<c.length+1 then 0 else used:Nat):Int)) OI rfl (gM rfl (gV (qY OK rfl) (gV (yr (r:=(((if many - used<c.length+1 then 0 else used)+c.length:Nat):Int)) rfl rfl (by rw[show (((if many - used<c.length+1 then 0 else used:Nat):Nat):Int)+(c.length:Int)=(((if many - used<c.length+1 then 0 else used)+c.length:Nat):Int) by omega];exact ao (by split <;> omega))) (gV (yr (r:=((((if many - used<c.length+1 then 0 else used)+c.length+1):Nat):Int)) rfl rfl (by rw[show (((if many - used<c.length+1 then 0 else used)+c.length:Nat):Int)+1=((((if many - used<c.length+1 then 0 else used)+c.length+1):Nat):Int) by omega];exact ao (by split <;> omega))) (gV (qa rfl) (gF 1 P5 rfl OH rfl (gU (qG #[sl s rows.length cap,I ((((if many - used<c.length+1 then 0 else used)+c.length+1):Nat):Int),I (many:Int)] OH rfl rfl rfl (by simp) rfl) (qc (gS (gM rfl (gM rfl (gV (qa rfl) (gF 0 P5 rfl PF rfl (gU (qG #[sl O (wS rows c).length R,I ((((if many - used<c.length+1 then 0 else used)+c.length+1):Nat):Int),I (many:Int)] PF rfl rfl rfl (by simp) rfl) (qc (gS (gQ rfl ?_))))))))))))))))))))));exact qh (pt X (.cells #[sl O ((wS rows c).length) R,I ((((if many - used<c.length+1 then 0 else used)+c.length+1):Nat)),I (many:Int)] 91 (0,0))::roL 3 O (ah (wS rows c))::roL 3 V (ah c)::F) rfl (.inr ⟨hcm,O,R,rfl,rfl⟩)
abbrev jj (bd:Nat)(h:HdM)(lv:Value)(s:Option Addr)(n cap:Nat):Array Value:=#[ptr bd 0,I h.ep,I h.side,I h.size,I h.first,lv,sl s n cap]
def eY (L:List ab)(side k:Nat):ab:=((L.drop (2+side*60)).take k).flatten
def lP {L:List ab}{side k:Nat}(h:2+side*60+k<L.length):eY L side k++L.getD (2+side*60+k) []=eY L side (k+1):=by
 unfold eY;have D:(L.drop (2+side*60))[k]? =some (L.getD (2+side*60+k) []):=(by rw[Sy,ov h]);rw[mz D,List.flatten_append];simp
def CQ {L:List ab}{side:Nat}(D:∀x∈L,x.length=80):∀k,2+side*60+k<=L.length->(eY L side k).length=80*k
 | 0,_=>rfl
 | k+1,h=>by
  rw[<-lP (by omega),Sx,CQ D k (by omega),ox (by omega) D];omega
def xd:∀(ds:an) {r:List ChangeM},srt r->srt (ds.foldl wS r)
 | [],r,h=>h
 | d::ds,r,h=>xd ds (mR h d).1
abbrev ib (r0:List ChangeM)(gl:go)(k:Nat):List ChangeM:=((gl.map (·.1)).take k).foldl wS r0
def Kn {J:List ChangeM}{D:go}{k:Nat}{x:List ChangeM×cM}(h:D[k]? =some x):wS (ib J D k) x.1=ib J D (k+1):=by
 unfold ib;rw[mz (a:=x.1) (by simp[h]),Uy]
 rfl
def CR (J N:Nat)(D:DiskM)(hN:D.now.length=N)(hNb:N<=260)(hS:∀x∈D.now,x.length=80)(hx:HdM)(Z:List ChangeM)(ds:an)(used:Nat)(hg:D.down=false->196<=N->(gp D.now).ep≠0->Good D.now hx Z ds used)(F:List aa):Ct Tryz.prog 41 [ptr J 0] (al 179 319 J (D)::F) (λv L'=>(D.down=true/\v= .tuple #[.pointer none,wm 9]/\L'=al 179 319 J (D)::F)\/(D.down=false/\N<196/\v= .tuple #[.pointer none,wm 4]/\L'=al 179 319 J (D)::F)\/(D.down=false/\196<=N/\(gp D.now).ep=0/\v= .tuple #[.pointer none,wm 4]/\L'=al 179 319 J (D)::F)\/(D.down=false/\196<=N/\(gp D.now).ep≠0/\∃bs bl s cap,v= .tuple #[ptr bs 0,wm 0]/\L'=pt bs (.cells (bc J hx bl s (cur Z ds).length cap) 198 (0,0))::pt bl (.cells (aC J 122 (N - 122) hx.first used) 273 (0,0))::al 179 319 J (D)::roL 3 s (ah (cur Z ds))::F)):=by
 refine Ct.of func41 rR 144 ntmps41 (by simp) λw0=>?_;refine gS (gA rR (gQ rR (qb (gS (gM rR (gR (vB call111 rR (BR J D)) (qc ?_)))))));refine qd rfl ?_ ?_ <;> intro h21
 ·refine gS (gV (qP OY rR rR) (gA rR (gQ rR ?_)));exact qh (al 179 319 J (D)::F) rfl (.inl ⟨h21,rfl,rfl⟩)
 ·have V:D.down=false:=(by simpa using h21);refine qf (qb (gS (gM rR (gI (uB (R:=λF=>R1 (I ((D).now.length:Int)) (al 179 319 J (D)::F)) call112 rR (wn J D)) ?_))));rintro _ _ ⟨rfl,rfl⟩;refine gV (qH rR rR) (qc ?_);refine qd rfl ?_ ?_ <;> intro h25
  ·simp at h25;have h25':N<196:=(by omega);refine gS (gV (qP OY rR rR) (gA rR (gQ rR ?_)));exact qh (al 179 319 J (D)::F) rfl (.inr (.inl ⟨V,h25',rfl,rfl⟩))
  ·simp at h25;have h25':196<=N:=(by omega);refine qf (gS (gM rR (gV (qF rR (Hr _ rR)) (gI (wR (jj J (eX D.now 0) (.pointer none) none 0 0) rR rR) ?_))));rintro _ _ ⟨X,rfl,rfl⟩;refine gQ rR (qb (gS (gM rR (qc (qg ?_)))));refine qC (α:=Nat) (λk=>k<=2) (λk=>U [(0,ptr J 0),(4,ptr X 0),(30,I (k:Int))]) (λk=>pt X (.cells (jj J (eX D.now k) ((.pointer none)) none (0) 0) 198 (0,0))::al 179 319 J (D)::F) (λk=>2 - k) 0 (by decide) [0,4,30] rfl rR ?_;intro k hk;refine gS (gV (qH rR rR) (qc (qb ?_)));refine qd rfl ?_ ?_ <;> intro h31
   ·simp at h31;have hk2:k<2:=(by omega);refine qf (qb (qg (gS (gM rR (gQ rR (gS (gM rR (gM rR (gR (vB call113 rR (vr J D ((k:Nat):Int))) ?_)))))))));rw[show iC D ((k:Nat):Int)=(D.now.getD (k) [],0) from sC V (by omega) (by rw[Ui];exact ov (by omega))];refine gM rR (gX (ac (D.now.getD k [])) rR (gX (wm 0) rR (gA rR (gQ rR (qb (gS (gM rR (gV (yP OT rR) (qc ?_)))))))));refine qd rfl ?_ ?_ <;> intro h40
    ·simp at h40
    ·refine qf (gS (gM rR (gR (vA call114 rR (JY (D.now.getD k []) (ox (by omega) hS))) (gI (qA #[I 0,I 0,I 0,I 0] P7) ?_))));rintro _ _ ⟨b8,rfl,rfl⟩;refine gU (qp (cs:=#[I 0,I 0,I 0,I 0]) (vs:=wN (wU (D.now.getD k []))) (wN (wU (D.now.getD k []))).toArray OX rR rR rR rR (by decide) (qV (xc _))) (qc (qb (gG [(0,false),(1,false),(2,false),(3,false),(4,false),(5,false),(6,false),(7,false)] (dF rR 0 Pk rR OH rR (dL rR (I (wU (D.now.getD k [])).ep) OI rR (dM rR rR rR (dV rR (qa rR) (dF rR 1 Pq rR OX rR (dF rR 0 Pk rR OH rR (dL rR (I (eX D.now k).ep) OI rR (dV rR (qX rR rR) ?_)))))))))));refine qI ?_;refine qd rfl ?_ ?_ <;> intro h51
     ·have hgt:(eX D.now k).ep<(wU (D.now.getD k [])).ep:=(by have:=of_decide_eq_true h51;omega);refine qo (gM rfl (gV (qJ (vs:=wN (wU (D.now.getD k []))) Pp OX rfl rfl qQ) (gV (qa rfl) (gF 1 Pq rfl OX rfl (gU (qp (cs:=jj J (eX D.now k) (.pointer none) none 0 0) (vs:=wN (wU (D.now.getD k []))) (jj J (wU (D.now.getD k [])) (.pointer none) none 0 0) OX rfl rfl rfl rfl (by simp) rfl) (qc (qD (qo (gV (yr (r:=((k+1:Nat):Int)) rfl rfl (by rw[show (((k:Nat):Int):Int)+(1:Int)=((k+1:Nat):Int) by omega];exact ao (by omega))) (gM rfl (qc ?_)))))))))));rw[show wU (D.now.getD k [])=eX D.now (k+1) by rw[eX,RI hgt]];exact qk (k+1) (by omega) (by omega) [0,4,30] rfl rfl
     ·have hgt:¬(eX D.now k).ep<(wU (D.now.getD k [])).ep:=(by have:=of_decide_eq_false h51;omega);refine qf (qD (qo (gV (yr (r:=((k+1:Nat):Int)) rfl rfl (by rw[show (((k:Nat):Int):Int)+(1:Int)=((k+1:Nat):Int) by omega];exact ao (by omega))) (gM rfl (qc ?_)))));rw[show eX D.now k=eX D.now (k+1) by rw[eX,RJ hgt]];exact qk (k+1) (by omega) (by omega) [0,4,30] rfl rfl
   ·simp at h31;obtain rfl:k=2:=(by omega);refine qw rR ?_;refine qb (gS (gM rR (gV (qa rR) (gF 1 Pq rR OX rR (gF 0 Pk rR OH rR (gL (I (eX D.now 2).ep) OI rR (gV (yD rR rR) (qc ?_))))))));refine qd rfl ?_ ?_ <;> intro h62
    ·simp at h62;have he0:(gp D.now).ep=0:=(by show (eX D.now 2).ep=0;omega);refine gS (gV (qP OY rR rR) (gA rR (gQ rR ?_)));exact qh (al 179 319 J (D)::F) rfl (.inr (.inr (.inl ⟨V,h25',he0,rfl,rfl⟩)))
    ·simp at h62;have he0:(gp D.now).ep≠0:=(by show (eX D.now 2).ep≠0;omega);have O:=hg V h25' he0;rw[show eX D.now 2=hx from O.best];refine qf (gS (gQ rR (qb (gS (gM rR (qc (qg ?_)))))));refine qC (α:=Nat) (λk=>k<=60) (λk=>U [(0,ptr J 0),(4,ptr X 0),(9,ac (eY D.now hx.side k)),(64,I (k:Int))]) (λk=>pt X (.cells (jj J (hx) ((.pointer none)) none (0) 0) 198 (0,0))::al 179 319 J (D)::F) (λk=>60 - k) 0 (by decide) [0,4,9,64] rfl rR ?_;intro k hk;have hside:=O.side;have htl:=CQ (side:=hx.side) hS k (by omega);refine gS (gV (qH rR rR) (qc (qb ?_)));refine qd rfl ?_ ?_ <;> intro h65
     ·simp at h65;have hk60:k<60:=(by omega);have hsl:(D.now.getD (2+hx.side*60+k) []).length=80:=ox (by omega) hS;refine qf (qb (qg (gS (gM rfl (gQ rfl (gS (gM rfl (gM rfl (gV (qa rfl) (gF 1 Pq rfl OX rfl (gF 1 Pk rfl OH rfl (gL (I hx.side) OI rfl (gV (ey (r:=((hx.side*60:Nat):Int)) rfl rfl (by rw[show (hx.side:Int)*(60:Int)=((hx.side*60:Nat):Int) by omega];exact ao (by omega))) (gV (yr (r:=((2+hx.side*60:Nat):Int)) rfl rfl (by rw[show (2:Int)+(((hx.side*60:Nat):Int):Int)=((2+hx.side*60:Nat):Int) by omega];exact ao (by omega))) (gM rfl (gV (yr (r:=((2+hx.side*60+k:Nat):Int)) rfl rfl (by rw[show (((2+hx.side*60:Nat):Int):Int)+(((k:Nat):Int):Int)=((2+hx.side*60+k:Nat):Int) by omega];exact ao (by omega))) (gR (vB call113 rfl (vr J D (((2+hx.side*60+k):Nat):Int))) ?_)))))))))))))))));rw[show iC D ((2+hx.side*60+k:Nat):Int)=(D.now.getD (2+hx.side*60+k) [],0) from sC V (by omega) (by rw[Ui];exact ov (by omega))];refine gM rR (gX (ac (D.now.getD (2+hx.side*60+k) [])) rR (gX (wm 0) rR (gA rR (gQ rR (qb (gS (gM rR (gV (yP OT rR) (qc ?_)))))))));refine qd rfl ?_ ?_ <;> intro h82
      ·simp at h82
      ·refine qf (qo (gM rfl (gM rfl (gV (wj rfl rfl (by rw[htl,hsl];omega)) (gQ rfl (qD (qo (gV (yr (r:=((k+1:Nat):Int)) rfl rfl (by rw[show (((k:Nat):Int):Int)+(1:Int)=((k+1:Nat):Int) by omega];exact ao (by omega))) (gM rfl (qc ?_))))))))));rw[lP (by omega)];exact qk (k+1) (by omega) (by omega) [0,4,9,64] rfl rfl
     ·simp at h65;obtain rfl:k=60:=(by omega);have hsz:hx.size<=(eY D.now hx.side 60).length:=by
       have h1:=O.size;have h2:=lK O.hok;have h3:=O.len;omega
      refine qw rR ?_;refine gS (gM rR (gM rR (gV (qa rR) (gF 1 Pq rR OX rR (gF 2 Pk rR OH rR (gL (I hx.size) OI rR (gV (Hy (h:=hx.size) OM rR rR rR hsz) ?_)))))));rw[show (eY D.now hx.side 60).take hx.size=yG Z from O.text];refine gI (uA call115 rR (J9 Z (by have:=O.len;omega) O.hsrt O.hok)) ?_;rintro _ _ ⟨s96,c96,rfl,rfl⟩;refine gM rR (gX (sl s96 Z.length c96) rR (gX (Bo true) rR (gA rR (gQ rR (qb (gS (gM rR (gV (wb rR) (qc ?_)))))))));refine qd rfl ?_ ?_ <;> intro h100
      ·simp at h100
      ·refine qf (qb (gD (Lf:=[pt X (.cells (jj J hx (.pointer none) none 0 0) 198 (0,0))]) [(0,false),(1,false),(4,false),(5,false),(6,false),(7,false),(8,false),(2,true),(3,false),(9,true),(10,false),(11,false),(12,false),(13,false),(14,false),(15,false),(16,false)] (dM rfl rfl rfl (dM rfl rfl rfl (dM rfl rfl rfl (dV rfl (qa rfl) (dF rfl 1 Pq rfl OX rfl (dF rfl 3 Pk rfl OH rfl (dL rfl (I hx.first) OI rfl (av rfl (uB (R:=λF=>R1 (I ((D).now.length:Int)) (al 179 319 J (D)::F)) call112 rfl (wn J D)) rfl ?_))))))))));rintro _ _ ⟨rfl,rfl⟩;refine dV rfl (cZ (r:=((N - 122:Nat):Int)) rfl rfl (by rw[hN,show (N:Int) - 122=((N - 122:Nat):Int) by omega];exact ao (by omega))) (av rfl (uB call116 rfl (Cj J D 122 ((N - 122:Nat):Int) hx.first hS ⟨by omega,by have:=O.first;omega⟩)) rfl ?_);rintro _ _ (⟨hbad,_,_⟩ | ⟨_,hdn,_,_⟩ | ⟨_,_,bl,S,so,co,Y,rfl,hul,hgll,hsc,rfl⟩)
       ·exfalso;unfold iF at hbad;have:=O.first;omega
       ·rw[V] at hdn;cases hdn
       rw[show aC J ((122:Int)).toNat ((N - 122:Nat):Int).toNat (hx.first:Int).toNat Y=aC J 122 (N - 122) hx.first Y from rfl]
       replace hgll:S.length<=N - 122:=hgll
       replace hsc:wu hx.first (eI D 122) (N - 122) 0 [] [] 0=(S.map (·.1),Y):=hsc
       have hlg:=O.log;rw[hN] at hlg;have hlg2:wu hx.first (eI D 122) (N - 122) 0 [] [] 0=(ds,used):=hlg;rw[hsc] at hlg2;injection hlg2 with hq1 hq2;obtain rfl:used=Y:=hq2.symm;have hfit:=O.fits;rw[<-hq1] at hfit;have hlen72:∀y∈S,y.1.length<=72:=λy hy=>O.lens _ (by rw[<-hq1];exact RY hy);refine dM rR rR rR (dV rR (qr (v:=ptr bl 0) rR rR) (dV rR (qr (v:=sl so S.length co) rR rR) (dV rR (qr (v:=wm 0) rR rR) (dV rR (qt rR) (dV rR (qt rR) (dV rR (qt rR) ?_))))));refine qI ?_;refine qb (gS (gM rR (gV (yP OT rR) (qc ?_))));refine qd rfl ?_ ?_ <;> intro h117
       ·simp at h117
       ·refine qf (gS (gM rR (gM rR (gM rR (gM rR (gV (qa rR) (gF 5 Pq rR Qi rR (gU (qG (jj J hx (ptr bl 0) none 0 0) Qi rR rR rR (by simp) rR) (gV (qa rR) (gF 6 Pq rR PF rR (gU (qG (jj J hx (ptr bl 0) s96 (ib Z S (0)).length c96) PF rR rR rR (by simp) rR) (qc (qb (qb ?_))))))))))))));rw[show ah Z=ah (ib Z S 0) from rfl];refine qo (gM rR (gV (qY QK rR) (gM rR (qc (qg ?_)))));refine qC (α:=Nat×Option Addr×Nat) (λz=>z.1<=S.length) (λz=>U [(4,ptr X 0),(127,sl so S.length co),(128,I S.length),(129,I (z.1:Int))]) (λz=>pt X (.cells (jj J (hx) (ptr bl 0) z.2.1 ((ib Z S (z.1)).length) z.2.2) 198 (0,0))::roL 3 z.2.1 (ah (ib Z S (z.1)))::pt bl (.cells (aC J 122 (N - 122) hx.first used) 273 (0,0))::ai 33 1 so co (dR S)::fp S::al 179 319 J (D)::F) (λz=>S.length - z.1) (0,s96,c96) (by simp) [4,127,128,129] rfl rfl ?_;rintro ⟨k,sA,cA⟩ hk;simp only[] at hk ⊢;refine gS (gV (qH rR rR) (qc (qb ?_)));refine qd rfl ?_ ?_ <;> intro h130
        ·simp at h130;have hkn:k<S.length:=(by omega);obtain ⟨x,hx'⟩:∃x,S[k]? =some x:=⟨_,S6 hkn⟩;refine qf (qb (qg (gS (gV (qv k QK PF rR rR rR hkn (by rw[BW];exact hkn)) (gV (qM (v:=sl x.2.1 x.1.length x.2.2) P2 rR (oq hx') rR) (gQ rR ?_))))));refine Jd S (R5 hx') ?_;refine qo (gM rR (gM rR (gV (qa rR) (gF 6 Pq rR PF rR (gL (sl sA (ib Z S (k)).length cA) P2 rR (gM rR (gI (uC call117 rR (vZ (ib Z S (k)) x.1 sA x.2.1 cA x.2.2 (xd _ O.hsrt) (Rh (hfit k) (by decide)) (by have:=hlen72 x (R5 hx');omega))) ?_)))))));rintro _ _ ⟨s139,c139,rfl,rfl⟩;rw[Kn hx'];refine yv (T:=174) (cap:=c139) s139 ?_;refine gV (qa rfl) (gF 6 Pq rfl PF rfl (gU (qG (jj J hx (ptr bl 0) s139 (ib Z S (k+1)).length c139) PF rfl rfl rfl (by simp) rfl) (qc (qD (qo (gV (yr (r:=((k+1:Nat):Int)) rfl rfl (by rw[show (((k:Nat):Int):Int)+(1:Int)=((k+1:Nat):Int) by omega];exact ao (by omega))) (gM rfl (qc ?_))))))));exact qk (k+1,s139,c139) (by simp only[];omega) (by simp only[];omega) [4,127,128,129] rfl rfl
        ·simp at h130;obtain rfl:k=S.length:=(by omega);have hcu:ib Z S S.length=cur Z ds:=(by unfold ib cur;rw[T4 (by simp),hq1]);rw[hcu];refine qw rR ?_;refine gS (gM rR (gA rR (gQ rR ?_)));exact qh (pt X (.cells (bc J hx bl sA (cur Z ds).length cA) 198 (0,0))::pt bl (.cells (aC J 122 (N - 122) hx.first used) 273 (0,0))::al 179 319 J (D)::roL 3 sA (ah (cur Z ds))::F) rfl (.inr (.inr (.inr ⟨V,h25',he0,X,bl,sA,cA,rfl,rfl⟩)))
def Ko (J N i:Nat)(D:DiskM)(hok:bB N i D)(hi:i<=100000)(hN0:N<=260)(F:List aa):Ct Tryz.prog 102 [ptr J 0] (al 179 319 J (D)::F) (λv L'=>(N<196/\v=wm 8/\L'=al 179 319 J (D)::F)\/(196<=N/\∃e D1,wA D (eh N)=(e,D1)/\v=wm e/\L'=al 179 319 J (D1)::F)):=by
 refine Ct.of func102 rR 39 ntmps102 (by simp) λw0=>?_;refine gS (gQ rR (qb (gS (gM rR (gI (uB (R:=λF=>R1 (I ((D).now.length:Int)) (al 179 319 J (D)::F)) call112 rR (wn J D)) ?_)))));rintro _ _ ⟨rfl,rfl⟩;refine gV (qH rR rR) (qc ?_);refine qd rfl ?_ ?_ <;> intro h7
 ·simp at h7;have Z:N<196:=(by have:=hok.2.1;omega);refine gS (gV (qP OY rR rR) (gQ rR ?_));exact qh (al 179 319 J (D)::F) rfl (.inl ⟨Z,rfl,rfl⟩)
 ·simp at h7;have Z:196<=N:=(by have:=hok.2.1;omega);refine qf (gS (gM rR (gR (vB call175 rR (wO J D ((0:Nat):Int) [] hok.2.2.1 (by have:=hok.2.2.2.2;omega))) (gQ rR (qb (gS (gQ rR (qg ?_))))))));refine qC (α:=Nat×Int×DiskM) (λz=>z.1<=N - 122/\wA D (cJ z.1)=(z.2.1,z.2.2)) (λz=>U [(0,ptr J 0),(3,wm z.2.1),(4,I ((122+z.1:Nat):Int))]) (λz=>al 179 319 J (z.2.2)::F) (λz=>N - z.1) (0,wc D ((0:Nat):Int) [],yH D ((0:Nat):Int) []) ⟨UD _,j7 (l:=[]) rfl⟩ [0,3,4] rfl rR ?_;rintro ⟨k,e,X⟩ ⟨hk,V⟩;simp only[] at hk V ⊢;have h:=gm (cJ k) i D hok;rw[V,oM] at h;simp only at h;refine qb (gS (gM rR (gM rR (gI (uB (R:=λF=>R1 (I ((X).now.length:Int)) (al 179 319 J (X)::F)) call112 rR (wn J X)) ?_))));rintro _ _ ⟨rfl,rfl⟩;refine gV (qH rR rR) (gM rR (gK rR rR (qn rR) (gK rR rR (eA OT rR) (gV (bT rR rR) (qc ?_)))));refine qd rfl ?_ ?_ <;> intro Y
  ·simp at Y;have he0:e=0:=Y.2;have hkn:122+k<N:=(by have:=h.2.1;omega);refine qf (qb (qg (qo (gM rfl (gM rfl (gR (vB call175 rfl (wO J X ((122+k:Nat):Int) [] h.2.2.1 (by have:=h.2.2.2.2;omega))) (gQ rfl (qD (qo (gM rfl (gV (yr (r:=((122+(k+1):Nat):Int)) rfl rfl (by rw[show ((122+k:Nat):Int)+1=((122+(k+1):Nat):Int) by omega];exact ao (by omega))) (gQ rfl ?_))))))))))));exact qk (k+1,wc X ((122+k:Nat):Int) [],yH X ((122+k:Nat):Int) []) ⟨by simp only[];omega,by simp only[];rw[cJ,j7 (by rw[V,he0])];rfl⟩ (by simp only[];omega) [0,3,4] rfl rfl
  ·simp at Y;have hst:k=N - 122\/e≠0:=by
    have:=h.2.1;by_cases he:e=0
    ·left;by_cases hx:122+k<N
     ·exact absurd he (Y (by omega))
     ·omega
    ·exact .inr he
   have hf:=Kc V hst hk;refine qw rR ?_;refine qb (gS (gM rR (gV (eA OT rR) (qc ?_))));refine iq (α:=Int×DiskM) (λz=>wA D (cJ (N - 122)++ [none])=z) (λz=>U [(0,ptr J 0),(3,wm z.1)]) (λz=>al 179 319 J (z.2)::F) ?_ ?_
   ·refine qd rfl ?_ ?_ <;> intro h25
    ·have he:e=0:=(by simpa using h25);subst he;refine qo (gM rR (gR (vB call176 rR (mK J X h.2.2.1 (by rw[h.1,h.2.1]) (by rw[h.2.1];omega))) (gQ rR ?_)));exact cT (wv X,yJ X) (j7 (x:=none) hf) [0,3] rfl rfl
    ·have he:¬e=0:=(by simpa using h25);refine qf ?_;exact cT (e,X) (j8 hf he) [0,3] rfl rfl
   rintro ⟨e1,X1⟩ h1;simp only at h1 ⊢;have S:=gm (cJ (N - 122)++ [none]) i D hok;rw[h1,Sx,oM] at S;simp only[RX,Uh] at S;refine qb (gS (gM rR (gV (eA OT rR) (qc ?_))));refine iq (α:=Int×DiskM) (λz=>wA D (cJ (N - 122)++ [none]++ [some (1,wx hd1)])=z) (λz=>U [(0,ptr J 0),(3,wm z.1)]) (λz=>al 179 319 J (z.2)::F) ?_ ?_
   ·refine qd rfl ?_ ?_ <;> intro h29
    ·have he1:e1=0:=(by simpa using h29);subst he1;refine qo (gM rR (gV (qF rR (wE _ rR _ rR _ rR _ rR)) (gR (vA call177 rR (Cy hd1)) (gR (vB call175 rR (wO J X1 ((1:Nat):Int) (wx hd1) S.2.2.1 (by have:=S.2.2.2.2;omega))) (gQ rR ?_)))));exact cT (wc X1 ((1:Nat):Int) (wx hd1),yH X1 ((1:Nat):Int) (wx hd1)) (j7 h1) [0,3] rfl rfl
    ·have he1:¬e1=0:=(by simpa using h29);refine qf ?_;exact cT (e1,X1) (j8 h1 he1) [0,3] rfl rfl
   rintro ⟨e2,X2⟩ h2;simp only at h2 ⊢;have O:=gm (cJ (N - 122)++ [none]++ [some (1,wx hd1)]) i D hok;rw[h2,Sx,Sx,oM] at O;simp only[RX,Uh] at O;refine qb (gS (gM rR (gV (eA OT rR) (qc ?_))));refine iq (α:=Int×DiskM) (λz=>wA D (eh N)=z) (λz=>U [(0,ptr J 0),(3,wm z.1)]) (λz=>al 179 319 J (z.2)::F) ?_ ?_
   ·refine qd rfl ?_ ?_ <;> intro h35
    ·have he2:e2=0:=(by simpa using h35);subst he2;refine qo (gM rR (gR (vB call176 rR (mK J X2 O.2.2.1 (by rw[O.1,O.2.1]) (by rw[O.2.1];omega))) (gQ rR ?_)));exact cT (wv X2,yJ X2) (by have:=j7 (x:=none) h2;rw[Sr,Sr] at this;exact this) [0,3] rfl rfl
    ·have he2:¬e2=0:=(by simpa using h35);refine qf ?_;exact cT (e2,X2) (by have:=j8 (r:=[none]) h2 he2;rw[Sr,Sr] at this;exact this) [0,3] rfl rfl
   rintro ⟨e3,X3⟩ h3;simp only at h3 ⊢;refine gS (gM rR (gQ rR ?_));exact qh (al 179 319 J (X3)::F) rfl (.inr ⟨Z,e3,X3,h3,rfl,rfl⟩)
end Go.Proofs.YthdjckbjjfiopabGreatDoor
namespace Go.Proofs.YthdjckbjjfiopabGreatDoor
open Go.Sl Go.Proofs
def Kp {l:List ChangeM}{c:ChangeM}(h:∀r∈l,eJ r)(J:aS c=0):∀r∈fu l c,eJ r:=by
 intro r D;unfold fu at D;simp only[Sc] at D;rcases D with (D | D) | D
 ·exact h r (Tz.1 D).1
 ·split at D
  ·cases D
  ·rename_i O;rw[Ub] at D;subst D;exact ⟨J,by simpa using O⟩
 ·exact h r (Tz.1 D).1
def CS:∀(c:List ChangeM) {l:List ChangeM},(∀r∈l,eJ r)->(∀x∈c,aS x=0)->∀r∈wS l c,eJ r
 | [],l,h,_=>h
 | x::c,l,h,D=>CS c (Kp h (D x (by simp))) λy J=>D y (Th _ J)
def CT:∀(ds:an) {l:List ChangeM},(∀r∈l,eJ r)->(∀d∈ds,∀x∈d,aS x=0)->∀r∈cur l ds,eJ r
 | [],l,h,_=>h
 | d::ds,l,h,D=>CT ds (CS d h (D d (by simp))) λe J=>D e (Th _ J)
def te (h:List ChangeM)(ds:an)(c:List ChangeM):cur h (ds++ [c])=wS (cur h ds) c:=by unfold cur;rw[Uy];rfl
theorem Good.srtC {L:List ab}{h:HdM}{D:List ChangeM}{ds:an}{used:Nat}(g:Good L h D ds used):srt (cur D ds):=xd ds g.hsrt
theorem Good.okC {L:List ab}{h:HdM}{D:List ChangeM}{ds:an}{used:Nat}(g:Good L h D ds used):∀r∈cur D ds,eJ r:=CT ds g.hok g.chk
theorem Good.lenC {L:List ab}{h:HdM}{D:List ChangeM}{ds:an}{used:Nat}(g:Good L h D ds used):(cur D ds).length<=80:=by
 have:=g.fits ds.length;rw[S7] at this;exact this
def jk (a b:HdM):HdM:=if (if HdM.no.ep<a.ep then a else HdM.no).ep<b.ep then b else if HdM.no.ep<a.ep then a else HdM.no
def oO (L:List ab):gp L=jk (wU (L.getD 0 [])) (wU (L.getD 1 [])):=rfl
def CU {L L':List ab}(h:L'.getD 0 []=L.getD 0 [])(D:L'.getD 1 []=L.getD 1 []):gp L'=gp L:=by rw[oO,oO,h,D]
def xe:HdM.no.ep=0:=rfl
def CV (a b:HdM):a.ep<=(jk a b).ep/\b.ep<=(jk a b).ep:=by
 unfold jk;by_cases D:HdM.no.ep<a.ep
 ·simp only[RI D];by_cases h:a.ep<b.ep
  ·rw[RI h];omega
  ·rw[RJ h];omega
 ·simp only[RJ D];have:=xe;by_cases h:HdM.no.ep<b.ep
  ·rw[RI h];omega
  ·rw[RJ h];omega
def Kq {a b h:HdM}(D:(jk a b).ep<h.ep):jk h b=h:=by
 have:=CV a b;have:=xe;unfold jk;rw[RI (show HdM.no.ep<h.ep by omega),RJ (by omega)]
def Kr {a b h:HdM}(D:(jk a b).ep<h.ep):jk a h=h:=by
 have:=CV a b;have:=xe;unfold jk;rw[RI];split <;> omega
def CW {L L':List ab}{side:Nat}(D:L'.length=L.length):∀k,2+side*60+k<=L.length->(∀m,2+side*60<=m->m<2+side*60+k->L'.getD m []=L.getD m [])->eY L' side k=eY L side k
 | 0,_,_=>rfl
 | k+1,J,h=>by
  rw[<-lP (by omega),<-lP (L:=L) (by omega),CW D k (by omega) (λm a b=>h m a (by omega)),h _ (by omega) (by omega)]
def CX {L L':List ab}{h:HdM}{V:List ChangeM}{ds D:an}{used J:Nat}(g:Good L h V ds used)(Y:L'.length=L.length)(X:122<=L.length)(O:∀m,m<2->L'.getD m []=L.getD m [])(S:∀m,2+h.side*60<=m->m<2+h.side*60+60->L'.getD m []=L.getD m [])
  (R:wu h.first (db L' 122) (L.length - 122) 0 [] [] 0=(D,J)) (Z:∀d∈D,d.length<=72) (h2:∀d∈D,∀x∈d,aS x=0) (h3:∀k,((D.take k).foldl wS V).length<=80):Good L' h V D J:=by
 have hs:=g.side;have ht:eY L' h.side 60=eY L h.side 60:=CW Y 60 (by omega) S;exact ⟨(CU (O 0 (by decide)) (O 1 (by decide))).trans g.best,g.ep,g.side,g.first,g.size,by
  have:=g.text;show (eY L' h.side 60).take h.size=_;rw[ht];exact this,g.hsrt,g.hok,g.len,by rw[Y];exact R,Z,h2,h3⟩
def Ks {L L':List ab}{h:HdM}{S:List ChangeM}{ds:an}{used:Nat}(g:Good L h S ds used)(V:L'.length=L.length)(D:122<=L.length)(J:∀m,m<2->L'.getD m []=L.getD m [])(R:∀m,2+h.side*60<=m->m<2+h.side*60+60->L'.getD m []=L.getD m [])(O:∀m,122<=m->L'.getD m []=L.getD m []):Good L' h S ds used:=
 CX g V D J R (by
  have:db L' 122=db L 122:=funext λi=>O _ (by omega);rw[this];exact g.log) g.lens g.chk g.fits
def gq (B:Nat)(s:ab):Prop:=∀n,B<=n->n<4294967296->cC n s=none
def Kt {B D:Nat}{s:ab}(h:gq B s)(R:B<=D):gq D s:=λn O J=>h n (by omega) J
def CY (B:Nat):gq B (yx []):=λn _ _=>om n
def Ku {m n:Nat}(D:m<4294967296)(J:n<4294967296)(h:yb m=yb n):m=n:=by rw[<-mT D,h,mT J]
def CZ {B m:Nat}{k:UInt8}{s:ab}(R:m<B)(O:B<=4294967296):gq B (yx (bP k m s)):=λn J D=>by
 unfold cC;rw[RJ];intro h;have e:((yx (bP k m s)).take 5).drop 1=yb m:=by
  unfold yx bP yb;simp[List.take]
 rw[e] at h;have:=Ku (by omega) D h.1;omega
structure AllP (P:Nat->ab->Prop) (D:DiskM):Prop where
 now:∀m,P m (D.now.getD m [])
 kept:∀m,P m (D.kept.getD m [])
 wait:∀t∈D.wait,P t.1 t.2
def lQ (P:Nat->ab->Prop):bq->Prop
 | some x=>P x.1 (yx x.2)
 | none=>True
theorem AllP.step {P:Nat->ab->Prop}{D:DiskM}(h:AllP P D):AllP P (wy D):=⟨by rw[wV];exact h.now,by rw[wq];exact h.kept,by rw[wM];exact h.wait⟩
theorem AllP.st {P:Nat->ab->Prop}{D:DiskM}{x:bq}(h:AllP P D)(hx:lQ P x):AllP P (fE D x):=by
 cases x with
 | none=>
  show AllP P (yJ D);unfold yJ;split
  ·exact ⟨h.step.now,h.step.now,λt J=>by cases J⟩
  ·exact h.step
 | some y=>
  show AllP P (yH D y.1 y.2);unfold yH;split
  ·exact h
  ·split
   ·refine ⟨λm=>?_,h.step.kept,λt J=>?_⟩
    ·show P m (((wy D).now.set ((y.1:Int)).toNat (yx y.2)).getD m []);rw[yU];split
     ·rename_i O;rw[<-O.1,Ui];exact hx
     ·exact h.step.now m
    ·simp only[wP,Sc,Ub] at J;rcases J with J | rfl
     ·exact h.step.wait t J
     ·simp only[Ui];exact hx
   ·exact h.step
theorem AllP.run {P:Nat->ab->Prop}:∀(l:List bq) {D:DiskM},AllP P D->(∀x∈l,lQ P x)->AllP P (wA D l).2
 | [],D,h,_=>h
 | x::l,D,h,R=>by
  have O:=h.st (R x (TQ ..));by_cases J:fq D x=0
  ·rw[hZ J];exact AllP.run l O λy S=>R y (Th _ S)
  ·rw[iE J];exact O
theorem AllP.rest {P:Nat->ab->Prop}{D:DiskM}(h:AllP P D)(keep:Int)(m:Nat):P m ((dz keep D).getD m []):=by
 rcases sP (keep:=keep) (w:=D.wait) (K:=D.kept) D.wait.length m with e | ⟨t,R,J,O⟩
 ·show P m ((hJ keep D.wait D.kept D.wait.length).getD m []);rw[e];exact h.kept m
 ·show P m ((hJ keep D.wait D.kept D.wait.length).getD m []);rw[O,<-J];exact h.wait t R
theorem AllP.calm {P:Nat->ab->Prop}{D:DiskM}(J:D.kept=D.now)(R:D.wait=[])(h:∀m,P m (D.now.getD m [])):AllP P D:=⟨h,by rw[J];exact h,by rw[R];intro t O;cases O⟩
def xf (keep:Int)(D:DiskM):(dz keep D).length=D.kept.length:=sF ..
def tf:∀(l:List bq) {D O:DiskM},(∀x∈l,ed D.now.length x)->wA D l=(0,O)->O.now=aO D.now l
 | [],D,O,_,h=>by injection h with _ h;rw[<-h];rfl
 | none::l,D,O,S,h=>by
  by_cases J:wv D=0
  ·rw[kP J] at h;have R:=(mP J).2;have:=tf l (D:=yJ D) (λx hx=>by rw[R];exact S x (Th _ hx)) h;rw[this,R];rfl
  ·rw[lD J] at h;injection h with h _;exact absurd h J
 | some y::l,D,O,S,h=>by
  obtain ⟨n,s⟩:=y;have X:=S _ (TQ ..);have V:¬d8 D (n:Int) s:=(by unfold d8;have Y:=X.1;have Z:=X.2;simp only at Y Z;omega);by_cases J:wc D (n:Int) s=0
  ·rw[mM J] at h;have hs:wv D=0:=(by unfold wc at J;rw[RJ V] at J;exact J);have R:(yH D (n:Int) s).now=D.now.set n (yx s):=by
    unfold yH;rw[RJ V,RI hs];show (wy D).now.set ((n:Int)).toNat _=_;rw[wV,Ui]
   have:=tf l (D:=yH D (n:Int) s) (λx hx=>by rw[R,T2];exact S x (Th _ hx)) h;rw[this,R];rfl
  ·rw[mN J] at h;injection h with h _;exact absurd h J
def tg {side:Nat}{t:ab}:∀(f k:Nat) (L:List ab) (m:Nat),(aO L (bu side t k f)).getD m []=if 2+side*60+k<=m/\m<2+side*60+k+f/\m<L.length then yx (bC t (m - (2+side*60))) else L.getD m []
 | 0,k,L,m=>by rw[RJ (by omega)];rfl
 | f+1,k,L,m=>by
  rw[bu,aO,tg f (k+1),T2,yU];by_cases h:2+side*60+(k+1)<=m/\m<2+side*60+(k+1)+f/\m<L.length
  ·rw[RI h,RI (by omega)]
  ·rw[RJ h];by_cases D:2+side*60+k=m/\2+side*60+k<L.length
   ·rw[RI D,RI (by omega),show m - (2+side*60)=k by omega]
   ·rw[RJ D,RJ (by omega)]
def Kv {t:ab}{k:Nat}(h:80*(k+1)<=t.length):yx (bC t k)=bC t k:=by
 have:(bC t k).length=80:=(by rw[sY,show Nat.min 80 (t.length - 80*k)=80 from Sw (by omega)]);unfold yx;rw[this];simp[dW]
def C0 {t:ab}{k:Nat}:t.take (80*k)++bC t k=t.take (80*(k+1)):=by
 unfold bC;rw[show 80*(k+1)=80*k+80 by omega,List.take_add]
def xh {L:List ab}{side:Nat}{t:ab}(O:2+side*60+60<=L.length)(J:∀k,k<yq t->L.getD (2+side*60+k) []=yx (bC t k))(D:yq t<=60):∀k,80*k<=t.length->eY L side k=t.take (80*k)
 | 0,_=>rfl
 | k+1,h=>by
  have R:k<yq t:=chunks_lt.2 (by omega);rw[<-lP (by omega),xh O J D k (by omega),J k R,Kv h,C0]
def C4 {L:List ab}{side:Nat}(D:2+side*60+60<=L.length):∀(g k:Nat),k+g<=60->∃r,eY L side (k+g)=eY L side k++r
 | 0,k,_=>⟨[],by simp⟩
 | g+1,k,h=>by
  obtain ⟨r,J⟩:=C4 D g k (by omega);exact ⟨r++L.getD (2+side*60+(k+g)) [],by rw[show k+(g+1)=(k+g)+1 by omega,<-lP (by omega),J,Sr]⟩
def Kw {L:List ab}{side:Nat}{t:ab}(J:2+side*60+60<=L.length)(R:∀k,k<yq t->L.getD (2+side*60+k) []=yx (bC t k))(h:yq t<=60):(eY L side 60).take t.length=t:=by
 have O:∃r,eY L side (yq t)=t++r:=by
  by_cases S:80*yq t=t.length
  ·exact ⟨[],by rw[xh J R h _ (by omega),S,S7,T6]⟩
  ·obtain ⟨q,O⟩:∃q,yq t=q+1:=⟨yq t - 1,by unfold yq at*;omega⟩;have X:80*q<t.length:=chunks_lt.1 (by omega);refine ⟨dW (80 - (bC t q).length),?_⟩;rw[O,<-lP (by omega),xh J R h q (by omega),R q (by omega)];unfold yx;rw[<-Sr,C0,T4 (by unfold yq at*;omega)]
 obtain ⟨r,V⟩:=O;obtain ⟨r2,D⟩:=C4 J (60 - yq t) (yq t) (by omega);rw[show yq t+(60 - yq t)=60 by omega] at D;rw[D,V,Sr,T9]
def Kx {L:List ab}{h:HdM}{i:Nat}(R:i<2)(S:2<=L.length)(D:(gp L).ep<h.ep)(O:wU (yx (wx h))=h):gp (L.set i (yx (wx h)))=h:=by
 rw[oO,yU,yU];rw[oO] at D
 match i,R with
 | 0,_=>
  rw[RI ⟨rfl,by omega⟩,RJ (λJ=>absurd J.1 (by decide)),O];exact Kq D
 | 1,_=>
  rw[RJ (λJ=>absurd J.1 (by decide)),RI ⟨rfl,by omega⟩,O];exact Kr D
def Ky {L:List ab}{h:HdM}{D:List ChangeM}{ds:an}{used:Nat}(g:Good L h D ds used)(hL:196<=L.length/\L.length<=260)(hep:h.ep<=1000000)(hfi:h.first<=900000000)(hnb:∀m,122<=m->m<L.length->gq (h.first+(L.length - 122)) (L.getD m [])):
  Good ((aO L (bu (1 - h.side) (yG (cur D ds)) 0 (yq (yG (cur D ds))))).set ((h.ep+1) % 2) (yx (wx (aq h (cur D ds) (L.length - 122))))) (aq h (cur D ds) (L.length - 122)) (cur D ds) [] 0:=by
 have V:=lO g.lenC g.okC;have hal:=lK g.okC;have hlc:=g.lenC;have hs:=g.side;generalize S:aO L (bu (1 - h.side) (yG (cur D ds)) 0 (yq (yG (cur D ds))))=L2;have Y:L2.length=L.length:=(by rw[<-S,ia]);have J:∀m,L2.getD m []=if 2+(1 - h.side)*60<=m/\m<2+(1 - h.side)*60+yq (yG (cur D ds))/\m<L.length then yx (bC (yG (cur D ds)) (m - (2+(1 - h.side)*60))) else L.getD m []:=λm=>by rw[<-S,tg];rfl
 have X:wU (yx (wx (aq h (cur D ds) (L.length - 122))))=aq h (cur D ds) (L.length - 122):=Cs (by simp only[aq];omega) (by simp only[aq];omega) (by simp only[aq];omega) (by have:=g.first;simp only[aq];omega);have O:∀m,2<=m->(L2.set ((h.ep+1) % 2) (yx (wx (aq h (cur D ds) (L.length - 122))))).getD m []=L2.getD m []:=λm Z=>(by rw[yU,RJ (by omega)]);have R:gp L2=h:=(CU (by rw[J,RJ (by omega)]) (by rw[J,RJ (by omega)])).trans g.best;refine ⟨Kx (by omega) (by omega) (by rw[R];simp only[aq];omega) X,by simp only[aq];omega,by simp only[aq];omega,by have:=g.first;simp only[aq];omega,rfl,?_,g.srtC,g.okC,g.lenC,?_,(λd hd=>by cases hd),(λd hd=>by cases hd),λk=>by rw[List.take_nil];exact g.lenC⟩
 ·show (eY _ (1 - h.side) 60).take (yG (cur D ds)).length=_;refine Kw (by rw[T2];omega) (λk hk=>?_) V;rw[O _ (by omega),J,RI ⟨by omega,by omega,by omega⟩,Sb]
 ·rw[T2,Y];have h0:db (L2.set ((h.ep+1) % 2) (yx (wx (aq h (cur D ds) (L.length - 122))))) 122 0=L.getD 122 []:=by
   show List.getD _ _ _=_;rw[O _ (by omega),J,RJ (by omega)]
  obtain ⟨m,Z⟩:∃m,L.length - 122=m+1:=⟨L.length - 123,by omega⟩;rw[show L.length - 122=m+1 from Z];refine vP ?_;show cC (h.first+(m+1)+0) (db _ 122 0)=none;rw[<-Z,h0];exact hnb 122 (Ra _) (by omega) _ (by omega) (by omega)
def Kz {h:HdM}{t:ab}{L:List ab}(O:yq t<=60):∀x∈bu (1 - h.side) t 0 (yq t),lQ (λm s=>(m<2+(1 - h.side)*60\/2+(1 - h.side)*60+60<=m)->s=L.getD m []) x:=by
 have:∀(f k:Nat),k+f<=60->∀x∈bu (1 - h.side) t k f,lQ (λm s=>(m<2+(1 - h.side)*60\/2+(1 - h.side)*60+60<=m)->s=L.getD m []) x:=by
  intro f
  induction f with
  | zero=>intro k _ x hx;simp[bu] at hx
  | succ f J=>
   intro k R x hx;rw[bu] at hx;rcases RR.1 hx with rfl | hx
   ·intro D;simp only at D;omega
   ·exact J (k+1) (by omega) x hx
 exact this _ 0 (by omega)
def KA {L L':List ab}{h:HdM}{O:List ChangeM}{ds:an}{used:Nat}(g:Good L h O ds used)(V:L'.length=L.length)(D:122<=L.length)(J:∀m,(m<2+(1 - h.side)*60\/2+(1 - h.side)*60+60<=m)->L'.getD m []=L.getD m []):Good L' h O ds used:=by
 have Y:=g.side;refine Ks g V D (λm X=>J m (by omega)) (λm R S=>J m ?_) (λm X=>J m (by omega));have:h.side=0\/h.side=1:=(by omega);rcases this with e | e <;> rw[e] at R S ⊢ <;> omega
def C5 {many first used:Nat}:∀(c:List ChangeM) (k:Nat),used+k+c.length<=many->first+many<=4294967296->∀x∈cU 122 first used k c,lQ (λm s=>122<=m/\gq (first+many) s) x
 | [],k,_,_,x,h=>by simp[cU] at h
 | y::c,k,J,D,x,h=>by
  rw[cU] at h;simp only[RX] at J;rcases RR.1 h with rfl | h
  ·exact ⟨by simp only;omega,CZ (by omega) D⟩
  ·exact C5 c (k+1) (by omega) D x h
def KB {many first used:Nat}{c:List ChangeM}(D:used+c.length+1<=many)(h:first+many<=4294967296):∀x∈cO 122 many first used c,lQ (λm s=>122<=m/\gq (first+many) s) x:=by
 intro x hx;unfold cO dX at hx;simp only[Sc,RR,Uf,or_false] at hx;rcases hx with (hx | hx) | rfl | rfl | rfl
 ·exact C5 c 0 (by omega) h x hx
 ·unfold eG at hx;split at hx
  ·simp only[Ub] at hx;subst hx;exact ⟨by simp only;omega,CY _⟩
  ·simp at hx
 ·trivial
 ·exact ⟨by simp only;omega,CZ (by omega) h⟩
 ·trivial
def xi {D:List ChangeM}{ds:an}{c:List ChangeM}(h:∀k,((ds.take k).foldl wS D).length<=80)(O:(wS (cur D ds) c).length<=80):∀k,(((ds++ [c]).take k).foldl wS D).length<=80:=λk=>by
 rcases Rq ds.length k with J | J
 ·rw[T4 (by simp;omega),show (ds++ [c]).foldl wS D=wS (cur D ds) c from te D ds c];exact O
 ·rw[SY J];exact h k
def mU {α:Type}{p:α->Prop}{l:List α}{c:α}(h:∀d∈l,p d)(D:p c):∀d∈l++ [c],p d:=λd hd=>by
 rcases Sc.1 hd with hd | hd
 ·exact h d hd
 ·rw[Ub] at hd;rw[hd];exact D
structure Inv (N:Nat) (D:DiskM) (h:HdM) (r0:List ChangeM) (ds:an) (used:Nat):Prop where
 len:D.now.length=N
 big:196<=N/\N<=260
 good:Good D.now h r0 ds used
 num:∀m,122<=m->m<N->gq (h.first+(N - 122)) (D.now.getD m [])
theorem Inv.used_le {N:Nat}{D:DiskM}{h:HdM}{J:List ChangeM}{ds:an}{used:Nat}(I:Inv N D h J ds used):used<=N - 122:=by
 have:=B8 I.good.log;rw[I.len] at this;exact this
theorem Inv.now {N:Nat}{D O:DiskM}{h:HdM}{R:List ChangeM}{ds:an}{used:Nat}(I:Inv N D h R ds used)(J:O.now=D.now):Inv N O h R ds used:=⟨by rw[J];exact I.len,I.big,by rw[J];exact I.good,by rw[J];exact I.num⟩
def th (h:HdM)(t:ab)(L:List ab):aO L (cW h t)=(aO L (bu h.side t 0 (yq t))).set (h.ep % 2) (yx (wx h)):=by unfold cW;rw[je];rfl
theorem Inv.new {N:Nat}{D D1:DiskM}{h:HdM}{J:List ChangeM}{ds:an}{used:Nat}(I:Inv N D h J ds used)(S:h.ep<=1000000)(Z:h.first<=900000000)(R:D1.now=aO D.now (cW (aq h (cur J ds) (N - 122)) (yG (cur J ds)))):
  Inv N D1 (aq h (cur J ds) (N - 122)) (cur J ds) [] 0:=by
 have O:=I.len;have g:=Ky I.good (by rw[O];exact I.big) S Z (by rw[O];exact I.num);rw[O] at g;rw[th] at R;have V:=lO I.good.lenC I.good.okC;refine ⟨by rw[R,T2,ia,O],I.big,by rw[R];exact g,λm X Y=>?_⟩;rw[R,yU,RJ (by simp only[aq];omega),tg,RJ (by simp only[aq];omega)];exact Kt (I.num m X Y) (by simp only[aq];omega)
def xj {N:Nat}{D:DiskM}{h:HdM}{J:List ChangeM}{ds:an}{used:Nat}(S:cQ D)(I:Inv N D h J ds used)(O:h.ep<=1000000)(R:h.first<=900000000):
  ∃D1,wA D (cW (aq h (cur J ds) (N - 122)) (yG (cur J ds)))=(0,D1)/\cQ D1/\Inv N D1 (aq h (cur J ds) (N - 122)) (cur J ds) [] 0:=by
 obtain ⟨r1,r2,V⟩:=j5 _ D S (by rw[I.len];exact oN (h:=h) I.good.lenC I.good.okC I.big.1);exact ⟨_,Prod.ext r1 rfl,r2,I.new O R V⟩
def xl {first many:Nat}{h:Nat->ab}{a b:an}{u v:Nat}(R:wu first h many 0 [] [] 0=(a,u))(D:wu first h many 0 [] [] 0=(b,v)):a=b/\u=v:=by
 rw[R] at D;injection D with J O;exact ⟨J,O⟩
theorem Inv.add {N:Nat}{D D1:DiskM}{h:HdM}{V:List ChangeM}{ds J:an}{used O:Nat}(I:Inv N D h V ds used)(X:D1.now.length=N)(S:∀m,(m<122->D1.now.getD m []=D.now.getD m [])/\(122<=m->m<N->gq (h.first+(N - 122)) (D1.now.getD m [])))
  (R:wu h.first (db D1.now 122) (N - 122) 0 [] [] 0=(J,O)) (Y:∀d∈J,d.length<=72) (Z:∀d∈J,∀x∈d,aS x=0) (h3:∀k,((J.take k).foldl wS V).length<=80):Inv N D1 h V J O:=by
 have hb:=I.big;have hs:=I.good.side;exact ⟨X,I.big,CX I.good (by rw[X,I.len]) (by rw[I.len];omega) (λm hm=>(S m).1 (by omega)) (λm a b=>(S m).1 (by omega)) (by rw[I.len];exact R) Y Z h3,λm a b=>(S m).2 a b⟩
def oP {N:Nat}{D:DiskM}{h:HdM}{O:List ChangeM}{ds:an}{used:Nat}{c:List ChangeM}(I:Inv N D h O ds used)(S:h.first<=900000000)(J:dA (N - 122) used c=0):∀x∈cO 122 (N - 122) h.first used c,lQ (λm s=>(m<122->s=D.now.getD m [])/\(122<=m->m<N->gq (h.first+(N - 122)) s)) x:=by
 obtain ⟨v1,v2,v3⟩:=lF J;have R:=I.big;intro x hx;have:=KB (many:=N - 122) (first:=h.first) (used:=used) (c:=c) (by omega) (by omega) x hx;cases x with
 | none=>trivial
 | some y=>exact ⟨λV=>absurd this.1 (by omega),λ_ _=>this.2⟩
def KC {N:Nat}{D:DiskM}{h:HdM}{r0:List ChangeM}{ds:an}{used:Nat}{c:List ChangeM}(hu:cQ D)(X:∀x∈D.now,x.length=80)(I:Inv N D h r0 ds used)(hf:h.first<=900000000)(V:dA (N - 122) used c=0)(R:(wS (cur r0 ds) c).length<=80):
  dN 122 (N - 122) h.first used c D=0/\cQ (ce 122 (N - 122) h.first used c D)/\dB 122 (N - 122) h.first used c D=used+c.length+1/\Inv N (ce 122 (N - 122) h.first used c D) h r0 (ds++ [c]) (used+c.length+1):=by
 obtain ⟨v1,v2,v3⟩:=lF V;have hb:=I.big;have J:=I.good.log;rw[I.len] at J;obtain ⟨a1,a2,a3,a4,a5⟩:=Jj hu X (by rw[I.len];omega) V J;refine ⟨a1,a2,by unfold dB;rw[RI a1],?_⟩;have O:AllP (λm s=>(m<122->s=D.now.getD m [])/\(122<=m->m<N->gq (h.first+(N - 122)) s)) {D with kept:=D.now,wait:=[]}:=AllP.calm rfl rfl λm=>⟨λ_=>rfl,λh1 h2=>I.num m h1 h2⟩;have hD:ce 122 (N - 122) h.first used c D=(wA D (cO 122 (N - 122) h.first used c)).2:=(by unfold ce;rw[RI V]);have hok:∀x∈cO 122 (N - 122) h.first used c,ed D.now.length x:=(by rw[I.len];exact sO (by omega) V);have Z:=(j5 _ D hu hok).2.2;have S:=(j5 _ ({D with kept:=D.now,wait:=[]}:DiskM) hu hok).2.2;have Y:=(O.run (cO 122 (N - 122) h.first used c) (oP I hf V)).now;rw[S] at Y;rw[<-Z,<-hD] at Y;exact I.add (by rw[a4,I.len]) Y a5 (mU I.good.lens v1) (mU I.good.chk v3) (xi I.good.fits R)
def C6 {many:Nat}{rows c:List ChangeM}(h:dm many rows c=0):c.length<=72/\cP c=0/\(wS rows c).length<=80/\c.length+1<=many:=by
 unfold dm at h;split at h
 ·cases h
 ·split at h
  ·rename_i J D;exact absurd h D
  ·split at h
   ·cases h
   ·rename_i J D O;exact ⟨by omega,by simpa using D,by omega,by omega⟩
def C7 {N:Nat}{D:DiskM}{h:HdM}{V:List ChangeM}{ds:an}{used:Nat}{c:List ChangeM}{e:Int}{D2:DiskM}{h2:HdM}{S:Nat}{O:List ChangeM}(hu:cQ D)(hS:cE D)(I:Inv N D h V ds used)(hep:h.ep<=1000000)(hf:h.first<=800000000)(hc:kW D h (cur V ds) (N - 122) used c e D2 h2 S O):
  e=dm (N - 122) (cur V ds) c/\cQ D2/\cE D2/\h2.ep<=h.ep+1/\h2.first<=h.first+N/\O=(if dm (N - 122) (cur V ds) c=0 then wS (cur V ds) c else cur V ds)/\
   S=(if dm (N - 122) (cur V ds) c=0 then (if N - 122 - used<c.length+1 then 0 else used)+c.length+1 else used)/\∃r0' ds',Inv N D2 h2 r0' ds' S/\cur r0' ds'=O:=by
 have hb:=I.big;rcases hc with ⟨hne,rfl,rfl,rfl,rfl,rfl⟩ | ⟨h0,e1,D1,h1,R,hmid,hrest⟩
 ·exact ⟨rfl,hu,hS,by omega,by omega,by rw[RJ hne],by rw[RJ hne],V,ds,I,rfl⟩
 ·obtain ⟨c1,c2,c3,c4⟩:=C6 h0;have hm:e1=0/\cQ D1/\cE D1/\h1.ep<=h.ep+1/\h1.first<=h.first+N/\R=(if N - 122 - used<c.length+1 then 0 else used)/\∃r1 d1,Inv N D1 h1 r1 d1 R/\cur r1 d1=cur V ds:=by
   rcases hmid with ⟨J,Z,hck⟩ | ⟨J,rfl,rfl,rfl,rfl⟩
   ·obtain ⟨D1',hr1,hu1,I1⟩:=xj hu I hep (by omega);rw[hr1] at Z;injection Z with q1 q2;subst q1 q2;have h80:=lM _ D hS (oN (h:=h) I.good.lenC I.good.okC I.big.1);rw[hr1] at h80;rcases hck with ⟨hx,_⟩ | ⟨_,rfl,hu1',d',hsc⟩
    ·exact absurd rfl hx
    ·have Y:=I1.good.log;rw[I1.len] at Y;have:=(xl hsc Y).2;subst this;exact ⟨rfl,hu1,h80,by simp only[aq];omega,by simp only[aq];omega,by rw[RI J],_,_,I1,rfl⟩
   ·exact ⟨rfl,hu,hS,by omega,by omega,by rw[RJ J],V,ds,I,rfl⟩
  obtain ⟨rfl,hu1,hS1,m1,m2,m3,r1,d1,I1,X⟩:=hm;rcases hrest with ⟨hx,_⟩ | ⟨_,rfl,rfl,rfl,rfl,rfl⟩
  ·exact absurd rfl hx
  ·have hv:dA (N - 122) R c=0:=(by rw[vI c1 (by rw[m3];split <;> omega)];exact c2);obtain ⟨a1,a2,a3,a4⟩:=KC (c:=c) hu1 hS1.2.1 I1 (by omega) hv (by rw[X];exact c3);refine ⟨by rw[a1,h0],a2,CB hS1 (N:=N) (by omega),m1,m2,by rw[RI a1,RI h0],by rw[a3,RI h0,m3],r1,d1++ [c],by rw[a3];exact a4,?_⟩;rw[RI a1,te,X]
def KD {N i:Nat}{D:DiskM}(h:bB N i D)(from_ many first used:Nat)(c:List ChangeM):bB N (i+200) (ce from_ many first used c D):=by
 unfold ce;split
 ·rename_i J;obtain ⟨O,_,_⟩:=lF J;refine ft (gm _ _ _ h) ?_;have:=B4 from_ many first used c
  simp only[cO,Sx,RX,Uh];omega
 ·exact ft h (by omega)
def C8 {N i:Nat}{D:DiskM}{h:HdM}{Y:List ChangeM}{ds:an}{used:Nat}{c:List ChangeM}{e:Int}{V:DiskM}{Z:HdM}{O:Nat}{J:List ChangeM}(hok:bB N i D)(hS:cE D)(I:Inv N D h Y ds used)(hc:kW D h (cur Y ds) (N - 122) used c e V Z O J):bB N (i+263) V:=by
 rcases hc with ⟨_,_,rfl,_⟩ | ⟨_,e1,D1,h1,S,R,hr⟩
 ·exact ft hok (by omega)
 ·have X:=(xb R hok hS I.good.lenC I.good.okC I.big.1 I.used_le).1;rcases hr with ⟨_,_,rfl,_⟩ | ⟨_,_,rfl,_⟩
  ·exact ft X (by omega)
  ·exact ft (KD X _ _ _ _ _) (by omega)
def ti:∀(k:Nat) (L:List ab) (m:Nat),(aO L (cJ k)).getD m []=if (m=0\/(122<=m/\m<122+k))/\m<L.length then yx [] else L.getD m []
 | 0,L,m=>by
  show (L.set 0 (yx [])).getD m []=_;rw[yU];by_cases h:m=0
  ·subst h;by_cases D:0<L.length
   ·rw[RI ⟨rfl,D⟩,RI ⟨.inl rfl,D⟩]
   ·rw[RJ (λJ=>D J.2),RJ (λJ=>D J.2)]
  ·rw[RJ (λJ=>h J.1.symm),RJ (by omega)]
 | k+1,L,m=>by
  rw[cJ,je];show ((aO L (cJ k)).set (122+k) (yx [])).getD m []=_;rw[yU,ia,ti k L m];by_cases h:122+k=m/\122+k<L.length
  ·rw[RI h,RI ⟨.inr (by omega),by omega⟩]
  ·rw[RJ h];by_cases D:(m=0\/(122<=m/\m<122+k))/\m<L.length
   ·rw[RI D,RI ⟨by omega,D.2⟩]
   ·rw[RJ D,RJ (by omega)]
def C9 {N:Nat}(D:196<=N):∀k,122+k<=N->∀x∈cJ k,ed N x
 | 0,_,x,h=>by
  rw[cJ,Ub] at h;subst h;exact ⟨by simp only;omega,by simp⟩
 | k+1,J,x,h=>by
  rw[cJ] at h;rcases Sc.1 h with h | h
  ·exact C9 D k (by omega) x h
  ·rw[Ub] at h;subst h;exact ⟨by simp only;omega,by simp⟩
def oQ {N:Nat}(h:196<=N):∀x∈eh N,ed N x:=λx hx=>by
 unfold eh sZ at hx;simp only[Sc,RR,Uf,or_false] at hx;rcases hx with hx | rfl | rfl | rfl
 ·exact C9 h _ (by omega) x hx
 ·trivial
 ·exact ⟨by simp only;omega,by rw[w9];decide⟩
 ·trivial
def KE:wU (yx [])=HdM.no:=by
 unfold wU;rw[RI];left;decide
def KF {L:List ab}(V:196<=L.length):Good (aO L (eh L.length)) hd1 [] [] 0:=by
 have e:aO L (eh L.length)=(aO L (cJ (L.length - 122))).set 1 (yx (wx hd1)):=(by unfold eh;rw[je];rfl);rw[e];have h:=ti (L.length - 122) L;have D:(aO L (cJ (L.length - 122))).length=L.length:=ia ..;generalize aO L (cJ (L.length - 122))=M at h D ⊢;have O:wU (yx (wx hd1))=hd1:=Cs (by decide) (by decide) (by decide) (by decide);refine ⟨?_,by decide,by decide,by decide,rfl,?_,List.Pairwise.nil,(λr S=>by cases S),by decide,?_,(λd hd=>by cases hd),(λd hd=>by cases hd),λk=>by rw[List.take_nil];decide⟩
 ·rw[oO,yU,yU,RJ (λJ=>absurd J.1 (by decide)),RI ⟨rfl,by omega⟩,h,RI ⟨.inl rfl,by omega⟩,KE,O]
  rfl
 ·show List.take 0 _=_
  rfl
 ·rw[T2,D];obtain ⟨m,R⟩:∃m,L.length - 122=m+1:=⟨L.length - 123,by omega⟩;rw[R];refine vP ?_;show cC _ ((M.set 1 (yx (wx hd1))).getD (122+0) [])=none;rw[yU,RJ (by omega),h,RI ⟨.inr (by omega),by omega⟩];exact om _
def Da {N:Nat}{D D1:DiskM}(O:196<=N/\N<=260)(h:D.now.length=N)(J:D1.now=aO D.now (eh N)):Inv N D1 hd1 [] [] 0:=by
 have e:aO D.now (eh N)=(aO D.now (cJ (N - 122))).set 1 (yx (wx hd1)):=(by unfold eh;rw[je];rfl);have g:=KF (L:=D.now) (by rw[h];exact O.1);rw[h] at g;refine ⟨by rw[J,ia,h],O,by rw[J];exact g,λm R S=>?_⟩;rw[J,e,yU,RJ (by omega),ti,RI ⟨.inr (by omega),by omega⟩];exact CY _
def xm {N:Nat}:∀(l:List bq) {D:DiskM},D.now.length=N->D.kept.length=N->(wA D l).2.now.length=N/\(wA D l).2.kept.length=N
 | [],D,h,J=>⟨h,J⟩
 | x::l,D,h,J=>by
  have O:(fE D x).now.length=N/\(fE D x).kept.length=N:=by
   cases x with
   | none=>
    show (yJ D).now.length=N/\(yJ D).kept.length=N;unfold yJ;split <;> simp[iD,wV,wq,h,J]
   | some z=>
    show (yH D z.1 z.2).now.length=N/\(yH D z.1 z.2).kept.length=N;unfold yH;split
    ·exact ⟨h,J⟩
    ·split <;> simp[wP,wV,wq,h,J]
  by_cases R:fq D x=0
  ·rw[hZ R];exact xm l O.1 O.2
  ·rw[iE R];exact O
def Db {l:List bq}{D J:DiskM}(Y:∀x∈l,ed D.now.length x)(h:wA D (l++ [none])=(0,J)):calm J/\J.now=aO D.now l:=by
 cases O:wA D l with
 | mk X D1=>
  by_cases R:X=0
  ·subst R;rw[j7 O] at h;injection h with S Z;have V:=mP (D:=D1) S;rw[<-Z];exact ⟨V.1,V.2.trans (tf l Y O)⟩
  ·rw[j8 O R] at h;injection h with S _;exact absurd S R
def jl (N:Nat)(D:DiskM)(h:HdM)(r0:List ChangeM)(ds:an)(used:Nat):Prop:=calm D/\Inv N D h r0 ds used/\eH 122 (N - 122) h.first D.now ds used
def Fell (N:Nat)(D:DiskM)(E Fi:Nat)(φ:List ChangeM->Prop):Prop:=∀keep,∃h r0 ds used,Inv N (j4 keep D) h r0 ds used/\φ (cur r0 ds)/\h.ep<=E/\h.first<=Fi/\eH 122 (N - 122) h.first (dz keep D) ds used
def KG {B j first:Nat}{s:ab}(h:gq B s)(J:B<=first+j)(O:first+j<4294967296):¬kQ first j s:=λ⟨t,D⟩=>by rw[h _ J O] at D;cases D
def Dc {N:Nat}{D D1:DiskM}{h:HdM}{J:List ChangeM}{ds:an}{used:Nat}(I:Inv N D h J ds used)(Y:h.first<=900000000)(V:D1.now=aO D.now (cW (aq h (cur J ds) (N - 122)) (yG (cur J ds))))(R:Inv N D1 (aq h (cur J ds) (N - 122)) (cur J ds) [] 0):eH 122 (N - 122) (aq h (cur J ds) (N - 122)).first D1.now [] 0:=by
 have O:=R.good.log;rw[R.len] at O;have X:=I.big;have S:=lO I.good.lenC I.good.okC;refine ⟨O,λj _ Z=>?_⟩;have e:db D1.now 122 j=D.now.getD (122+j) []:=by
  show List.getD _ _ _=_;rw[V,th,yU,RJ (by simp only[aq];omega),tg,RJ (by simp only[aq];omega)]
 rw[e];exact KG (I.num (122+j) (by omega) (by omega)) (by simp only[aq];omega) (by simp only[aq];omega)
def Dd {N:Nat}{D:DiskM}{h:HdM}{J:List ChangeM}{ds:an}{used:Nat}(hq:calm D)(I:Inv N D h J ds used)(hsf:eH 122 (N - 122) h.first D.now ds used)(hep:h.ep<=1000000)(hf:h.first<=900000000){e:Int}{D1:DiskM}(Z:wA D (cW (aq h (cur J ds) (N - 122)) (yG (cur J ds)))=(e,D1)):
  (e=0/\jl N D1 (aq h (cur J ds) (N - 122)) (cur J ds) [] 0)\/(e=9/\Fell N D1 (h.ep+1) (h.first+N) (λx=>x=cur J ds)):=by
 have hb:=I.big;have hl:=I.len;have hs:=I.good.side;have hc60:=lO I.good.lenC I.good.okC;have hokA:∀x∈cW (aq h (cur J ds) (N - 122)) (yG (cur J ds)),ed D.now.length x:=(by rw[hl];exact oN (h:=h) I.good.lenC I.good.okC hb.1);have hall:AllP (λm s=>(m<2+(1 - h.side)*60\/2+(1 - h.side)*60+60<=m)->s=D.now.getD m []) D:=AllP.calm hq.1 hq.2.1 λm _=>rfl;have invH:∀S:DiskM,S.now.length=N->(∀m,(m<2+(1 - h.side)*60\/2+(1 - h.side)*60+60<=m)->S.now.getD m []=D.now.getD m [])->Inv N S h J ds used:=λS hl' hP=>
  ⟨hl',hb,KA I.good (by rw[hl',hl]) (by rw[hl];omega) hP,λm h1 h2=>by rw[hP m (by omega)];exact I.num m h1 h2⟩
 have e0:cW (aq h (cur J ds) (N - 122)) (yG (cur J ds))=(bu (1 - h.side) (yG (cur J ds)) 0 (yq (yG (cur J ds)))++ [none])++ [some ((h.ep+1) % 2,wx (aq h (cur J ds) (N - 122))),none]:=(by rw[Sr];rfl);have hokW:∀x∈bu (1 - h.side) (yG (cur J ds)) 0 (yq (yG (cur J ds))),ed D.now.length x:=λx hx=>hokA x (by rw[e0];simp[hx]);have fell:∀S:DiskM,(∀keep,∃h' r0' ds' used',Inv N (j4 keep S) h' r0' ds' used'/\cur r0' ds'=cur J ds/\h'.ep<=h.ep+1/\h'.first<=h.first+N/\eH 122 (N - 122) h'.first (dz keep S) ds' used')->Fell N S (h.ep+1) (h.first+N) (λx=>x=cur J ds):=λS H=>H;have sOld:∀K:List ab,(∀m,(m<2+(1 - h.side)*60\/2+(1 - h.side)*60+60<=m)->K.getD m []=D.now.getD m [])->eH 122 (N - 122) h.first K ds used:=λK hK=>
  vO hsf (λj _=>hK (122+j) (by omega)) (λj _ _=> .inl (hK (122+j) (by omega)))
 have old:∀S:DiskM,(∀keep,(dz keep S).length=N/\∀m,(m<2+(1 - h.side)*60\/2+(1 - h.side)*60+60<=m)->(dz keep S).getD m []=D.now.getD m [])->Fell N S (h.ep+1) (h.first+N) (λx=>x=cur J ds):=λS H=>
  fell S λkeep=>⟨h,J,ds,used,invH (j4 keep S) (H keep).1 (H keep).2,rfl,by omega,by omega,sOld _ (H keep).2⟩
 rw[e0] at Z;cases hr1:wA D (bu (1 - h.side) (yG (cur J ds)) 0 (yq (yG (cur J ds)))++ [none]) with
 | mk e1 O=>
  have X:=hall.run (bu (1 - h.side) (yG (cur J ds)) 0 (yq (yG (cur J ds)))++ [none]) (λx hx=>by
   rcases Sc.1 hx with hx | hx
   ·exact Kz hc60 x hx
   ·rw[Ub] at hx;subst hx;trivial)
  have Y:=xm (bu (1 - h.side) (yG (cur J ds)) 0 (yq (yG (cur J ds)))++ [none]) hl (by rw[hq.1];exact hl);have he9:=CH (bu (1 - h.side) (yG (cur J ds)) 0 (yq (yG (cur J ds)))++ [none]) D (λx hx=>hokA x (by rw[e0];exact Ug _ hx));rw[hr1] at X Y he9;simp only at X Y he9;by_cases he:e1=0
  ·subst he;obtain ⟨hq2,hn2⟩:=Db hokW hr1;rw[CG hr1] at Z;have V:¬d8 O (((h.ep+1) % 2:Nat):Int) (wx (aq h (cur J ds) (N - 122))):=(by unfold d8;rw[w9,Y.1];omega);by_cases h0:wv O=0
   ·have hwe:wc O (((h.ep+1) % 2:Nat):Int) (wx (aq h (cur J ds) (N - 122)))=0:=(by unfold wc;rw[RJ V,h0]);have hwd:yH O (((h.ep+1) % 2:Nat):Int) (wx (aq h (cur J ds) (N - 122)))=wP (wy O) (((h.ep+1) % 2:Nat):Int) (wx (aq h (cur J ds) (N - 122))):=(by unfold yH;rw[RJ V,RI h0]);rw[mM hwe,hwd] at Z;generalize hD3:wP (wy O) (((h.ep+1) % 2:Nat):Int) (wx (aq h (cur J ds) (N - 122)))=D3 at Z;have k3:D3.kept=O.now:=(by rw[<-hD3,<-hq2.1];exact wq O);have n3:D3.now=aO D.now (cW (aq h (cur J ds) (N - 122)) (yG (cur J ds))):=by
     rw[<-hD3,th];show (wy O).now.set ((((h.ep+1) % 2:Nat):Int)).toNat _=_;rw[wV,Ui,hn2]
     rfl
    have w3:D3.wait=[((h.ep+1) % 2,yx (wx (aq h (cur J ds) (N - 122))))]:=by
     rw[<-hD3];show (wy O).wait++_=_;rw[wM,hq2.2.1,Ui]
     rfl
    have hkn:O.now.set ((h.ep+1) % 2) (yx (wx (aq h (cur J ds) (N - 122))))=aO D.now (cW (aq h (cur J ds) (N - 122)) (yG (cur J ds))):=(by rw[th,hn2];rfl);by_cases h3:wv D3=0
    ·rw[kP h3,mO] at Z;injection Z with q1 q2;have hfc:=mP h3;left;rw[<-q2];have I1:=I.new (D1:=yJ D3) hep hf (hfc.2.trans n3);exact ⟨q1.symm,hfc.1,I1,Dc I hf (hfc.2.trans n3) I1⟩
    ·rw[lD h3] at Z;injection Z with q1 q2;have h9:wv D3=9:=(kO D3).resolve_left h3;right;refine ⟨by rw[<-q1,h9],fell D1 λkeep=>?_⟩;have k4:D1.kept=O.now:=(by rw[<-q2];unfold yJ;rw[RJ h3,wq,k3]);have w4:D1.wait=[((h.ep+1) % 2,yx (wx (aq h (cur J ds) (N - 122))))]:=(by rw[<-q2];unfold yJ;rw[RJ h3,wM,w3]);have R:dz keep D1=if kb keep 0=true then O.now.set ((h.ep+1) % 2) (yx (wx (aq h (cur J ds) (N - 122)))) else O.now:=by
      unfold dz;rw[k4,w4]
      rfl
     by_cases hk:kb keep 0=true
     ·rw[RI hk,hkn] at R;exact ⟨_,_,_,_,I.new (D1:=j4 keep D1) hep hf R,rfl,by simp only[aq];omega,by simp only[aq];omega,Dc (D1:=j4 keep D1) I hf R (I.new (D1:=j4 keep D1) hep hf R)⟩
     ·rw[RJ hk] at R;exact ⟨h,J,ds,used,invH (j4 keep D1) (by show (dz keep D1).length=N;rw[R];exact Y.1) (λm hm=>by show (dz keep D1).getD m []=_;rw[R];exact X.now m hm),rfl,by omega,by omega,sOld _ (λm hm=>by rw[R];exact X.now m hm)⟩
   ·have hwe:wc O (((h.ep+1) % 2:Nat):Int) (wx (aq h (cur J ds) (N - 122)))=wv O:=(by unfold wc;rw[RJ V]);have hwd:yH O (((h.ep+1) % 2:Nat):Int) (wx (aq h (cur J ds) (N - 122)))=wy O:=(by unfold yH;rw[RJ V,RJ h0]);rw[mN (by rw[hwe];exact h0),hwe,hwd] at Z;injection Z with q1 q2;have h9:wv O=9:=(kO O).resolve_left h0;right;refine ⟨by rw[<-q1,h9],old D1 λkeep=>?_⟩;have R:dz keep D1=O.now:=by
     rw[<-q2];unfold dz;rw[wq,wM,hq2.2.1,hq2.1]
     rfl
    rw[R];exact ⟨Y.1,X.now⟩
  ·rw[j8 hr1 he] at Z;injection Z with q1 q2;right;refine ⟨by rw[<-q1];exact he9.resolve_left he,old D1 λkeep=>?_⟩;rw[<-q2];exact ⟨by rw[xf];exact Y.2,X.rest keep⟩
def KH {N:Nat}{D:DiskM}{h:HdM}{R:List ChangeM}{ds:an}{used:Nat}{c:List ChangeM}(C:jl N D h R ds used)(hf:h.first<=900000000)(hv:dA (N - 122) used c=0)(O:(wS (cur R ds) c).length<=80):
  (dN 122 (N - 122) h.first used c D=0/\jl N (ce 122 (N - 122) h.first used c D) h R (ds++ [c]) (dB 122 (N - 122) h.first used c D))\/
  (dN 122 (N - 122) h.first used c D=9/\Fell N (ce 122 (N - 122) h.first used c D) h.ep h.first (λx=>x=cur R ds\/x=wS (cur R ds) c)):=by
 obtain ⟨hq,I,hs⟩:=C;obtain ⟨v1,v2,v3⟩:=lF hv;have hb:=I.big;have hl:=I.len;cases hr:wA D (cO 122 (N - 122) h.first used c) with
 | mk e S=>
  have hE:dN 122 (N - 122) h.first used c D=e:=(by unfold dN;rw[RI hv,hr]);have hD:ce 122 (N - 122) h.first used c D=S:=(by unfold ce;rw[RI hv,hr]);have Z:AllP (λm s=>(m<122->s=D.now.getD m [])/\(122<=m->m<N->gq (h.first+(N - 122)) s)) D:=AllP.calm hq.1 hq.2.1 λm=>⟨λ_=>rfl,λX h2=>I.num m X h2⟩;have Y:=Z.run (cO 122 (N - 122) h.first used c) (oP I hf hv);have J:=xm (cO 122 (N - 122) h.first used c) hl (by rw[hq.1];exact hl);rw[hr] at Y J;simp only at Y J;rw[hE,hD];rcases Jl hq (by rw[hl];omega) hv hs hr with ⟨V,X,h2⟩ | ⟨V,X⟩
  ·left;refine ⟨V,X,?_,?_⟩
   ·rw[show dB 122 (N - 122) h.first used c D=used+c.length+1 by unfold dB;rw[hE,RI V]];exact I.add J.1 Y.now h2.1 (mU I.good.lens v1) (mU I.good.chk v3) (xi I.good.fits O)
   ·rw[show dB 122 (N - 122) h.first used c D=used+c.length+1 by unfold dB;rw[hE,RI V]];exact h2
  ·right;refine ⟨V,λkeep=>?_⟩;obtain ⟨u,hu | hu⟩:=X keep
   ·exact ⟨h,R,ds,u,I.add (D1:=j4 keep S) ((xf keep S).trans J.2) (Y.rest keep) hu.1 I.good.lens I.good.chk I.good.fits, .inl rfl,Ra _,Ra _,hu⟩
   ·exact ⟨h,R,ds++ [c],u,I.add (D1:=j4 keep S) ((xf keep S).trans J.2) (Y.rest keep) hu.1 (mU I.good.lens v1) (mU I.good.chk v3) (xi I.good.fits O), .inr (te R ds c),Ra _,Ra _,hu⟩
theorem Fell.mono {N:Nat}{D:DiskM}{E O R J:Nat}{φ ψ:List ChangeM->Prop}(h:Fell N D E R φ)(h1:E<=O)(h2:R<=J)(X:∀x,φ x->ψ x):Fell N D O J ψ:=λkeep=>by
 obtain ⟨V,r',S,u',Y,Z,e',f',s'⟩:=h keep;exact ⟨V,r',S,u',Y,X _ Z,by omega,by omega,s'⟩
def KJ {N i:Nat}{D:DiskM}{h:HdM}{Z:List ChangeM}{ds:an}{used:Nat}{c:List ChangeM}{e:Int}{V:DiskM}{h2:HdM}{O:Nat}{J:List ChangeM}(hok:bB N i D)(X:cE D)(I:Inv N D h Z ds used)(hc:kW D h (cur Z ds) (N - 122) used c e V h2 O J):cE V:=by
 have hb:=I.big;rcases hc with ⟨_,_,rfl,_⟩ | ⟨_,e1,D1,h1,S,R,hr⟩
 ·exact X
 ·have Y:=(xb R hok X I.good.lenC I.good.okC I.big.1 I.used_le).2.1;rcases hr with ⟨_,_,rfl,_⟩ | ⟨_,_,rfl,_⟩
  ·exact Y
  ·exact CB Y (N:=N) (by omega)
def KK {N i:Nat}{D:DiskM}{h:HdM}{J:List ChangeM}{ds:an}{used:Nat}{e:Int}{D1:DiskM}(hok:bB N i D)(V:cE D)(I:Inv N D h J ds used)(S:wA D (cW (aq h (cur J ds) (N - 122)) (yG (cur J ds)))=(e,D1)):bB N (i+63) D1/\cE D1:=by
 have O:=gm (cW (aq h (cur J ds) (N - 122)) (yG (cur J ds))) i D hok;have R:=lM _ D V (oN (h:=h) I.good.lenC I.good.okC I.big.1);have X:=lO I.good.lenC I.good.okC;rw[S,CJ] at O;rw[S] at R;exact ⟨ft O (by omega),R⟩
def KL {N:Nat}{D D1:DiskM}(R:196<=N/\N<=260)(O:D.now.length=N)(V:wA D (eh N)=(0,D1)):jl N D1 hd1 [] [] 0:=by
 have e:eh N=(cJ (N - 122)++ [none,some (1,wx hd1)])++ [none]:=(by unfold eh sZ;rw[Sr];rfl);have hok:=oQ R.1;have J:=V;rw[e] at J;have hf:=Db (D:=D) (λx hx=>by rw[O];exact hok x (by rw[e];exact Ug _ hx)) J;have S:=tf (eh N) (D:=D) (by rw[O];exact hok) V;have I:=Da R O S;have h:=I.good.log;rw[I.len] at h;refine ⟨hf.1,I,h,λj _ hj=>?_⟩;have Y:aO D.now (eh N)=(aO D.now (cJ (N - 122))).set 1 (yx (wx hd1)):=(by unfold eh;rw[je];rfl);have Z:db D1.now 122 j=yx []:=by
  show List.getD _ _ _=_;rw[S,Y,yU,RJ (by omega),ti,RI ⟨.inr (by omega),by omega⟩]
 rw[Z];rintro ⟨t,X⟩;rw[om] at X;cases X
open _root_.Go.Proofs.Tryz
def tj (p:PutM):Bool:=decide (p.data.length<=20)
def mV (x:ActM):Bool:=(decide (x.s.length<=100) && decide (x.puts.length<=24) && iy x.changes 90) && x.puts.all tj
def fZ (l:List ActM)(most:Int):Bool:=decide ((l.length:Int)<=most) && l.all mV
def KM (l:List ActM)(f:Nat->ActZ)(s:Option Addr)(cap:Nat)(D:Int)(hl:l.length<=9223372036854775807)(hls:∀x∈l,x.puts.length<=9223372036854775807/\x.changes.length<=9223372036854775807)(F:List aa):Ct Tryz.prog 7 [sl s l.length cap,I D] (acts s l f::F) (R1 (Bo (fZ l D)) (acts s l f::F)):=by
 refine Ct.of func7 rR 63 ntmps7 (by simp) λw0=>?_;refine gS (gQ rR (qb (gS (gM rR (gV (qY P8 rR) (gM rR (gV (qX rR rR) (qc ?_))))))));refine qd rfl ?_ ?_ <;> intro Y
 ·simp at Y;refine gS (gQ rR ?_);refine ql rR rR ?_;show Bo false=_;rw[show fZ l D=false by unfold fZ;rw[S5 (by omega)];rfl]
 ·simp at Y;refine qf (qb (gS (gQ rR (qg ?_))));refine qC (α:=Nat) (λk=>k<=l.length/\(l.take k).all mV=true) (λk=>U [(0,sl s l.length cap),(5,I k)]) (λ_=>acts s l f::F) (λk=>l.length - k) 0 (by simp) [0,5] rfl rR ?_;rintro k ⟨hk,S⟩;refine qb (gS (gM rR (gM rR (gV (qY P8 rR) (gV (qH rR rR) (qc ?_))))));refine qd rfl ?_ ?_ <;> intro Z
  ·simp at Z;have J:k<l.length:=(by omega);obtain ⟨x,hx⟩:∃x,l[k]? =some x:=⟨_,S6 J⟩;have h:k<(gJ l f).length:=(by rw[Bp];exact J);have hb:=hls x (R5 hx);refine qf (qb (qg (qb (qb ?_))));refine HR s l f k hx ?_;refine qo (gM rR (gM rR (gV (qv k P8 P9 rR rR rR J h) (gV (qE (j:=k) 1 O1 rR rR ON (by decide) rR h) (gV (yF (v:=ac x.s) OQ rR (mC hx) rR) (gV (yZ OM rR) (gV (qX rR rR) (gM rR (gK rR rR (qn rR) (gK rR rR (qn rR) (gK rR rR (qv k P8 P9 rR rR rR J h) (gK rR rR (qE (j:=k) 7 O1 rR rR PP (by decide) rR h) (gK rR rR (yF (v:=sl (f k).1.1 x.puts.length (f k).1.2) Qa rR (mC hx) rR) (gK rR rR (qY Pj rR) (gK rR rR (qX rR rR) (gV (aD rR rR) (gM rR (gK rR rR (qn rR) (gK rR rR (qn rR) (gK rR rR (qv k P8 P9 rR rR rR J h) (gK rR rR (qE (j:=k) 8 O1 rR rR PF (by decide) rR h) (gK rR rR (yF (v:=sl (f k).2.1 x.changes.length (f k).2.2) P2 rR (mC hx) rR) ?_))))))))))))))))))))));refine jz rR rR (λhg=>yW (Pre:=[roL 3 (f k).2.1 (ah x.changes)]) (R:=λF=>R1 (Bo (iy x.changes 90)) (roL 3 (f k).2.1 (ah x.changes)::F)) call35 rR (HO x.changes (f k).2.1 (f k).2.2 90 hb.2)) rR rR ?_;refine gK rR rR (wb rR) (gV (aD rR rR) (qc ?_));refine qd rfl ?_ ?_ <;> intro V
   ·simp at V;refine gS (gQ rR ?_);refine ql rR rR ?_;show Bo false=_;rw[show fZ l D=false by unfold fZ;rw[sb hx (by unfold mV;by_cases hq:iy x.changes 90=true <;> simp[hq] at V ⊢;intro h1 h2;omega)];simp]
   ·simp at V;have hlc:iy x.changes 90=true:=V.2;refine qf (qb ?_);refine HQ s l f k hx ?_;refine qo (gQ rR (qg ?_));refine qC (α:=Nat) (λj=>j<=x.puts.length/\(x.puts.take j).all tj=true) (λj=>U [(0,sl s l.length cap),(5,I k),(6,I j)]) (λ_=>roL 2 (f k).1.1 (aE x.puts)::acts s l f::F) (λj=>x.puts.length - j) 0 (by simp) [0,5,6] rfl rR ?_;rintro j ⟨hj,O⟩;refine qb (gS (gM rR (gM rR (gM rR (gV (qv k P8 P9 rR rR rR J h) (gV (qE (j:=k) 7 O1 rR rR PP (by decide) rR h) (gV (yF (v:=sl (f k).1.1 x.puts.length (f k).1.2) Qa rR (mC hx) rR) (gV (qY Pj rR) (gV (qH rR rR) (qc ?_))))))))));refine qd rfl ?_ ?_ <;> intro h49
    ·simp at h49;have X:j<x.puts.length:=(by omega);obtain ⟨p,hp⟩:∃p,x.puts[j]? =some p:=⟨_,S6 X⟩;have hjr:j<(aE x.puts).length:=(by rw[yN];exact X);refine qf (qb (qg (gS (gM rR (gM rR (gV (qv k P8 P9 rR rR rR J h) (gV (qE (j:=k) 7 O1 rR rR PP (by decide) rR h) (gV (yF (v:=sl (f k).1.1 x.puts.length (f k).1.2) Qa rR (mC hx) rR) (gM rR (gV (qv j Pj Pm rR rR rR X hjr) (gV (qE (j:=j) 1 PN rR rR ON (by decide) rR hjr) (gV (yF (v:=ac p.data) OQ rR (gH hp) rR) (gV (yZ OM rR) (gV (qX rR rR) (qc ?_)))))))))))))));refine qd rfl ?_ ?_ <;> intro h62
     ·simp at h62;refine gS (gQ rR ?_);refine ql rR rR ?_;show Bo false=_;rw[show fZ l D=false by unfold fZ;rw[sb hx (by unfold mV;rw[sb hp (by simp[tj];omega)];simp)];simp]
     ·simp at h62;refine qf (qD (qo (gM rR (gP rR rR (by omega) (gQ rR ?_)))));exact qk (j+1) ⟨by omega,u6 O hp (by simp[tj];omega)⟩ (by omega) [0,5,6] rfl rfl
    ·simp at h49;obtain rfl:j=x.puts.length:=(by omega);rw[S7] at O;refine qw rR ?_;refine qD (qo (gM rR (gP rR rR (by omega) (gQ rR ?_))));exact qk (k+1) ⟨by omega,u6 S hx (by unfold mV;rw[hlc,O];simp;omega)⟩ (by omega) [0,5] rfl rfl
  ·simp at Z;obtain rfl:k=l.length:=(by omega);rw[S7] at S;refine qw rR ?_;refine gS (gQ rR ?_);refine ql rR rR ?_;show Bo true=_;rw[show fZ l D=true by unfold fZ;rw[S,S8 (by omega)];rfl]
def yC (l:List Int):List (List Value):=l.map λn=>[I n]
def yh (l:List Int):(yC l).length=l.length:=by simp[yC]
def wt {l:List Int}{k:Nat}{n:Int}(h:l[k]? =some n):(yC l)[k]? =some [I n]:=by simp[yC,h]
def De {α:Type}{a b:List α}{k:Nat}{x y:α}(h:a.take k=b.take k)(S:a[k]? =some x)(V:b[k]? =some y)(e:x=y):a.take (k+1)=b.take (k+1):=by
 obtain ⟨D,J⟩:=Re.1 S;obtain ⟨O,R⟩:=Re.1 V;rw[Sg D,Sg O,h,J,R,e]
def Df (a b:List Int)(s S:Option Addr)(cap D:Nat)(Y:a.length<=9223372036854775807)(F:List aa):Ct Tryz.prog 136 [sl s a.length cap,sl S b.length D] (roL 1 s (yC a)::roL 1 S (yC b)::F) (R1 (Bo (decide (a=b))) (roL 1 s (yC a)::roL 1 S (yC b)::F)):=by
 refine Ct.of func136 rR 26 ntmps136 (by simp) λw0=>?_;refine gS (gQ rR (qb (gS (gM rR (gV (qY OO rR) (gM rR (gV (qY OO rR) (gV (da rR rR) (qc ?_)))))))));refine qd rfl ?_ ?_ <;> intro J
 ·simp at J;refine gS (gQ rR ?_);refine ql rR rR ?_;show Bo false=_;rw[S5 (λe=>J (by rw[e]))]
 ·simp at J;refine qf (qb (gS (gQ rR (qg ?_))));refine qC (α:=Nat) (λk=>k<=a.length/\a.take k=b.take k) (λk=>U [(0,sl s a.length cap),(1,sl S b.length D),(5,I k)]) (λ_=>roL 1 s (yC a)::roL 1 S (yC b)::F) (λk=>a.length - k) 0 ⟨by simp,by simp⟩ [0,1,5] rfl rR ?_;rintro k ⟨Z,O⟩;refine qb (gS (gM rR (gM rR (gV (qY OO rR) (gV (qH rR rR) (qc ?_))))));refine qd rfl ?_ ?_ <;> intro R
  ·simp at R;have X:k<a.length:=(by omega);obtain ⟨x,hx⟩:∃x,a[k]? =some x:=⟨a[k],by simp⟩;obtain ⟨y,V⟩:∃y,b[k]? =some y:=⟨b[k]'(by omega),by simp⟩;refine qf (qb (qg (qb ?_)));refine eT jB (by kernel_rfl) (by kernel_rfl) rR (by kernel_rfl) ?_;refine dM rR rR rR (dM rR rR rR (dV rR (qv k OO OH rR rR rR (by omega) (by rw[yh];omega)) (dV rR (qM OI rR (wt hx) rR) (dM rR rR rR (dM rR rR rR (dV rR (qv k OO OH rR rR rR (by omega) (by rw[yh];omega)) (dV rR (qM OI rR (wt V) rR) (dV rR (da rR rR) ?_))))))));refine qI ?_;refine qd rfl ?_ ?_ <;> intro h
   ·simp at h;refine gS (gQ rR ?_);refine ql rR rR ?_;show Bo false=_;rw[S5 (λe=>h (by subst e;rw[hx] at V;injection V))]
   ·simp at h;refine qf (qD (qo (gM rR (gP rR rR (by omega) (gQ rR ?_)))));exact qk (k+1) ⟨by omega,De O hx V h⟩ (by omega) [0,1,5] rfl rfl
  ·simp at R;obtain rfl:k=a.length:=(by omega);refine qw rR ?_;refine gS (gQ rR ?_);refine ql rR rR ?_;show Bo true=_;rw[S7,show a.length=b.length by omega,S7] at O;rw[S8 O]
end Go.Proofs.YthdjckbjjfiopabGreatDoor