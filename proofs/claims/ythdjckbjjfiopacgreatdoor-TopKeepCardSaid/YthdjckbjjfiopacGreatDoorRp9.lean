/- The walks through Do and played: a repo after acts. No condition but the library's tables. -/
import Derived.Test.YthdjckbjjfiopacGreatDoorRpD
import Derived.Test.YthdjckbjjfiopacGreatDoorNums
set_option linter.unusedSimpArgs false
set_option linter.unusedVariables false
namespace Go.Proofs.YthdjckbjjfiopacGreatDoor
open _root_.Tryz
open Go.Sl Go.Proofs
theorem zu4 {l:List ActM}{m:Int}{x:ActM}(h:zbc l m=true)(hx:x∈l):x.s.length≤100:=by
  unfold zbc at h;simp only[Bool.and_eq_true,List.all_eq_true] at h;have:=h.2 x hx;unfold ze3 at this;simp only[Bool.and_eq_true,decide_eq_true_eq,List.all_eq_true] at this;have:=this.1.1.1;omega
theorem zvc {ee:Bool}(b bd t:Nat)(z:RpM)(D:DiskM)(x:ActM)(y:ActZ)(R:Rep t D z)(ht:t≤90000)(hxs:x.s.length≤9223372036854775807)(hxb:x.b≤9223372036854775807)(F:List HProp):Ct Tryz.prog 66 [ptr b 0, .agg (zce x y).toArray] ([qE ee,rpl b bd z,dsk 219 285 bd (D)]++F) (fun v L'=>∃n s e D2 z2,zbf D z x n s e D2 z2∧v= .tuple #[I n,Str s,yH e]∧L'=rpl b bd z2::dsk 219 285 bd (D2)::qE ee::F):=by
  show Ct Tryz.prog 66 [ptr b 0, .agg (zce x y).toArray] (qE ee::rpl b bd z::dsk 219 285 bd (D)::F) _;refine Ct.of Tryz.func66 rR 20 Tryz.ntmps66 (by simp) fun w0=>?_
  refine gS ?_;refine g_l (wR (zce x y).toArray rR rR) rR ?_;rintro _ _ ⟨b3,rfl,rfl⟩;refine gA rR (gA rR (gA rR (qb (gS (gM rR (g_v (qH (vs:=zce x y) isAgg86 sizeOf86 rR rR qR) rR ?_))))));refine g_l (qj (Pre:=[qE ee,rpl b bd z,dsk 219 285 bd (D)]) call97 rR (zqx b bd t z D x y R ht hxs hxb)) rR ?_;rintro _ _ ⟨n,s,e,D2,z2,hd,rfl,rfl⟩;refine gM rR (g_v (qd (v:=I n) rR rR) rR (g_v (qd (v:=Str s) rR rR) rR (g_v (qd (v:=yH e) rR rR) rR (gA rR (gA rR (gA rR (qb (gS (gM rR (gM rR (gM rR (gA rR ?_))))))))))));refine gA rR (gA rR (qb ?_));exact qm (rpl b bd z2::dsk 219 285 bd (D2)::qE ee::F) rfl ⟨n,s,e,D2,z2,hd,rfl,rfl⟩
theorem zk7 (l:List ActM)(f:Nat→ActZ)(s:Option Addr)(cap:Nat)(hl:l.length≤9223372036854775807)(hla:∀x∈l,x.puts.length≤9223372036854775807∧x.changes.length≤9223372036854775807)(hab:∀x∈l,x.b≤9223372036854775807)(F:List HProp):Ct Tryz.prog 26 [sl s l.length cap] ([zaE,acts s l f]++F) (fun v L'=>(zbc l 60=false∧v= .tuple #[.pointer none, .pointer none,Bo false]∧L'=zaE::acts s l f::F)∨(zbc l 60=true∧∃bd b D z t,v= .tuple #[ptr bd 0,ptr b 0,Bo true]∧Up t D z∧t≤1000∧L'=rpl b bd z::dsk 219 285 bd (D)::zaE::acts s l f::F)):=by
  show Ct Tryz.prog 26 [sl s l.length cap] (zaE::acts s l f::F) _;refine Ct.of Tryz.func26 rR 37 Tryz.ntmps26 (by simp) fun w0=>?_
  refine gS (gA rR (gA rR (gA rR (qb (qf (gS (gM rR ?_)))))));refine g_l (qj (Pre:=[acts s l f]) call39 rR (zhL l f s cap 60 hl hla)) rR ?_;rintro _ _ ⟨rfl,rfl⟩;refine g_v (ww rR) rR (qb ?_);refine qh rR (fun h11=>?_) (fun h11=>?_)
  · have hno:zbc l 60=false:=by simpa using h11
    refine gS (gA rR (gA rR (gA rR (qb ?_))));exact qm (zaE::acts s l f::F) rfl (.inl ⟨hno,rfl,rfl⟩)
  · have hyes:zbc l 60=true:=by simpa using h11
    have hll:=zwl hyes;refine qi (gS ?_);refine g_l (qj (Pre:=[zaE]) call61 rR (zhd)) rR ?_;rintro _ _ ⟨bd,b,D0,z0,rfl,R0,hu0,hz0,rfl⟩;have hnx0:z0.next≤1+((1:Nat):Int):=by rw[hz0];show (1:Int)≤2;omega
    refine gM rR (g_v (qd (v:=ptr bd 0) rR rR) rR (g_v (qd (v:=ptr b 0) rR rR) rR (g_v (qd (v:=Bo true) rR rR) rR (gA rR (gA rR (gA rR (qb (qf (gS (gM rR (g_v (ww rR) rR (qb ?_))))))))))));refine wj rR ?_;refine qi (qf (gS (gA rR (qb (ql ?_)))));refine qF (α:=Nat×DiskM×RpM) (fun y=>y.1≤l.length∧Up (1+7*y.1) y.2.1 y.2.2) (fun y=>U [(0,sl s l.length cap),(5,ptr bd 0),(6,ptr b 0),(8,I y.1)]) (fun y=>rpl b bd y.2.2::dsk 219 285 bd y.2.1::zaE::acts s l f::F) (fun y=>l.length - y.1) (0,D0,z0) ⟨by simp,R0,hu0,hnx0⟩ [0,5,6,8] rR rR ?_;rintro ⟨i,D,z⟩ ⟨hi,R⟩;simp only[] at hi R ⊢;refine qf (gS (gM rR (gM rR (g_v (yk underlying22 rR) rR (g_v (qL rR rR) rR (qb ?_))))));refine qh rR (fun h22=>?_) (fun h22=>?_)
    · simp at h22;have hkn:i<l.length:=by omega
      obtain ⟨x,hx⟩:∃x,l[i]?=some x:=⟨_,List.getElem?_eq_getElem hkn⟩;have hkr:i<(zof l f).length:=by rw[znx];exact hkn
      have hxs:x.s.length≤9223372036854775807:=by have:=zu4 hyes (List.mem_of_getElem? hx);omega
      refine qi (qf (ql (qp (gM rR (gM rR (gM rR (g_v (qB i underlying22 sizeOf86 rR rR rR hkn hkr) rR (g_v (yd (row:=zce x (f i)) isAgg86 sizeOf86 rR (ze2 hx) rR) rR ?_))))))));refine g_l (qj (Pre:=[zaE,rpl b bd z,dsk 219 285 bd (D)]) call66 rR (zvc b bd (1+7*i) z D x (f i) R.rep (by omega) hxs (hab x (List.mem_of_getElem? hx)))) rR ?_;rintro _ _ ⟨n,st,e,D2,z2,hd,rfl,rfl⟩;refine gM rR (g_v (qd (v:=I n) rR rR) rR (g_v (qd (v:=Str st) rR rR) rR (g_v (qd (v:=yH e) rR rR) rR (qb (qG (qp (gM rR (g_v (qu rR rR (w64 (by omega))) rR (gA rR (qb ?_))))))))));exact qo (i+1,D2,z2) ⟨by simp only[];omega,by rw[show 1+7*(i+1)=1+7*i+7 by omega];exact zpS R (by omega) hd⟩ (by simp only[];omega) [0,5,6,8] rfl rfl
    · skip;refine qy rR ?_;refine gS (gM rR (gM rR (gA rR (gA rR (gA rR (qb ?_))))));exact qm (rpl b bd z::dsk 219 285 bd (D)::zaE::acts s l f::F) rfl (.inr ⟨hyes,bd,b,D,z,1+7*i,rfl,R,by omega,rfl⟩)
end Go.Proofs.YthdjckbjjfiopacGreatDoor
