/- The walks through carrier.Full and More. No condition but the library's tables. -/
import Derived.Test.YthdjckbjjfiopacGreatDoorCr4
set_option linter.unusedSimpArgs false
set_option linter.unusedVariables false
namespace Go.Proofs.YthdjckbjjfiopacGreatDoor
open _root_.Go.Proofs.Tryz
open Go.Sl Go.Proofs
theorem bldAr (x y:Int)(w:World):(Instr.build 172 #[(0,I x),(1,I y)]).run Tryz.prog w= .ok (.agg #[I x,I y]) w:=by
  simp[Instr.build,zeroValue172,runUnderlying172,sizeOf3,Instr.fill,qV,show ∀k:Int,(I k).cells=#[I k] from fun _=>rfl]
def allA:List Area:=[⟨0,16⟩]
theorem zvv:okV allA:=fun a ha=>by
  unfold allA at ha;rw[List.mem_singleton] at ha;subst ha;decide
theorem zhx {ee:Bool}(bv b bd:Nat)(V:VdM)(z:RpM)(D:DiskM)(disk snap page:Int)(hR:Rok z)(hn:z.next≤999999)(hD:Dk 1000 D z)(hsl:V.snaps.length≤1000000)(hsz:∀s∈V.snaps,s.size≤16)(hdl:∀p,(rdS V snap p).1.length≤9223372036854775807)(F:List HProp):Ct Tryz.prog 65 [ptr bv 0,ptr b 0,I disk,I snap,I page] ([qE ee,vdk bv V,rpl b bd z,dsk 219 285 bd (D)]++F) (fun v L'=>∃n e D2 z2,zmO D V z disk snap 0 (mk allA) page n e D2 z2∧v= .tuple #[I n,yE e]∧L'=rpl b bd z2::vdk bv V::dsk 219 285 bd (D2)::qE ee::F):=by
  show Ct Tryz.prog 65 [ptr bv 0,ptr b 0,I disk,I snap,I page] (qE ee::vdk bv V::rpl b bd z::dsk 219 285 bd (D)::F) _;refine Ct.of func65 rR 22 ntmps65 (by simp) fun w0=>?_;refine gS (gA rR (gA rR (qb (gS (gM rR (gM rR (gM rR (gM rR (g_v (qO rR (bldAr 0 16)) rR ?_)))))))));refine g_l (qs (qL allA) underlying162 sizeOf172 zeroValue172 rR rR rR (by simp[allA,qL];rfl) (by decide) (by decide)) rR ?_;rintro _ _ ⟨b17,rfl,rfl⟩;refine gM rR ?_;refine yM (some ⟨b17,0,none⟩) ?_;refine g_l (qi (Pre:=[qE ee,vdk bv V,rpl b bd z,dsk 219 285 bd (D),roL 2 (some ⟨b17,0,none⟩) (qL allA)]) call96 rR (zgw bv b bd V z D disk snap 0 allA (some ⟨b17,0,none⟩) 1 page hR hn hD hsl hsz hdl (by decide) zvv)) rR ?_;rintro _ _ ⟨n,e,D2,z2,hc,rfl,rfl⟩;refine g_v (qd (v:=I n) rR rR) rR (g_v (qd (v:=yE e) rR rR) rR (gA rR (gA rR (qb ?_))));exact ql (rpl b bd z2::vdk bv V::dsk 219 285 bd (D2)::qE ee::F) rfl ⟨n,e,D2,z2,hc,rfl,rfl⟩
-- counterfoil/carrier.More is not in this seat
end Go.Proofs.YthdjckbjjfiopacGreatDoor
