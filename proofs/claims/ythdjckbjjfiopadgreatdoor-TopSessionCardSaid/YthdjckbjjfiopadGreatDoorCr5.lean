/- The walks through carrier.Full and More. No condition but the library's tables. -/
import Derived.Test.YthdjckbjjfiopadGreatDoorCr4
set_option linter.unusedSimpArgs false
set_option linter.unusedVariables false
namespace Go.Proofs.YthdjckbjjfiopadGreatDoor
open _root_.Go.Proofs.Tryz
open Go.Sl Go.Proofs
theorem bldAr (x y:Int)(w:World):(Instr.build 128 #[(0,I x),(1,I y)]).run Tryz.prog w= .ok (.agg #[I x,I y]) w:=by
  simp[Instr.build,zeroValue128,runUnderlying128,sizeOf3,Instr.fill,qV,show ∀k:Int,(I k).cells=#[I k] from fun _=>rfl]
def allA:List Area:=[⟨0,16⟩]
theorem zuY:okV allA:=fun a ha=>by
  unfold allA at ha;rw[List.mem_singleton] at ha;subst ha;decide
theorem zhi {ee:Bool}(bv b bd:Nat)(V:VdM)(z:RpM)(D:DiskM)(disk snap page:Int)(hR:Rok z)(hn:z.next≤999999)(hD:Dk 1000 D z)(hsl:V.snaps.length≤1000000)(hsz:∀s∈V.snaps,s.size≤16)(hdl:∀p,(rdS V snap p).1.length≤9223372036854775807)(F:List HProp):Ct Tryz.prog 22 [ptr bv 0,ptr b 0,I disk,I snap,I page] ([qF ee,vdk bv V,rpl b bd z,dsk 140 142 bd (D)]++F) (fun v L'=>∃n e D2 z2,zmY D V z disk snap 0 (mk allA) page n e D2 z2∧v= .tuple #[I n,yH e]∧L'=rpl b bd z2::vdk bv V::dsk 140 142 bd (D2)::qF ee::F):=by
  show Ct Tryz.prog 22 [ptr bv 0,ptr b 0,I disk,I snap,I page] (qF ee::vdk bv V::rpl b bd z::dsk 140 142 bd (D)::F) _;refine Ct.of func22 rR 22 ntmps22 (by simp) fun w0=>?_;refine gS (gA rR (gA rR (qb (gS (gM rR (gM rR (gM rR (gM rR (g_v (qP rR (bldAr 0 16)) rR ?_)))))))));refine g_l (qq (qL allA) underlying119 sizeOf128 zeroValue128 rR rR rR (by simp[allA,qL];rfl) (by decide) (by decide)) rR ?_;rintro _ _ ⟨b17,rfl,rfl⟩;refine gM rR ?_;refine yp (some ⟨b17,0,none⟩) ?_;refine g_l (qi (Pre:=[qF ee,vdk bv V,rpl b bd z,dsk 140 142 bd (D),roL 2 (some ⟨b17,0,none⟩) (qL allA)]) call51 rR (zht bv b bd V z D disk snap 0 allA (some ⟨b17,0,none⟩) 1 page hR hn hD hsl hsz hdl (by decide) zuY)) rR ?_;rintro _ _ ⟨n,e,D2,z2,hc,rfl,rfl⟩;refine g_v (qd (v:=I n) rR rR) rR (g_v (qd (v:=yH e) rR rR) rR (gA rR (gA rR (qb ?_))));exact ql (rpl b bd z2::vdk bv V::dsk 140 142 bd (D2)::qF ee::F) rfl ⟨n,e,D2,z2,hc,rfl,rfl⟩
end Go.Proofs.YthdjckbjjfiopadGreatDoor
