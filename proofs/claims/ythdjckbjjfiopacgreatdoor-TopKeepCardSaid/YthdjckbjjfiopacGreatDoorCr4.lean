/- The walks through carrier.keep and Full. No condition but the library's tables. -/
import Derived.Test.YthdjckbjjfiopacGreatDoorCr3
set_option linter.unusedSimpArgs false
set_option linter.unusedVariables false
namespace Go.Proofs.YthdjckbjjfiopacGreatDoor
open _root_.Tryz
open Go.Sl Go.Proofs
theorem zkk {z:RpM}{id:Int}(h:fSe z.ses id=none):z.sess (dSe z.ses id)=z:=by rw[zry h];rfl
theorem zgu {ee:Bool}(bv b bd:Nat)(V:VdM)(z:RpM)(D:DiskM)(disk snap base:Int)(l:List Area)(s:Option Addr)(cap:Nat)(page:Int)(hR:Rok z)(hn:z.next≤999999)(hD:Dk 1000 D z)(hsl:V.snaps.length≤1000000)(hsz:∀s∈V.snaps,s.size≤16)(hdl:∀p,(rdS V snap p).1.length≤9223372036854775807)(hl:l.length≤1000000)(hv:okV l)(F:List HProp):Ct Tryz.prog 96 [ptr bv 0,ptr b 0,I disk,I snap,I base,sl s l.length cap,I page] ([qE ee,vdk bv V,rpl b bd z,dsk 219 285 bd (D),roL 2 s (qM l)]++F) (fun v L'=>∃n e D2 z2,zmo D V z disk snap base (mk l) page n e D2 z2∧v= .tuple #[I n,yH e]∧L'=rpl b bd (z2)::vdk bv V::dsk 219 285 bd (D2)::qE ee::roL 2 s (qM l)::F):=by
  show Ct Tryz.prog 96 [ptr bv 0,ptr b 0,I disk,I snap,I base,sl s l.length cap,I page] (qE ee::vdk bv V::rpl b bd z::dsk 219 285 bd (D)::roL 2 s (qM l)::F) _;refine Ct.of Tryz.func96 rR 71 Tryz.ntmps96 (by simp) fun w0=>?_
  refine gS (gA rR (gA rR (qb (gS (gM rR (gM rR ?_))))));refine g_l (qj (Pre:=[vdk bv V]) call145 rR (zhw bv V snap hsl)) rR ?_;rintro _ _ ⟨rfl,rfl⟩;refine gM rR (g_v (qd (v:=I (szS V snap).1) rR rR) rR (g_v (qd (v:=yH (szS V snap).2) rR rR) rR (gA rR (gA rR (qb (qf (gS (gM rR (g_v (yf underlying29 rR) rR (qb ?_))))))))));refine qh rR (fun h27=>?_) (fun h27=>?_)
  · have hsz0:(szS V snap).2≠0:=by simpa using h27
    refine gS (gM rR (gA rR (gA rR (qb ?_))));exact qm (rpl b bd (z)::vdk bv V::dsk 219 285 bd (D)::qE ee::roL 2 s (qM l)::F) rfl ⟨0,(szS V snap).2,D,z,by unfold zmo;rw[if_pos hsz0];exact ⟨rfl,rfl,rfl,rfl⟩,rfl,rfl⟩
  · have hsz0:¬(szS V snap).2≠0:=by simpa using h27
    refine qi (qf (gS (gM rR (g_v (qL rR rR) rR (qb ?_)))));refine qh rR (fun h30=>?_) (fun h30=>?_)
    · have hpg:page<1:=by simpa using h30
      refine gS (g_v (qA underlying89 rR rR) rR (gA rR (gA rR (qb ?_))));exact qm (rpl b bd (z)::vdk bv V::dsk 219 285 bd (D)::qE ee::roL 2 s (qM l)::F) rfl ⟨0,1,D,z,by unfold zmo;rw[if_neg hsz0,if_pos hpg];exact ⟨rfl,rfl,rfl,rfl⟩,rfl,rfl⟩
    · have hpg:¬page<1:=by simpa using h30
      refine qi (gS (gM rR (gM rR (gM rR (gM rR ?_)))));refine g_l (qj (Pre:=[rpl b bd z]) call35 rR (zb1 b bd z base disk (szS V snap).1 hR)) rR ?_;rintro _ _ (⟨hbe,rfl,rfl⟩ | ⟨hbe,a,rfl,rfl⟩)
      · skip;refine gM rR (g_v (qd (v:=I 0) rR rR) rR (g_v (qd (v:=yH (wn z base disk (szS V snap).1)) rR rR) rR (gA rR (gA rR (qb (qf (gS (gM rR (g_v (yf underlying29 rR) rR (qb ?_))))))))));refine qh rR (fun h41=>?_) (fun h41=>?_)
        · skip;refine gS (gM rR (gA rR (gA rR (qb ?_))));exact qm (rpl b bd (z)::vdk bv V::dsk 219 285 bd (D)::qE ee::roL 2 s (qM l)::F) rfl ⟨0,wn z base disk (szS V snap).1,D,z,by unfold zmo;rw[if_neg hsz0,if_neg hpg,if_pos hbe];exact ⟨rfl,rfl,rfl,rfl⟩,rfl,rfl⟩
        · exact absurd (by simpa using h41) hbe
      · skip;refine gM rR (g_v (qd (v:=I z.next) rR rR) rR (g_v (qd (v:=yH 0) rR rR) rR (gA rR (gA rR (qb (qf (gS (gM rR (g_v (yf underlying29 rR) rR (qb ?_))))))))));refine qh rR (fun h41=>?_) (fun h41=>?_)
        · simp at h41
        · skip;refine qi (gS (gM rR (gM rR (gM rR (gM rR (gM rR (gM rR ?_)))))));refine g_l (qj (Pre:=[roL 2 s (qM l)]) call147 rR (zlI l s cap (szS V snap).1 hl hv)) rR ?_;rintro _ _ ⟨s49,c49,rfl,rfl⟩;refine yM s49 ?_;refine gM rR ?_;refine g_l (qj (Pre:=[vdk bv V,rpl b bd (z.begun a base disk (szS V snap).1),roL 2 s49 (qM (ofM (ltM (mk l) (szS V snap).1)))]) call146 rR (zgZ bv b bd V (z.begun a base disk (szS V snap).1) z.next snap (ofM (ltM (mk l) (szS V snap).1)) s49 c49 page (hR.begin hn hbe) hsl hsz hdl (by have:=zlz (ltM (mk l) (szS V snap).1);omega) (zlT _) (by omega))) rR ?_;rintro _ _ ⟨e1,z1,hsn,rfl,rfl⟩;obtain ⟨hR1,hS1⟩:=zf9 (hR.begin hn hbe) hsn;have hD1:Dk 1000 D z1:=Dk.same (z:=(z.begun a base disk (szS V snap).1)) ⟨hD.ok,hD.s80,hD.hd,hD.len,hD.okr,hD.used,hD.srt⟩ hS1;refine gA rR (qb (qf (gS (gM rR (g_v (yf underlying29 rR) rR (qb ?_))))));refine qh rR (fun h53=>?_) (fun h53=>?_)
          · have he1:e1≠0:=by simpa using h53
            refine gS (gM rR (gM rR ?_));refine g_l (qj (Pre:=[rpl b bd (z1)]) call37 rR (zaI b bd (z1) z.next)) rR ?_;rintro _ _ (⟨hno,rfl,rfl⟩ | ⟨w,hw,rfl,rfl⟩);rotate_left
            · skip;refine qb (gS (gM rR (gA rR (gA rR (qb ?_)))));exact qm (rpl b bd (z1.sess (dSe z1.ses z.next))::vdk bv V::dsk 219 285 bd (D)::qE ee::roL 2 s (qM l)::F) rfl ⟨0,e1,D,z1.sess (dSe z1.ses z.next),by unfold zmo;rw[if_neg hsz0,if_neg hpg,if_neg (by omega)];exact ⟨a,e1,z1,hsn, .inl ⟨he1,rfl,rfl,rfl,rfl⟩⟩,rfl,rfl⟩
            · rw[←zkk hno];refine qb (gS (gM rR (gA rR (gA rR (qb ?_)))));exact qm (rpl b bd (z1.sess (dSe z1.ses z.next))::vdk bv V::dsk 219 285 bd (D)::qE ee::roL 2 s (qM l)::F) rfl ⟨0,e1,D,z1.sess (dSe z1.ses z.next),by unfold zmo;rw[if_neg hsz0,if_neg hpg,if_neg (by omega)];exact ⟨a,e1,z1,hsn, .inl ⟨he1,rfl,rfl,rfl,rfl⟩⟩,rfl,rfl⟩
          · have he1:e1=0:=by simpa using h53
            subst he1;refine qi (gS (gM rR (gM rR ?_)));refine g_l (qj (Pre:=[qE ee,rpl b bd z1,dsk 219 285 bd (D)]) call148 rR (zbQ b bd 1000 z1 z.next hR1 D hD1 (by decide))) rR ?_;rintro _ _ ⟨n1,e2,D2,y,hf,rfl,rfl⟩;refine gM rR (g_v (qd (v:=I n1) rR rR) rR (g_v (qd (v:=yH e2) rR rR) rR (gA rR (gA rR (qb (qf (gS (gM rR (g_v (yf underlying29 rR) rR (qb ?_))))))))));refine qh rR (fun h65=>?_) (fun h65=>?_)
            · have he2:e2≠0:=by simpa using h65
              refine gS (gM rR (gM rR ?_));refine g_l (qj (Pre:=[rpl b bd (y)]) call37 rR (zaI b bd (y) z.next)) rR ?_;rintro _ _ (⟨hno,rfl,rfl⟩ | ⟨w,hw,rfl,rfl⟩);rotate_left
              · skip;refine qb (gS (gM rR (gA rR (gA rR (qb ?_)))));exact qm (rpl b bd (y.sess (dSe y.ses z.next))::vdk bv V::dsk 219 285 bd (D2)::qE ee::roL 2 s (qM l)::F) rfl ⟨0,e2,D2,y.sess (dSe y.ses z.next),by unfold zmo;rw[if_neg hsz0,if_neg hpg,if_neg (by omega)];exact ⟨a,0,z1,hsn, .inr ⟨rfl,n1,e2,y,hf, .inl ⟨he2,rfl,rfl,rfl⟩⟩⟩,rfl,rfl⟩
              · rw[←zkk hno];refine qb (gS (gM rR (gA rR (gA rR (qb ?_)))));exact qm (rpl b bd (y.sess (dSe y.ses z.next))::vdk bv V::dsk 219 285 bd (D2)::qE ee::roL 2 s (qM l)::F) rfl ⟨0,e2,D2,y.sess (dSe y.ses z.next),by unfold zmo;rw[if_neg hsz0,if_neg hpg,if_neg (by omega)];exact ⟨a,0,z1,hsn, .inr ⟨rfl,n1,e2,y,hf, .inl ⟨he2,rfl,rfl,rfl⟩⟩⟩,rfl,rfl⟩
            · have he2:e2=0:=by simpa using h65
              subst he2;refine qi (gS (gM rR (gA rR (gA rR (qb ?_)))));exact qm (rpl b bd (y)::vdk bv V::dsk 219 285 bd (D2)::qE ee::roL 2 s (qM l)::F) rfl ⟨n1,0,D2,y,by unfold zmo;rw[if_neg hsz0,if_neg hpg,if_neg (by omega)];exact ⟨a,0,z1,hsn, .inr ⟨rfl,n1,0,y,hf, .inr ⟨rfl,rfl,rfl,rfl⟩⟩⟩,rfl,rfl⟩
end Go.Proofs.YthdjckbjjfiopacGreatDoor
