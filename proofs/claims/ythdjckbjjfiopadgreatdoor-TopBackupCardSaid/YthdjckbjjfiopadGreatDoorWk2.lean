/- The walk through the closed fact that a repo works. No condition but the library's tables. -/
import Derived.Test.YthdjckbjjfiopadGreatDoorWk
import Derived.Test.YthdjckbjjfiopadGreatDoorTopNum
set_option linter.unusedSimpArgs false
set_option linter.unusedVariables false
namespace Go.Proofs.YthdjckbjjfiopadGreatDoor
open _root_.Go.Proofs.Tryz
open Go.Sl Go.Proofs
theorem zxN:wrD (zbX 3) 1 [120]=wkV0:=rfl
theorem zxF:snD wkV0=wkV:=rfl
theorem zyO:dlk wkV:=zus (zuu (zrn 3) 1 [120])
theorem zoB (F:List HProp):Ct Tryz.prog 7 [] ([zaV]++F) (R1 (Bo true) (zaV::F)):=by
  show Ct Tryz.prog 7 [] (zaV::F) _;refine Ct.of func7 rR 65 ntmps7 (by simp) fun w0=>?_;refine gS (gA rR (qb (gS ?_)));refine g_l (qi (Pre:=[zaV]) call21 rR (zhk)) rR ?_;rintro _ _ ⟨bd,b,D0,z0,rfl,R0,hu0,hz0,rfl⟩;have U0:Up 1 D0 z0:=⟨R0,hu0,by rw[hz0];show (1:Int)≤1+((1:Nat):Int);omega⟩;refine gM rR (g_v (qd (v:=ptr bd 0) rR rR) rR (g_v (qd (v:=ptr b 0) rR rR) rR (g_v (qd (v:=Bo true) rR rR) rR (gA rR (gA rR (gA rR (qb (gS ?_))))))));refine g_l (qi (Pre:=[]) call20 rR (zfK 3)) rR ?_;rintro _ _ (⟨hno,_,_⟩ | ⟨_,bv,rfl,rfl⟩)
  · exact absurd (by decide) hno
  refine gM rR (g_v (qd (v:=ptr bv 0) rR rR) rR (g_v (qd (v:=yN 0) rR rR) rR (gA rR (gA rR (qb (qf (gS (gM rR (g_v (wH rR) rR (gM rR (qN rR rR (by simp) (ql rR) rR (qN rR rR (by simp) (yd (T:=108) (f:=0) underlying37 rR) rR (g_v (zan rR rR) rR (gM rR (qN rR rR (by simp) (ql rR) rR ?_)))))))))))))));refine zrO rR rR (by simp) (qi (Pre:=[vdk bv (zbX 3)]) call35 rR (zd7 bv (zbX 3) 1 [120] (by decide))) rR ?_;rintro _ _ ⟨rfl,rfl⟩;rw[wk_wr,zxN];refine qN rR rR (by simp) (yd (T:=108) (f:=0) underlying37 rR) rR (g_v (zan rR rR) rR (qb ?_));refine qg rR (fun h31=>?_) (fun h31=>?_)
  · simp at h31
  · refine qh (gS (gM rR ?_));refine g_l (qi (Pre:=[vdk bv (wkV0)]) call36 rR (zeU bv wkV0 (by decide+kernel) (by decide+kernel))) rR ?_;rintro _ _ ⟨rfl,rfl⟩;rw[wk_sn.1,wk_sn.2,zxF];refine gM rR (g_v (qd (v:=I 1) rR rR) rR (g_v (qd (v:=yN 0) rR rR) rR (gA rR (gA rR (qb (gS (gM rR (gM rR (gM rR ?_)))))))));refine g_l (qi (Pre:=[zaV,vdk bv (wkV),rpl b bd z0,dsk 140 142 bd (D0)]) call22 rR (zc4 bv b bd wkV z0 D0 1 1 2 R0.rok (by have:=U0.next;omega) (R0.dk (by omega)) (by decide+kernel) (by decide+kernel) (fun p=>by have:=zm7 zyO 1 p;omega))) rR ?_;rintro _ _ ⟨n,e,D2,z2,hc,rfl,rfl⟩;obtain ⟨rfl,rfl,hrd,U2⟩:=zyR U0 (by decide) (by rw[hz0]) (by rw[hz0]) (by rw[hz0]) (by rw[hz0]) hc;obtain ⟨G2,hC2⟩:=U2.rep.rok.con;refine gM rR (g_v (qd (v:=I 1) rR rR) rR (g_v (qd (v:=yN 0) rR rR) rR (gA rR (gA rR (qb (gS (gM rR ?_)))))));refine g_l (qi (Pre:=[rpl b bd z2]) call9 rR (zaH b bd z2 (by have:=hC2.v.len;omega))) rR ?_;rintro _ _ ⟨q,rfl,rfl⟩;refine gM rR ?_;refine g_l (qi (Pre:=[vlt q z2.S z2.L z2.n]) call37 rR (zbK q z2.S z2.L z2.n 1 1 G2 hC2.v)) rR ?_;rintro _ _ ⟨rfl,rfl⟩;rw[hrd];refine gM rR (g_v (qd (v:=Str [120]) rR rR) rR (g_v (qd (v:=yN 0) rR rR) rR (gA rR (gA rR (qb (gS (gM rR (g_v (wD (T:=108) (f:=0) underlying37 rR) rR (gM rR (qN rR rR (by simp) (ql rR) rR (qN rR rR (by simp) (wD (T:=108) (f:=0) underlying37 rR) rR (g_v (zax rR rR) rR (gM rR (qN rR rR (by simp) (ql rR) rR (qN rR rR (by simp) (wD (T:=108) (f:=0) underlying37 rR) rR (g_v (zax rR rR) rR (gM rR (qN rR rR (by simp) (ql rR) rR (qN rR rR (by simp) (zaU rR rR) rR (g_v (zax rR rR) rR (gA rR (qb ?_))))))))))))))))))))));refine qm rR rR ?_;show Bo _=Bo true;simp
end Go.Proofs.YthdjckbjjfiopadGreatDoor
