/- The walk through the closed fact that a repo works. No condition but the library's tables. -/
import Derived.Test.YthdjckbjjfiopacGreatDoorWk
import Derived.Test.YthdjckbjjfiopacGreatDoorTopNum
set_option linter.unusedSimpArgs false
set_option linter.unusedVariables false
namespace Go.Proofs.YthdjckbjjfiopacGreatDoor
open _root_.Go.Proofs.Tryz
open Go.Sl Go.Proofs
theorem zwc:wrD (zhM 3) 1 [120]=wkV0:=rfl
theorem zwe:snD wkV0=wkV:=rfl
theorem zwR:dlk wkV:=zwF (zxu (ztS 3) 1 [120])
theorem znW (F:List HProp):Ct Tryz.prog 25 [] ([zan]++F) (R1 (Bo true) (zan::F)):=by
  show Ct Tryz.prog 25 [] (zan::F) _;refine Ct.of func25 rR 65 ntmps25 (by simp) fun w0=>?_;refine gS (gA rR (qb (gS ?_)));refine g_l (qi (Pre:=[zan]) call61 rR (zg9)) rR ?_;rintro _ _ ⟨bd,b,D0,z0,rfl,R0,hu0,hz0,rfl⟩;have U0:Up 1 D0 z0:=⟨R0,hu0,by rw[hz0];show (1:Int)≤1+((1:Nat):Int);omega⟩;refine gM rR (g_v (qd (v:=ptr bd 0) rR rR) rR (g_v (qd (v:=ptr b 0) rR rR) rR (g_v (qd (v:=Bo true) rR rR) rR (gA rR (gA rR (gA rR (qb (gS ?_))))))));refine g_l (qi (Pre:=[]) call62 rR (zkk 3)) rR ?_;rintro _ _ (⟨hno,_,_⟩ | ⟨_,bv,rfl,rfl⟩)
  · exact absurd (by decide) hno
  refine gM rR (g_v (qd (v:=ptr bv 0) rR rR) rR (g_v (qd (v:=yE 0) rR rR) rR (gA rR (gA rR (qb (qf (gS (gM rR (g_v (wn rR) rR (gM rR (qU rR rR (by simp) (qn rR) rR (qU rR rR (by simp) (qY (T:=89) (f:=0) underlying29 rR) rR (g_v (zar rR rR) rR (gM rR (qU rR rR (by simp) (qn rR) rR ?_)))))))))))))));refine zrX rR rR (by simp) (qi (Pre:=[vdk bv (zhM 3)]) call63 rR (zhN bv (zhM 3) 1 [120] (by decide))) rR ?_;rintro _ _ ⟨rfl,rfl⟩;rw[wk_wr,zwc];refine qU rR rR (by simp) (qY (T:=89) (f:=0) underlying29 rR) rR (g_v (zar rR rR) rR (qb ?_));refine qg rR (fun h31=>?_) (fun h31=>?_)
  · simp at h31
  · refine qh (gS (gM rR ?_));refine g_l (qi (Pre:=[vdk bv (wkV0)]) call64 rR (zjp bv wkV0 (by decide+kernel) (by decide+kernel))) rR ?_;rintro _ _ ⟨rfl,rfl⟩;rw[wk_sn.1,wk_sn.2,zwe];refine gM rR (g_v (qd (v:=I 1) rR rR) rR (g_v (qd (v:=yE 0) rR rR) rR (gA rR (gA rR (qb (gS (gM rR (gM rR (gM rR ?_)))))))));refine g_l (qi (Pre:=[zan,vdk bv (wkV),rpl b bd z0,dsk 219 285 bd (D0)]) call65 rR (zhx bv b bd wkV z0 D0 1 1 2 R0.rok (by have:=U0.next;omega) (R0.dk (by omega)) (by decide+kernel) (by decide+kernel) (fun p=>by have:=zvK zwR 1 p;omega))) rR ?_;rintro _ _ ⟨n,e,D2,z2,hc,rfl,rfl⟩;obtain ⟨rfl,rfl,hrd,U2⟩:=zv0 U0 (by decide) (by rw[hz0]) (by rw[hz0]) (by rw[hz0]) (by rw[hz0]) hc;obtain ⟨G2,hC2⟩:=U2.rep.rok.con;refine gM rR (g_v (qd (v:=I 1) rR rR) rR (g_v (qd (v:=yE 0) rR rR) rR (gA rR (gA rR (qb (gS (gM rR ?_)))))));refine g_l (qi (Pre:=[rpl b bd z2]) call29 rR (wU b bd z2 (by have:=hC2.v.len;omega))) rR ?_;rintro _ _ ⟨q,rfl,rfl⟩;refine gM rR ?_;refine g_l (qi (Pre:=[vlt q z2.S z2.L z2.n]) call32 rR (zbQ q z2.S z2.L z2.n 1 1 G2 hC2.v)) rR ?_;rintro _ _ ⟨rfl,rfl⟩;rw[hrd];refine gM rR (g_v (qd (v:=Str [120]) rR rR) rR (g_v (qd (v:=yE 0) rR rR) rR (gA rR (gA rR (qb (gS (gM rR (g_v (wE (T:=89) (f:=0) underlying29 rR) rR (gM rR (qU rR rR (by simp) (qn rR) rR (qU rR rR (by simp) (wE (T:=89) (f:=0) underlying29 rR) rR (g_v (zao rR rR) rR (gM rR (qU rR rR (by simp) (qn rR) rR (qU rR rR (by simp) (wE (T:=89) (f:=0) underlying29 rR) rR (g_v (zao rR rR) rR (gM rR (qU rR rR (by simp) (qn rR) rR (qU rR rR (by simp) (zaB rR rR) rR (g_v (zao rR rR) rR (gA rR (qb ?_))))))))))))))))))))));refine qm rR rR ?_;show Bo _=Bo true;simp
end Go.Proofs.YthdjckbjjfiopacGreatDoor
