/- Walks through the law functions on disks of package vdisk. No condition. -/
import Derived.Test.YthdjckbjjfiopadGreatDoorVdLaw
import Derived.Test.YthdjckbjjfiopadGreatDoorPartD
set_option linter.unusedSimpArgs false
set_option linter.unusedVariables false
namespace Go.Proofs.YthdjckbjjfiopadGreatDoor
open _root_.Go.Proofs.Tryz
open Go.Sl Go.Proofs
section
variable {c:Cx}{E:Env}{L:List HProp}{K:List KI}
end
def zr0 (D:VdM)(x y n:Int):Bool:=!decide ((rdS D x n).1=(rdS D y n).1) || !decide (decide ((rdS D x n).2.2=0)=decide ((rdS D y n).2.2=0))
theorem zmC (b:Nat)(D:VdM)(x:ActM)(z:ActZ)(i:Nat)(hok:vok i D)(hi:i≤1000000)(F:List HProp):Ct Tryz.prog 27 [ptr b 0, .agg (zcO x z).toArray] ([vdk b (D)]++F) (R1 (.tuple #[]) (vdk b (ze8 D x)::F)):=by
  show Ct Tryz.prog 27 [ptr b 0, .agg (zcO x z).toArray] (vdk b (D)::F) _;refine Ct.of func27 rR 37 ntmps27 (by simp) fun w0=>?_;refine gS ?_;refine g_l (zad (zcO x z).toArray rR rR) rR ?_;rintro _ _ ⟨b3,rfl,rfl⟩;refine qb (gS (g_v (qa 0 underlying58 rR rR sizeOf9 (by decide) rR) rR (g_v (qe (v:=Str x.kind) isAgg9 rR rR) rR (qb (qk (gS (g_v (zaU rR rR) rR (gA rR (qb ?_)))))))));refine qg rR (fun h6=>?_) (fun h6=>?_)
  · simp at h6;change x.kind=kW at h6;refine qn (gM rR (g_v (qa 2 underlying58 rR rR sizeOf3 (by decide) rR) rR (g_v (qe (v:=I x.a) isAgg3 rR rR) rR (g_v (qa 1 underlying58 rR rR sizeOf9 (by decide) rR) rR (g_v (qe (v:=Str x.s) isAgg9 rR rR) rR ?_)))));refine g_l (qi (Pre:=[vdk b (D)]) call35 rR (zd7 b D x.a x.s hok.1.2)) rR ?_;rintro _ _ ⟨rfl,rfl⟩;refine qb (qC ?_);rw[show wrD D x.a x.s=ze8 D x by unfold ze8;rw[if_pos h6]];exact zaW rfl rfl rfl
  · simp at h6;change ¬x.kind=kW at h6;refine gS (g_v (zaU rR rR) rR (gA rR (qb ?_)));refine qg rR (fun h14=>?_) (fun h14=>?_)
    · simp at h14;change x.kind=kZ at h14;refine qn (gM rR (g_v (qa 2 underlying58 rR rR sizeOf3 (by decide) rR) rR (g_v (qe (v:=I x.a) isAgg3 rR rR) rR ?_)));refine g_l (qi (Pre:=[vdk b (D)]) call57 rR (zhn b D x.a hok.1)) rR ?_;rintro _ _ ⟨rfl,rfl⟩;refine qb (qC ?_);rw[show rsD D x.a=ze8 D x by unfold ze8;rw[if_neg h6,if_pos h14]];exact zaW rfl rfl rfl
    · simp at h14;change ¬x.kind=kZ at h14;refine gS (g_v (zaU rR rR) rR (gA rR (qb ?_)));refine qg rR (fun h20=>?_) (fun h20=>?_)
      · simp at h20;change x.kind=kS at h20;refine qn (gM rR ?_);refine g_l (qi (Pre:=[vdk b (D)]) call36 rR (zeU b D (by have:=hok.2.2.2.1;omega) (by have:=hok.2.1;omega))) rR ?_;rintro _ _ ⟨rfl,rfl⟩;refine gM rR (g_v (qd rR rR) rR (g_v (qd rR rR) rR (qb (qC ?_))));rw[show snD D=ze8 D x by unfold ze8;rw[if_neg h6,if_neg h14,if_pos h20]];exact zaW rfl rfl rfl
      · simp at h20;change ¬x.kind=kS at h20;refine gS (g_v (zaU rR rR) rR (gA rR (qb ?_)));refine qg rR (fun h27=>?_) (fun h27=>?_)
        · simp at h27;change x.kind=kU at h27;refine qn (gM rR (g_v (qa 2 underlying58 rR rR sizeOf3 (by decide) rR) rR (g_v (qe (v:=I x.a) isAgg3 rR rR) rR ?_)));refine g_l (qi (Pre:=[vdk b (D)]) call58 rR (zjx b D x.a (by have:=hok.2.2.2.1;omega))) rR ?_;rintro _ _ ⟨rfl,rfl⟩;refine qb (qC ?_);rw[show drD D x.a=ze8 D x by unfold ze8;rw[if_neg h6,if_neg h14,if_neg h20,if_pos h27]];exact zaW rfl rfl rfl
        · simp at h27;change ¬x.kind=kU at h27;refine gS (g_v (zaU rR rR) rR (gA rR (qb ?_)));refine qg rR (fun h33=>?_) (fun h33=>?_)
          · simp at h33;change x.kind=kFg at h33;refine qn (gM rR ?_);refine g_l (qi (Pre:=[vdk b (D)]) call59 rR (zhq b D (by have:=hok.2.2.1;omega))) rR ?_;rintro _ _ ⟨rfl,rfl⟩;refine qb (qC ?_);rw[show fgD D=ze8 D x by unfold ze8;rw[if_neg h6,if_neg h14,if_neg h20,if_neg h27,if_pos h33]];exact zaW rfl rfl rfl
          · simp at h33;change ¬x.kind=kFg at h33;refine qh (qC ?_);rw[show vdk b D=vdk b (ze8 D x) by unfold ze8;rw[if_neg h6,if_neg h14,if_neg h20,if_neg h27,if_neg h33]];exact zaW rfl rfl rfl
-- counterfoil/counterfoiltop.changed is not in this seat
end Go.Proofs.YthdjckbjjfiopadGreatDoor
