/- The walk through the number of an error. No condition. -/
import Derived.Test.YthdjckbjjfiopacGreatDoorPartA
set_option linter.unusedSimpArgs false
set_option linter.unusedVariables false
namespace Go.Proofs.YthdjckbjjfiopacGreatDoor
open _root_.Go.Proofs.Tryz
open Go.Sl Go.Proofs
theorem zc1 (e:Int)(F:List HProp):Ct Tryz.prog 31 [yE e] ([]++F) (R1 (I e) F):=by
  show Ct Tryz.prog 31 [yE e] (F) _;refine Ct.of func31 rR 15 ntmps31 (by simp) fun w0=>?_;refine gS (gA rR (qb (qf (gS (gM rR (g_v (wE underlying29 rR) rR (qb ?_)))))));refine qg rR (fun h6=>?_) (fun h6=>?_)
  · simp at h6;subst h6;refine gS (gA rR (qb ?_));refine qm rR rR ?_;exact rfl
  · simp at h6;refine qh (gS (gM rR (g_v (zqO underlying89 rR h6) rR (gM rR (g_v (qd rR rR) rR (g_v (qd rR rR) rR (gA rR (gA rR (qb (qf (gS (gM rR (g_v (wn rR) rR (qb ?_))))))))))))));refine qg rR (fun h13=>?_) (fun h13=>?_)
    · simp at h13
    · refine qh (gS (gM rR (gA rR (qb ?_))));refine qm rR rR ?_;exact rfl
end Go.Proofs.YthdjckbjjfiopacGreatDoor
