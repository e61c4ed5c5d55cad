/- The statement ConsoleSays: whatever the input, the law returns true, and the arguments read as before. Condition: the listed package variables read as the program's text lays them (tied by the card). -/
import Derived.Test.YthdjckbjjfiopabGreatDoorConsoleSaysAHolds
set_option linter.defProp false
set_option linter.unusedVariables false
namespace Go.Proofs.YthdjckbjjfiopabGreatDoor.consoleSays
open Go.Sl Go.Proofs Go.ChangeShapes Go.WideShapes Go.ChangeAt Go.RowKit
theorem jf0 : (Rows.consoleSaysRow.wf (OpenSpec.ofChange Rows.consoleSaysSpec)) = true := by kernel_rfl
theorem jf1 : (laidOutB Tryz.pinned.checked.prog) = true := by kernel_rfl
theorem jf2 : (mapsRowed Tryz.pinned.checked.prog) = true := by kernel_rfl
theorem jf3 : (Tryz.f5.params.all (Tryz.pinned.checked.prog.readableRec ·)) = true := by kernel_rfl
theorem jf4 : (namedTie Tryz.pinned.checked.prog Rows.consoleSaysRow.named Rows.consoleSaysSpec.vars) = true := by kernel_rfl
theorem jf5 : ((Rows.consoleSaysRow.stops == [])) = true := by kernel_rfl
theorem jf6 : ((Tryz.pinned.checked.prog.stops == [])) = true := by kernel_rfl
theorem jf7 : ((Rows.consoleSaysRow.knobs == [])) = true := by kernel_rfl
theorem jf8 : ((Tryz.pinned.checked.prog.stopKnobs == [])) = true := by kernel_rfl
theorem jf9 : ((Rows.consoleSaysRow.inPlace == Tryz.pinned.checked.prog.inPlace 5)) = true := by kernel_rfl
theorem jf10 : ((Rows.consoleSaysRow.unfollowed == Tryz.pinned.checked.prog.unfollowed 5)) = true := by kernel_rfl
theorem jf11 : ((Rows.consoleSaysRow.recurses == Tryz.pinned.checked.prog.recurses 5)) = true := by kernel_rfl
theorem jf12 : ((Rows.consoleSaysRow.named == Tryz.pinned.checked.prog.varsNamed 5)) = true := by kernel_rfl
theorem jf13 : ((Rows.consoleSaysRow.maps == (Tryz.f5.params.toList ++ Rows.consoleSaysSpec.plain.varTypes Tryz.pinned.checked.prog).any (Tryz.pinned.checked.prog.mapsRec ·))) = true := by kernel_rfl
theorem jf14 : ((Rows.consoleSaysRow.ifaces == (Tryz.f5.params.toList ++ Rows.consoleSaysSpec.plain.varTypes Tryz.pinned.checked.prog).any (Tryz.pinned.checked.prog.ifacesRec ·))) = true := by kernel_rfl
theorem jf15 : ((Rows.consoleSaysRow.mapsOut == Tryz.pinned.checked.prog.mapsAmong Tryz.f5.resultTypes.toList)) = true := by kernel_rfl
theorem jf16 : ((Rows.consoleSaysRow.loops == (Tryz.f5.params.toList ++ Rows.consoleSaysSpec.plain.varTypes Tryz.pinned.checked.prog).any (Tryz.pinned.checked.prog.loopsFrom ·))) = true := by kernel_rfl
theorem jf17 : ((Rows.consoleSaysRow.wideKeys == (Tryz.f5.params.toList ++ Rows.consoleSaysSpec.plain.varTypes Tryz.pinned.checked.prog ++ Tryz.f5.resultTypes.toList).any (Tryz.pinned.checked.prog.wideKeysFrom ·))) = true := by kernel_rfl
theorem jf18 : (Rows.consoleSaysSpec.vars.all (Tryz.pinned.checked.prog.varReadable ·)) = true := by kernel_rfl
theorem jf19 : (Tryz.f5.resultTypes.all (fun t => Tryz.pinned.checked.prog.readableRec t && decide (t < Tryz.pinned.checked.prog.types.size))) = true := by kernel_rfl
theorem jf20 : ((Rows.consoleSaysRow.ifacesOut == Tryz.f5.resultTypes.toList.any (Tryz.pinned.checked.prog.ifacesRec ·))) = true := by kernel_rfl
theorem jf21 : ((Rows.consoleSaysRow.loopsOut == Tryz.f5.resultTypes.toList.any (Tryz.pinned.checked.prog.loopsFrom ·))) = true := by kernel_rfl
theorem jf22 : ((Rows.consoleSaysRow.plainKeys == Tryz.pinned.checked.prog.plainKeys)) = true := by kernel_rfl
theorem jf23 : (Rows.consoleSaysRow.shortTexts.isNone) = true := by kernel_rfl
theorem jf24 : (Tryz.pinned.checked.prog.stopsHeard) = true := by kernel_rfl
theorem jf25 : (Tryz.pinned.checked.prog.mayEnter) = true := by kernel_rfl
theorem jf26 : ((Rows.consoleSaysRow.lifted == Tryz.pinned.checked.prog.liftsFinal)) = true := by kernel_rfl
theorem jf27 : ((Tryz.pinned.checked.prog.make == some Rows.consoleSaysRow.make)) = true := by kernel_rfl
theorem jf28 : ((Rows.consoleSaysRow.kinds == (if Rows.consoleSaysRow.domain.isEmpty then [] else Tryz.f5.params.toList.map fun t => match Tryz.pinned.checked.prog.underlying t with | some (.int k) => some k | _ => none))) = true := by kernel_rfl
theorem jf29 : ((Rows.consoleSaysRow.pinned == Rows.consoleSaysRow.pinnedBy)) = true := by kernel_rfl
theorem jf30 : ((Rows.consoleSaysRow.veiled == (Tryz.f5.params.toList ++ Rows.consoleSaysSpec.plain.varTypes Tryz.pinned.checked.prog ++ Tryz.f5.resultTypes.toList).any (Tryz.pinned.checked.prog.veiledRec ·))) = true := by kernel_rfl
theorem jf31 : (Rows.consoleSaysRow.veiledFits Tryz.pinned.checked.prog Tryz.f5.params.toList (Tryz.f5.params.toList ++ Rows.consoleSaysSpec.plain.varTypes Tryz.pinned.checked.prog ++ Tryz.f5.resultTypes.toList)) = true := by kernel_rfl
theorem jand {a b : Bool} (h : a = true) (k : b = true) : (a && b) = true := by rw [h, k]; rfl
def jg1 := jand jf0 jf1
def jg2 := jand jg1 jf2
def jg3 := jand jg2 jf3
def jg4 := jand jg3 jf4
def jg5 := jand jg4 jf5
def jg6 := jand jg5 jf6
def jg7 := jand jg6 jf7
def jg8 := jand jg7 jf8
def jg9 := jand jg8 jf9
def jg10 := jand jg9 jf10
def jg11 := jand jg10 jf11
def jg12 := jand jg11 jf12
def jg13 := jand jg12 jf13
def jg14 := jand jg13 jf14
def jg15 := jand jg14 jf15
def jg16 := jand jg15 jf16
def jg17 := jand jg16 jf17
def jg18 := jand jg17 jf18
def jg19 := jand jg18 jf19
def jg20 := jand jg19 jf20
def jg21 := jand jg20 jf21
def jg22 := jand jg21 jf22
def jg23 := jand jg22 jf23
def jg24 := jand jg23 jf24
def jg25 := jand jg24 jf25
def jg26 := jand jg25 jf26
def jg27 := jand jg26 jf27
def jg28 := jand jg27 jf28
def jg29 := jand jg28 jf29
def jg30 := jand jg29 jf30
def jg31 := jand jg30 jf31
theorem jeq {a b c : Bool} (h : a = b) (k : b = c) : a = c := h.trans k
theorem joined : joinedFacts Tryz.pinned.checked.prog 5 Tryz.f5 Rows.consoleSaysSpec Rows.consoleSaysRow = true := jeq (by kernel_rfl) jg31
theorem over : Rows.ConsoleSaysSaid :=
  OpenClaim.holds_of_wide 5 Tryz.f5 rfl rfl rfl rfl rfl rfl rfl ⟨rfl, rfl, rfl, rfl, rfl⟩ rfl rfl rfl rfl rfl (by kernel_rfl) Tryz.func5 joined
    (of_decide_eq_true (by kernel_rfl)) (by unfold Func.isWrapper; first | (rw [if_pos (by decide +kernel)]; kernel_rfl) | (rw [if_neg (by decide +kernel)]; exact ⟨rfl, rfl⟩))
    (fun os started H enc _ => lifted os started H enc)
end Go.Proofs.YthdjckbjjfiopabGreatDoor.consoleSays
