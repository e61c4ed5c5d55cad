/- The statement ConsoleSays: whatever the input, the law returns true, and the arguments read as before. Condition: the listed package variables read as the program's text lays them (tied by the card). -/
import Derived.Test.YthdjckbjjfiopabGreatDoorRows
import Derived.Test.YthdjckbjjfiopabGreatDoorCards
import Derived.Test.YthdjckbjjfiopabGreatDoorTie
import Derived.LaidHandle
import Derived.LaidMore
import Derived.Lay
import Derived.LaidSub
import Derived.Lib.LaidTab
import Derived.MakeChecks
import Derived.SevenTiedAt
import Derived.Test.YthdjckbjjfiopabGreatDoorCnsA
import Derived.Test.YthdjckbjjfiopabGreatDoorCnsG
set_option linter.unusedVariables false
namespace Go.Proofs.YthdjckbjjfiopabGreatDoor.consoleSays
open Go.Sl Go.Proofs Go.ChangeShapes Go.WideShapes Go.ChangeAt Go.RowKit
theorem walk (l : List Bytes) (s : Option Addr) (cap : Nat) (W : World) (hl : OldRows W s 1 (strR l)) (hol : ∀ x ∈ l, strOk x) (hnl : l.length ≤ maxLen) (hT : Lib.TabIs Tryz.prog W "internal/strconv.uint64pow10" .u64 Lib.pow10Tab) (hE : ∃ tp p, W.var? Tryz.prog "strconv.ErrSyntax" = some #[.iface tp p]) (hE2 : ∃ tp p, W.var? Tryz.prog "strconv.ErrRange" = some #[.iface tp p]) :
    Calls Tryz.prog 5 #[sl s l.length cap] W fun e w' => e = .returned (.bool true) ∧ Below W.heap.size W w' := by
  have gT := (old_tabs (Sat.start W) hT hE).pick [1, 0] (L' := [old W, tabs]) rfl (by decide)
  have gtU := (old_erR gT hE2).pick [1, 0, 2] (L' := [old W, erR, tabs]) rfl (by decide)
  have g0 := hl.sat gtU
  have hh : Sat W W ([tabs, erR, roL 1 s (strR l)] ++ [old W]) := (g0).pick [3, 2, 0, 1] rfl (by decide)
  exact law_of hh (ct_L_ConsoleSays l s cap (Nat.le_trans hnl (by decide)) (fun x hx => Nat.le_trans (hol x hx) (by decide)))
theorem iface_of {H : Type} {enc : TypeId × Value → H} {P : Program} {w : World} {base : Nat} {sp : Nat → Bool} {held : Bool} {fuel : Nat} {t : TypeId} {ms : Array (String × TypeId)} {name : String} {d : DataW H} {p : List MemPlace} (ht : P.underlying t = some (.interface ms)) : ∀ {cs : List Value}, DataW.trod enc P w base sp held fuel t cs = some (.iface name d, p) → ∃ u v, cs = [.iface u v] := by
  intro cs h
  cases fuel with
  | zero => simp [DataW.trod] at h
  | succ fuel =>
    unfold DataW.trod at h
    rw [ht] at h
    split at h <;> first | exact ⟨_, _, rfl⟩ | simp_all
theorem tabs_laid {W : World} (h : laidMetH Tryz.prog Rows.consoleSaysRow.laid W) : Lib.TabIs Tryz.prog W "internal/strconv.uint64pow10" .u64 Lib.pow10Tab ∧ ∃ tp p, W.var? Tryz.prog "strconv.ErrSyntax" = some #[.iface tp p] := by
  constructor
  · have h1 := h.filter fun x => x.1 == "internal/strconv.uint64pow10"
    rw [show (Rows.consoleSaysRow.laid.filter fun x => x.1 == "internal/strconv.uint64pow10") = [("internal/strconv.uint64pow10", Lib.tabData .u64 Lib.pow10Tab)] by kernel_rfl, MakeChecks.laidMetH_plain _ _ _ (by kernel_rfl)] at h1
    exact Lib.tabIs_of_head (g := 3) (t := 389) (e := 31) (n := 20) (by kernel_rfl) (by kernel_rfl) Tryz.underlying389 Tryz.underlying31 (by kernel_rfl) (by kernel_rfl) h1
  · have h1 := h.filter fun x => x.1 == "strconv.ErrSyntax"
    rw [show (Rows.consoleSaysRow.laid.filter fun x => x.1 == "strconv.ErrSyntax") = [("strconv.ErrSyntax", Rows.laid_strconv_ErrSyntax)] by kernel_rfl, MakeChecks.laidMetH_plain _ _ _ (by kernel_rfl)] at h1
    obtain ⟨ps, ⟨g', t', cs, fuel, p, q, hg', ht', hvar, hd, _, _⟩, _⟩ := h1
    obtain rfl := Option.some.inj ((show Tryz.prog.globalNamed "strconv.ErrSyntax" = some 1 by kernel_rfl).symm.trans hg')
    obtain rfl := Option.some.inj ((show (Tryz.prog.globals[1]?).map (·.type) = some 37 by kernel_rfl).symm.trans ht')
    obtain ⟨u, v, hc⟩ := iface_of Tryz.underlying37 hd
    exact ⟨u, v, by rw [hvar]; congr 1; apply Array.ext'; rw [hc]⟩
theorem erR_laid {W : World} (h : laidMetH Tryz.prog Rows.consoleSaysRow.laid W) : ∃ tp p, W.var? Tryz.prog "strconv.ErrRange" = some #[.iface tp p] := by
  have h1 := h.filter fun x => x.1 == "strconv.ErrRange"
  rw [show (Rows.consoleSaysRow.laid.filter fun x => x.1 == "strconv.ErrRange") = [("strconv.ErrRange", Rows.laid_strconv_ErrRange)] by kernel_rfl, MakeChecks.laidMetH_plain _ _ _ (by kernel_rfl)] at h1
  obtain ⟨ps, ⟨g', t', cs, fuel, p, q, hg', ht', hvar, hd, _, _⟩, _⟩ := h1
  obtain rfl := Option.some.inj ((show Tryz.prog.globalNamed "strconv.ErrRange" = some 2 by kernel_rfl).symm.trans hg')
  obtain rfl := Option.some.inj ((show (Tryz.prog.globals[2]?).map (·.type) = some 37 by kernel_rfl).symm.trans ht')
  obtain ⟨u, v, hc⟩ := iface_of Tryz.underlying37 hd
  exact ⟨u, v, by rw [hvar]; congr 1; apply Array.ext'; rw [hc]⟩
set_option maxRecDepth 100000 in
theorem door_met (os : Os) (args : Array Value) : laidMetH Tryz.prog Rows.consoleSaysRow.laid ((World.laidAll Tryz.prog os Rows.consoleSaysRow.laid).forCall (fun _ _ => 0) ⟨#[], args, []⟩).memory := by
  rw [MakeChecks.laidMetH_plain _ _ _ (by kernel_rfl)]; exact laidMet_laidAll _ (by kernel_rfl) (by kernel_rfl)
set_option maxRecDepth 100000 in
theorem lifted (os : Os) (started : os.Started) (H : Type) (enc : TypeId × Value → H) :
    ReturnsInHanded {} Tryz.checked os 5 .any (fun w args => (Rows.consoleSaysSpec.pre enc Tryz.prog Tryz.f5 [] false w args ∧ laidMetH Tryz.prog Rows.consoleSaysRow.laid w) ∧ sizedMet enc Tryz.prog Tryz.f5 (OpenSpec.ofChange Rows.consoleSaysSpec) false w args)
      (Rows.consoleSaysSpec.post enc Tryz.prog Tryz.f5 false true false false) := by
  refine returnsInHanded_of_change_and (C := Tryz.checked) (X := fun w _ => laidMetH Tryz.prog Rows.consoleSaysRow.laid w) (fun _ _ _ hh h => h.of_heap hh) own started (by kernel_rfl) Tryz.func5
    (ChangeSpec.witness_shaped (enc := enc) (C := Tryz.checked) (os := os) (X := fun w _ => laidMetH Tryz.prog Rows.consoleSaysRow.laid w) false (World.laidAll Tryz.prog os Rows.consoleSaysRow.laid) #[.slice none 0 0] 8 (World.laidAll_os _ _ _) (World.shaped_of_ZipB (by kernel_rfl) (by kernel_rfl)) (by kernel_rfl) (by kernel_rfl) (by kernel_rfl) (door_met os _)) ?_
  intro W base args ds gs before hval0 hW _ _ hL _
  have hval : ∀ (j : Nat) t v, Tryz.f5.params[j]? = some t → args[j]? = some v → Value.okWide Tryz.prog W .any base t v := hval0
  have hW' := hW
  obtain ⟨p, q, hA0, hV, rfl, hfz, hnd⟩ := hW
  have hA : DataW.TrodAll enc Tryz.prog W 0 (fun _ => true) true Tryz.f5.params.toList args.toList ds p := hA0
  rw [Tryz.params5] at hA hval
  obtain ⟨v0, vs0, d0, ds0, p0, q0, hargs, rfl, rfl, h0, r0⟩ := trodAll_cons hA
  obtain ⟨rfl, rfl, rfl⟩ := trodAll_nil r0
  obtain rfl : args = #[v0] := by cases args; simp_all
  obtain ⟨rfl, rfl⟩ := trodVars_none hV
  have k0 := h0
  have lt0 : ∀ x ∈ p0, x.block < W.heap.size := by obtain ⟨m, hm⟩ := k0; exact DataW.trod_lt m _ _ _ hm
  obtain ⟨s, l, cap, rfl, hl, hol, hnl⟩ := open_strs (okWide_slice Tryz.underlying71 (hval 0 71 v0 rfl rfl)) h0
  clear hA0 hval0
  refine (walk l s cap W hl hol hnl (tabs_laid hL).1 (tabs_laid hL).2 (erR_laid hL)).mono fun e W' ⟨he, bel⟩ => ?_
  subst he
  exact ⟨_, rfl, _, _, _, [], _, [], hW', trodAll_mk1 (shut_bool Tryz.underlying4 _), (trodAll_cons_mk (Below.trod laidOut (by kernel_rfl) (of_decide_eq_true (by kernel_rfl)) k0 bel lt0) trodAll_mk0), rfl, bel.frame _, fun h => by cases h⟩
end Go.Proofs.YthdjckbjjfiopabGreatDoor.consoleSays
