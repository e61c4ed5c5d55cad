/- strconv.Itoa, strconv.Atoi, strings.Repeat, strings.Compare: the kit's shelf's contracts, told in this layer's words. No condition but the tables of the library, which the assertion tabs names. -/
import Derived.Test.YthdjckbjjfiopacGreatDoorSlG
import Derived.Test.YthdjckbjjfiopacGreatDoorNums
import Derived.Test.YthdjckbjjfiopacGreatDoorSort
namespace Go.Proofs.YthdjckbjjfiopacGreatDoor
open Go.Sl Go.Proofs Go.Sort
set_option linter.unusedVariables false
set_option linter.unusedSimpArgs false

/-- the variables of the library that are read: the table of powers of ten, and the error of a text that is no number -/
def tabsP (e : Bool) : HProp := fun m =>
  (∃ g cs t f, Tryz.prog.globalNamed "internal/strconv.uint64pow10" = some g ∧ m g = some (.cells cs t f, true) ∧ cs = (Lib.pow10Tab.map fun z => Value.int .u64 z).toArray) ∧
  (e = true → ∃ g t f tp p, Tryz.prog.globalNamed "strconv.ErrSyntax" = some g ∧ m g = some (.cells #[.iface tp p] t f, true))
theorem sat_below {w0 w w' : World} {L : List HProp} (h : Sat w0 w L) (b : RowKit.Below w.heap.size w w') : Sat w0 w' L := by
  obtain ⟨f, hf1, hf2⟩ := h.parts
  refine ⟨b.os.trans h.os, b.tape.trans h.tape, b.output.trans h.output, Nat.le_trans h.size b.size, f, fun i A hA => ⟨(hf1 i A hA).1, fun k x hx => ?_⟩, hf2⟩
  have := (hf1 i A hA).2 k x hx
  rw [b.block k (Array.getElem?_eq_some_iff.1 this).1]; exact this
theorem sat_part {w0 w : World} {A : HProp} {L : List HProp} (h : Sat w0 w (A :: L)) : ∃ m : Res, m.fits w ∧ A m := by
  obtain ⟨f, hf1, _⟩ := h.parts
  exact ⟨f 0, (hf1 0 A rfl).2, (hf1 0 A rfl).1⟩
theorem tabs_tab {e : Bool} {w0 w : World} {L : List HProp} (h : Sat w0 w (tabsP e :: L)) : Lib.TabIs Tryz.prog w "internal/strconv.uint64pow10" .u64 Lib.pow10Tab := by
  obtain ⟨m, hm, ⟨g, cs, t, f, h1, h2, rfl⟩, _⟩ := sat_part h
  have := hm _ _ h2
  simp only [Lib.TabIs, World.var?, h1, Option.bind_some, this]
theorem old_tabP {e : Bool} {W w0 w : World} {L : List HProp} (h : Sat w0 w (old W :: L)) (h1 : Lib.TabIs Tryz.prog W "internal/strconv.uint64pow10" .u64 Lib.pow10Tab) (h2 : e = true → ∃ tp p, W.var? Tryz.prog "strconv.ErrSyntax" = some #[.iface tp p]) : Sat w0 w (tabsP e :: old W :: L) := by
  refine (h.dup (Pers.old W)).weak fun m hm => ⟨?_, fun he => ?_⟩
  · unfold Lib.TabIs World.var? at h1
    cases hg : Tryz.prog.globalNamed "internal/strconv.uint64pow10" with
    | none => rw [hg] at h1; cases h1
    | some g =>
      rw [hg] at h1
      simp only [Option.bind_some] at h1
      split at h1
      · rename_i cs t f he
        injection h1 with h1
        exact ⟨g, cs, t, f, rfl, hm g _ he, h1⟩
      · cases h1
  · obtain ⟨tp, p, h2⟩ := h2 he
    unfold World.var? at h2
    cases hg : Tryz.prog.globalNamed "strconv.ErrSyntax" with
    | none => rw [hg] at h2; cases h2
    | some g =>
      rw [hg] at h2
      simp only [Option.bind_some] at h2
      split at h2
      · rename_i cs t f he
        injection h2 with h2
        subst h2
        exact ⟨g, t, f, tp, p, rfl, hm g _ he⟩
      · cases h2
theorem ct_Itoa {ee : Bool} (n : Int) (h0 : -9223372036854775808 ≤ n) (h1 : n ≤ 9223372036854775807) (F : List HProp) :
    Ct Tryz.prog 80 [I n] (tabsP ee :: F) (R1 (Str (Lib.itoa n)) (tabsP ee :: F)) := fun w0 w hS => by
  refine (Tryz.strconv_Itoa n h0 h1 w (tabs_tab hS)).mono ?_
  rintro e w' ⟨rfl, k, os, rfl⟩
  exact ⟨_, grown_sat os.toList (hS.drew (w.drawn + k)), rfl, rfl⟩
theorem ct_Repeat (c : Nat) (hc : c ≤ 3) (F : List HProp) :
    Ct Tryz.prog 81 [Str [48], I c] F (R1 (Str (Lib.repeatL [48] c)) F) := fun w0 w hS => by
  refine (Tryz.strings_Repeat ⟨⟨[48]⟩⟩ c w (by omega) (by show 1 * c ≤ _; omega)).mono ?_
  rintro e w' ⟨rfl, hb⟩
  exact ⟨_, sat_below hS hb, rfl, rfl⟩
/-- what Atoi answers at a short text -/
def atoV (s : List UInt8) : Option Int := match Lib.atoiAll s with | .ok v => some v | _ => none
/-- a number's text, three digits at least -/
def thr (n : Int) : List UInt8 := Lib.repeatL [48] (3 - (Lib.itoa n).length) ++ Lib.itoa n
def dgt (n : Nat) : UInt8 := UInt8.ofNat (48 + n)
theorem dgt_nat {n : Nat} (h : n < 10) : (dgt n).toNat = 48 + n := by
  unfold dgt
  rw [UInt8.toNat_ofNat']
  omega
theorem dec1 {u : Nat} (h : u < 10) : Lib.decDigits u = [dgt u] := by rw [Lib.decDigits, dif_pos h]; rfl
theorem dec_step {u : Nat} (h : ¬ u < 10) : Lib.decDigits u = Lib.decDigits (u / 10) ++ [dgt (u % 10)] := by rw [Lib.decDigits, dif_neg h]; rfl
theorem itoa_nat (u : Nat) : Lib.itoa (u : Int) = Lib.decDigits u := by unfold Lib.itoa; rw [if_neg (by omega)]; simp
theorem thr_eq {u : Nat} (h : u < 1000) : thr (u : Int) = [dgt (u / 100), dgt (u / 10 % 10), dgt (u % 10)] := by
  unfold thr
  rw [itoa_nat]
  by_cases h1 : u < 10
  · rw [dec1 h1, show u / 100 = 0 by omega, show u / 10 % 10 = 0 by omega, show u % 10 = u by omega]; rfl
  · rw [dec_step h1]
    by_cases h2 : u < 100
    · rw [dec1 (by omega), show u / 100 = 0 by omega, show u / 10 % 10 = u / 10 by omega]; rfl
    · rw [dec_step (by omega), dec1 (by omega), show u / 10 / 10 = u / 100 by omega]; rfl
theorem thr_1000 : thr 1000 = [49, 48, 48, 48] := by
  unfold thr
  rw [show (1000 : Int) = ((1000 : Nat) : Int) from rfl, itoa_nat, dec_step (by omega), dec_step (by omega), dec_step (by omega), dec1 (by omega)]
  rfl
theorem thr_len {n : Int} (h : 0 ≤ n ∧ n ≤ 999) : (thr n).length = 3 := by
  obtain ⟨u, rfl⟩ : ∃ u : Nat, n = u := ⟨n.toNat, by omega⟩
  rw [thr_eq (by omega)]; rfl
theorem thr_len4 {n : Int} (h : -999 ≤ n ∧ n ≤ 1000) : (Lib.itoa n).length ≤ 4 := by
  by_cases h0 : n < 0
  · unfold Lib.itoa
    rw [if_pos h0, List.length_cons]
    have hd : ∀ u : Nat, u < 1000 → (Lib.decDigits u).length ≤ 3 := fun u hu => by
      by_cases h1 : u < 10
      · rw [dec1 h1]; simp
      · rw [dec_step h1]
        by_cases h2 : u < 100
        · rw [dec1 (by omega)]; simp
        · rw [dec_step (by omega), dec1 (by omega)]; simp
    have := hd n.natAbs (by omega)
    omega
  · obtain ⟨u, rfl⟩ : ∃ u : Nat, n = u := ⟨n.toNat, by omega⟩
    rw [itoa_nat]
    by_cases h1 : u < 10
    · rw [dec1 h1]; simp
    · rw [dec_step h1]
      by_cases h2 : u < 100
      · rw [dec1 (by omega)]; simp
      · rw [dec_step (by omega)]
        by_cases h3 : u < 1000
        · rw [dec1 (by omega)]; simp
        · obtain rfl : u = 1000 := by omega
          rw [dec_step (by omega), dec1 (by omega)]; simp
theorem thr_len_le {n : Int} (h : -999 ≤ n ∧ n ≤ 1000) : (thr n).length ≤ 4 := by
  have := thr_len4 h
  unfold thr
  rw [List.length_append, Lib.repeatL_length]
  simp
  omega
theorem pu_digit {c : Nat} (h : c < 10) (acc : Nat) (r : List UInt8) (ha : acc < 1000) : Lib.parseUint10 acc (dgt c :: r) = Lib.parseUint10 (acc * 10 + c) r := by
  simp only [Lib.parseUint10]
  rw [dgt_nat h, if_pos (by omega), if_neg (by omega), show 48 + c - 48 = c by omega, if_neg (by omega)]
theorem ato_thr {n : Int} (h : 0 ≤ n ∧ n ≤ 999) : atoV (thr n) = some n := by
  obtain ⟨u, rfl⟩ : ∃ u : Nat, n = u := ⟨n.toNat, by omega⟩
  rw [thr_eq (by omega)]
  unfold atoV Lib.atoiAll
  simp only
  rw [dgt_nat (by omega), if_neg (by omega)]
  unfold Lib.parseMag
  rw [if_neg (by simp), pu_digit (by omega) _ _ (by omega), pu_digit (by omega) _ _ (by omega), pu_digit (by omega) _ _ (by omega)]
  simp only [Lib.parseUint10]
  rw [if_neg (by omega), if_neg (by omega), if_neg (by omega)]
  simp only [Option.some.injEq]
  omega
/-- a number of three digits -/
def num3 (s : List UInt8) : Option Int := match atoV s with | some v => if thr v = s then some v else none | none => none
theorem num3_thr {n : Int} (h : 0 ≤ n ∧ n ≤ 999) : num3 (thr n) = some n := by unfold num3; rw [ato_thr h]; simp
end Go.Proofs.YthdjckbjjfiopacGreatDoor
