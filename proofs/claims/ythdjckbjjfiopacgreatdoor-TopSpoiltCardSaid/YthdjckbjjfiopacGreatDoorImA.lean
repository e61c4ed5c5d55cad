/- strconv.Itoa, strconv.Atoi, strings.Repeat, strings.Compare: the kit's shelf's contracts, told in this layer's words. No condition but the tables of the library, which the assertion tabs names. -/
import Derived.Test.YthdjckbjjfiopacGreatDoorSlG
import Derived.Test.YthdjckbjjfiopacGreatDoorNums
import Derived.Test.YthdjckbjjfiopacGreatDoorSort
namespace Go.Proofs.YthdjckbjjfiopacGreatDoor
open Go.Sl Go.Proofs Go.Sort
set_option linter.unusedVariables false
set_option linter.unusedSimpArgs false

/-- the variables of the library that are read: the table of powers of ten, and the error of a text that is no number -/
def tabsP (e : Bool) : HProp := fun m =>
  (∃ g cs t f, Tryz.prog.globalNamed "internal/strconv.uint64pow10" = some g ∧ m g = some (.cells cs t f, true) ∧ cs = (Lib.pow10Tab.map fun z => Value.int .u64 z).toArray) ∧
  (e = true → ∃ g t f tp p, Tryz.prog.globalNamed "strconv.ErrSyntax" = some g ∧ m g = some (.cells #[.iface tp p] t f, true))
abbrev tabs : HProp := tabsP true
theorem sat_below {w0 w w' : World} {L : List HProp} (h : Sat w0 w L) (b : RowKit.Below w.heap.size w w') : Sat w0 w' L := by
  obtain ⟨f, hf1, hf2⟩ := h.parts
  refine ⟨b.os.trans h.os, b.tape.trans h.tape, b.output.trans h.output, Nat.le_trans h.size b.size, f, fun i A hA => ⟨(hf1 i A hA).1, fun k x hx => ?_⟩, hf2⟩
  have := (hf1 i A hA).2 k x hx
  rw [b.block k (Array.getElem?_eq_some_iff.1 this).1]; exact this
theorem sat_part {w0 w : World} {A : HProp} {L : List HProp} (h : Sat w0 w (A :: L)) : ∃ m : Res, m.fits w ∧ A m := by
  obtain ⟨f, hf1, _⟩ := h.parts
  exact ⟨f 0, (hf1 0 A rfl).2, (hf1 0 A rfl).1⟩
theorem tabs_tab {e : Bool} {w0 w : World} {L : List HProp} (h : Sat w0 w (tabsP e :: L)) : Lib.TabIs Tryz.prog w "internal/strconv.uint64pow10" .u64 Lib.pow10Tab := by
  obtain ⟨m, hm, ⟨g, cs, t, f, h1, h2, rfl⟩, _⟩ := sat_part h
  have := hm _ _ h2
  simp only [Lib.TabIs, World.var?, h1, Option.bind_some, this]
theorem tabs_syn {w0 w : World} {L : List HProp} (h : Sat w0 w (tabs :: L)) : ∃ tp p, w.var? Tryz.prog "strconv.ErrSyntax" = some #[.iface tp p] := by
  obtain ⟨m, hm, _, h6⟩ := sat_part h
  obtain ⟨g, t, f, tp, p, h1, h2⟩ := h6 rfl
  have := hm _ _ h2
  exact ⟨tp, p, by simp only [World.var?, h1, Option.bind_some, this]⟩
theorem old_tabP {e : Bool} {W w0 w : World} {L : List HProp} (h : Sat w0 w (old W :: L)) (h1 : Lib.TabIs Tryz.prog W "internal/strconv.uint64pow10" .u64 Lib.pow10Tab) (h2 : e = true → ∃ tp p, W.var? Tryz.prog "strconv.ErrSyntax" = some #[.iface tp p]) : Sat w0 w (tabsP e :: old W :: L) := by
  refine (h.dup (Pers.old W)).weak fun m hm => ⟨?_, fun he => ?_⟩
  · unfold Lib.TabIs World.var? at h1
    cases hg : Tryz.prog.globalNamed "internal/strconv.uint64pow10" with
    | none => rw [hg] at h1; cases h1
    | some g =>
      rw [hg] at h1
      simp only [Option.bind_some] at h1
      split at h1
      · rename_i cs t f he
        injection h1 with h1
        exact ⟨g, cs, t, f, rfl, hm g _ he, h1⟩
      · cases h1
  · obtain ⟨tp, p, h2⟩ := h2 he
    unfold World.var? at h2
    cases hg : Tryz.prog.globalNamed "strconv.ErrSyntax" with
    | none => rw [hg] at h2; cases h2
    | some g =>
      rw [hg] at h2
      simp only [Option.bind_some] at h2
      split at h2
      · rename_i cs t f he
        injection h2 with h2
        subst h2
        exact ⟨g, t, f, tp, p, rfl, hm g _ he⟩
      · cases h2
theorem old_tabs {W w0 w : World} {L : List HProp} (h : Sat w0 w (old W :: L)) (h1 : Lib.TabIs Tryz.prog W "internal/strconv.uint64pow10" .u64 Lib.pow10Tab) (h2 : ∃ tp p, W.var? Tryz.prog "strconv.ErrSyntax" = some #[.iface tp p]) : Sat w0 w (tabs :: old W :: L) := old_tabP h h1 fun _ => h2
theorem ct_Itoa {ee : Bool} (n : Int) (h0 : -9223372036854775808 ≤ n) (h1 : n ≤ 9223372036854775807) (F : List HProp) :
    Ct Tryz.prog 80 [I n] (tabsP ee :: F) (R1 (Str (Lib.itoa n)) (tabsP ee :: F)) := fun w0 w hS => by
  refine (Tryz.strconv_Itoa n h0 h1 w (tabs_tab hS)).mono ?_
  rintro e w' ⟨rfl, k, os, rfl⟩
  exact ⟨_, grown_sat os.toList (hS.drew (w.drawn + k)), rfl, rfl⟩
theorem ct_Repeat (c : Nat) (hc : c ≤ 3) (F : List HProp) :
    Ct Tryz.prog 81 [Str [48], I c] F (R1 (Str (Lib.repeatL [48] c)) F) := fun w0 w hS => by
  refine (Tryz.strings_Repeat ⟨⟨[48]⟩⟩ c w (by omega) (by show 1 * c ≤ _; omega)).mono ?_
  rintro e w' ⟨rfl, hb⟩
  exact ⟨_, sat_below hS hb, rfl, rfl⟩
theorem pu_small : ∀ (l : List UInt8) (acc : Nat), (acc + 1) * 10 ^ l.length ≤ 100000 → Lib.parseUint10 acc l ≠ .range ∧ ∀ u, Lib.parseUint10 acc l = .ok u → u < (acc + 1) * 10 ^ l.length
  | [], acc, h => by
    simp only [Lib.parseUint10]
    exact ⟨by simp, fun u hu => by injection hu with hu; subst hu; simp⟩
  | c :: r, acc, h => by
    simp only [List.length_cons, Nat.pow_succ] at h ⊢
    have hp : 1 ≤ 10 ^ r.length := Nat.one_le_pow _ _ (by decide)
    have h1 : acc + 1 ≤ (acc + 1) * (10 ^ r.length * 10) := Nat.le_mul_of_pos_right _ (by omega)
    simp only [Lib.parseUint10]
    split
    · rename_i hd
      have h2 : (acc * 10 + (c.toNat - 48) + 1) * 10 ^ r.length ≤ (acc + 1) * (10 ^ r.length * 10) := by
        rw [show (acc + 1) * (10 ^ r.length * 10) = ((acc + 1) * 10) * 10 ^ r.length by rw [Nat.mul_comm (10 ^ r.length) 10, Nat.mul_assoc]]
        exact Nat.mul_le_mul_right _ (by omega)
      rw [if_neg (by omega), if_neg (by omega)]
      have ih := pu_small r (acc * 10 + (c.toNat - 48)) (by omega)
      exact ⟨ih.1, fun u hu => Nat.lt_of_lt_of_le (ih.2 u hu) h2⟩
    · exact ⟨by simp, fun u hu => by cases hu⟩
theorem mag_small {l : List UInt8} (h : l.length ≤ 3) : Lib.parseMag l ≠ .range ∧ ∀ u, Lib.parseMag l = .ok u → u < 10 ^ l.length := by
  unfold Lib.parseMag
  split
  · exact ⟨by simp, fun u hu => by cases hu⟩
  · have hp : 10 ^ l.length ≤ 10 ^ 3 := Nat.pow_le_pow_right (by decide) h
    have := pu_small l 0 (by omega)
    simpa using this
theorem all_small {s : List UInt8} (hs : s.length = 3) : Lib.atoiAll s ≠ .range ∧ ∀ v, Lib.atoiAll s = .ok v → -99 ≤ v ∧ v ≤ 999 := by
  cases s with
  | nil => simp at hs
  | cons c r =>
    simp at hs
    unfold Lib.atoiAll
    simp only
    by_cases hc : c.toNat = 43 ∨ c.toNat = 45
    · rw [if_pos hc]
      obtain ⟨h1, h2⟩ := mag_small (l := r) (by omega)
      cases hm : Lib.parseMag r with
      | ok u =>
        have h3 := h2 u hm
        rw [hs] at h3
        simp only
        rw [if_neg (by omega), if_neg (by omega)]
        refine ⟨by simp, fun v hv => ?_⟩
        injection hv with hv
        subst hv
        split <;> omega
      | range => exact absurd hm h1
      | _ => exact ⟨by simp, fun v hv => by cases hv⟩
    · rw [if_neg hc]
      obtain ⟨h1, h2⟩ := mag_small (l := c :: r) (by simp; omega)
      cases hm : Lib.parseMag (c :: r) with
      | ok u =>
        have h3 := h2 u hm
        simp only [List.length_cons, hs] at h3
        simp only
        rw [if_neg (by omega), if_neg (by omega)]
        refine ⟨by simp, fun v hv => ?_⟩
        injection hv with hv
        subst hv
        split <;> omega
      | range => exact absurd hm h1
      | _ => exact ⟨by simp, fun v hv => by cases hv⟩
/-- what Atoi answers at a short text -/
def atoV (s : List UInt8) : Option Int := match Lib.atoiAll s with | .ok v => some v | _ => none
theorem ct_Atoi (s : List UInt8) (hs : s.length = 3) (F : List HProp) :
    Ct Tryz.prog 138 [Str s] (tabs :: F) (fun v L' => L' = tabs :: F ∧ ((∃ n, atoV s = some n ∧ v = .tuple #[I n, .nilIface]) ∨ (atoV s = none ∧ ∃ t p, v = .tuple #[I 0, .iface t (ptr p 0)]))) := fun w0 w hS => by
  cases ha : Lib.atoiAll s with
  | ok v =>
    refine (Tryz.strconv_Atoi_ok ⟨⟨s⟩⟩ (by show s.length ≤ _; omega) v ha w).mono ?_
    rintro e w' ⟨rfl, hw⟩
    rcases hw with rfl | ⟨t, rfl⟩
    · exact ⟨_, hS, rfl, .inl ⟨v, by unfold atoV; rw [ha], rfl⟩⟩
    · refine ⟨tabs :: F, ?_, rfl, .inl ⟨v, by unfold atoV; rw [ha], rfl⟩⟩
      exact sat_below hS ((Lib.bytesWorld_below w _ t))
  | range => exact absurd ha (all_small hs).1
  | _ =>
    obtain ⟨tp, p, hv⟩ := tabs_syn hS
    refine (Tryz.strconv_Atoi_syntax_var ⟨⟨s⟩⟩ (by show s.length ≤ _; omega) ha tp p w hv).mono ?_
    rintro e w' ⟨N, rfl, _, _, hb⟩
    exact ⟨_, sat_below hS hb, rfl, .inr ⟨by unfold atoV; rw [ha], _, N, rfl⟩⟩
/-- a number's text, three digits at least -/
def thr (n : Int) : List UInt8 := Lib.repeatL [48] (3 - (Lib.itoa n).length) ++ Lib.itoa n
def dgt (n : Nat) : UInt8 := UInt8.ofNat (48 + n)
theorem dgt_nat {n : Nat} (h : n < 10) : (dgt n).toNat = 48 + n := by
  unfold dgt
  rw [UInt8.toNat_ofNat']
  omega
theorem dec1 {u : Nat} (h : u < 10) : Lib.decDigits u = [dgt u] := by rw [Lib.decDigits, dif_pos h]; rfl
theorem dec_step {u : Nat} (h : ¬ u < 10) : Lib.decDigits u = Lib.decDigits (u / 10) ++ [dgt (u % 10)] := by rw [Lib.decDigits, dif_neg h]; rfl
theorem itoa_nat (u : Nat) : Lib.itoa (u : Int) = Lib.decDigits u := by unfold Lib.itoa; rw [if_neg (by omega)]; simp
theorem thr_eq {u : Nat} (h : u < 1000) : thr (u : Int) = [dgt (u / 100), dgt (u / 10 % 10), dgt (u % 10)] := by
  unfold thr
  rw [itoa_nat]
  by_cases h1 : u < 10
  · rw [dec1 h1, show u / 100 = 0 by omega, show u / 10 % 10 = 0 by omega, show u % 10 = u by omega]; rfl
  · rw [dec_step h1]
    by_cases h2 : u < 100
    · rw [dec1 (by omega), show u / 100 = 0 by omega, show u / 10 % 10 = u / 10 by omega]; rfl
    · rw [dec_step (by omega), dec1 (by omega), show u / 10 / 10 = u / 100 by omega]; rfl
theorem thr_1000 : thr 1000 = [49, 48, 48, 48] := by
  unfold thr
  rw [show (1000 : Int) = ((1000 : Nat) : Int) from rfl, itoa_nat, dec_step (by omega), dec_step (by omega), dec_step (by omega), dec1 (by omega)]
  rfl
theorem thr_len {n : Int} (h : 0 ≤ n ∧ n ≤ 999) : (thr n).length = 3 := by
  obtain ⟨u, rfl⟩ : ∃ u : Nat, n = u := ⟨n.toNat, by omega⟩
  rw [thr_eq (by omega)]; rfl
theorem thr_len4 {n : Int} (h : -999 ≤ n ∧ n ≤ 1000) : (Lib.itoa n).length ≤ 4 := by
  by_cases h0 : n < 0
  · unfold Lib.itoa
    rw [if_pos h0, List.length_cons]
    have hd : ∀ u : Nat, u < 1000 → (Lib.decDigits u).length ≤ 3 := fun u hu => by
      by_cases h1 : u < 10
      · rw [dec1 h1]; simp
      · rw [dec_step h1]
        by_cases h2 : u < 100
        · rw [dec1 (by omega)]; simp
        · rw [dec_step (by omega), dec1 (by omega)]; simp
    have := hd n.natAbs (by omega)
    omega
  · obtain ⟨u, rfl⟩ : ∃ u : Nat, n = u := ⟨n.toNat, by omega⟩
    rw [itoa_nat]
    by_cases h1 : u < 10
    · rw [dec1 h1]; simp
    · rw [dec_step h1]
      by_cases h2 : u < 100
      · rw [dec1 (by omega)]; simp
      · rw [dec_step (by omega)]
        by_cases h3 : u < 1000
        · rw [dec1 (by omega)]; simp
        · obtain rfl : u = 1000 := by omega
          rw [dec_step (by omega), dec1 (by omega)]; simp
theorem thr_len_le {n : Int} (h : -999 ≤ n ∧ n ≤ 1000) : (thr n).length ≤ 4 := by
  have := thr_len4 h
  unfold thr
  rw [List.length_append, Lib.repeatL_length]
  simp
  omega
theorem ato_rng {s : List UInt8} (hs : s.length = 3) {v : Int} (h : atoV s = some v) : -99 ≤ v ∧ v ≤ 999 := by
  unfold atoV at h
  split at h
  · rename_i u hu
    injection h with h
    subst h
    exact (all_small hs).2 _ hu
  · cases h
/-- a number of three digits -/
def num3 (s : List UInt8) : Option Int := match atoV s with | some v => if thr v = s then some v else none | none => none
theorem num3_some {s : List UInt8} (hs : s.length = 3) {v : Int} (h : num3 s = some v) : thr v = s ∧ -99 ≤ v ∧ v ≤ 999 := by
  unfold num3 at h
  cases ha : atoV s with
  | none => rw [ha] at h; cases h
  | some u =>
    rw [ha] at h
    simp only at h
    split at h
    · injection h with h; subst h; exact ⟨‹_›, ato_rng hs ha⟩
    · cases h
def numsF : Nat → List UInt8 → Option (List Int)
  | 0, _ => some []
  | k + 1, s => match num3 (s.take 3) with
    | none => none
    | some v => (numsF k (s.drop 3)).map (v :: ·)
theorem numsF_len : ∀ {k : Nat} {s : List UInt8} {l : List Int}, numsF k s = some l → l.length = k
  | 0, s, l, h => by simp [numsF] at h; subst h; rfl
  | k + 1, s, l, h => by
    simp only [numsF] at h
    split at h
    · cases h
    · obtain ⟨l', h1, rfl⟩ := Option.map_eq_some_iff.1 h
      simp [numsF_len h1]
theorem numsF_text : ∀ {k : Nat} {s : List UInt8} {l : List Int}, 3 * k ≤ s.length → numsF k s = some l → s = l.flatMap thr ++ s.drop (3 * k) ∧ ∀ v ∈ l, -99 ≤ v ∧ v ≤ 999
  | 0, s, l, _, h => by simp [numsF] at h; subst h; simp
  | k + 1, s, l, hk, h => by
    simp only [numsF] at h
    split at h
    · cases h
    · rename_i v hv
      obtain ⟨l', h1, rfl⟩ := Option.map_eq_some_iff.1 h
      have hl : (s.take 3).length = 3 := by simp; omega
      obtain ⟨e1, e2⟩ := num3_some hl hv
      obtain ⟨e3, e4⟩ := numsF_text (by simp; omega) h1
      refine ⟨?_, fun x hx => ?_⟩
      · rw [List.flatMap_cons, e1, List.append_assoc]
        conv => lhs; rw [← List.take_append_drop 3 s, e3]
        rw [List.drop_drop]
        rw [show 3 * (k + 1) = 3 + 3 * k by omega]
      · rcases List.mem_cons.1 hx with rfl | hx
        · exact e2
        · exact e4 x hx
theorem numsF_add (k : Nat) : ∀ (j : Nat) (s : List UInt8), numsF (j + k) s = (numsF j s).bind fun l => (numsF k (s.drop (3 * j))).map (l ++ ·)
  | 0, s => by simp [numsF]
  | j + 1, s => by
    rw [show j + 1 + k = (j + k) + 1 by omega]
    simp only [numsF]
    cases num3 (s.take 3) with
    | none => rfl
    | some v =>
      simp only
      rw [numsF_add k j]
      cases numsF j (s.drop 3) with
      | none => rfl
      | some l =>
        simp only [Option.bind_some, Option.map_some, List.drop_drop, Option.map_map]
        rw [show 3 + 3 * j = 3 * (j + 1) by omega]
        rfl
theorem numsF_snoc {j : Nat} {s : List UInt8} {l : List Int} (h : numsF j s = some l) : numsF (j + 1) s = (num3 ((s.drop (3 * j)).take 3)).map fun v => l ++ [v] := by
  rw [numsF_add, h]
  simp only [Option.bind_some, numsF]
  cases num3 ((s.drop (3 * j)).take 3) <;> rfl
theorem numsF_none {j k : Nat} {s : List UInt8} (h : numsF j s = none) : numsF (j + k) s = none := by rw [numsF_add, h]; rfl
end Go.Proofs.YthdjckbjjfiopacGreatDoor
