/- What adding to a log writes, in plain words. No condition. -/
import Derived.Test.YthdjckbjjfiopacLgM
import Derived.Test.YthdjckbjjfiopacDisk3
namespace Go.Proofs.Ythdjckbjjfiopac
open Go.Sl Go.Proofs
set_option linter.unusedVariables false
set_option linter.unusedSimpArgs false
/-- what is known of a disk of N sectors after i actions -/
def okW (N i : Nat) (D : DiskM) : Prop := D.kept.length = N ∧ D.now.length = N ∧ (-1 ≤ D.fuse ∧ D.fuse ≤ 9223372036854775807) ∧ (∀ t ∈ D.wait, t.1 < N) ∧ D.wait.length ≤ i
theorem okW_new (N : Nat) : okW N 0 (newD N) := ⟨by simp [newD], by simp [newD], by simp [newD], by simp [newD], by simp [newD]⟩
theorem okW_mono {N i : Nat} {D : DiskM} (h : okW N i D) : okW N (i + 1) D := ⟨h.1, h.2.1, h.2.2.1, h.2.2.2.1, by have := h.2.2.2.2; omega⟩
theorem okW_step {N i : Nat} {D : DiskM} (h : okW N i D) : okW N i (stepD D) := by
  obtain ⟨h1, h2, h3, h4, h5⟩ := h
  unfold stepD
  split
  · exact ⟨h1, h2, h3, h4, h5⟩
  · split
    · exact ⟨h1, h2, by simp, h4, h5⟩
    · refine ⟨h1, h2, ?_, h4, h5⟩
      simp only
      split <;> omega
theorem okW_write {N i : Nat} {D : DiskM} (h : okW N i D) (n : Int) (s : Bytes) : okW N (i + 1) (writeD D n s) := by
  unfold writeD
  split
  · exact okW_mono h
  · rename_i hb
    split
    · obtain ⟨h1, h2, h3, h4, h5⟩ := okW_step h
      refine ⟨h1, by simp [wroteD, h2], h3, fun t ht => ?_, by simp [wroteD]; exact h5⟩
      simp only [wroteD, List.mem_append, List.mem_singleton] at ht
      rcases ht with ht | rfl
      · exact h4 t ht
      · have := h.2.1
        unfold badW at hb
        simp only
        omega
    · exact okW_mono (okW_step h)
theorem okW_flush {N i : Nat} {D : DiskM} (h : okW N i D) : okW N (i + 1) (flushD D) := by
  unfold flushD
  split
  · obtain ⟨h1, h2, h3, h4, h5⟩ := okW_step h
    exact ⟨h2, h2, h3, by simp [flushedD], by simp [flushedD]⟩
  · exact okW_mono (okW_step h)
theorem okW_arm {N i : Nat} {D : DiskM} (h : okW N i D) {a : Int} (ha : a ≤ 9223372036854775807) : okW N (i + 1) ⟨D.kept, D.now, D.wait, if a < -1 then -1 else a, D.down⟩ := by
  obtain ⟨h1, h2, h3, h4, h5⟩ := okW_mono h
  refine ⟨h1, h2, ?_, h4, h5⟩
  simp only
  split <;> omega
theorem okW_rest {N i : Nat} {D : DiskM} (h : okW N i D) (keep : Int) : okW N (i + 1) (restD keep D) :=
  ⟨by simp [restD, restL, restK_len, h.1], by simp [restD, restL, restK_len, h.1], by simp [restD], by simp [restD], by simp [restD]⟩
theorem stepW_cases (D : DiskM) : stepE D = 0 ∨ stepE D = 9 := by unfold stepE; split <;> simp
/-- a step of what is done to a disk: a write, or none: a flush -/
abbrev Stp := Option (Nat × Bytes)
def stE (D : DiskM) : Stp → Int
  | some x => writeE D x.1 x.2
  | none => stepE D
def stD (D : DiskM) : Stp → DiskM
  | some x => writeD D x.1 x.2
  | none => flushD D
def runS : DiskM → List Stp → Int × DiskM
  | D, [] => (0, D)
  | D, x :: r => if stE D x = 0 then runS (stD D x) r else (stE D x, stD D x)
theorem run_ok {D : DiskM} {x : Stp} {r : List Stp} (h : stE D x = 0) : runS D (x :: r) = runS (stD D x) r := by rw [runS, if_pos h]
theorem run_bad {D : DiskM} {x : Stp} {r : List Stp} (h : ¬ stE D x = 0) : runS D (x :: r) = (stE D x, stD D x) := by rw [runS, if_neg h]
theorem run_okW {D : DiskM} {n : Nat} {s : Bytes} {r : List Stp} (h : writeE D n s = 0) : runS D (some (n, s) :: r) = runS (writeD D n s) r := run_ok h
theorem run_badW {D : DiskM} {n : Nat} {s : Bytes} {r : List Stp} (h : ¬ writeE D n s = 0) : runS D (some (n, s) :: r) = (writeE D n s, writeD D n s) := run_bad h
theorem run_okF {D : DiskM} {r : List Stp} (h : stepE D = 0) : runS D (none :: r) = runS (flushD D) r := run_ok h
theorem run_badF {D : DiskM} {r : List Stp} (h : ¬ stepE D = 0) : runS D (none :: r) = (stepE D, flushD D) := run_bad h
theorem run_nil (D : DiskM) : runS D [] = (0, D) := rfl
theorem run_app : ∀ (l r : List Stp) (D : DiskM), runS D (l ++ r) = if (runS D l).1 = 0 then runS (runS D l).2 r else runS D l
  | [], r, D => by simp [runS]
  | x :: l, r, D => by
    rw [List.cons_append]
    by_cases h : stE D x = 0
    · rw [run_ok h, run_ok h, run_app l r]
    · rw [run_bad h, run_bad h, if_neg h]
theorem okW_st {N i : Nat} {D : DiskM} (h : okW N i D) (x : Stp) : okW N (i + 1) (stD D x) := by
  cases x with
  | none => exact okW_flush h
  | some x => exact okW_write h _ _
theorem okW_le {N i j : Nat} {D : DiskM} (h : okW N i D) (hij : i ≤ j) : okW N j D := ⟨h.1, h.2.1, h.2.2.1, h.2.2.2.1, by have := h.2.2.2.2; omega⟩
theorem okW_run {N : Nat} : ∀ (l : List Stp) (i : Nat) (D : DiskM), okW N i D → okW N (i + l.length) (runS D l).2
  | [], i, D, h => h
  | x :: l, i, D, h => by
    by_cases h0 : stE D x = 0
    · rw [run_ok h0]
      have := okW_run l (i + 1) _ (okW_st h x)
      rw [List.length_cons, show i + (l.length + 1) = i + 1 + l.length by omega]
      exact this
    · rw [run_bad h0]
      exact okW_le (okW_st h x) (by simp)
/-- the opened sectors of a deed, from change k on -/
def layW (from_ first used : Nat) : Nat → List ChangeM → List Stp
  | _, [] => []
  | k, x :: c => some (from_ + used + k, textB 111 (first + used + k) (rawC x)) :: layW from_ first used (k + 1) c
def blkW (from_ many used len : Nat) : List Stp := if used + len + 1 < many then [some (from_ + (used + len + 1), [])] else []
def layL (from_ many first used : Nat) (c : List ChangeM) : List Stp := layW from_ first used 0 c ++ blkW from_ many used c.length
def endW (from_ first used len : Nat) : Stp := some (from_ + (used + len), textB 99 (first + (used + len)) (fourN len))
def addL (from_ many first used : Nat) (c : List ChangeM) : List Stp := layL from_ many first used c ++ [none, endW from_ first used c.length, none]
theorem layW_len (from_ first used : Nat) : ∀ (c : List ChangeM) (k : Nat), (layW from_ first used k c).length = c.length
  | [], _ => rfl
  | x :: c, k => by simp [layW, layW_len from_ first used c]
theorem blkW_len (from_ many used len : Nat) : (blkW from_ many used len).length ≤ 1 := by unfold blkW; split <;> simp
theorem layL_len (from_ many first used : Nat) (c : List ChangeM) : (layL from_ many first used c).length ≤ c.length + 1 := by
  have := blkW_len from_ many used c.length
  simp [layL, layW_len]; omega
theorem layW_drop {from_ first used k : Nat} {c : List ChangeM} {x : ChangeM} (h : c[k]? = some x) : layW from_ first used k (c.drop k) = some (from_ + used + k, textB 111 (first + used + k) (rawC x)) :: layW from_ first used (k + 1) (c.drop (k + 1)) := by
  obtain ⟨hk, rfl⟩ := List.getElem?_eq_some_iff.1 h
  rw [List.drop_eq_getElem_cons hk]
  rfl
/-- the first fault among changes -/
def fltC : List ChangeM → Int
  | [] => 0
  | x :: c => if chkC x = 0 then fltC c else chkC x
theorem flt_drop {c : List ChangeM} {k : Nat} {x : ChangeM} (h : c[k]? = some x) : fltC (c.drop k) = if chkC x = 0 then fltC (c.drop (k + 1)) else chkC x := by
  obtain ⟨hk, rfl⟩ := List.getElem?_eq_some_iff.1 h
  rw [List.drop_eq_getElem_cons hk]
  rfl
theorem flt_all : ∀ {c : List ChangeM}, fltC c = 0 → ∀ x ∈ c, chkC x = 0
  | [], _, x, hx => by simp at hx
  | y :: c, h, x, hx => by
    unfold fltC at h
    split at h
    · rename_i h0
      rcases List.mem_cons.1 hx with rfl | hx
      · exact h0
      · exact flt_all h x hx
    · rename_i h0; exact absurd h h0
theorem flt_of : ∀ {c : List ChangeM}, (∀ x ∈ c, chkC x = 0) → fltC c = 0
  | [], _ => rfl
  | y :: c, h => by unfold fltC; rw [if_pos (h y (by simp)), flt_of fun x hx => h x (List.mem_cons_of_mem _ hx)]
theorem flt_nn : ∀ (c : List ChangeM), 0 ≤ fltC c
  | [] => by simp [fltC]
  | y :: c => by unfold fltC; split; exact flt_nn c; exact chkC_nn y
/-- what adding answers before it writes -/
def addV (many used : Nat) (c : List ChangeM) : Int := if 72 < c.length then 2 else if many - used < c.length + 1 then 8 else fltC c
def addE (from_ many first used : Nat) (c : List ChangeM) (D : DiskM) : Int := if addV many used c = 0 then (runS D (addL from_ many first used c)).1 else addV many used c
def addD (from_ many first used : Nat) (c : List ChangeM) (D : DiskM) : DiskM := if addV many used c = 0 then (runS D (addL from_ many first used c)).2 else D
def addU (from_ many first used : Nat) (c : List ChangeM) (D : DiskM) : Nat := if addE from_ many first used c D = 0 then used + c.length + 1 else used
theorem addV_nn (many used : Nat) (c : List ChangeM) : 0 ≤ addV many used c := by
  unfold addV
  split
  · decide
  · split
    · decide
    · exact flt_nn c
theorem addV_ok {many used : Nat} {c : List ChangeM} (h : addV many used c = 0) : c.length ≤ 72 ∧ c.length + 1 ≤ many - used ∧ ∀ x ∈ c, chkC x = 0 := by
  unfold addV at h
  split at h
  · cases h
  · split at h
    · cases h
    · exact ⟨by omega, by omega, flt_all h⟩
theorem addV_of {many used : Nat} {c : List ChangeM} (h1 : c.length ≤ 72) (h2 : c.length + 1 ≤ many - used) : addV many used c = fltC c := by unfold addV; rw [if_neg (by omega), if_neg (by omega)]
theorem add_badV {from_ many first used : Nat} {c : List ChangeM} {D : DiskM} {e : Int} (h : addV many used c = e) (he : e ≠ 0) : addE from_ many first used c D = e ∧ addD from_ many first used c D = D ∧ addU from_ many first used c D = used := by
  have h0 : ¬ addV many used c = 0 := by rw [h]; exact he
  have h1 : addE from_ many first used c D = e := by unfold addE; rw [if_neg h0, h]
  refine ⟨h1, ?_, ?_⟩
  · unfold addD; rw [if_neg h0]
  · unfold addU; rw [h1, if_neg he]
theorem add_badR {from_ many first used : Nat} {c : List ChangeM} {D D' : DiskM} {e : Int} (h : addV many used c = 0) (hr : runS D (addL from_ many first used c) = (e, D')) (he : e ≠ 0) : addE from_ many first used c D = e ∧ addD from_ many first used c D = D' ∧ addU from_ many first used c D = used := by
  have h1 : addE from_ many first used c D = e := by unfold addE; rw [if_pos h, hr]
  refine ⟨h1, ?_, ?_⟩
  · unfold addD; rw [if_pos h, hr]
  · unfold addU; rw [h1, if_neg he]
theorem add_okR {from_ many first used : Nat} {c : List ChangeM} {D D' : DiskM} (h : addV many used c = 0) (hr : runS D (addL from_ many first used c) = (0, D')) : addE from_ many first used c D = 0 ∧ addD from_ many first used c D = D' ∧ addU from_ many first used c D = used + c.length + 1 := by
  have h1 : addE from_ many first used c D = 0 := by unfold addE; rw [if_pos h, hr]
  refine ⟨h1, ?_, ?_⟩
  · unfold addD; rw [if_pos h, hr]
  · unfold addU; rw [h1, if_pos rfl]
/-- what is left of adding after k of its four parts -/
def restA (from_ many first used : Nat) (c : List ChangeM) : Nat → List Stp
  | 0 => layL from_ many first used c ++ [none, endW from_ first used c.length, none]
  | 1 => [none, endW from_ first used c.length, none]
  | 2 => [endW from_ first used c.length, none]
  | 3 => [none]
  | _ => []

end Go.Proofs.Ythdjckbjjfiopac
