/- slices.Sort at []int, as a contract over owned slices: the kit's shelf's contract, told in this layer's words. No condition but the length's bound. -/
import Derived.Test.YthdjckbjjfiopacGreatDoorSlC
import Derived.Test.YthdjckbjjfiopacGreatDoorNums
import Derived.Test.YthdjckbjjfiopacGreatDoorShelf
namespace Go.Proofs.YthdjckbjjfiopacGreatDoor
open Go.Sl Go.Proofs Go.Sort
set_option linter.unusedVariables false
set_option linter.unusedSimpArgs false

theorem grown_sat {w0 : World} {L : List HProp} : ∀ (l : List Obj) {w : World}, Sat w0 w L → Sat w0 { w with heap := w.heap ++ l.toArray } L
  | [], w, h => by simpa using h
  | o :: l, w, h => by
    have := grown_sat l (h.alloc o).tail
    have e : w.heap ++ (o :: l).toArray = w.heap.push o ++ l.toArray := by apply Array.ext'; simp
    rw [e]; exact this
theorem putCells_at (zs : List Int) (cs : Array Value) (k : Nat) (h : k < zs.length) (hc : zs.length ≤ cs.size) : (putCells (Value.int .i64) 0 zs.toArray cs)[k]? = some (I zs[k]) := by
  have : k < cs.size := by omega
  simp [putCells, this, h, I]
theorem ct_slices_Sort (zs : List Int) (s : Option Addr) (n cap : Nat) (hn : n = zs.length) (hlt : zs.length < 4611686018427387904) (F : List HProp) :
    Ct Tryz.prog 49 [sl s n cap] (owL 3 1 s cap (intR zs) :: F) (R1 (.tuple #[]) (owL 3 1 s cap (intR (zs.mergeSort fun x y => decide (x ≤ y))) :: F)) := fun w0 w hS => by
  subst hn
  rcases owL_open hS with ⟨rfl, hr, rfl, hS1⟩ | ⟨b, cs, rfl, h1, h2, h3, h4, hS1⟩
  · have hz : zs = [] := by simpa [intR] using hr
    subst hz
    refine (Tryz.slices_Sort_int_none none 0 w).mono ?_
    rintro e w' ⟨rfl, rfl⟩
    exact ⟨_, hS, rfl, by simp [List.mergeSort]⟩
  · have hb := hS1.at_
    have hlen : zs.length ≤ cs.size := by simp [intR] at h2; omega
    have hH : Holds (Value.int .i64) w b 0 zs.toArray := fun j hj => by
      have hj' : j < zs.length := by simpa using hj
      have hc := h4 j [I zs[j]] (by simp [intR, hj']) 0 (I zs[j]) rfl
      have := cell_of hb hc
      refine ⟨?_, by simp [World.frozen?, hb]⟩
      simpa [hj', I] using this
    refine (Tryz.slices_Sort_int b 0 cap zs w hH (Array.getElem?_eq_some_iff.1 hb).1 hlt).mono ?_
    rintro e w' ⟨rfl, m, os, rfl⟩
    have hml : (zs.mergeSort fun x y => decide (x ≤ y)).length = zs.length := by simp
    have e1 : putRow (Value.int .i64) (Sort.ahead w m) b 0 (zs.mergeSort fun x y => decide (x ≤ y)).toArray = { (Sort.ahead w m) with heap := (Sort.ahead w m).heap.setIfInBounds b (.cells (putCells (Value.int .i64) 0 (zs.mergeSort fun x y => decide (x ≤ y)).toArray cs) 3 (0, 0)) } := by
      unfold putRow mapBlock
      congr 1
      apply Array.ext_getElem?
      intro i
      rw [Array.getElem?_modify, Array.getElem?_setIfInBounds]
      have hlt := (Array.getElem?_eq_some_iff.1 hb).1
      show (if b = i then _ else _) = _
      by_cases hk : b = i
      · subst hk
        have he : (Sort.ahead w m).heap[b]? = some (.cells cs 3 (0, 0)) := hb
        rw [if_pos rfl, if_pos rfl, he, if_pos (by exact hlt)]
        rfl
      · rw [if_neg hk, if_neg hk]
    rw [e1]
    have hS2 := (hS1.drew (w.drawn + m)).set (w' := { (Sort.ahead w m) with heap := (Sort.ahead w m).heap.setIfInBounds b (.cells (putCells (Value.int .i64) 0 (zs.mergeSort fun x y => decide (x ≤ y)).toArray cs) 3 (0, 0)) }) rfl
    have hS3 := grown_sat os.toList hS2
    refine ⟨_, owL_shut (cap := cap) (sz := 1) (rows := intR (zs.mergeSort fun x y => decide (x ≤ y))) hS3 (by simp [putCells, h1]) (by simp [intR] at h2 ⊢; exact h2) (by simp [intR]) ?_, rfl, rfl⟩
    intro j row hj f v hf
    have hj' : j < (zs.mergeSort fun x y => decide (x ≤ y)).length := by
      have := (List.getElem?_eq_some_iff.1 hj).1; simpa [intR] using this
    have hrow : row = [I (zs.mergeSort fun x y => decide (x ≤ y))[j]] := by
      simp only [intR, List.getElem?_map, List.getElem?_eq_getElem hj', Option.map_some] at hj
      injection hj with hj; exact hj.symm
    subst hrow
    have hf0 : f = 0 := by
      have := (List.getElem?_eq_some_iff.1 hf).1; simp at this; exact this
    subst hf0
    simp at hf
    simp only [objCell, Nat.zero_add, Nat.mul_one, Nat.add_zero]
    rw [putCells_at _ _ _ hj' (by rw [hml]; exact hlen), ← hf]
end Go.Proofs.YthdjckbjjfiopacGreatDoor
