/- What was forgotten is not guessed: plain laws. No condition. -/
import Derived.Test.YthdjckbjjfiopabVdTop
namespace Go.Proofs.Ythdjckbjjfiopab
open Go.Sl Go.Proofs
set_option linter.unusedVariables false
set_option linter.unusedSimpArgs false
theorem run_ok (n : Int) (h : 1 ≤ n ∧ n ≤ 16) (l : List ActM) : vok l.length (runD (vdNew n) l) ∧ iok (runD (vdNew n) l) := by
  have key : ∀ k, k ≤ l.length → vok k (runD (vdNew n) (l.take k)) ∧ iok (runD (vdNew n) (l.take k)) := by
    intro k
    induction k with
    | zero => exact fun _ => ⟨vok_new h, iok_new n⟩
    | succ k ih =>
      intro hk
      obtain ⟨x, hx⟩ : ∃ x, l[k]? = some x := ⟨_, List.getElem?_eq_getElem (by omega)⟩
      rw [runD_take hx]
      have := ih (by omega)
      exact ⟨vok_chg this.1 x, iok_chg this.2 x⟩
  have := key l.length (Nat.le_refl _)
  rwa [List.take_length] at this
theorem chLo_comm (D : VdM) (x y : Int) : chLo D x y = chLo D y x := by
  unfold chLo
  rcases Int.lt_trichotomy (findI D.snaps x) (findI D.snaps y) with h | h | h
  · rw [if_neg (by omega), if_pos h]
  · rw [h]
  · rw [if_pos h, if_neg (by omega)]
theorem chHi_comm (D : VdM) (x y : Int) : chHi D x y = chHi D y x := by
  unfold chHi
  rcases Int.lt_trichotomy (findI D.snaps x) (findI D.snaps y) with h | h | h
  · rw [if_pos h, if_neg (by omega)]
  · rw [h]
  · rw [if_neg (by omega), if_pos h]
theorem chE_comm (D : VdM) (x y : Int) : chE D x y = chE D y x := by
  unfold chE
  rw [chLo_comm D x y, chHi_comm D x y]
  by_cases h : findI D.snaps x < 0 ∨ findI D.snaps y < 0
  · have h' : findI D.snaps y < 0 ∨ findI D.snaps x < 0 := by omega
    simp only [if_pos h, if_pos h']
  · have h' : ¬ (findI D.snaps y < 0 ∨ findI D.snaps x < 0) := by omega
    simp only [if_neg h, if_neg h']
theorem chA_comm (D : VdM) (x y : Int) : chA D x y = chA D y x := by
  unfold chA
  rw [chLo_comm D x y, chHi_comm D x y, chE_comm D x y]
theorem snaps_inv {D : VdM} (h : iok D) : inv D.snaps := inv_pre h
theorem snap_cur {D : VdM} (h : iok D) {i : Nat} {s : SnapM} (hs : D.snaps[i]? = some s) : s.id < D.next ∧ s.time ≤ D.time := by
  have hi := (List.getElem?_eq_some_iff.1 hs).1
  have := inv_id h (i := i) (j := D.snaps.length) (s := s) (t := cur D) (by unfold lst; rw [List.getElem?_append_left hi]; exact hs) (by unfold lst; rw [List.getElem?_append_right (Nat.le_refl _), Nat.sub_self]; rfl) hi
  exact this
theorem szS_pos {D : VdM} {a : Int} (h : (szS D a).2 = 0) : ∃ i s, findI D.snaps a = ((i : Nat) : Int) ∧ D.snaps[i]? = some s ∧ s.id = a ∧ i < D.snaps.length := by
  refine findI_pos fun hn => ?_
  unfold szS at h
  rw [if_pos hn] at h
  simp at h
/-- what changes of this kind keep -/
def stl (D0 : VdM) (k : Nat) (D : VdM) : Prop := vok (100 + k) D ∧ iok D ∧ D.snaps = D0.snaps ∧ D0.time < D.time ∧ D.next = D0.next
theorem stl_chg {D0 D : VdM} {k : Nat} (h : stl D0 k D) {x : ActM} (h1 : ¬ x.kind = kS) (h2 : ¬ x.kind = kU) : stl D0 (k + 1) (chgD D x) := by
  obtain ⟨a1, a2, a3, a4, a5⟩ := h
  refine ⟨vok_chg a1 x, iok_chg a2 x, ?_⟩
  unfold chgD
  split
  · unfold wrD; split <;> exact ⟨a3, a4, a5⟩
  · split
    · unfold rsD; split <;> exact ⟨a3, a4, a5⟩
    · split
      · exact ⟨a3, by simp only [fgD]; omega, a5⟩
      · exact ⟨a3, a4, a5⟩
theorem sn_eq {D : VdM} (h : snE D = 0) : snD D = ⟨D.size, D.blocks, fun _ => false, D.time, D.next + 1, D.snaps ++ [cur D]⟩ := by unfold snD; rw [if_pos h]; rfl
theorem snI_eq {D : VdM} (h : snE D = 0) : snI D = D.next := by unfold snI; rw [if_pos h]
theorem find_new {D : VdM} (hi : iok D) (h : snE D = 0) : findI (snD D).snaps (snI D) = (D.snaps.length : Int) := by
  have h2 := snaps_inv (iok_sn hi)
  rw [snI_eq h]
  have : (snD D).snaps[D.snaps.length]? = some (cur D) := by rw [sn_eq h]; simp
  exact findI_of h2 this
theorem find_old {D : VdM} (hi : iok D) (h : snE D = 0) {i : Nat} {s : SnapM} (hs : D.snaps[i]? = some s) : (snD D).snaps[i]? = some s ∧ findI (snD D).snaps s.id = (i : Int) := by
  have h2 := snaps_inv (iok_sn hi)
  have h3 : (snD D).snaps[i]? = some s := by rw [sn_eq h]; simp only; rw [List.getElem?_append_left (List.getElem?_eq_some_iff.1 hs).1]; exact hs
  exact ⟨h3, findI_of h2 h3⟩
theorem stale_fin {D0 D : VdM} {k : Nat} {a : Int} (h0 : iok D0) (h : stl D0 k D) (hz : (szS D0 a).2 = 0) (he : snE D = 0) : chE (snD D) a (snI D) = 7 := by
  obtain ⟨a1, a2, a3, a4, a5⟩ := h
  obtain ⟨i, s, hf, hs, hid, hi⟩ := szS_pos hz
  have hs' : D.snaps[i]? = some s := by rw [a3]; exact hs
  obtain ⟨h3, h4⟩ := find_old a2 he hs'
  have h5 := find_new a2 he
  rw [hid] at h4
  have hil : i < D.snaps.length := by rw [a3]; exact hi
  have hlo : chLo (snD D) a (snI D) = i := by unfold chLo; rw [h4, h5, if_neg (by omega)]; simp
  have hhi : chHi (snD D) a (snI D) = D.snaps.length := by unfold chHi; rw [h4, h5, if_pos (by omega)]; simp
  have hst := (snap_cur h0 hs).2
  have e2 : snapAt (snD D) D.snaps.length = cur D := snapAt_of (by rw [sn_eq he]; simp)
  unfold chE
  rw [if_neg (by omega), hlo, hhi, snapAt_of h3, e2, if_pos (by simp only [cur]; omega)]
theorem chA_nil {D : VdM} {x y : Int} (h : chE D x y ≠ 0) : chA D x y = [] := by unfold chA; rw [if_neg h]

end Go.Proofs.Ythdjckbjjfiopab
