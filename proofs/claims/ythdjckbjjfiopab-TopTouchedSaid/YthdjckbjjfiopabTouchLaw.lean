/- What was not touched is not reported: plain laws. No condition. -/
import Derived.Test.YthdjckbjjfiopabStaleLaw
namespace Go.Proofs.Ythdjckbjjfiopab
open Go.Sl Go.Proofs
set_option linter.unusedVariables false
set_option linter.unusedSimpArgs false
def tch (D1 : VdM) (k : Nat) (D : VdM) : Prop := vok (100 + k) D ∧ iok D ∧ D.snaps = D1.snaps ∧ D.time = D1.time ∧ D.next = D1.next
theorem tch_mono {D1 D : VdM} {k : Nat} (h : tch D1 k D) : tch D1 (k + 1) D := ⟨vok_mono h.1 (by omega), h.2⟩
theorem tch_wr {D1 D : VdM} {k : Nat} (h : tch D1 k D) (n : Int) (s : Bytes) : tch D1 k (wrD D n s) := by
  refine ⟨vok_wr h.1 n s, iok_wr h.2.1 n s, ?_⟩
  unfold wrD; split <;> exact h.2.2
theorem tch_rs {D1 D : VdM} {k : Nat} (h : tch D1 k D) (n : Int) : tch D1 k (rsD D n) := by
  refine ⟨vok_rs h.1 n, iok_rs h.2.1 n, ?_⟩
  unfold rsD; split <;> exact h.2.2
theorem mark_one (m : Nat → Bool) {n : Int} (h : 0 ≤ n) : (fun i => if i = n.toNat then true else m i) = areaM m n 1 := funext fun i => by
  unfold areaM
  by_cases hi : i = n.toNat
  · rw [if_pos hi, decide_eq_true (by omega)]; simp
  · rw [if_neg hi, decide_eq_false (by omega)]; simp
theorem mark_next (m : Nat → Bool) {lo z : Int} (h : 0 ≤ z) (hz : lo ≤ z) : (fun i => if i = z.toNat then true else areaM m lo (z - lo) i) = areaM m lo (z + 1 - lo) := funext fun i => by
  unfold areaM
  by_cases hi : i = z.toNat
  · rw [if_pos hi, decide_eq_true (by omega)]; simp
  · rw [if_neg hi]
    by_cases h2 : lo ≤ (i : Int) ∧ (i : Int) < lo + (z - lo)
    · rw [decide_eq_true h2, decide_eq_true (by omega)]
    · rw [decide_eq_false h2, decide_eq_false (by omega)]
theorem hasA_ofM (m : Nat → Bool) {k : Nat} (h : k < 16) : hasA (ofM m) (k : Int) = m k := by
  rw [← mk_ofM m h]
  rfl
theorem touch_fin {D0 D : VdM} {k : Nat} (h0 : iok D0) (he0 : snE D0 = 0) (h : tch (snD D0) k D) (he : snE D = 0) : chE (snD D) (snI D0) (snI D) = 0 ∧ chA (snD D) (snI D0) (snI D) = ofM D.dirty := by
  obtain ⟨a1, a2, a3, a4, a5⟩ := h
  have hs : (snD D0).snaps[D0.snaps.length]? = some (cur D0) := by rw [sn_eq he0]; simp
  have hs' : D.snaps[D0.snaps.length]? = some (cur D0) := by rw [a3]; exact hs
  obtain ⟨h3, h4⟩ := find_old a2 he hs'
  have h5 := find_new a2 he
  have hl : D.snaps.length = D0.snaps.length + 1 := by rw [a3, sn_eq he0]; simp
  have h6 : findI (snD D).snaps (snI D0) = (D0.snaps.length : Int) := by rw [snI_eq he0]; exact h4
  have hlo : chLo (snD D) (snI D0) (snI D) = D0.snaps.length := by unfold chLo; rw [h6, h5, if_neg (by omega)]; simp
  have hhi : chHi (snD D) (snI D0) (snI D) = D0.snaps.length + 1 := by unfold chHi; rw [h6, h5, if_pos (by omega)]; simp [hl]
  have e2 : snapAt (snD D) (D0.snaps.length + 1) = cur D := snapAt_of (by rw [sn_eq he, ← hl]; simp)
  have ht : (cur D0).time = (cur D).time := by
    show D0.time = D.time
    rw [a4, sn_eq he0]
  have hE : chE (snD D) (snI D0) (snI D) = 0 := by
    unfold chE
    rw [if_neg (by omega), hlo, hhi, snapAt_of h3, e2, if_neg (fun hh => hh ht)]
  refine ⟨hE, ?_⟩
  unfold chA
  rw [if_pos hE, hlo, hhi, show D0.snaps.length + 1 - D0.snaps.length = 1 by omega]
  show ofM (orM (fun _ => false) (snapAt (snD D) (D0.snaps.length + 1 + 0)).dirty) = _
  rw [Nat.add_zero, e2]
  congr 1

end Go.Proofs.Ythdjckbjjfiopab
