/- A dropped snapshot between others does not matter: plain laws. No condition. -/
import Derived.Test.YthdjckbjjfiopabStaleLaw
namespace Go.Proofs.Ythdjckbjjfiopab
open Go.Sl Go.Proofs
set_option linter.unusedVariables false
set_option linter.unusedSimpArgs false
theorem findI_neg {l : List SnapM} {id : Int} (h : findI l id < 0) : ∀ s ∈ l, s.id ≠ id := by
  intro s hs he
  have : findN l id < l.length := by
    unfold findN
    exact List.findIdx_lt_length_of_exists ⟨s, hs, by simpa using he⟩
  unfold findI at h
  rw [if_pos this] at h
  omega
def sh (j i : Nat) : Nat := if i < j then i else i - 1
theorem chM_iff (D : VdM) (i : Nat) (p : Nat) : ∀ c, chM D i c p = true ↔ ∃ n, i < n ∧ n ≤ i + c ∧ (snapAt D n).dirty p = true
  | 0 => by
    constructor
    · intro h; cases h
    · rintro ⟨n, h1, h2, _⟩; omega
  | c + 1 => by
    have ih := chM_iff D i p c
    show orM (chM D i c) (snapAt D (i + 1 + c)).dirty p = true ↔ _
    unfold orM
    rw [Bool.or_eq_true, ih]
    constructor
    · rintro (⟨n, h1, h2, h3⟩ | h)
      · exact ⟨n, h1, by omega, h3⟩
      · exact ⟨i + 1 + c, by omega, by omega, h⟩
    · rintro ⟨n, h1, h2, h3⟩
      by_cases hn : n ≤ i + c
      · exact .inl ⟨n, h1, hn, h3⟩
      · rw [show n = i + 1 + c by omega] at h3
        exact .inr h3
section
variable {D : VdM} {y : Int} {j : Nat} {sj : SnapM}
theorem pre_at (hj : D.snaps[j]? = some sj) {i : Nat} {s : SnapM} (hs : D.snaps[i]? = some s) :
    (preS D j)[i]? = some (if i = j + 1 ∧ s.time = sj.time then withD s (orM s.dirty sj.dirty) else s) := by
  have hi := (List.getElem?_eq_some_iff.1 hs).1
  unfold preS
  by_cases h : j + 1 < D.snaps.length ∧ (snapAt D (j + 1)).time = (snapAt D j).time
  · rw [if_pos h]
    by_cases hij : i = j + 1
    · subst hij
      rw [List.getElem?_set_self hi, snapAt_of hs, snapAt_of hj, if_pos ⟨rfl, by have := h.2; rwa [snapAt_of hs, snapAt_of hj] at this⟩]
    · rw [List.getElem?_set_ne (by omega), hs, if_neg (fun hh => hij hh.1)]
  · rw [if_neg h, hs, if_neg]
    rintro ⟨rfl, h2⟩
    exact h ⟨hi, by rw [snapAt_of hs, snapAt_of hj]; exact h2⟩
theorem pre_len (D : VdM) (j : Nat) : (preS D j).length = D.snaps.length := by unfold preS; split <;> simp
theorem dr_snaps (hf : findI D.snaps y = (j : Int)) : (drD D y).snaps = (preS D j).eraseIdx j := by unfold drD; rw [if_neg (by omega), hf, Int.toNat_natCast]
theorem dr_at (hf : findI D.snaps y = (j : Int)) (hj : D.snaps[j]? = some sj) {i : Nat} {s : SnapM} (hs : D.snaps[i]? = some s) (hij : i ≠ j) :
    (drD D y).snaps[sh j i]? = some (if i = j + 1 ∧ s.time = sj.time then withD s (orM s.dirty sj.dirty) else s) := by
  rw [dr_snaps hf, List.getElem?_eraseIdx]
  unfold sh
  by_cases h : i < j
  · rw [if_pos h, if_pos h, pre_at hj hs]
  · rw [if_neg h, if_neg (by omega), show i - 1 + 1 = i by omega, pre_at hj hs]
theorem dr_mem (hf : findI D.snaps y = (j : Int)) {s' : SnapM} (h : s' ∈ (drD D y).snaps) : ∃ s ∈ D.snaps, s.id = s'.id := by
  rw [dr_snaps hf] at h
  have h2 := List.mem_of_mem_eraseIdx h
  unfold preS at h2
  split at h2
  · rename_i hc
    rcases List.mem_or_eq_of_mem_set h2 with h3 | h3
    · exact ⟨s', h3, rfl⟩
    · exact ⟨_, snapAt_mem hc.1, by rw [h3]⟩
  · exact ⟨s', h2, rfl⟩
/-- where a snapshot that stays is afterwards -/
theorem dr_find (hi : iok D) (hf : findI D.snaps y = (j : Int)) (hj : D.snaps[j]? = some sj) (hid : sj.id = y) {a : Int} (ha : y ≠ a) :
    (findI D.snaps a < 0 ∧ findI (drD D y).snaps a < 0) ∨ ∃ i s, findI D.snaps a = ((i : Nat) : Int) ∧ D.snaps[i]? = some s ∧ i < D.snaps.length ∧ i ≠ j ∧ findI (drD D y).snaps a = ((sh j i : Nat) : Int) := by
  by_cases h : findI D.snaps a < 0
  · left
    refine ⟨h, ?_⟩
    have h1 := findI_neg h
    rw [findI_no fun s' hs' he => by
      obtain ⟨s, hs, e⟩ := dr_mem hf hs'
      exact h1 s hs (e.trans he)]
    decide
  · right
    obtain ⟨i, s, h1, h2, h3, h4⟩ := findI_pos h
    have hij : i ≠ j := by
      rintro rfl
      rw [h2] at hj
      injection hj with hj
      subst hj
      exact ha (hid.symm.trans h3)
    refine ⟨i, s, h1, h2, h4, hij, ?_⟩
    have h5 := dr_at hf hj h2 hij
    have h6 := findI_of (snaps_inv (iok_dr hi y)) h5
    have h7 : (if i = j + 1 ∧ s.time = sj.time then withD s (orM s.dirty sj.dirty) else s).id = a := by split <;> exact h3
    rwa [h7] at h6
theorem dr_snapAt (hf : findI D.snaps y = (j : Int)) (hj : D.snaps[j]? = some sj) {i : Nat} {s : SnapM} (hs : D.snaps[i]? = some s) (hij : i ≠ j) :
    snapAt D i = s ∧ snapAt (drD D y) (sh j i) = (if i = j + 1 ∧ s.time = sj.time then withD s (orM s.dirty sj.dirty) else s) := ⟨snapAt_of hs, snapAt_of (dr_at hf hj hs hij)⟩
theorem fold_read (hi : iok D) (y a n : Int) (ha : y ≠ a) : rdS (drD D y) a n = rdS D a n := by
  by_cases hf : findI D.snaps y < 0
  · unfold drD; rw [if_pos hf]
  · obtain ⟨j, sj, hfj, hj, hid, hjl⟩ := findI_pos hf
    rcases dr_find hi hfj hj hid ha with ⟨h1, h2⟩ | ⟨i, s, h1, h2, h3, h4, h5⟩
    · unfold rdS; rw [if_pos h1, if_pos h2]
    · obtain ⟨e1, e2⟩ := dr_snapAt hfj hj h2 h4
      unfold rdS
      have c1 : ¬ (((sh j i : Nat) : Int) < 0) := by omega
      have c2 : ¬ (((i : Nat) : Int) < 0) := by omega
      rw [h1, h5, Int.toNat_natCast, Int.toNat_natCast, e1, e2, if_neg c1, if_neg c2]
      split <;> rfl
theorem sh_lt {j i k : Nat} (hi : i ≠ j) (hk : k ≠ j) : sh j i < sh j k ↔ i < k := by
  unfold sh; split <;> split <;> omega
theorem fold_ch (hi : iok D) (y a b : Int) (ha : y ≠ a) (hb : y ≠ b) : chE (drD D y) a b = chE D a b ∧ chA (drD D y) a b = chA D a b := by
  by_cases hf : findI D.snaps y < 0
  · unfold drD; rw [if_pos hf]; exact ⟨rfl, rfl⟩
  · obtain ⟨j, sj, hfj, hj, hid, hjl⟩ := findI_pos hf
    have hbad : (findI D.snaps a < 0 ∨ findI D.snaps b < 0) → (findI (drD D y).snaps a < 0 ∨ findI (drD D y).snaps b < 0) → chE (drD D y) a b = chE D a b ∧ chA (drD D y) a b = chA D a b := fun h1 h2 => by
      have e1 : chE D a b = 5 := by unfold chE; rw [if_pos h1]
      have e2 : chE (drD D y) a b = 5 := by unfold chE; rw [if_pos h2]
      exact ⟨by rw [e1, e2], by rw [chA_nil (D := drD D y) (by rw [e2]; decide), chA_nil (D := D) (by rw [e1]; decide)]⟩
    rcases dr_find hi hfj hj hid ha with ⟨h1, h2⟩ | ⟨i, s, h1, h2, h3, h4, h5⟩
    · exact hbad (.inl h1) (.inl h2)
    rcases dr_find hi hfj hj hid hb with ⟨k1, k2⟩ | ⟨k, t, k1, k2, k3, k4, k5⟩
    · exact hbad (.inr k1) (.inr k2)
    have hlh : ∃ lo hi sl sh_, (chLo D a b = lo ∧ chHi D a b = hi ∧ chLo (drD D y) a b = sh j lo ∧ chHi (drD D y) a b = sh j hi) ∧ D.snaps[lo]? = some sl ∧ D.snaps[hi]? = some sh_ ∧ lo ≠ j ∧ hi ≠ j ∧ lo ≤ hi := by
      have hsh := sh_lt (j := j) (i := k) (k := i) k4 h4
      have hsh2 := sh_lt (j := j) (i := i) (k := k) h4 k4
      unfold chLo chHi
      rw [h1, k1, h5, k5]
      simp only [Int.toNat_natCast]
      rcases Nat.lt_trichotomy i k with h | h | h
      · refine ⟨i, k, s, t, ⟨?_, ?_, ?_, ?_⟩, h2, k2, h4, k4, by omega⟩
        · rw [if_neg (by omega)]
        · rw [if_pos (by omega)]
        · rw [if_neg (by omega)]
        · rw [if_pos (by omega)]
      · subst h
        refine ⟨i, i, s, s, ⟨?_, ?_, ?_, ?_⟩, h2, h2, h4, h4, by omega⟩
        all_goals rw [if_neg (by omega)]
      · refine ⟨k, i, t, s, ⟨?_, ?_, ?_, ?_⟩, k2, h2, k4, h4, by omega⟩
        · rw [if_pos (by omega)]
        · rw [if_neg (by omega)]
        · rw [if_pos (by omega)]
        · rw [if_neg (by omega)]
    obtain ⟨lo, hi', sl, sH, ⟨e1, e2, e3, e4⟩, f1, f2, f3, f4, f5⟩ := hlh
    obtain ⟨g1, g2⟩ := dr_snapAt hfj hj f1 f3
    obtain ⟨g3, g4⟩ := dr_snapAt hfj hj f2 f4
    have ht1 : (snapAt (drD D y) (sh j lo)).time = sl.time := by rw [g2]; split <;> rfl
    have ht2 : (snapAt (drD D y) (sh j hi')).time = sH.time := by rw [g4]; split <;> rfl
    have hE : chE (drD D y) a b = chE D a b := by
      have c1 : ¬ (findI (drD D y).snaps a < 0 ∨ findI (drD D y).snaps b < 0) := by rw [h5, k5]; omega
      have c2 : ¬ (findI D.snaps a < 0 ∨ findI D.snaps b < 0) := by rw [h1, k1]; omega
      unfold chE
      rw [e1, e2, e3, e4, ht1, ht2, g1, g3, if_neg c1, if_neg c2]
    refine ⟨hE, ?_⟩
    unfold chA
    rw [hE]
    by_cases h0 : chE D a b = 0
    · rw [if_pos h0, if_pos h0, e1, e2, e3, e4]
      have hteq : sl.time = sH.time := by
        unfold chE at h0
        rw [if_neg (by omega), e1, e2, g1, g3] at h0
        exact Decidable.byContradiction fun hh => by rw [if_pos hh] at h0; cases h0
      have hlen := (List.getElem?_eq_some_iff.1 f2).1
      have hinv := snaps_inv hi
      have hle : sh j lo ≤ sh j hi' := by unfold sh; split <;> split <;> omega
      refine ofM_congr fun p _ => ?_
      rw [Bool.eq_iff_iff, chM_iff, chM_iff, show lo + (hi' - lo) = hi' by omega, show sh j lo + (sh j hi' - sh j lo) = sh j hi' by omega]
      constructor
      · rintro ⟨n', n1, n2, n3⟩
        obtain ⟨n, hn1, hn2, hn3, hn4⟩ : ∃ n, n ≠ j ∧ sh j n = n' ∧ lo < n ∧ n ≤ hi' := by
          unfold sh at n1 n2 ⊢
          by_cases hc : n' < j
          · exact ⟨n', by omega, by rw [if_pos hc], by split at n1 <;> omega, by split at n2 <;> omega⟩
          · exact ⟨n' + 1, by omega, by rw [if_neg (by omega)]; omega, by split at n1 <;> omega, by split at n2 <;> omega⟩
        obtain ⟨sn, hsn⟩ : ∃ sn, D.snaps[n]? = some sn := ⟨_, List.getElem?_eq_getElem (by omega)⟩
        obtain ⟨q1, q2⟩ := dr_snapAt hfj hj hsn hn1
        rw [← hn2, q2] at n3
        by_cases hd : sn.dirty p = true
        · exact ⟨n, hn3, hn4, by rw [q1]; exact hd⟩
        · split at n3
          · rename_i hc
            simp only [orM, Bool.or_eq_true] at n3
            rcases n3 with n3 | n3
            · exact absurd n3 hd
            · exact ⟨j, by omega, by omega, by rw [snapAt_of hj]; exact n3⟩
          · exact absurd n3 hd
      · rintro ⟨n, n1, n2, n3⟩
        by_cases hnj : n = j
        · subst hnj
          rw [snapAt_of hj] at n3
          obtain ⟨sn, hsn⟩ : ∃ sn, D.snaps[n + 1]? = some sn := ⟨_, List.getElem?_eq_getElem (by omega)⟩
          obtain ⟨q1, q2⟩ := dr_snapAt hfj hj hsn (by omega)
          have t1 := (inv_id hinv f1 hj n1).2
          have t2 := (inv_id hinv hj hsn (by omega)).2
          have t3 : sn.time ≤ sH.time := by
            by_cases hh : n + 1 = hi'
            · rw [hh] at hsn
              rw [hsn] at f2
              injection f2 with f2
              rw [f2]
              exact Int.le_refl _
            · exact (inv_id hinv hsn f2 (by omega)).2
          refine ⟨sh n (n + 1), (sh_lt f3 (by omega)).2 (by omega), ?_, ?_⟩
          · unfold sh; split <;> split <;> omega
          · rw [q2, if_pos ⟨rfl, by omega⟩]
            simp [orM, n3]
        · obtain ⟨sn, hsn⟩ : ∃ sn, D.snaps[n]? = some sn := ⟨_, List.getElem?_eq_getElem (by omega)⟩
          obtain ⟨q1, q2⟩ := dr_snapAt hfj hj hsn hnj
          rw [q1] at n3
          refine ⟨sh j n, (sh_lt f3 hnj).2 n1, ?_, ?_⟩
          · unfold sh; split <;> split <;> omega
          · rw [q2]
            split
            · simp [orM, n3]
            · exact n3
    · rw [if_neg h0, if_neg h0]
end

end Go.Proofs.Ythdjckbjjfiopab
