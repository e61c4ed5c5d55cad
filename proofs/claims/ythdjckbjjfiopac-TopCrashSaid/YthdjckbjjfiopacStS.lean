/- What laying all rows writes. No condition. -/
import Derived.Test.YthdjckbjjfiopacStM
namespace Go.Proofs.Ythdjckbjjfiopac
open Go.Sl Go.Proofs
set_option linter.unusedVariables false
set_option linter.unusedSimpArgs false
def S80 (D : DiskM) : Prop := (∀ x ∈ D.kept, x.length = 80) ∧ (∀ x ∈ D.now, x.length = 80) ∧ ∀ t ∈ D.wait, t.2.length = 80
theorem set_80 {L : List Bytes} {n : Nat} {s : Bytes} (h : ∀ x ∈ L, x.length = 80) (hs : s.length = 80) : ∀ x ∈ L.set n s, x.length = 80 := fun x hx => by
  rcases List.mem_or_eq_of_mem_set hx with h' | h'
  · exact h x h'
  · rw [h']; exact hs
theorem S80_step {D : DiskM} (h : S80 D) : S80 (stepD D) := ⟨by rw [stepD_kept]; exact h.1, by rw [stepD_now]; exact h.2.1, by rw [stepD_wait]; exact h.2.2⟩
theorem S80_st {N : Nat} {D : DiskM} {x : Stp} (h : S80 D) (ho : okStp N x) : S80 (stD D x) := by
  cases x with
  | none =>
    show S80 (flushD D)
    unfold flushD
    split
    · have := S80_step h
      exact ⟨this.2.1, this.2.1, fun t ht => by cases ht⟩
    · exact S80_step h
  | some y =>
    show S80 (writeD D y.1 y.2)
    unfold writeD
    split
    · exact h
    · split
      · have := S80_step h
        refine ⟨this.1, set_80 this.2.1 (fullB_80 ho.2), fun t ht => ?_⟩
        simp only [wroteD, List.mem_append, List.mem_singleton] at ht
        rcases ht with ht | rfl
        · exact this.2.2 t ht
        · exact fullB_80 ho.2
      · exact S80_step h
theorem S80_run {N : Nat} : ∀ (l : List Stp) (D : DiskM), S80 D → (∀ x ∈ l, okStp N x) → S80 (runS D l).2
  | [], D, h, _ => h
  | x :: l, D, h, ho => by
    have h1 := S80_st h (ho x (List.mem_cons_self ..))
    by_cases h0 : stE D x = 0
    · rw [run_ok h0]; exact S80_run l _ h1 (fun y hy => ho y (List.mem_cons_of_mem _ hy))
    · rw [run_bad h0]; exact h1
theorem S80_add {from_ many first used N : Nat} {c : List ChangeM} {D : DiskM} (h : S80 D) (hN : from_ + many ≤ N) : S80 (addD from_ many first used c D) := by
  unfold addD
  split
  · rename_i hv; exact S80_run _ _ h (addL_ok hN hv)
  · exact h
theorem rest_80 {keep : Int} {w : List (Nat × Bytes)} {K : List Bytes} (hK : ∀ x ∈ K, x.length = 80) (hw : ∀ t ∈ w, t.2.length = 80) : ∀ k, ∀ x ∈ restK keep w K k, x.length = 80
  | 0 => hK
  | k + 1 => by
    have ih := rest_80 (keep := keep) hK hw k
    unfold restK
    split
    · rename_i t ht
      split
      · exact set_80 ih (hw t (List.mem_of_getElem? ht))
      · exact ih
    · exact ih
theorem ckW_snoc (side : Nat) (t : Bytes) : ∀ (f k : Nat), ckW side t k (f + 1) = ckW side t k f ++ [some (2 + side * 60 + (k + f), chunk t (k + f))]
  | 0, k => rfl
  | f + 1, k => by
    rw [ckW, ckW_snoc side t f (k + 1), ckW, List.cons_append, show k + 1 + f = k + (f + 1) by omega]
theorem ckW_app (side : Nat) (t : Bytes) : ∀ (f g k : Nat), ckW side t k (f + g) = ckW side t k f ++ ckW side t (k + f) g
  | 0, g, k => by rw [Nat.zero_add]; rfl
  | f + 1, g, k => by
    rw [show f + 1 + g = (f + g) + 1 by omega, ckW, ckW_app side t f g (k + 1), ckW, List.cons_append, show k + 1 + f = k + (f + 1) by omega]
theorem chunk_len_eq {t : Bytes} {k : Nat} : (chunk t k).length = Nat.min 80 (t.length - 80 * k) := by unfold chunk; simp [List.length_take, List.length_drop]
theorem chunks_lt {t : Bytes} {k : Nat} : k < chunks t ↔ 80 * k < t.length := by unfold chunks; omega
theorem ckW_ok {side N : Nat} {t : Bytes} (hN : 2 + side * 60 + chunks t ≤ N) : ∀ (f k : Nat), k + f ≤ chunks t → ∀ x ∈ ckW side t k f, okStp N x
  | 0, k, _, x, h => by simp [ckW] at h
  | f + 1, k, hk, x, h => by
    rw [ckW] at h
    rcases List.mem_cons.1 h with rfl | h
    · exact ⟨by simp only; omega, chunk_len t k⟩
    · exact ckW_ok hN f (k + 1) (by omega) x h
theorem ckL_ok {h : HdM} {t : Bytes} {N : Nat} (hN : 2 + h.side * 60 + chunks t ≤ N) : ∀ x ∈ ckL h t, okStp N x := by
  intro x hx
  unfold ckL at hx
  simp only [List.mem_append, List.mem_cons, List.not_mem_nil, or_false] at hx
  rcases hx with hx | rfl | rfl | rfl
  · exact ckW_ok hN _ 0 (by omega) x hx
  · trivial
  · exact ⟨by simp only; omega, by rw [headB_len]; decide⟩
  · trivial
theorem run_snoc {l : List Stp} {x : Stp} {D D1 : DiskM} (h : runS D l = (0, D1)) : runS D (l ++ [x]) = (stE D1 x, stD D1 x) := by
  rw [run_app, h]
  simp only [if_true]
  by_cases h0 : stE D1 x = 0
  · rw [run_ok h0, run_nil, h0]
  · rw [run_bad h0]
theorem run_stop {l r : List Stp} {D D1 : DiskM} {e : Int} (h : runS D l = (e, D1)) (he : e ≠ 0) : runS D (l ++ r) = (e, D1) := by
  rw [run_app, h]
  simp only
  rw [if_neg he]
theorem run_on {l r : List Stp} {D D1 : DiskM} (h : runS D l = (0, D1)) : runS D (l ++ r) = runS D1 r := by rw [run_app, h]; rfl
theorem run_e : ∀ (l : List Stp) (D : DiskM), (∀ x ∈ l, okStp D.now.length x) → (runS D l).1 = 0 ∨ (runS D l).1 = 9
  | [], D, _ => .inl rfl
  | x :: l, D, h => by
    have hx := h x (List.mem_cons_self ..)
    have hst : stE D x = 0 ∨ stE D x = 9 := by
      cases x with
      | none => exact stepW_cases D
      | some y =>
        show writeE D y.1 y.2 = 0 ∨ writeE D y.1 y.2 = 9
        unfold writeE
        rw [if_neg (by unfold badW; have h1 := hx.1; have h2 := hx.2; omega)]
        exact stepW_cases D
    rcases hst with h0 | h0
    · rw [run_ok h0]
      refine run_e l _ fun y hy => ?_
      have := h y (List.mem_cons_of_mem _ hy)
      have hl : (stD D x).now.length = D.now.length := by
        cases x with
        | none =>
          show (flushD D).now.length = _
          unfold flushD
          split <;> simp [flushedD, stepD_now]
        | some z =>
          show (writeD D z.1 z.2).now.length = _
          unfold writeD
          split
          · rfl
          · split <;> simp [wroteD, stepD_now]
      rw [hl]; exact this
    · rw [run_bad (by rw [h0]; decide)]; exact .inr h0
/-! ### formatting -/
def fmW : Nat → List Stp
  | 0 => [some (0, [])]
  | k + 1 => fmW k ++ [some (122 + k, [])]
def hd1 : HdM := ⟨1, 0, 0, 1⟩
def fmT : List Stp := [none, some (1, headB hd1), none]
def fmL (N : Nat) : List Stp := fmW (N - 122) ++ fmT
theorem fmW_pre : ∀ (g k : Nat), ∃ r, fmW (k + g) = fmW k ++ r
  | 0, k => ⟨[], by simp⟩
  | g + 1, k => by
    obtain ⟨r, hr⟩ := fmW_pre g k
    exact ⟨r ++ [some (122 + (k + g), [])], by rw [show k + (g + 1) = (k + g) + 1 by omega, fmW, hr, List.append_assoc]⟩
theorem fmW_stop {k m : Nat} {D X : DiskM} {e : Int} (h : runS D (fmW k) = (e, X)) (he : k = m ∨ e ≠ 0) (hk : k ≤ m) : runS D (fmW m) = (e, X) := by
  rcases he with rfl | he
  · exact h
  · obtain ⟨r, hr⟩ := fmW_pre (m - k) k
    rw [show m = k + (m - k) by omega, hr]
    exact run_stop h he
theorem fmW_len : ∀ k, (fmW k).length = k + 1
  | 0 => rfl
  | k + 1 => by rw [fmW, List.length_append, fmW_len k]; rfl
/-! ### committing -/
def CkR (D : DiskM) (h : HdM) (rows : List ChangeM) (many used : Nat) (e : Int) (D1 : DiskM) (h1 : HdM) (used1 : Nat) : Prop :=
  runS D (ckL (nxH h rows many) (allB rows)) = (e, D1) ∧ ((e ≠ 0 ∧ h1 = h ∧ used1 = used) ∨ (e = 0 ∧ h1 = nxH h rows many ∧ used1 ≤ many ∧ ∃ ds, scanF (h.first + many) (secD D1 122) many 0 [] [] 0 = (ds, used1)))
def MidR (D : DiskM) (h : HdM) (rows : List ChangeM) (many used : Nat) (c : List ChangeM) (e : Int) (D1 : DiskM) (h1 : HdM) (used1 : Nat) : Prop :=
  (many - used < c.length + 1 ∧ CkR D h rows many used e D1 h1 used1) ∨ (¬ many - used < c.length + 1 ∧ e = 0 ∧ D1 = D ∧ h1 = h ∧ used1 = used)
def ComR (D : DiskM) (h : HdM) (rows : List ChangeM) (many used : Nat) (c : List ChangeM) (e : Int) (D2 : DiskM) (h2 : HdM) (used2 : Nat) (rows2 : List ChangeM) : Prop :=
  (cmV many rows c ≠ 0 ∧ e = cmV many rows c ∧ D2 = D ∧ h2 = h ∧ used2 = used ∧ rows2 = rows) ∨
  (cmV many rows c = 0 ∧ ∃ e1 D1 h1 used1, MidR D h rows many used c e1 D1 h1 used1 ∧ ((e1 ≠ 0 ∧ e = e1 ∧ D2 = D1 ∧ h2 = h1 ∧ used2 = used1 ∧ rows2 = rows) ∨
    (e1 = 0 ∧ e = addE 122 many h1.first used1 c D1 ∧ D2 = addD 122 many h1.first used1 c D1 ∧ h2 = h1 ∧ used2 = addU 122 many h1.first used1 c D1 ∧ rows2 = if e = 0 then apsS rows c else rows)))
theorem ckL_len (h : HdM) (t : Bytes) : (ckL h t).length = chunks t + 3 := by simp [ckL, ckW_len]
theorem chunks_le {rows : List ChangeM} (hl : rows.length ≤ 80) (hr : ∀ r ∈ rows, okR r) : chunks (allB rows) ≤ 60 := by
  have := allB_len hr
  unfold chunks
  omega
theorem nx_ok {h : HdM} {rows : List ChangeM} {N : Nat} (hl : rows.length ≤ 80) (hr : ∀ r ∈ rows, okR r) (hN : 196 ≤ N) : ∀ x ∈ ckL (nxH h rows (N - 122)) (allB rows), okStp N x := by
  have := chunks_le hl hr
  exact ckL_ok (by show 2 + (1 - h.side) * 60 + chunks (allB rows) ≤ N; omega)
theorem mid_bd {D : DiskM} {h : HdM} {rows : List ChangeM} {N used i : Nat} {c : List ChangeM} {e : Int} {D1 : DiskM} {h1 : HdM} {used1 : Nat} (hm : MidR D h rows (N - 122) used c e D1 h1 used1) (hok : okW N i D) (hS : S80 D) (hl : rows.length ≤ 80) (hr : ∀ r ∈ rows, okR r) (hN : 196 ≤ N) (hu : used ≤ N - 122) :
    okW N (i + 63) D1 ∧ S80 D1 ∧ used1 ≤ N - 122 ∧ h1.first ≤ h.first + N ∧ h1.ep ≤ h.ep + 1 ∧ (h.side ≤ 1 → h1.side ≤ 1) ∧ h.first ≤ h1.first := by
  rcases hm with ⟨_, hrun, hc⟩ | ⟨_, _, rfl, rfl, rfl⟩
  · have h1' := okW_run (ckL (nxH h rows (N - 122)) (allB rows)) i D hok
    rw [hrun, ckL_len] at h1'
    have h2' := S80_run _ D hS (nx_ok (h := h) hl hr hN)
    rw [hrun] at h2'
    have := chunks_le hl hr
    refine ⟨okW_le h1' (by omega), h2', ?_⟩
    rcases hc with ⟨_, rfl, rfl⟩ | ⟨_, rfl, hu1, _⟩
    · exact ⟨hu, by omega, by omega, id, Nat.le_refl _⟩
    · exact ⟨hu1, by simp only [nxH]; omega, by simp only [nxH]; omega, fun _ => by simp only [nxH]; omega, by simp only [nxH]; omega⟩
  · exact ⟨okW_le hok (by omega), hS, hu, by omega, by omega, id, Nat.le_refl _⟩

end Go.Proofs.Ythdjckbjjfiopac
