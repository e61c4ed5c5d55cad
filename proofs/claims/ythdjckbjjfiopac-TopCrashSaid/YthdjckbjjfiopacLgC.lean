/- What a restart finds of a log. No condition. -/
import Derived.Test.YthdjckbjjfiopacLgS
namespace Go.Proofs.Ythdjckbjjfiopac
open Go.Sl Go.Proofs
set_option linter.unusedVariables false
set_option linter.unusedSimpArgs false
/-- a sector that would end a deed -/
def shuts (first j : Nat) (s : Bytes) : Prop := ∃ t, lookB (first + j) s = some (99, t)
def secK (K : List Bytes) (from_ i : Nat) : Bytes := K.getD (from_ + i) []
def Safe (from_ many first : Nat) (K : List Bytes) (ds : Deeds) (used : Nat) : Prop := scanF first (secK K from_) many 0 [] [] 0 = (ds, used) ∧ ∀ j, used ≤ j → j < many → ¬ shuts first j (secK K from_ j)
theorem scan_tame {first : Nat} {sec : Nat → Bytes} : ∀ (f i : Nat) (out : Deeds) (deed : List ChangeM) (used : Nat), (∀ j, i ≤ j → j < i + f → ¬ shuts first j (sec j)) → scanF first sec f i out deed used = (out, used)
  | 0, i, out, deed, used, _ => rfl
  | f + 1, i, out, deed, used, h => by
    have h0 := h i (by omega) (by omega)
    rw [scan_s]
    cases hl : lookB (first + i) (sec i) with
    | none => rfl
    | some kt =>
      obtain ⟨k, t⟩ := kt
      simp only
      split
      · rename_i hk; subst hk; exact absurd ⟨t, hl⟩ h0
      · split
        · exact scan_tame f (i + 1) out _ used (fun j h1 h2 => h j (by omega) (by omega))
        · rfl
theorem scan_used {first : Nat} {sec : Nat → Bytes} {many : Nat} {ds : Deeds} {used : Nat} (h : scanF first sec many 0 [] [] 0 = (ds, used)) : used ≤ many := by
  rcases scan_pre many 0 [] [] 0 ds used h with ⟨h1, _⟩ | ⟨h1, _⟩ <;> omega
theorem safe_of {from_ many first : Nat} {K K' : List Bytes} {ds : Deeds} {used : Nat} (h : Safe from_ many first K ds used) (h1 : ∀ j, j < used → secK K' from_ j = secK K from_ j) (h2 : ∀ j, used ≤ j → j < many → secK K' from_ j = secK K from_ j ∨ ¬ shuts first j (secK K' from_ j)) : Safe from_ many first K' ds used := by
  have h3 : ∀ j, used ≤ j → j < many → ¬ shuts first j (secK K' from_ j) := fun j a b => by
    rcases h2 j a b with e | e
    · rw [e]; exact h.2 j a b
    · exact e
  refine ⟨?_, h3⟩
  have hu := scan_used h.1
  rcases scan_pre many 0 [] [] 0 ds used h.1 with ⟨e1, e2⟩ | ⟨_, e3⟩
  · subst e1 e2
    exact scan_tame many 0 [] [] 0 (fun j a b => h3 j a (by omega))
  · rw [e3 (secK K' from_) (fun j _ hj => h1 j hj)]
    exact scan_tame _ _ _ _ _ (fun j a b => h3 j a (by omega))
theorem rest_from {keep : Int} {w : List (Nat × Bytes)} {K : List Bytes} : ∀ k (m : Nat), (restK keep w K k).getD m [] = K.getD m [] ∨ ∃ t ∈ w, t.1 = m ∧ (restK keep w K k).getD m [] = t.2
  | 0, m => .inl rfl
  | k + 1, m => by
    have ih := rest_from (keep := keep) (w := w) (K := K) k m
    unfold restK
    cases ht : w[k]? with
    | none => exact ih
    | some t =>
      simp only
      split
      · rw [getD_set]
        split
        · rename_i h; exact .inr ⟨t, List.mem_of_getElem? ht, h.1, rfl⟩
        · exact ih
      · exact ih
/-- a write that spoils nothing, behind what is used -/
def tame (from_ first used : Nat) (t : Nat × Bytes) : Prop := ∃ j, used ≤ j ∧ t.1 = from_ + j ∧ ¬ shuts first j t.2
theorem rest_safe {from_ many first : Nat} {D : DiskM} {ds : Deeds} {used : Nat} (keep : Int) (h : Safe from_ many first D.kept ds used) (hw : ∀ t ∈ D.wait, tame from_ first used t) : Safe from_ many first (restL keep D) ds used := by
  refine safe_of h (fun j hj => ?_) (fun j h1 h2 => ?_)
  · rcases rest_from (keep := keep) (w := D.wait) (K := D.kept) D.wait.length (from_ + j) with e | ⟨t, ht, e, _⟩
    · exact e
    · obtain ⟨j', g1, g2, _⟩ := hw t ht; omega
  · rcases rest_from (keep := keep) (w := D.wait) (K := D.kept) D.wait.length (from_ + j) with e | ⟨t, ht, e, e2⟩
    · exact .inl e
    · obtain ⟨j', g1, g2, g3⟩ := hw t ht
      obtain rfl : j' = j := by omega
      right
      rw [show secK (restL keep D) from_ j' = t.2 from e2]
      exact g3
theorem stepE_down {D : DiskM} (h : stepE D = 0) : D.down = false ∧ (stepD D).down = false := by
  unfold stepE at h
  split at h
  · cases h
  · rename_i h1
    have hd : D.down = false := by cases hd : D.down with | false => rfl | true => exact absurd (.inl hd) h1
    have hf : ¬ D.fuse = 0 := fun e => h1 (.inr e)
    refine ⟨hd, ?_⟩
    unfold stepD
    rw [if_neg (by rw [hd]; decide), if_neg hf]
    exact hd
/-- writes that spoil nothing -/
theorem run_writes {from_ first used : Nat} : ∀ (l : List Stp) (D : DiskM) (e : Int) (D' : DiskM), (∀ x ∈ l, okStp D.now.length x) → (∀ x ∈ l, ∃ t, x = some t ∧ tame from_ first used (t.1, fullB t.2)) → (∀ t ∈ D.wait, tame from_ first used t) → D.down = false → runS D l = (e, D') →
    (e = 0 ∨ e = 9) ∧ D'.kept = D.kept ∧ (∀ t ∈ D'.wait, tame from_ first used t) ∧ (e = 0 → D'.now = nowS D.now l ∧ D'.down = false)
  | [], D, e, D', _, _, hw, hd, h => by injection h with h1 h2; subst h1 h2; exact ⟨.inl rfl, rfl, hw, fun _ => ⟨rfl, hd⟩⟩
  | none :: l, D, e, D', _, ht, _, _, _ => by obtain ⟨t, h, _⟩ := ht none (List.mem_cons_self ..); cases h
  | some y :: l, D, e, D', ho, ht, hw, hd, h => by
    obtain ⟨n, s⟩ := y
    have hy := ho _ (List.mem_cons_self ..)
    obtain ⟨t, et, htm⟩ := ht _ (List.mem_cons_self ..)
    injection et with et
    subst et
    have hb : ¬ badW D (n : Int) s := by unfold badW; have h1 := hy.1; have h2 := hy.2; simp only at h1 h2; omega
    by_cases h0 : stepE D = 0
    · have hwe : writeE D (n : Int) s = 0 := by unfold writeE; rw [if_neg hb, h0]
      have hwd : writeD D (n : Int) s = wroteD (stepD D) n s := by unfold writeD; rw [if_neg hb, if_pos h0]
      rw [run_okW hwe, hwd] at h
      have hnow : (wroteD (stepD D) n s).now = D.now.set n (fullB s) := by simp [wroteD, stepD_now]
      have := run_writes l (wroteD (stepD D) n s) e D' (fun x hx => by rw [hnow, List.length_set]; exact ho x (List.mem_cons_of_mem _ hx)) (fun x hx => ht x (List.mem_cons_of_mem _ hx)) (fun t ht' => by
        simp only [wroteD, List.mem_append, List.mem_singleton, stepD_wait] at ht'
        rcases ht' with ht' | rfl
        · exact hw t ht'
        · exact htm) (stepE_down h0).2 h
      rw [hnow, show (wroteD (stepD D) n s).kept = D.kept from stepD_kept D] at this
      exact this
    · have hwe : writeE D (n : Int) s = stepE D := by unfold writeE; rw [if_neg hb]
      have hwd : writeD D (n : Int) s = stepD D := by unfold writeD; rw [if_neg hb, if_neg h0]
      rw [run_badW (by rw [hwe]; exact h0), hwe, hwd] at h
      injection h with h1 h2
      subst h1 h2
      refine ⟨stepW_cases D, stepD_kept D, fun t ht' => hw t (by rw [stepD_wait] at ht'; exact ht'), fun h => absurd h h0⟩
theorem lay_tame {from_ first used : Nat} : ∀ (c : List ChangeM) (k : Nat), (∀ x ∈ c, chkC x = 0) → ∀ x ∈ layW from_ first used k c, ∃ t, x = some t ∧ tame from_ first used (t.1, fullB t.2)
  | [], k, _, x, h => by simp [layW] at h
  | y :: c, k, hc, x, h => by
    rw [layW] at h
    rcases List.mem_cons.1 h with rfl | h
    · refine ⟨_, rfl, used + k, by omega, Nat.add_assoc _ _ _, fun hs => ?_⟩
      obtain ⟨t, ht⟩ := hs
      rw [show first + (used + k) = first + used + k by omega, look_text (.inl rfl) (by have := raw_len (hc y (by simp)); omega)] at ht
      injection ht with ht; injection ht with ht; cases ht
    · exact lay_tame c (k + 1) (fun x hx => hc x (List.mem_cons_of_mem _ hx)) x h
theorem layL_tame {from_ many first used : Nat} {c : List ChangeM} (hc : ∀ x ∈ c, chkC x = 0) : ∀ x ∈ layL from_ many first used c, ∃ t, x = some t ∧ tame from_ first used (t.1, fullB t.2) := by
  intro x hx
  unfold layL at hx
  rcases List.mem_append.1 hx with hx | hx
  · exact lay_tame c 0 hc x hx
  · unfold blkW at hx
    split at hx
    · rw [List.mem_singleton] at hx
      subst hx
      exact ⟨_, rfl, used + c.length + 1, by omega, rfl, fun hs => by obtain ⟨t, ht⟩ := hs; rw [look_blank] at ht; cases ht⟩
    · simp at hx
theorem nowS_tame {from_ first used : Nat} : ∀ (l : List Stp) (K : List Bytes), (∀ x ∈ l, ∃ t, x = some t ∧ tame from_ first used (t.1, fullB t.2)) → (∀ j, j < used → secK (nowS K l) from_ j = secK K from_ j) ∧ (∀ j, used ≤ j → secK (nowS K l) from_ j = secK K from_ j ∨ ¬ shuts first j (secK (nowS K l) from_ j))
  | [], K, _ => ⟨fun _ _ => rfl, fun _ _ => .inl rfl⟩
  | none :: l, K, h => by obtain ⟨t, h, _⟩ := h none (List.mem_cons_self ..); cases h
  | some y :: l, K, h => by
    obtain ⟨n, s⟩ := y
    obtain ⟨t, et, j0, g1, g2, g3⟩ := h _ (List.mem_cons_self ..)
    injection et with et
    subst et
    simp only at g2 g3
    have ih := nowS_tame l (K.set n (fullB s)) (fun x hx => h x (List.mem_cons_of_mem _ hx))
    have hs : ∀ j, secK (K.set n (fullB s)) from_ j = if n = from_ + j ∧ n < K.length then fullB s else secK K from_ j := fun j => getD_set
    refine ⟨fun j hj => ?_, fun j hj => ?_⟩
    · rw [nowS, ih.1 j hj, hs, if_neg (by omega)]
    · rw [nowS]
      rcases ih.2 j hj with e | e
      · rw [e, hs]
        split
        · rename_i hc
          obtain rfl : j0 = j := by omega
          exact .inr g3
        · exact .inl rfl
      · exact .inr e
/-- a disk with nothing waiting, that is up -/
def calm (D : DiskM) : Prop := D.kept = D.now ∧ D.wait = [] ∧ D.down = false
theorem flush_calm {D : DiskM} (h : stepE D = 0) : calm (flushD D) ∧ (flushD D).now = D.now := by
  unfold flushD
  rw [if_pos h]
  exact ⟨⟨rfl, rfl, (stepE_down h).2⟩, stepD_now D⟩
/-- adding a deed to a disk that may fail -/
theorem add_crash {from_ many first used : Nat} {c : List ChangeM} {D : DiskM} {ds : Deeds} (hq : calm D) (hN : from_ + many ≤ D.now.length) (hv : addV many used c = 0) (hs : Safe from_ many first D.now ds used) {e : Int} {D' : DiskM} (hr : runS D (addL from_ many first used c) = (e, D')) :
    (e = 0 ∧ calm D' ∧ Safe from_ many first D'.now (ds ++ [c]) (used + c.length + 1)) ∨ (e = 9 ∧ ∀ keep, ∃ u, scanF first (secK (restL keep D') from_) many 0 [] [] 0 = (ds, u) ∨ scanF first (secK (restL keep D') from_) many 0 [] [] 0 = (ds ++ [c], u)) := by
  obtain ⟨v1, v2, v3⟩ := addV_ok hv
  have hok := addL_ok (first := first) hN hv
  have hokL : ∀ x ∈ layL from_ many first used c, okStp D.now.length x := fun x hx => hok x (by unfold addL; exact List.mem_append_left _ hx)
  have htm := layL_tame (from_ := from_) (many := many) (first := first) (used := used) v3
  cases hr1 : runS D (layL from_ many first used c) with
  | mk e1 D1 =>
    obtain ⟨hc1, hk1, hw1, ho1⟩ := run_writes _ D e1 D1 hokL htm (by rw [hq.2.1]; intro t ht; cases ht) hq.2.2 hr1
    have hs1 : Safe from_ many first D1.kept ds used := by rw [hk1, hq.1]; exact hs
    have crash : ∀ D2 : DiskM, D2.kept = D1.kept → D2.wait = D1.wait → ∀ keep, ∃ u, scanF first (secK (restL keep D2) from_) many 0 [] [] 0 = (ds, u) ∨ scanF first (secK (restL keep D2) from_) many 0 [] [] 0 = (ds ++ [c], u) := fun D2 a b keep =>
      ⟨used, .inl (rest_safe keep (by rw [a]; exact hs1) (by rw [b]; exact hw1)).1⟩
    unfold addL at hr
    rw [run_app, hr1] at hr
    simp only at hr
    by_cases he1 : e1 = 0
    · rw [if_pos he1] at hr
      obtain ⟨hnow, hdn⟩ := ho1 he1
      by_cases h2 : stepE D1 = 0
      · rw [run_okF h2] at hr
        obtain ⟨hq2, hn2⟩ := flush_calm h2
        generalize hD2 : flushD D1 = D2 at *
        have hl2 : D2.now.length = D.now.length := by rw [hn2, hnow, nowS_len]
        have hs2 : Safe from_ many first D2.now ds used := by
          rw [hn2, hnow]
          have := nowS_tame _ D.now htm
          exact safe_of hs this.1 (fun j a _ => this.2 j a)
        have hfin : Safe from_ many first (D2.now.set (from_ + (used + c.length)) (fullB (textB 99 (first + (used + c.length)) (fourN c.length)))) (ds ++ [c]) (used + c.length + 1) := by
          have hg : ∀ m, (D2.now.set (from_ + (used + c.length)) (fullB (textB 99 (first + (used + c.length)) (fourN c.length)))).getD m [] = if from_ + (used + c.length) = m ∧ from_ + (used + c.length) < D2.now.length then fullB (textB 99 (first + (used + c.length)) (fourN c.length)) else D2.now.getD m [] := fun m => getD_set
          have hn : D2.now = nowS (nowS D.now (layW from_ first used 0 c)) (blkW from_ many used c.length) := by rw [hn2, hnow]; unfold layL; rw [nowS_app]
          have hb : ∀ m, m ≠ from_ + (used + c.length + 1) → D2.now.getD m [] = (nowS D.now (layW from_ first used 0 c)).getD m [] := fun m hm => by
            rw [hn]
            unfold blkW
            split
            · rw [nowS, nowS, getD_set, if_neg (by simp only; omega)]
            · rfl
          have hbl : used + c.length + 1 < many → D2.now.getD (from_ + (used + c.length + 1)) [] = fullB [] := fun hm => by
            rw [hn]
            unfold blkW
            rw [if_pos hm, nowS, nowS, getD_set, if_pos ⟨rfl, by simp only [nowS_len]; omega⟩]
          refine ⟨?_, fun j h1 h2' => ?_⟩
          · refine scan_add hs.1 v3 (by omega) (by omega) (fun j hj => ?_) (fun k x hx => ?_) ?_ (fun hm => ?_)
            · show List.getD _ _ _ = List.getD _ _ _
              rw [hg, if_neg (by omega), hb _ (by omega), lay_other _ _ _ _ (by omega)]
            · have hk := (List.getElem?_eq_some_iff.1 hx).1
              show List.getD _ _ _ = _
              rw [hg, if_neg (by omega), hb _ (by omega), show from_ + (used + k) = from_ + used + 0 + k by omega, lay_at c 0 _ k x (by omega) hx, show first + used + 0 + k = first + (used + k) by omega]
            · show List.getD _ _ _ = _
              rw [hg, if_pos ⟨rfl, by omega⟩]
            · show List.getD _ _ _ = _
              rw [hg, if_neg (by omega)]
              exact hbl hm
          · show ¬ shuts first j (List.getD _ _ _)
            rw [hg, if_neg (by omega)]
            exact hs2.2 j (by omega) h2'
        have hb3 : ¬ badW D2 ((from_ + (used + c.length) : Nat) : Int) (textB 99 (first + (used + c.length)) (fourN c.length)) := by unfold badW; rw [text_len]; simp only [fourN, List.length_cons, List.length_nil]; omega
        unfold endW at hr
        by_cases h3 : stepE D2 = 0
        · have hwe : writeE D2 ((from_ + (used + c.length) : Nat) : Int) (textB 99 (first + (used + c.length)) (fourN c.length)) = 0 := by unfold writeE; rw [if_neg hb3, h3]
          rw [run_okW hwe] at hr
          have hwd : writeD D2 ((from_ + (used + c.length) : Nat) : Int) (textB 99 (first + (used + c.length)) (fourN c.length)) = wroteD (stepD D2) ((from_ + (used + c.length) : Nat) : Int) (textB 99 (first + (used + c.length)) (fourN c.length)) := by unfold writeD; rw [if_neg hb3, if_pos h3]
          rw [hwd] at hr
          have hn3 : (wroteD (stepD D2) ((from_ + (used + c.length) : Nat) : Int) (textB 99 (first + (used + c.length)) (fourN c.length))).now = D2.now.set (from_ + (used + c.length)) (fullB (textB 99 (first + (used + c.length)) (fourN c.length))) := by
            show (stepD D2).now.set (((from_ + (used + c.length) : Nat) : Int)).toNat _ = _
            rw [stepD_now, Int.toNat_natCast]
          have hk3 : (wroteD (stepD D2) ((from_ + (used + c.length) : Nat) : Int) (textB 99 (first + (used + c.length)) (fourN c.length))).kept = D2.now := by rw [← hq2.1]; exact stepD_kept D2
          have hw3 : (wroteD (stepD D2) ((from_ + (used + c.length) : Nat) : Int) (textB 99 (first + (used + c.length)) (fourN c.length))).wait = [(from_ + (used + c.length), fullB (textB 99 (first + (used + c.length)) (fourN c.length)))] := by
            show (stepD D2).wait ++ [((((from_ + (used + c.length) : Nat) : Int)).toNat, _)] = _
            rw [stepD_wait, hq2.2.1, Int.toNat_natCast]
            rfl
          generalize wroteD (stepD D2) ((from_ + (used + c.length) : Nat) : Int) (textB 99 (first + (used + c.length)) (fourN c.length)) = D3 at *
          by_cases h4 : stepE D3 = 0
          · rw [run_okF h4, run_nil] at hr
            injection hr with hr1 hr2
            subst hr1 hr2
            obtain ⟨hq4, hn4⟩ := flush_calm h4
            exact .inl ⟨rfl, hq4, by rw [hn4, hn3]; exact hfin⟩
          · rw [run_badF h4] at hr
            injection hr with hr1 hr2
            subst hr1 hr2
            right
            have hst : flushD D3 = stepD D3 := by unfold flushD; rw [if_neg h4]
            refine ⟨by rcases stepW_cases D3 with h | h; exact absurd h h4; exact h, fun keep => ?_⟩
            rw [hst]
            have hres : restL keep (stepD D3) = D2.now ∨ restL keep (stepD D3) = D2.now.set (from_ + (used + c.length)) (fullB (textB 99 (first + (used + c.length)) (fourN c.length))) := by
              unfold restL
              rw [stepD_wait, stepD_kept, hk3, hw3]
              simp only [List.length_singleton, restK, List.getElem?_cons_zero]
              split
              · exact .inr rfl
              · exact .inl rfl
            rcases hres with h | h
            · rw [h]; exact ⟨_, .inl hs2.1⟩
            · rw [h]; exact ⟨_, .inr hfin.1⟩
        · have hwe : writeE D2 ((from_ + (used + c.length) : Nat) : Int) (textB 99 (first + (used + c.length)) (fourN c.length)) = stepE D2 := by unfold writeE; rw [if_neg hb3]
          have hwd : writeD D2 ((from_ + (used + c.length) : Nat) : Int) (textB 99 (first + (used + c.length)) (fourN c.length)) = stepD D2 := by unfold writeD; rw [if_neg hb3, if_neg h3]
          rw [run_badW (by rw [hwe]; exact h3), hwe, hwd] at hr
          injection hr with hr1 hr2
          subst hr1 hr2
          right
          refine ⟨by rcases stepW_cases D2 with h | h; exact absurd h h3; exact h, fun keep => ⟨used, .inl ?_⟩⟩
          exact (rest_safe keep (by rw [stepD_kept, hq2.1]; exact hs2) (by rw [stepD_wait, hq2.2.1]; intro t ht; cases ht)).1
      · rw [run_badF h2] at hr
        injection hr with hr1 hr2
        subst hr1 hr2
        have hst : flushD D1 = stepD D1 := by unfold flushD; rw [if_neg h2]
        rw [hst]
        exact .inr ⟨by rcases stepW_cases D1 with h | h; exact absurd h h2; exact h, crash _ (stepD_kept D1) (stepD_wait D1)⟩
    · rw [if_neg he1] at hr
      injection hr with hr1 hr2
      subst hr1 hr2
      exact .inr ⟨by rcases hc1 with h | h; exact absurd h he1; exact h, crash _ rfl rfl⟩

end Go.Proofs.Ythdjckbjjfiopac
