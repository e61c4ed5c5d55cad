/- What a log's sectors hold once something is added to a disk that is up. No condition. -/
import Derived.Test.YthdjckbjjfiopacLgW
namespace Go.Proofs.Ythdjckbjjfiopac
open Go.Sl Go.Proofs
set_option linter.unusedVariables false
set_option linter.unusedSimpArgs false
theorem scan_congr {first : Nat} {sec sec' : Nat → Bytes} : ∀ (f i : Nat) (out : Deeds) (deed : List ChangeM) (used : Nat), (∀ j, i ≤ j → j < i + f → sec' j = sec j) → scanF first sec' f i out deed used = scanF first sec f i out deed used
  | 0, i, out, deed, used, _ => rfl
  | f + 1, i, out, deed, used, h => by
    have ih := fun out deed used => scan_congr (first := first) f (i + 1) out deed used (fun j h1 h2 => h j (by omega) (by omega))
    rw [scan_s, scan_s, h i (by omega) (by omega)]
    cases lookB (first + i) (sec i) with
    | none => rfl
    | some kt => simp only [ih]
theorem scan_lens {first : Nat} {sec : Nat → Bytes} {B : Nat} : ∀ (f i : Nat) (out : Deeds) (deed : List ChangeM) (used : Nat) (o : Deeds) (u : Nat), scanF first sec f i out deed used = (o, u) → (∀ d ∈ out, d.length ≤ B) → deed.length + f ≤ B → ∀ d ∈ o, d.length ≤ B
  | 0, i, out, deed, used, o, u, h, ho, hd => by injection h with h1 h2; subst h1; exact ho
  | f + 1, i, out, deed, used, o, u, h, ho, hd => by
    rw [scan_s] at h
    cases hl : lookB (first + i) (sec i) with
    | none => rw [hl] at h; injection h with h1 h2; subst h1; exact ho
    | some kt =>
      obtain ⟨k, t⟩ := kt
      rw [hl] at h
      simp only at h
      split at h
      · split at h
        · refine scan_lens f _ _ _ _ _ _ h (fun d hd' => ?_) (by simp; omega)
          rcases List.mem_append.1 hd' with h' | h'
          · exact ho d h'
          · rw [List.mem_singleton] at h'; subst h'; omega
        · injection h with h1 h2; subst h1; exact ho
      · split at h
        · exact scan_lens f _ _ _ _ _ _ h ho (by simp; omega)
        · injection h with h1 h2; subst h1; exact ho
def upW (D : DiskM) : Prop := D.down = false ∧ D.fuse = -1
theorem upW_step {D : DiskM} (h : upW D) : stepE D = 0 ∧ stepD D = D := by
  obtain ⟨k, n, w, f, d⟩ := D
  obtain ⟨h1, h2⟩ := h
  simp at h1 h2
  subst h1 h2
  exact ⟨rfl, rfl⟩
theorem upW_write {D : DiskM} (h : upW D) {n : Int} {s : Bytes} (hb : ¬ badW D n s) : writeE D n s = 0 ∧ writeD D n s = wroteD D n s := by
  have h1 := upW_step h
  constructor
  · unfold writeE; rw [if_neg hb, h1.1]
  · unfold writeD; rw [if_neg hb, if_pos h1.1, h1.2]
theorem upW_flush {D : DiskM} (h : upW D) : stepE D = 0 ∧ flushD D = flushedD D := by
  have h1 := upW_step h
  exact ⟨h1.1, by unfold flushD; rw [if_pos h1.1, h1.2]⟩
def okStp (N : Nat) : Stp → Prop
  | some x => x.1 < N ∧ x.2.length ≤ 80
  | none => True
def nowS : List Bytes → List Stp → List Bytes
  | L, [] => L
  | L, some x :: r => nowS (L.set x.1 (fullB x.2)) r
  | L, none :: r => nowS L r
theorem nowS_app : ∀ (l r : List Stp) (L : List Bytes), nowS L (l ++ r) = nowS (nowS L l) r
  | [], r, L => rfl
  | some x :: l, r, L => nowS_app l r _
  | none :: l, r, L => nowS_app l r L
theorem nowS_len : ∀ (l : List Stp) (L : List Bytes), (nowS L l).length = L.length
  | [], L => rfl
  | some x :: l, L => by rw [nowS, nowS_len l, List.length_set]
  | none :: l, L => nowS_len l L
theorem fullB_80 {s : Bytes} (h : s.length ≤ 80) : (fullB s).length = 80 := by unfold fullB; simp [nulls]; omega
theorem nowS_80 {N : Nat} : ∀ (l : List Stp) (L : List Bytes), (∀ x ∈ L, x.length = 80) → (∀ x ∈ l, okStp N x) → ∀ x ∈ nowS L l, x.length = 80
  | [], L, h, _ => h
  | some y :: l, L, h, ho => nowS_80 l _ (fun x hx => by
      rcases List.mem_or_eq_of_mem_set hx with h' | h'
      · exact h x h'
      · rw [h']; exact fullB_80 (ho _ (List.mem_cons_self ..)).2) (fun x hx => ho x (List.mem_cons_of_mem _ hx))
  | none :: l, L, h, ho => nowS_80 l L h (fun x hx => ho x (List.mem_cons_of_mem _ hx))
theorem run_up : ∀ (l : List Stp) (D : DiskM), upW D → (∀ x ∈ l, okStp D.now.length x) → (runS D l).1 = 0 ∧ upW (runS D l).2 ∧ (runS D l).2.now = nowS D.now l
  | [], D, h, _ => ⟨rfl, h, rfl⟩
  | none :: l, D, h, ho => by
    have h1 := upW_flush h
    rw [run_okF h1.1, h1.2]
    exact run_up l (flushedD D) h (fun x hx => ho x (List.mem_cons_of_mem _ hx))
  | some y :: l, D, h, ho => by
    obtain ⟨n, s⟩ := y
    have hy := ho _ (List.mem_cons_self ..)
    have h1 := upW_write h (n := (n : Int)) (s := s) (by unfold badW; have h1 := hy.1; have h2 := hy.2; simp only at h1 h2; omega)
    rw [run_okW h1.1, h1.2]
    have := run_up l (wroteD D n s) h (fun x hx => by
      have := ho x (List.mem_cons_of_mem _ hx)
      rw [show (wroteD D n s).now.length = D.now.length by simp [wroteD]]
      exact this)
    rw [this.2.2]
    exact ⟨this.1, this.2.1, rfl⟩
theorem getD_set {L : List Bytes} {n m : Nat} {x : Bytes} : (L.set n x).getD m [] = if n = m ∧ n < L.length then x else L.getD m [] := by
  rw [List.getD_eq_getElem?_getD, List.getD_eq_getElem?_getD, List.getElem?_set]
  split
  · rename_i h
    subst h
    split
    · rename_i h2; rw [if_pos ⟨rfl, h2⟩]; rfl
    · rename_i h2; rw [if_neg (fun h => h2 h.2), List.getElem?_eq_none (by omega)]
  · rename_i h; rw [if_neg (fun h' => h h'.1)]
theorem lay_other {from_ first used : Nat} : ∀ (c : List ChangeM) (k : Nat) (L : List Bytes) (m : Nat), (m < from_ + used + k ∨ from_ + used + k + c.length ≤ m) → (nowS L (layW from_ first used k c)).getD m [] = L.getD m []
  | [], k, L, m, _ => rfl
  | x :: c, k, L, m, h => by
    rw [layW, nowS, lay_other c (k + 1) _ m (by simp at h; omega), getD_set, if_neg (by simp at h; omega)]
theorem lay_at {from_ first used : Nat} : ∀ (c : List ChangeM) (k : Nat) (L : List Bytes) (j : Nat) (x : ChangeM), from_ + used + k + c.length ≤ L.length → c[j]? = some x → (nowS L (layW from_ first used k c)).getD (from_ + used + k + j) [] = fullB (textB 111 (first + used + k + j) (rawC x))
  | [], k, L, j, x, _, h => by simp at h
  | y :: c, k, L, 0, x, hl, h => by
    simp at h hl
    subst h
    rw [layW, nowS, lay_other c (k + 1) _ _ (by omega), getD_set, if_pos ⟨by omega, by omega⟩]
    rfl
  | y :: c, k, L, j + 1, x, hl, h => by
    simp at h hl
    rw [layW, nowS]
    have := lay_at (from_ := from_) (first := first) (used := used) c (k + 1) (L.set (from_ + used + k) (fullB (textB 111 (first + used + k) (rawC y)))) j x (by simp; omega) h
    rw [show from_ + used + k + (j + 1) = from_ + used + (k + 1) + j by omega, show first + used + k + (j + 1) = first + used + (k + 1) + j by omega]
    exact this
theorem layW_ok {from_ first used N : Nat} : ∀ (c : List ChangeM) (k : Nat), from_ + used + k + c.length ≤ N → (∀ x ∈ c, chkC x = 0) → ∀ x ∈ layW from_ first used k c, okStp N x
  | [], k, _, _, x, h => by simp [layW] at h
  | y :: c, k, hN, hc, x, h => by
    simp at hN
    rw [layW] at h
    rcases List.mem_cons.1 h with rfl | h
    · exact ⟨by simp only; omega, by rw [text_len]; have := raw_len (hc y (by simp)); omega⟩
    · exact layW_ok c (k + 1) (by omega) (fun x hx => hc x (List.mem_cons_of_mem _ hx)) x h
theorem addL_ok {from_ many first used N : Nat} {c : List ChangeM} (hN : from_ + many ≤ N) (hv : addV many used c = 0) : ∀ x ∈ addL from_ many first used c, okStp N x := by
  obtain ⟨h1, h2, h3⟩ := addV_ok hv
  intro x hx
  unfold addL layL at hx
  simp only [List.mem_append, List.mem_cons, List.not_mem_nil, or_false] at hx
  rcases hx with (hx | hx) | rfl | rfl | rfl
  · exact layW_ok c 0 (by omega) h3 x hx
  · unfold blkW at hx
    split at hx
    · simp only [List.mem_singleton] at hx
      subst hx
      exact ⟨by simp only; omega, by simp⟩
    · simp at hx
  · trivial
  · exact ⟨by simp only; omega, by rw [text_len]; simp [fourN]⟩
  · trivial
/-- adding to a disk that is up -/
theorem add_up {from_ many first used : Nat} {c : List ChangeM} {D : DiskM} (hu : upW D) (hS : ∀ x ∈ D.now, x.length = 80) (hN : from_ + many ≤ D.now.length) (hv : addV many used c = 0) {out : Deeds} (hsc : scanF first (fun i => D.now.getD (from_ + i) []) many 0 [] [] 0 = (out, used)) :
    addE from_ many first used c D = 0 ∧ upW (addD from_ many first used c D) ∧ (∀ x ∈ (addD from_ many first used c D).now, x.length = 80) ∧ (addD from_ many first used c D).now.length = D.now.length ∧
      scanF first (fun i => (addD from_ many first used c D).now.getD (from_ + i) []) many 0 [] [] 0 = (out ++ [c], used + c.length + 1) := by
  obtain ⟨h1, h2, h3⟩ := addV_ok hv
  have hok := addL_ok (first := first) hN hv
  obtain ⟨r1, r2, r3⟩ := run_up _ D hu hok
  have hE : addE from_ many first used c D = 0 := by unfold addE; rw [if_pos hv, r1]
  have hD : addD from_ many first used c D = (runS D (addL from_ many first used c)).2 := by unfold addD; rw [if_pos hv]
  rw [hD, r3]
  refine ⟨hE, r2, nowS_80 _ _ hS hok, nowS_len _ _, ?_⟩
  have hL : nowS D.now (addL from_ many first used c) = nowS (nowS (nowS D.now (layW from_ first used 0 c)) (blkW from_ many used c.length)) [endW from_ first used c.length] := by
    unfold addL layL; rw [nowS_app, nowS_app]; rfl
  rw [hL]
  generalize hL1 : nowS D.now (layW from_ first used 0 c) = L1
  have l1 : L1.length = D.now.length := by rw [← hL1, nowS_len]
  have hb : ∀ m, m ≠ from_ + (used + c.length + 1) → (nowS L1 (blkW from_ many used c.length)).getD m [] = L1.getD m [] := fun m hm => by
    unfold blkW
    split
    · rw [nowS, nowS, getD_set, if_neg (by simp only; omega)]
    · rfl
  have he : ∀ (L : List Bytes) m, (nowS L [endW from_ first used c.length]).getD m [] = if from_ + (used + c.length) = m ∧ from_ + (used + c.length) < L.length then fullB (textB 99 (first + (used + c.length)) (fourN c.length)) else L.getD m [] := fun L m => by
    unfold endW; rw [nowS, nowS, getD_set]
  have l2 : (nowS L1 (blkW from_ many used c.length)).length = L1.length := nowS_len _ _
  refine scan_add hsc h3 (by omega) (by omega) (fun j hj => ?_) (fun k x hx => ?_) ?_ (fun hm => ?_)
  · rw [he, if_neg (by omega), hb _ (by omega), ← hL1, lay_other _ _ _ _ (by omega)]
  · have hk := (List.getElem?_eq_some_iff.1 hx).1
    rw [he, if_neg (by omega), hb _ (by omega), ← hL1, show from_ + (used + k) = from_ + used + 0 + k by omega, lay_at c 0 _ k x (by omega) hx, show first + used + 0 + k = first + (used + k) by omega]
  · rw [he, if_pos ⟨rfl, by omega⟩]
  · rw [he, if_neg (by omega)]
    unfold blkW
    rw [if_pos hm, nowS, nowS, getD_set, if_pos ⟨rfl, by simp only; omega⟩]

end Go.Proofs.Ythdjckbjjfiopac
