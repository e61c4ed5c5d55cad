/- Tables of things by their numbers 1 to n, and the maps that hold them. No condition. -/
import Derived.Test.YthdjckbjjfiopacSl25
namespace Go.Sl
set_option linter.unusedVariables false
set_option linter.unusedSimpArgs false

section
variable {ρ : Type}
def tbl (enc : ρ → Value) (l : List Nat) (B : Int → Option ρ) : MM := l.filterMap fun k : Nat => (B (k : Int)).map fun x => ((k : Int), enc x)
/-- the entries of the numbers 1 to n -/
def tb (enc : ρ → Value) (n : Nat) (B : Int → Option ρ) : MM := tbl enc (List.range' 1 n) B
def pset (B : Int → Option ρ) (k : Int) (x : Option ρ) : Int → Option ρ := fun q => if q = k then x else B q
/-- the numbers that there are, rising -/
def ids (n : Nat) (B : Int → Option ρ) : List Int := ((List.range' 1 n).filter fun k : Nat => (B (k : Int)).isSome).map fun k : Nat => (k : Int)
/-- the least number that is free -/
def freeId (n : Nat) (B : Int → Option ρ) : Option Nat := (List.range' 1 n).find? fun k : Nat => (B (k : Int)).isNone
/-- nothing stands but at 1 to n -/
def sup (n : Nat) (B : Int → Option ρ) : Prop := ∀ q x, B q = some x → 1 ≤ q ∧ q ≤ n

theorem tbl_keys (enc : ρ → Value) (l : List Nat) (B : Int → Option ρ) : (tbl enc l B).map (·.1) = (l.filter fun k : Nat => (B (k : Int)).isSome).map fun k : Nat => (k : Int) := by
  induction l with
  | nil => rfl
  | cons k l ih =>
    unfold tbl at ih ⊢
    cases h : B (k : Int) with
    | none => simp [h, ih]
    | some x => simp [h, ih]
theorem tb_keys (enc : ρ → Value) (n : Nat) (B : Int → Option ρ) : (tb enc n B).map (·.1) = ids n B := tbl_keys enc _ B
theorem ids_nodup (n : Nat) (B : Int → Option ρ) : (ids n B).Nodup := by
  unfold ids
  refine List.Pairwise.map _ (fun a b (h : a ≠ b) e => h (by omega)) (List.Nodup.sublist List.filter_sublist (List.nodup_range' (step := 1)))
theorem tb_nodup (enc : ρ → Value) (n : Nat) (B : Int → Option ρ) : ((tb enc n B).map (·.1)).Nodup := by rw [tb_keys]; exact ids_nodup n B
theorem tb_len (enc : ρ → Value) (n : Nat) (B : Int → Option ρ) : (tb enc n B).length = (ids n B).length := by rw [← tb_keys enc, List.length_map]
theorem ids_sorted (n : Nat) (B : Int → Option ρ) : (ids n B).Pairwise (· < ·) := by
  unfold ids
  refine List.Pairwise.map _ (fun a b (h : a < b) => by omega) (List.Pairwise.sublist List.filter_sublist (List.pairwise_lt_range' (s := 1) (n := n) 1))
theorem mem_ids {n : Nat} {B : Int → Option ρ} {q : Int} : q ∈ ids n B ↔ (1 ≤ q ∧ q ≤ n) ∧ (B q).isSome = true := by
  unfold ids
  constructor
  · intro h
    obtain ⟨k, hk, rfl⟩ := List.mem_map.1 h
    rw [List.mem_filter, List.mem_range'_1] at hk
    exact ⟨by omega, hk.2⟩
  · rintro ⟨⟨h1, h2⟩, h3⟩
    refine List.mem_map.2 ⟨q.toNat, List.mem_filter.2 ⟨by rw [List.mem_range'_1]; omega, ?_⟩, by omega⟩
    rw [show ((q.toNat : Nat) : Int) = q by omega]; exact h3
theorem ids_len_le (n : Nat) (B : Int → Option ρ) : (ids n B).length ≤ n := by
  unfold ids
  rw [List.length_map]
  exact Nat.le_trans (List.length_filter_le _ _) (by simp)
theorem lk_tbl (enc : ρ → Value) (B : Int → Option ρ) (q : Int) : ∀ (l : List Nat), lk (tbl enc l B) q = if 0 ≤ q ∧ q.toNat ∈ l then (B q).map enc else none
  | [] => by simp [tbl, lk]
  | k :: l => by
    have ih := lk_tbl enc B q l
    unfold tbl at ih ⊢
    by_cases hk : (k : Int) = q
    · subst hk
      cases h : B (k : Int) with
      | none => simp [h, ih]
      | some x => simp [h, lk]
    · have hne : q.toNat ≠ k ∨ ¬ 0 ≤ q := by omega
      have e : (0 ≤ q ∧ q.toNat ∈ k :: l) ↔ (0 ≤ q ∧ q.toNat ∈ l) := by
        constructor
        · rintro ⟨h1, h2⟩
          rcases List.mem_cons.1 h2 with h2 | h2
          · omega
          · exact ⟨h1, h2⟩
        · rintro ⟨h1, h2⟩; exact ⟨h1, List.mem_cons_of_mem _ h2⟩
      simp only [e]
      cases h : B (k : Int) with
      | none => simp [h, ih]
      | some x => simp [h, lk, hk, ih]
theorem lk_tb (enc : ρ → Value) (n : Nat) (B : Int → Option ρ) (q : Int) : lk (tb enc n B) q = if 1 ≤ q ∧ q ≤ n then (B q).map enc else none := by
  unfold tb
  rw [lk_tbl]
  have : (0 ≤ q ∧ q.toNat ∈ List.range' 1 n) ↔ (1 ≤ q ∧ q ≤ n) := by rw [List.mem_range'_1]; omega
  simp only [this]
theorem lk_sup (enc : ρ → Value) {n : Nat} {B : Int → Option ρ} (h : sup n B) (q : Int) : lk (tb enc n B) q = (B q).map enc := by
  rw [lk_tb]
  split
  · rfl
  · rename_i hn
    cases e : B q with
    | none => rfl
    | some x => exact absurd (h q x e) hn
theorem tb_set (enc : ρ → Value) {n : Nat} {B : Int → Option ρ} {k : Int} {x : ρ} (hk : 1 ≤ k ∧ k ≤ n) : (mset (tb enc n B) k (enc x)).Perm (tb enc n (pset B k (some x))) := by
  refine perm_of_lk (mset_keys _ _ _ (tb_nodup enc n B)) (tb_nodup enc n _) fun q => ?_
  rw [lk_mset, lk_tb, lk_tb]
  by_cases h : k = q
  · subst h; simp [hk, pset]
  · simp [h, pset, Ne.symm h]
theorem tb_del (enc : ρ → Value) {n : Nat} {B : Int → Option ρ} {k : Int} : (mdel (tb enc n B) k).Perm (tb enc n (pset B k none)) := by
  refine perm_of_lk (mdel_keys _ _ (tb_nodup enc n B)) (tb_nodup enc n _) fun q => ?_
  rw [lk_mdel, lk_tb, lk_tb]
  by_cases h : k = q
  · subst h; simp [pset]
  · simp [h, pset, Ne.symm h]
theorem tb_empty (enc : ρ → Value) (n : Nat) : tb enc n (fun _ => none) = [] := by
  unfold tb tbl
  induction List.range' 1 n with
  | nil => rfl
  | cons k l ih => simp
theorem sup_set {n : Nat} {B : Int → Option ρ} {k : Int} {x : Option ρ} (h : sup n B) (hk : x.isSome = true → 1 ≤ k ∧ k ≤ n) : sup n (pset B k x) := fun q y e => by
  unfold pset at e
  split at e
  · rename_i hq; subst hq; exact hk (by simp [e])
  · exact h q y e
theorem sup_none (n : Nat) : sup n (fun _ => (none : Option ρ)) := fun q x e => by cases e
theorem full_iff {n : Nat} {B : Int → Option ρ} : (ids n B).length = n ↔ freeId n B = none := by
  unfold ids freeId
  rw [List.length_map, ← List.countP_eq_length_filter, List.find?_eq_none]
  have := List.countP_eq_length (p := fun k : Nat => (B (k : Int)).isSome) (l := List.range' 1 n)
  rw [List.length_range'] at this
  rw [this]
  constructor
  · intro h x hx; have := h x hx; cases e : B (x : Int) <;> simp [e] at this ⊢
  · intro h x hx; have := h x hx; cases e : B (x : Int) <;> simp [e] at this ⊢
theorem free_some {n k : Nat} {B : Int → Option ρ} (h : freeId n B = some k) : (1 ≤ k ∧ k ≤ n) ∧ B k = none ∧ ∀ j : Nat, 1 ≤ j → j < k → (B j).isSome = true := by
  unfold freeId at h
  rw [List.find?_range'_eq_some] at h
  obtain ⟨h1, h2, h3⟩ := h
  rw [List.mem_range'_1] at h2
  refine ⟨by omega, by simpa using h1, fun j h4 h5 => ?_⟩
  have := h3 j h4 h5
  cases e : B (j : Int) <;> simp [e] at this ⊢
theorem free_mk {n k : Nat} {B : Int → Option ρ} (h1 : 1 ≤ k ∧ k ≤ n) (h2 : B k = none) (h3 : ∀ j : Nat, 1 ≤ j → j < k → (B j).isSome = true) : freeId n B = some k := by
  unfold freeId
  rw [List.find?_range'_eq_some]
  refine ⟨by simp [h2], by rw [List.mem_range'_1]; omega, fun j h4 h5 => ?_⟩
  have := h3 j h4 h5
  cases e : B (j : Int) <;> simp [e] at this ⊢
theorem free_isSome {n : Nat} {B : Int → Option ρ} (h : (ids n B).length ≠ n) : ∃ k, freeId n B = some k := by
  cases e : freeId n B with
  | none => exact absurd (full_iff.2 e) h
  | some k => exact ⟨k, rfl⟩
theorem sort_ids {n : Nat} {B : Int → Option ρ} {l : List Int} (h : l.Perm (ids n B)) : l.mergeSort (fun x y => decide (x ≤ y)) = ids n B := by
  refine List.Perm.eq_of_pairwise (le := fun a b : Int => a ≤ b) (fun a b _ _ h1 h2 => by omega) ?_ ?_ ((List.mergeSort_perm _ _).trans h)
  · have := List.pairwise_mergeSort (le := fun x y : Int => decide (x ≤ y)) (fun a b c h1 h2 => by simp at *; omega) (fun a b => by simp; omega) l
    exact this.imp fun h => by simpa using h
  · exact (ids_sorted n B).imp fun h => by omega
theorem tb_mem {enc : ρ → Value} {n : Nat} {B : Int → Option ρ} {p : Int × Value} (h : p ∈ tb enc n B) : ∃ x, B p.1 = some x ∧ p.2 = enc x ∧ 1 ≤ p.1 ∧ p.1 ≤ n := by
  obtain ⟨q, v⟩ := p
  rw [← lk_mem (tb_nodup enc n B), lk_tb] at h
  split at h
  · rename_i hq
    cases e : B q with
    | none => simp [e] at h
    | some x => simp [e] at h; exact ⟨x, rfl, h.symm, hq.1, hq.2⟩
  · cases h
end
end Go.Sl
