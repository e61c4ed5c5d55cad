/- Walks through package area. No condition. -/
import Derived.Test.YthdjckbjjfiopaaTypes
import Derived.KernelRfl
namespace Go.Proofs.Ythdjckbjjfiopaa
open Go.Sl Go.Proofs
set_option linter.unusedVariables false
set_option linter.unusedSimpArgs false
abbrev tErr : Nat := 172
structure Area where
  fr : Int
  many : Int
  deriving DecidableEq
def encA (a : Area) : List Value := [I a.fr, I a.many]
abbrev errV (f : Int) : Value := errT tErr f
def rowsA (l : List Area) : List (List Value) := l.map encA
def ok64 (n : Int) : Prop := -9223372036854775808 ≤ n ∧ n ≤ 9223372036854775807
def okA (l : List Area) : Prop := ∀ a ∈ l, ok64 a.fr ∧ ok64 a.many
theorem rowsA_at {l : List Area} {k : Nat} {a : Area} (h : l[k]? = some a) : (rowsA l)[k]? = some (encA a) := by simp [rowsA, h]
theorem rowsA_len (l : List Area) : (rowsA l).length = l.length := by simp [rowsA]
def chkA : Int → List Area → Int
  | _, [] => 0
  | e, a :: l => if a.fr < 0 ∨ a.many < 1 ∨ a.fr > 16 - a.many ∨ a.many > 16 then 1 else if a.fr ≤ e then 3 else chkA (a.fr + a.many) l
theorem drop_at {α : Type} {l : List α} {k : Nat} {a : α} (h : l[k]? = some a) : l.drop k = a :: l.drop (k + 1) := by
  obtain ⟨h1, h2⟩ := List.getElem?_eq_some_iff.1 h
  rw [← h2, List.drop_eq_getElem_cons h1]

/-! marks -/
def bL (m : Nat → Bool) : List Value := (List.range 16).map fun i => Bo (m i)
def bA (m : Nat → Bool) : Array Value := (bL m).toArray
theorem bL_len (m : Nat → Bool) : (bL m).length = 16 := by simp [bL]
theorem bL_at {m : Nat → Bool} {j : Nat} (h : j < 16) : (bL m)[j]? = some (Bo (m j)) := by simp [bL, h]
theorem bA_cell {m : Nat → Bool} {T : Nat} {fr : Nat × Nat} {j : Nat} (h : j < 16) : objCell (.cells (bA m) T fr) (0 + j * 1) = some (Bo (m j)) := by simp [objCell, bA, bL, h]
theorem bA_load {m : Nat → Bool} {T : Nat} {fr : Nat × Nat} : ∀ k v, (bL m)[k]? = some v → objCell (.cells (bA m) T fr) (0 + k) = some v := fun k v h => by simpa [objCell, bA] using h
theorem bA_set {m : Nat → Bool} {j : Nat} (h : j < 16) (b : Bool) : (bA m).setIfInBounds (0 + j * 1) (Bo b) = bA (fun i => if i = j then b else m i) := by
  apply Array.ext_getElem?
  intro i
  rw [Array.getElem?_setIfInBounds]
  have hs : (bA m).size = 16 := by simp [bA, bL]
  by_cases hi : i < 16
  · simp only [bA, List.getElem?_toArray, bL_at hi]
    by_cases hij : j = i
    · subst hij; simp [bL, hi]
    · simp [hij, Ne.symm hij]
  · have h1 : (bA m)[i]? = none := by simp [bA, bL]; omega
    have h2 : (bA (fun i => if i = j then b else m i))[i]? = none := by simp [bA, bL]; omega
    have : ¬ 0 + j * 1 = i := by omega
    simp [h1, h2, hs]
    omega
theorem bL_ones (m : Nat → Bool) : ones (bL m) = true := ones_of fun v hv => by
  simp [bL] at hv; obtain ⟨a, _, rfl⟩ := hv; rfl
theorem splice_all {cs : Array Value} {vs : List Value} (h : vs.length = cs.size) : splice cs 0 vs = vs.toArray := by
  apply Array.ext_getElem?
  intro i
  rw [splice_at _ _ _ (by omega)]
  by_cases hi : i < vs.length
  · simp [hi]
  · have h1 : cs[i]? = none := by simp; omega
    simp [hi, h1]
theorem bA_ext {m m' : Nat → Bool} (h : ∀ j, j < 16 → m j = m' j) : bA m = bA m' := by
  unfold bA bL
  congr 1
  exact List.map_congr_left fun i hi => by rw [h i (by simpa using hi)]
def mk (l : List Area) (p : Nat) : Bool := l.any fun a => decide (a.fr ≤ p ∧ (p : Int) < a.fr + a.many)
def mkI (m : Nat → Bool) (a : Area) (i : Nat) (p : Nat) : Bool := m p || decide (a.fr ≤ p ∧ (p : Int) < a.fr + i)
def okV (l : List Area) : Prop := ∀ a ∈ l, 0 ≤ a.fr ∧ 1 ≤ a.many ∧ a.fr + a.many ≤ 16
theorem mk_zero : bA (mk []) = Array.replicate 16 (Bo false) := by
  apply Array.ext_getElem?
  intro i
  by_cases hi : i < 16 <;> simp [bA, bL, mk, hi]
theorem mk_take {l : List Area} {k : Nat} {a : Area} (h : l[k]? = some a) (ha : 0 ≤ a.many) : mkI (mk (l.take k)) a a.many.toNat = mk (l.take (k + 1)) := by
  obtain ⟨h1, h2⟩ := List.getElem?_eq_some_iff.1 h
  funext p
  have e : (a.many.toNat : Int) = a.many := by omega
  simp only [mkI, mk, List.take_succ_eq_append_getElem h1, List.any_append, h2, List.any_cons, List.any_nil, Bool.or_false, e]
theorem mkI_zero (m : Nat → Bool) (a : Area) : m = mkI m a 0 := by
  funext p
  simp [mkI]
  omega
theorem mkI_set {m : Nat → Bool} {a : Area} {i j : Nat} (hj : (j : Int) = a.fr + i) (h0 : 0 ≤ a.fr) : (fun p => if p = j then true else mkI m a i p) = mkI m a (i + 1) := by
  funext p
  simp only [mkI]
  by_cases hp : p = j
  · subst hp; simp; right; omega
  · simp only [hp, if_false]
    congr 1
    rw [Bool.eq_iff_iff]
    simp
    omega

/-! areas of marks -/
def lastA (l : List Area) : Area := l.getD (l.length - 1) ⟨0, 0⟩
def stepP (m : Nat → Bool) (k : Nat) (l : List Area) : List Area :=
  if m k = true then (if 0 < l.length ∧ (lastA l).fr + (lastA l).many = k then l.set (l.length - 1) ⟨(lastA l).fr, (lastA l).many + 1⟩ else l ++ [⟨k, 1⟩]) else l
def foldP (m : Nat → Bool) : Nat → List Area
  | 0 => []
  | k + 1 => stepP m k (foldP m k)
theorem lastA_at {l : List Area} (h : 0 < l.length) : l[l.length - 1]? = some (lastA l) := by
  unfold lastA
  rw [List.getD_eq_getElem?_getD, List.getElem?_eq_getElem (by omega)]
  rfl
theorem foldP_ok (m : Nat → Bool) : ∀ k, (foldP m k).length ≤ k ∧ ∀ a ∈ foldP m k, 0 ≤ a.fr ∧ 1 ≤ a.many ∧ a.fr + a.many ≤ k
  | 0 => by simp [foldP]
  | k + 1 => by
    obtain ⟨h1, h2⟩ := foldP_ok m k
    simp only [foldP, stepP]
    split
    · split
      · rename_i hm hl
        refine ⟨by simp; omega, fun a ha => ?_⟩
        rcases List.mem_or_eq_of_mem_set ha with h | h
        · have := h2 a h; omega
        · subst h
          have := h2 _ (List.mem_of_getElem? (lastA_at hl.1))
          simp; omega
      · refine ⟨by simp; omega, fun a ha => ?_⟩
        rcases List.mem_append.1 ha with h | h
        · have := h2 a h; omega
        · simp at h; subst h; simp
    · exact ⟨by omega, fun a ha => by have := h2 a ha; omega⟩
abbrev ofM (m : Nat → Bool) : List Area := foldP m 16
theorem rowsA_set {l : List Area} {j : Nat} {a : Area} : (rowsA l).set j ((encA a).set 1 (I (a.many + 1))) = rowsA (l.set j ⟨a.fr, a.many + 1⟩) := by simp [rowsA, encA, List.map_set]
theorem rowsA_app (l : List Area) (x y : Int) : rowsA l ++ [[I x, I y]] = rowsA (l ++ [⟨x, y⟩]) := by simp [rowsA, encA]
/-- the reference's way -/
def stepR (m : Nat → Bool) (k : Nat) (z : List Area × Int) : List Area × Int :=
  let f := if (decide ((k : Int) < 16) && m k) && decide (z.2 < 0) then (k : Int) else z.2
  if !(decide ((k : Int) < 16) && m k) && decide (0 ≤ f) then (z.1 ++ [⟨f, k - f⟩], -1) else (z.1, f)
def foldR (m : Nat → Bool) : Nat → List Area × Int
  | 0 => ([], -1)
  | k + 1 => stepR m k (foldR m k)
theorem foldR_P (m : Nat → Bool) : ∀ k, k ≤ 16 → (foldR m k).2 < k ∧ -1 ≤ (foldR m k).2 ∧ (foldR m k).1.length ≤ k ∧
    ((foldR m k).2 < 0 → foldP m k = (foldR m k).1 ∧ ((foldR m k).1 = [] ∨ (lastA (foldR m k).1).fr + (lastA (foldR m k).1).many < k)) ∧
    (0 ≤ (foldR m k).2 → foldP m k = (foldR m k).1 ++ [⟨(foldR m k).2, k - (foldR m k).2⟩])
  | 0, _ => by simp [foldR, foldP]
  | k + 1, hk => by
    obtain ⟨h1, h2, h5, h3, h4⟩ := foldR_P m k (by omega)
    simp only [foldR, foldP]
    generalize hz : foldR m k = z at *
    obtain ⟨lr, f⟩ := z
    simp only [] at h1 h2 h3 h4 h5
    have h16 : (k : Int) < 16 := by omega
    unfold stepR stepP
    simp only [h16, decide_true, Bool.true_and]
    by_cases hm : m k = true
    · simp only [hm, Bool.true_and, Bool.not_true, Bool.false_and, Bool.false_eq_true, if_false, if_true]
      by_cases hf : f < 0
      · obtain ⟨e, h⟩ := h3 hf
        simp only [hf, decide_true, if_true]
        refine ⟨by omega, by omega, by omega, fun h => by omega, fun _ => ?_⟩
        rw [e, if_neg]
        · congr 3; omega
        · rintro ⟨hp, he⟩
          rcases h with rfl | h
          · simp at hp
          · omega
      · have e := h4 (by omega)
        simp only [hf, decide_false, Bool.false_eq_true, if_false]
        refine ⟨by omega, by omega, by omega, fun h => by simp at h, fun _ => ?_⟩
        have hl : lastA (foldP m k) = ⟨f, k - f⟩ := by rw [e]; simp [lastA]
        rw [if_pos (by rw [hl]; refine ⟨by rw [e]; simp, by simp; omega⟩), hl, e]
        simp [List.set_append]
        omega
    · have hm' : m k = false := by simpa using hm
      simp only [hm', Bool.false_and, Bool.false_eq_true, if_false, Bool.not_false, Bool.true_and]
      by_cases hf : f < 0
      · obtain ⟨e, h⟩ := h3 hf
        have : ¬ 0 ≤ f := by omega
        simp only [this, decide_false, Bool.false_eq_true, if_false]
        refine ⟨by omega, by omega, by omega, fun _ => ⟨e, ?_⟩, fun h => by simp at h⟩
        rcases h with h | h
        · exact .inl h
        · exact .inr (by omega)
      · have e := h4 (by omega)
        have : 0 ≤ f := by omega
        simp only [this, decide_true, if_true]
        refine ⟨by omega, by omega, by simp; omega, fun _ => ⟨e, .inr ?_⟩, fun h => by simp at h⟩
        simp [lastA]
        omega
theorem ofR_eq (m : Nat → Bool) : (foldR m 17).1 = ofM m := by
  obtain ⟨h1, h2, _, h3, h4⟩ := foldR_P m 16 (by omega)
  show (stepR m 16 (foldR m 16)).1 = foldP m 16
  generalize foldR m 16 = z at *
  obtain ⟨lr, f⟩ := z
  unfold stepR
  have h16 : ¬ (((16 : Nat) : Int) < 16) := by omega
  simp only [h16, decide_false, Bool.false_and, Bool.false_eq_true, if_false, Bool.not_false, Bool.true_and] at *
  by_cases hf : 0 ≤ f
  · simp [hf, h4 hf]
  · simp [hf, h3 (by omega)]

theorem ct_area_marks (l : List Area) (s : Option Addr) (cap : Nat) (hl : l.length ≤ 1000000) (hv : okV l) (F : List HProp) : Ct Try.prog 123 [sl s l.length cap] ([roL 2 s (rowsA l)] ++ F) (R1 (.agg (bA (mk l))) (roL 2 s (rowsA l) :: F)) := by
  show Ct Try.prog 123 [sl s l.length cap] (roL 2 s (rowsA l) :: F) _
  refine Ct.of Try.func123 rfl 26 Try.ntmps123 (by simp) fun w0 => ?_
  refine g_seq ?_
  refine g_reg ?_
  refine g_l (l_alloc (Array.replicate 16 (Bo false)) Try.zeroValue34) rfl ?_
  rintro _ _ ⟨b2, rfl, rfl⟩
  refine g_nil ?_
  refine g_seq ?_
  refine g_reg ?_
  refine g_l (l_alloc (bA (mk (l.take 0))) (fun w => by rw [List.take_zero, mk_zero]; exact Try.zeroValue34 w)) rfl ?_
  rintro _ _ ⟨b3, rfl, rfl⟩
  refine g_nil ?_
  refine g_seq ?_
  refine g_seq ?_
  refine g_reg ?_
  refine g_v (v_move rfl) rfl ?_
  refine g_v (v_len Try.underlying22 rfl) rfl ?_
  refine g_v (v_move rfl) rfl ?_
  refine g_nil ?_
  refine g_block ?_
  refine g_loop (α := Nat) (fun k => k ≤ l.length) (fun k => U [(2, ptr b2 0), (3, ptr b3 0), (7, sl s l.length cap), (8, I l.length), (9, I k)]) (fun k => pt b3 (.cells (bA (mk (l.take k))) 34 (0, 0)) :: pt b2 (.cells (Array.replicate 16 (Bo false)) 34 (0, 0)) :: roL 2 s (rowsA l) :: F) (fun k => l.length - k) 0 (by simp) [2, 3, 7, 8, 9] rfl rfl ?_
  intro k hk
  refine g_seq ?_
  refine g_reg ?_
  refine g_v (v_lss rfl rfl) rfl ?_
  refine g_nil ?_
  refine g_seq ?_
  refine g_cond rfl (fun h10 => ?_) (fun h10 => ?_)
  · obtain ⟨a, ha⟩ : ∃ a, l[k]? = some a := ⟨l[k]'(by simp at h10; omega), by simp at h10; simp⟩
    have hkn : k < l.length := (List.getElem?_eq_some_iff.1 ha).1
    have hkr : k < (rowsA l).length := by rw [rowsA_len]; exact hkn
    have hr := rowsA_at ha
    obtain ⟨hv1, hv2, hv3⟩ := hv a (List.mem_of_getElem? ha)
    refine g_skip ?_
    refine g_seq ?_
    refine g_block ?_
    refine g_seq ?_
    refine g_reg ?_
    refine g_v (v_idxS _ Try.underlying22 Try.sizeOf170 rfl rfl rfl (by assumption) (by assumption)) rfl ?_
    refine g_v (v_loadAS Try.isAgg170 Try.sizeOf170 rfl (by assumption) rfl) rfl ?_
    refine g_l (l_alloc #[I 0, I 0] Try.zeroValue170) rfl ?_
    rintro _ _ ⟨b5, rfl, rfl⟩
    refine g_l0 (l_storeA #[I a.fr, I a.many] Try.sizeOf170 rfl rfl rfl rfl (by decide) rfl) ?_
    rintro _ _ rfl
    refine g_nil ?_
    refine g_seq ?_
    refine g_reg ?_
    refine g_v (v_fieldAddr 1 Try.underlying170 rfl rfl Try.sizeOf3 (by decide) rfl) rfl ?_
    refine g_v (v_load Try.isAgg3 rfl rfl) rfl ?_
    refine g_v (v_move rfl) rfl ?_
    refine g_nil ?_
    rw [mkI_zero (mk (l.take k)) a]
    refine g_block ?_
    refine g_loop (α := Nat) (fun i => (i : Int) ≤ a.many) (fun i => U [(2, ptr b2 0), (3, ptr b3 0), (5, ptr b5 0), (7, sl s l.length cap), (8, I l.length), (9, I k), (14, I a.many), (15, I i)]) (fun i => pt b3 (.cells (bA (mkI (mk (l.take k)) a i)) 34 (0, 0)) :: pt b5 (.cells #[I a.fr, I a.many] 170 (0, 0)) :: pt b2 (.cells (Array.replicate 16 (Bo false)) 34 (0, 0)) :: roL 2 s (rowsA l) :: F) (fun i => a.many.toNat - i) 0 (by simp; omega) [2, 3, 5, 7, 8, 9, 14, 15] rfl rfl ?_
    intro i hi
    refine g_seq ?_
    refine g_reg ?_
    refine g_v (v_lss rfl rfl) rfl ?_
    refine g_nil ?_
    refine g_seq ?_
    refine g_cond rfl (fun h16 => ?_) (fun h16 => ?_)
    · simp at h16
      refine g_skip ?_
      refine g_seq ?_
      refine g_block ?_
      refine g_seq ?_
      refine g_reg ?_
      refine g_v (v_move rfl) rfl ?_
      refine g_v (v_assign rfl) rfl ?_
      refine g_nil ?_
      refine g_reg ?_
      refine g_v (v_fieldAddr 0 Try.underlying170 rfl rfl Try.sizeOf3 (by decide) rfl) rfl ?_
      refine g_v (v_load Try.isAgg3 rfl rfl) rfl ?_
      refine g_v (v_move rfl) rfl ?_
      refine g_v (v_add rfl rfl (w64 (by omega))) rfl ?_
      refine g_v (v_idxA (a.fr + i).toNat Try.underlying34 Try.sizeOf4 rfl rfl (by omega) (by omega)) rfl ?_
      refine g_l0 (l_store (bA (mkI (mk (l.take k)) a (i + 1))) Try.sizeOf4 rfl rfl rfl (by simp [bA, bL]; omega) (by rw [bA_set (by omega), mkI_set (by omega) hv1])) ?_
      rintro _ _ rfl
      refine g_nil ?_
      refine g_blk ?_
      refine g_reg ?_
      refine g_v (v_add rfl rfl (w64 (by omega))) rfl ?_
      refine g_v (v_move rfl) rfl ?_
      refine g_nil ?_
      exact g_again (i + 1) (by omega) (by omega) [2, 3, 5, 7, 8, 9, 14, 15] rfl rfl
    · simp at h16
      obtain rfl : i = a.many.toNat := by omega
      rw [mk_take ha (by omega)]
      refine g_exit rfl ?_
      refine g_blk ?_
      refine g_reg ?_
      refine g_v (v_add rfl rfl (w64 (by omega))) rfl ?_
      refine g_v (v_move rfl) rfl ?_
      refine g_nil ?_
      exact g_again (k + 1) (by omega) (by omega) [2, 3, 7, 8, 9] rfl rfl
  · simp at h10
    obtain rfl : k = l.length := by omega
    rw [List.take_length]
    refine g_exit rfl ?_
    refine g_seq ?_
    refine g_reg ?_
    refine g_v (v_loadA (vs := bL (mk l)) Try.isAgg34 Try.sizeOf34 rfl (bL_len _) bA_load) rfl ?_
    refine g_l0 (l_storeA (bA (mk l)) Try.sizeOf34 rfl rfl (bL_len _) (bL_ones _) (by simp) (splice_all (by simp [bL]))) ?_
    rintro _ _ rfl
    refine g_nil ?_
    exact g_retCA (bL (mk l)) rfl rfl rfl Try.isAgg34 Try.sizeOf34 (bL_len _) bA_load

theorem ct_area_Check (l : List Area) (s : Option Addr) (cap : Nat) (hl : l.length ≤ 1000000) (hok : okA l) (F : List HProp) : Ct Try.prog 15 [sl s l.length cap] ([roL 2 s (rowsA l)] ++ F) (R1 (errV (chkA (-1) l)) (roL 2 s (rowsA l) :: F)) := by
  show Ct Try.prog 15 [sl s l.length cap] (roL 2 s (rowsA l) :: F) _
  refine Ct.of Try.func15 rfl 45 Try.ntmps15 (by simp) fun w0 => ?_
  refine g_seq ?_
  refine g_reg ?_
  refine g_v (v_assign rfl) rfl ?_
  refine g_nil ?_
  refine g_seq ?_
  refine g_reg ?_
  refine g_v (v_assign rfl) rfl ?_
  refine g_nil ?_
  refine g_seq ?_
  refine g_seq ?_
  refine g_reg ?_
  refine g_v (v_move rfl) rfl ?_
  refine g_v (v_len Try.underlying22 rfl) rfl ?_
  refine g_v (v_move rfl) rfl ?_
  refine g_nil ?_
  refine g_block ?_
  refine g_loop (α := Nat × Int) (fun z => z.1 ≤ l.length ∧ ok64 z.2 ∧ chkA (-1) l = chkA z.2 (l.drop z.1)) (fun z => U [(3, I z.2), (6, sl s l.length cap), (7, I l.length), (8, I z.1)]) (fun _ => roL 2 s (rowsA l) :: F) (fun z => l.length - z.1) (0, -1) ⟨by simp, by simp [ok64], rfl⟩ [3, 6, 7, 8] rfl rfl ?_
  rintro ⟨k, e⟩ ⟨hk, hoe, hch⟩
  simp only [] at hk hoe hch ⊢
  refine g_seq ?_
  refine g_reg ?_
  refine g_v (v_lss rfl rfl) rfl ?_
  refine g_nil ?_
  refine g_seq ?_
  refine g_cond rfl (fun h9 => ?_) (fun h9 => ?_)
  · obtain ⟨a, ha⟩ : ∃ a, l[k]? = some a := ⟨l[k]'(by simp at h9; omega), by simp at h9; simp⟩
    have hkn : k < l.length := (List.getElem?_eq_some_iff.1 ha).1
    have hkr : k < (rowsA l).length := by rw [rowsA_len]; exact hkn
    have hr := rowsA_at ha
    obtain ⟨ho1, ho2⟩ := hok a (List.mem_of_getElem? ha)
    simp only [ok64] at ho1 ho2 hoe
    refine g_skip ?_
    refine g_seq ?_
    refine g_block ?_
    refine g_seq ?_
    refine g_reg ?_
    refine g_v (v_idxS _ Try.underlying22 Try.sizeOf170 rfl rfl rfl (by assumption) (by assumption)) rfl ?_
    refine g_v (v_loadAS Try.isAgg170 Try.sizeOf170 rfl (by assumption) rfl) rfl ?_
    refine g_l (l_alloc #[I 0, I 0] Try.zeroValue170) rfl ?_
    rintro _ _ ⟨b5, rfl, rfl⟩
    refine g_l0 (l_storeA #[I a.fr, I a.many] Try.sizeOf170 rfl rfl rfl rfl (by decide) rfl) ?_
    rintro _ _ rfl
    refine g_nil ?_
    refine g_seq ?_
    refine g_seq ?_
    refine g_reg ?_
    refine g_v (v_fieldAddr 0 Try.underlying170 rfl rfl Try.sizeOf3 (by decide) rfl) rfl ?_
    refine g_v (v_load Try.isAgg3 rfl rfl) rfl ?_
    refine g_v (v_lss rfl rfl) rfl ?_
    refine g_v (v_move rfl) rfl ?_
    refine g_gv rfl rfl (fun hg => v_fieldAddr 1 Try.underlying170 rfl rfl Try.sizeOf3 (by decide) rfl) rfl rfl ?_
    refine g_gv rfl rfl (fun hg => v_load Try.isAgg3 rfl rfl) rfl rfl ?_
    refine g_gv rfl rfl (fun hg => v_lss rfl rfl) rfl rfl ?_
    refine g_v (v_or rfl rfl) rfl ?_
    refine g_v (v_move rfl) rfl ?_
    refine g_gv rfl rfl (fun hg => v_fieldAddr 0 Try.underlying170 rfl rfl Try.sizeOf3 (by decide) rfl) rfl rfl ?_
    refine g_gv rfl rfl (fun hg => v_load Try.isAgg3 rfl rfl) rfl rfl ?_
    refine g_gv rfl rfl (fun hg => v_fieldAddr 1 Try.underlying170 rfl rfl Try.sizeOf3 (by decide) rfl) rfl rfl ?_
    refine g_gv rfl rfl (fun hg => v_load Try.isAgg3 rfl rfl) rfl rfl ?_
    refine g_gv rfl rfl (fun hg => v_sub rfl rfl (w64 (by simp at hg; omega))) rfl rfl ?_
    refine g_gv rfl rfl (fun hg => v_gtr rfl rfl) rfl rfl ?_
    refine g_v (v_or rfl rfl) rfl ?_
    refine g_v (v_move rfl) rfl ?_
    refine g_gv rfl rfl (fun hg => v_fieldAddr 1 Try.underlying170 rfl rfl Try.sizeOf3 (by decide) rfl) rfl rfl ?_
    refine g_gv rfl rfl (fun hg => v_load Try.isAgg3 rfl rfl) rfl rfl ?_
    refine g_gv rfl rfl (fun hg => v_gtr rfl rfl) rfl rfl ?_
    refine g_v (v_or rfl rfl) rfl ?_
    refine g_nil ?_
    refine g_cond rfl (fun h32 => ?_) (fun h32 => ?_)
    · try simp at h32
      refine g_seq ?_
      refine g_reg ?_
      refine g_v (v_iface Try.underlying172 rfl rfl) rfl ?_
      refine g_v (v_assign rfl) rfl ?_
      refine g_nil ?_
      refine g_ret1 rfl rfl ?_
      rw [hch, drop_at ha, chkA, if_pos (by omega)]; rfl
    · try simp at h32
      refine g_skip ?_
      refine g_seq ?_
      refine g_seq ?_
      refine g_reg ?_
      refine g_v (v_fieldAddr 0 Try.underlying170 rfl rfl Try.sizeOf3 (by decide) rfl) rfl ?_
      refine g_v (v_load Try.isAgg3 rfl rfl) rfl ?_
      refine g_v (v_move rfl) rfl ?_
      refine g_v (v_leq rfl rfl) rfl ?_
      refine g_nil ?_
      refine g_cond rfl (fun h37 => ?_) (fun h37 => ?_)
      · try simp at h37
        refine g_seq ?_
        refine g_reg ?_
        refine g_v (v_iface Try.underlying172 rfl rfl) rfl ?_
        refine g_v (v_assign rfl) rfl ?_
        refine g_nil ?_
        refine g_ret1 rfl rfl ?_
        rw [hch, drop_at ha, chkA, if_neg (by omega), if_pos (by omega)]; rfl
      · try simp at h37
        refine g_skip ?_
        refine g_reg ?_
        refine g_v (v_fieldAddr 0 Try.underlying170 rfl rfl Try.sizeOf3 (by decide) rfl) rfl ?_
        refine g_v (v_load Try.isAgg3 rfl rfl) rfl ?_
        refine g_v (v_fieldAddr 1 Try.underlying170 rfl rfl Try.sizeOf3 (by decide) rfl) rfl ?_
        refine g_v (v_load Try.isAgg3 rfl rfl) rfl ?_
        refine g_v (v_add rfl rfl (w64 (by omega))) rfl ?_
        refine g_v (v_assign rfl) rfl ?_
        refine g_nil ?_
        refine g_blk ?_
        refine g_reg ?_
        refine g_v (v_add rfl rfl (w64 (by omega))) rfl ?_
        refine g_v (v_move rfl) rfl ?_
        refine g_nil ?_
        exact g_again (k + 1, a.fr + a.many) ⟨by simp; omega, by simp [ok64]; omega, by rw [hch, drop_at ha]; simp only [chkA]; rw [if_neg (by omega), if_neg (by omega)]⟩ (by simp; omega) [3, 6, 7, 8] rfl rfl
  · try simp at h9
    refine g_exit rfl ?_
    refine g_seq ?_
    refine g_reg ?_
    refine g_v (v_assign rfl) rfl ?_
    refine g_nil ?_
    refine g_ret1 rfl rfl ?_
    rw [hch, show l.drop k = [] from List.drop_eq_nil_of_le (by omega)]; rfl

theorem ct_area_of (m : Nat → Bool) (F : List HProp) : Ct Try.prog 124 [.agg (bA m)] ([] ++ F) (RSl 170 2 (ofM m).length (rowsA (ofM m)) F) := by
  show Ct Try.prog 124 [.agg (bA m)] (F) _
  refine Ct.of Try.func124 rfl 50 Try.ntmps124 (by simp) fun w0 => ?_
  refine g_seq ?_
  refine g_reg ?_
  refine g_l (l_box (bA m) rfl rfl) rfl ?_
  rintro _ _ ⟨b1, rfl, rfl⟩
  refine g_v (v_assign rfl) rfl ?_
  refine g_nil ?_
  refine g_seq ?_
  refine g_nilown 170 2 (rowsA (foldP m 0)) rfl ?_
  refine g_reg ?_
  refine g_v (v_assign rfl) rfl ?_
  refine g_nil ?_
  refine g_seq ?_
  refine g_seq ?_
  refine g_reg ?_
  refine g_v (v_assign rfl) rfl ?_
  refine g_nil ?_
  refine g_block ?_
  refine g_loop (α := Nat × Option Addr × Nat) (fun z => z.1 ≤ 16) (fun z => U [(1, ptr b1 0), (3, sl z.2.1 (foldP m z.1).length z.2.2), (4, I z.1)]) (fun z => owL 170 2 z.2.1 z.2.2 (rowsA (foldP m z.1)) :: pt b1 (.cells (bA m) 34 (0, 0)) :: F) (fun z => 16 - z.1) (0, none, 0) (by simp) [1, 3, 4] rfl rfl ?_
  rintro ⟨k, s, cap⟩ hk16
  simp only [] at hk16 ⊢
  have hfk := foldP_ok m k
  refine g_seq ?_
  refine g_seq ?_
  refine g_reg ?_
  refine g_v (v_move rfl) rfl ?_
  refine g_v (v_lss rfl rfl) rfl ?_
  refine g_nil ?_
  refine g_cond rfl (fun h7 => ?_) (fun h7 => ?_)
  · simp at h7
    have hk : k < 16 := by omega
    refine g_skip ?_
    refine g_seq ?_
    refine g_block ?_
    refine g_seq ?_
    refine g_seq ?_
    refine g_reg ?_
    refine g_v (v_move rfl) rfl ?_
    refine g_v (v_idxA k Try.underlying34 Try.sizeOf4 rfl rfl rfl hk) rfl ?_
    refine g_v (v_load Try.isAgg4 rfl (bA_cell hk)) rfl ?_
    refine g_v (v_not rfl) rfl ?_
    refine g_nil ?_
    refine g_cond rfl (fun h13 => ?_) (fun h13 => ?_)
    · simp at h13
      have e : foldP m (k + 1) = foldP m k := by simp [foldP, stepP, h13]
      rw [← e]
      skip
      refine g_exit rfl ?_
      refine g_reg ?_
      refine g_v (v_move rfl) rfl ?_
      refine g_v (v_add rfl rfl (w64 (by omega))) rfl ?_
      refine g_v (v_assign rfl) rfl ?_
      refine g_nil ?_
      exact g_again (k + 1, s, cap) (by simp; omega) (by simp; omega) [1, 3, 4] rfl rfl
    · simp at h13
      obtain ⟨hfl, hfo⟩ := hfk
      have e : foldP m (k + 1) = stepP m k (foldP m k) := rfl
      generalize hlp : foldP m k = lp at *
      unfold stepP at e
      rw [if_pos h13] at e
      refine g_skip ?_
      refine g_seq ?_
      refine g_reg ?_
      refine g_v (v_move rfl) rfl ?_
      refine g_v (v_len Try.underlying22 rfl) rfl ?_
      refine g_v (v_assign rfl) rfl ?_
      refine g_nil ?_
      refine g_seq ?_
      refine g_drawL [(0, false), (1, false), (2, false), (3, false), (4, false), (5, false), (6, false), (7, false), (8, false), (9, false), (10, false), (11, false), (12, false), (13, false), (14, false), (15, false), (16, false), (17, false), (18, false)] (by kernel_rfl) (by kernel_rfl) rfl (by kernel_rfl) ?_
      refine d_v rfl (v_move rfl) rfl ?_
      refine d_v rfl (v_gtr rfl rfl) rfl ?_
      refine d_v rfl (v_move rfl) rfl ?_
      refine d_gv rfl rfl rfl (fun hg => v_move rfl) rfl rfl ?_
      refine d_gv rfl rfl rfl (fun hg => v_move rfl) rfl rfl ?_
      refine d_gv rfl rfl rfl (fun hg => v_sub rfl rfl (w64 (by simp at hg; omega))) rfl rfl ?_
      refine d_gv rfl rfl rfl (fun hg => v_idxS (lp.length - 1) Try.underlying22 Try.sizeOf170 rfl rfl (by simp at hg; omega) (by simp at hg; omega) (by rw [rowsA_len]; simp at hg; omega)) rfl rfl ?_
      refine d_gv rfl rfl rfl (fun hg => v_fieldAdrS (j := 0) 0 Try.underlying170 rfl rfl Try.sizeOf3 (by decide) rfl (by rw [rowsA_len]; simp at hg; omega)) rfl rfl ?_
      refine d_gv rfl rfl rfl (fun hg => v_loadS Try.isAgg3 rfl (rowsA_at (lastA_at (by simp at hg; omega))) rfl) rfl rfl ?_
      refine d_gv rfl rfl rfl (fun hg => v_move rfl) rfl rfl ?_
      refine d_gv rfl rfl rfl (fun hg => v_move rfl) rfl rfl ?_
      refine d_gv rfl rfl rfl (fun hg => v_sub rfl rfl (w64 (by simp at hg; omega))) rfl rfl ?_
      refine d_gv rfl rfl rfl (fun hg => v_idxS (lp.length - 1) Try.underlying22 Try.sizeOf170 rfl rfl (by simp at hg; omega) (by simp at hg; omega) (by rw [rowsA_len]; simp at hg; omega)) rfl rfl ?_
      refine d_gv rfl rfl rfl (fun hg => v_fieldAdrS (j := 0) 1 Try.underlying170 rfl rfl Try.sizeOf3 (by decide) rfl (by rw [rowsA_len]; simp at hg; omega)) rfl rfl ?_
      refine d_gv rfl rfl rfl (fun hg => v_loadS Try.isAgg3 rfl (rowsA_at (lastA_at (by simp at hg; omega))) rfl) rfl rfl ?_
      refine d_gv rfl rfl rfl (fun hg => v_add rfl rfl (w64 (by have := hfo _ (List.mem_of_getElem? (lastA_at (by simp at hg; omega))); omega))) rfl rfl ?_
      refine d_gv rfl rfl rfl (fun hg => v_move rfl) rfl rfl ?_
      refine d_gv rfl rfl rfl (fun hg => v_eql rfl rfl) rfl rfl ?_
      refine d_v rfl (v_and rfl rfl) rfl ?_
      refine d_nil ?_
      refine g_cond rfl (fun h34 => ?_) (fun h34 => ?_)
      · simp at h34
        rw [if_pos (by omega)] at e
        have hla := lastA_at (l := lp) (by omega)
        have hlo := hfo _ (List.mem_of_getElem? hla)
        refine g_reg ?_
        refine g_v (v_move rfl) rfl ?_
        refine g_v (v_move rfl) rfl ?_
        refine g_v (v_sub rfl rfl (w64 (by omega))) rfl ?_
        refine g_v (v_idxS (lp.length - 1) Try.underlying22 Try.sizeOf170 rfl rfl (by omega) (by omega) (by rw [rowsA_len]; omega)) rfl ?_
        refine g_v (v_fieldAdrS (j := 0) 1 Try.underlying170 rfl rfl Try.sizeOf3 (by decide) rfl (by rw [rowsA_len]; omega)) rfl ?_
        refine g_v (v_loadS Try.isAgg3 rfl (rowsA_at hla) rfl) rfl ?_
        refine g_v (v_add rfl rfl (w64 (by omega))) rfl ?_
        refine g_v (v_idxS (lp.length - 1) Try.underlying22 Try.sizeOf170 rfl rfl (by omega) (by omega) (by rw [rowsA_len]; omega)) rfl ?_
        refine g_v (v_fieldAdrS (j := 0) 1 Try.underlying170 rfl rfl Try.sizeOf3 (by decide) rfl (by rw [rowsA_len]; omega)) rfl ?_
        refine g_l0 (l_storeS (row := encA (lastA lp)) Try.sizeOf3 rfl rfl rfl (rowsA_at hla) (by decide)) ?_
        rintro _ _ rfl
        rw [rowsA_set, ← e]
        refine g_nil ?_
        refine g_blk ?_
        refine g_reg ?_
        refine g_v (v_move rfl) rfl ?_
        refine g_v (v_add rfl rfl (w64 (by omega))) rfl ?_
        refine g_v (v_assign rfl) rfl ?_
        refine g_nil ?_
        exact g_again (k + 1, s, cap) (by simp; omega) (by simp; omega) [1, 3, 4] rfl (by simp [U, e])
      · have hn34 : ¬ (0 < lp.length ∧ (lastA lp).fr + (lastA lp).many = k) := by simp at h34; omega
        rw [if_neg hn34] at e
        refine g_reg ?_
        refine g_v (v_move rfl) rfl ?_
        refine g_v (v_move rfl) rfl ?_
        refine g_v (v_build rfl (bld170_0_1 _ rfl _ rfl)) rfl ?_
        refine g_l (l_buildSlice [[I k, I 1]] Try.underlying22 Try.sizeOf170 Try.zeroValue170 rfl rfl rfl (by simp) (by decide) (by decide)) rfl ?_
        rintro _ _ ⟨b47, rfl, rfl⟩
        refine g_l (l_append Try.underlying22 Try.sizeOf170 Try.zeroValue170 rfl Try.typeInfo170 (by decide) rfl rfl (rowsA_len _) rfl (by simp) (by simp [ones, one]) ⟨by omega, by decide, by decide⟩) rfl ?_
        rintro _ _ ⟨s48, c48, rfl, rfl⟩
        rw [rowsA_app, ← e]
        refine g_v (v_assign rfl) rfl ?_
        refine g_nil ?_
        refine g_blk ?_
        refine g_reg ?_
        refine g_v (v_move rfl) rfl ?_
        refine g_v (v_add rfl rfl (w64 (by omega))) rfl ?_
        refine g_v (v_assign rfl) rfl ?_
        refine g_nil ?_
        exact g_again (k + 1, s48, c48) (by simp; omega) (by simp; omega) [1, 3, 4] rfl (by simp [U, e])
  · simp at h7
    obtain rfl : k = 16 := by omega
    refine g_exit rfl ?_
    refine g_seq ?_
    refine g_reg ?_
    refine g_v (v_move rfl) rfl ?_
    refine g_v (v_assign rfl) rfl ?_
    refine g_nil ?_
    exact g_retSl rfl rfl rfl rfl

end Go.Proofs.Ythdjckbjjfiopaa
