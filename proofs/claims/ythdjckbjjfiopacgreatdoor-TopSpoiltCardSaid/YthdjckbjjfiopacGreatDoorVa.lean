/- Walks through package vault. No condition. -/
import Derived.Test.YthdjckbjjfiopacGreatDoorVaM
namespace Go.Proofs.YthdjckbjjfiopacGreatDoor
open Go.Sl Go.Proofs
set_option linter.unusedVariables false
set_option linter.unusedSimpArgs false
theorem eraseF (l : List Pt) (id : Int) {i : Nat} (hno : ∀ j, j < i → ∀ t, l[j]? = some t → t.id ≠ id) {s : Pt} (hs : l[i]? = some s) (he : s.id = id) : (l.take (i + 1)).filter (fun x => !decide (x.id = id)) = l.take i := by
  have hi := (List.getElem?_eq_some_iff.1 hs).1
  rw [List.take_add_one, hs, List.filter_append]
  have h1 : (l.take i).filter (fun x => !decide (x.id = id)) = l.take i := List.filter_eq_self.2 fun a ha => by
    obtain ⟨j, hj, rfl⟩ := List.mem_iff_getElem.1 ha
    have := hno j (by simp at hj; omega) (l.take i)[j] (by simp at hj ⊢)
    simpa using this
  rw [h1]
  simp [he]
/-- the state of DeleteFunc: so many of the first j are kept and stand in front -/
structure Dl (l R : List Pt) (id : Int) (w j : Nat) : Prop where
  len : R.length = l.length
  lj : j ≤ l.length
  lw : w ≤ j
  pre : R.take w = (l.take j).filter fun x => !decide (x.id = id)
  suf : R.drop j = l.drop j
theorem Dl_at {l R : List Pt} {id : Int} {w j : Nat} (h : Dl l R id w j) {x : Pt} (hx : R[j]? = some x) : l[j]? = some x := by
  have h1 : (R.drop j)[0]? = some x := by simpa using hx
  rw [h.suf] at h1
  simpa using h1
theorem Dl_skip {l R : List Pt} {id : Int} {w j : Nat} (h : Dl l R id w j) {x : Pt} (hx : R[j]? = some x) (hid : x.id = id) : Dl l R id w (j + 1) := by
  have hl := Dl_at h hx
  have hj := (List.getElem?_eq_some_iff.1 hl).1
  refine ⟨h.len, hj, by have := h.lw; omega, ?_, ?_⟩
  · rw [List.take_add_one, hl, List.filter_append, h.pre]; simp [hid]
  · rw [← List.drop_drop, ← List.drop_drop, h.suf]
theorem Dl_keep {l R : List Pt} {id : Int} {w j : Nat} (h : Dl l R id w j) (hwj : w < j) {x : Pt} (hx : R[j]? = some x) (hid : x.id ≠ id) : Dl l (R.set w x) id (w + 1) (j + 1) := by
  have hl := Dl_at h hx
  have hj := (List.getElem?_eq_some_iff.1 hl).1
  have hlen := h.len
  refine ⟨by simp [hlen], hj, by omega, ?_, ?_⟩
  · rw [List.take_add_one (l := l), hl, List.filter_append, ← h.pre, List.take_add_one, List.take_set_of_le (Nat.le_refl _), List.getElem?_set_self (by omega)]
    simp [hid]
  · rw [List.drop_set_of_lt (by omega), ← List.drop_drop, ← List.drop_drop, h.suf]
theorem Dl_end {l R : List Pt} {id : Int} {w : Nat} (h : Dl l R id w l.length) : R.take w = l.filter fun x => !decide (x.id = id) := by rw [h.pre, List.take_length]
theorem filter_none {l : List Pt} {id : Int} (hno : ∀ j, j < l.length → ∀ t, l[j]? = some t → t.id ≠ id) : l.filter (fun x => !decide (x.id = id)) = l := List.filter_eq_self.2 fun a ha => by
  obtain ⟨j, hj, rfl⟩ := List.mem_iff_getElem.1 ha
  have := hno j hj l[j] (List.getElem?_eq_getElem hj)
  simpa using this
theorem ptI_neg {l : List Pt} {id : Int} (h : ptI l id < 0) : ∀ j, j < l.length → ∀ t, l[j]? = some t → t.id ≠ id := fun j hj t ht he => by
  unfold ptI at h
  split at h
  · omega
  · rename_i hl
    exact hl (List.findIdx_lt_length_of_exists ⟨t, List.mem_of_getElem? ht, by simpa using he⟩)
theorem ptI_neg1 {l : List Pt} {id : Int} (h : ptI l id < 0) : ptI l id = -1 := ptI_none (ptI_neg h)
theorem Dl_start {l : List Pt} {id : Int} {i : Nat} (hno : ∀ j, j < i → ∀ t, l[j]? = some t → t.id ≠ id) {s : Pt} (hs : l[i]? = some s) (he : s.id = id) : Dl l l id i (i + 1) :=
  ⟨rfl, (List.getElem?_eq_some_iff.1 hs).1, by omega, (eraseF l id hno hs he).symm, rfl⟩
theorem ptR_set (l : List Pt) (w : Nat) (x : Pt) : (ptR l).set w (encPt x) = ptR (l.set w x) := by simp [ptR, List.map_set]
theorem ptR_take (l : List Pt) (w : Nat) : (ptR l).take w = ptR (l.take w) := by simp [ptR, List.map_take]
theorem bldV (x : Nat) (w : World) : (Instr.build 47 #[(0, ptr x 0), (2, I 1)]).run Tryz.prog w = .ok (.agg #[ptr x 0, sl none 0 0, I 1]) w := by
  simp [Instr.build, Tryz.zeroValue47, Tryz.runUnderlying47, Tryz.sizeOf3, Tryz.sizeOf44, Tryz.sizeOf45, Instr.fill, cells_agg, show (I 1).cells = #[I 1] from rfl, show (ptr x 0).cells = #[ptr x 0] from rfl, sl]
theorem bldV3 (x : Nat) (s : Option Addr) (n c : Nat) (k : Int) (w : World) : (Instr.build 47 #[(0, ptr x 0), (1, sl s n c), (2, I k)]).run Tryz.prog w = .ok (.agg #[ptr x 0, sl s n c, I k]) w := by
  simp [Instr.build, Tryz.zeroValue47, Tryz.runUnderlying47, Tryz.sizeOf3, Tryz.sizeOf44, Tryz.sizeOf45, Instr.fill, cells_agg, show (I k).cells = #[I k] from rfl, show (ptr x 0).cells = #[ptr x 0] from rfl, show (sl s n c).cells = #[sl s n c] from rfl]
theorem bldPt (a b c d : Int) (w : World) : (Instr.build 55 #[(0, I a), (1, I b), (2, I c), (3, I d)]).run Tryz.prog w = .ok (.agg (encPt ⟨a, b, c, d⟩).toArray) w := by
  simp [Instr.build, Tryz.zeroValue55, Tryz.runUnderlying55, Tryz.sizeOf3, Instr.fill, cells_agg, show ∀ k : Int, (I k).cells = #[I k] from fun _ => rfl]
theorem bldPt0 (w : World) : (Instr.build 55 #[]).run Tryz.prog w = .ok (.agg (encPt pt0).toArray) w := by
  simp [Instr.build, Tryz.zeroValue55, Tryz.runUnderlying55, Instr.fill, cells_agg, pt0]
theorem drop_cons {α : Type} {l : List α} {k : Nat} {x : α} (h : l[k]? = some x) : l.drop k = x :: l.drop (k + 1) := by
  obtain ⟨hk, e⟩ := List.getElem?_eq_some_iff.1 h
  rw [← e]; exact List.drop_eq_getElem_cons hk
theorem range_cons {a m : Nat} (h : a < m) : List.range' a (m - a) = a :: List.range' (a + 1) (m - (a + 1)) := by
  rw [show m - a = (m - (a + 1)) + 1 by omega, List.range'_succ]
theorem range_nil {a m : Nat} (h : m ≤ a) : List.range' a (m - a) = [] := by rw [show m - a = 0 by omega]; rfl

theorem ct_vault_Find1 (x : Pt) (q : Nat) (id : Int) (F : List HProp) : Ct Tryz.prog 70 [.agg (encPt x).toArray, ptr q 0] ([pt q (.cells #[I id] 3 (0, 0))] ++ F) (R1 (Bo (decide (x.id = id))) (pt q (.cells #[I id] 3 (0, 0)) :: F)) := by
  show Ct Tryz.prog 70 [.agg (encPt x).toArray, ptr q 0] (pt q (.cells #[I id] 3 (0, 0)) :: F) _
  refine Ct.of Tryz.func70 rfl 8 Tryz.ntmps70 (by simp) fun w0 => ?_
  refine g_seq ?_
  refine g_reg ?_
  refine g_l (l_box (encPt x).toArray rfl rfl) rfl ?_
  rintro _ _ ⟨b2, rfl, rfl⟩
  refine g_v (v_assign rfl) rfl ?_
  refine g_nil ?_
  refine g_seq ?_
  refine g_reg ?_
  refine g_v (v_fieldAddr 0 Tryz.underlying55 rfl rfl Tryz.sizeOf3 (by decide) rfl) rfl ?_
  refine g_v (v_load (v := I x.id) Tryz.isAgg3 rfl rfl) rfl ?_
  refine g_v (v_load (v := I id) Tryz.isAgg3 rfl rfl) rfl ?_
  refine g_v (v_eql rfl rfl) rfl ?_
  refine g_v (v_assign rfl) rfl ?_
  refine g_nil ?_
  refine g_ret1 rfl rfl ?_
  exact rfl

theorem ct_vault_Drop1 (x : Pt) (q : Nat) (id : Int) (F : List HProp) : Ct Tryz.prog 52 [.agg (encPt x).toArray, ptr q 0] ([pt q (.cells #[I id] 3 (0, 0))] ++ F) (R1 (Bo (decide (x.id = id))) (pt q (.cells #[I id] 3 (0, 0)) :: F)) := by
  show Ct Tryz.prog 52 [.agg (encPt x).toArray, ptr q 0] (pt q (.cells #[I id] 3 (0, 0)) :: F) _
  refine Ct.of Tryz.func52 rfl 8 Tryz.ntmps52 (by simp) fun w0 => ?_
  refine g_seq ?_
  refine g_reg ?_
  refine g_l (l_box (encPt x).toArray rfl rfl) rfl ?_
  rintro _ _ ⟨b2, rfl, rfl⟩
  refine g_v (v_assign rfl) rfl ?_
  refine g_nil ?_
  refine g_seq ?_
  refine g_reg ?_
  refine g_v (v_fieldAddr 0 Tryz.underlying55 rfl rfl Tryz.sizeOf3 (by decide) rfl) rfl ?_
  refine g_v (v_load (v := I x.id) Tryz.isAgg3 rfl rfl) rfl ?_
  refine g_v (v_load (v := I id) Tryz.isAgg3 rfl rfl) rfl ?_
  refine g_v (v_eql rfl rfl) rfl ?_
  refine g_v (v_assign rfl) rfl ?_
  refine g_nil ?_
  refine g_ret1 rfl rfl ?_
  exact rfl

theorem ct_IndexFunc_ptFind (l : List Pt) (s : Option Addr) (c q : Nat) (id : Int) (hl : l.length ≤ 1000000) (F : List HProp) : Ct Tryz.prog 69 [sl s l.length c, .func (.func 70) #[] #[ptr q 0]] ([owL 55 4 s c (ptR (l)), pt q (.cells #[I id] 3 (0, 0))] ++ F) (R1 (I (ptI l id)) (owL 55 4 s c (ptR (l)) :: pt q (.cells #[I id] 3 (0, 0)) :: F)) := by
  show Ct Tryz.prog 69 [sl s l.length c, .func (.func 70) #[] #[ptr q 0]] (owL 55 4 s c (ptR (l)) :: pt q (.cells #[I id] 3 (0, 0)) :: F) _
  refine Ct.of Tryz.func69 rfl 19 Tryz.ntmps69 (by simp) fun w0 => ?_
  refine g_seq ?_
  refine g_reg ?_
  refine g_v (v_assign rfl) rfl ?_
  refine g_nil ?_
  refine g_seq ?_
  refine g_seq ?_
  refine g_reg ?_
  refine g_v (v_move rfl) rfl ?_
  refine g_v (v_len Tryz.underlying45 rfl) rfl ?_
  refine g_v (v_move rfl) rfl ?_
  refine g_nil ?_
  refine g_block ?_
  refine g_loop (α := Nat) (fun k => k ≤ l.length ∧ ∀ j, j < k → ∀ t, l[j]? = some t → t.id ≠ id) (fun k => U [(0, sl s l.length c), (1, .func (.func 70) #[] #[ptr q 0]), (7, I l.length), (8, I k)]) (fun _ => owL 55 4 s c (ptR (l)) :: pt q (.cells #[I id] 3 (0, 0)) :: F) (fun k => l.length - k) 0 ⟨by simp, fun j hj => absurd hj (by omega)⟩ [0, 1, 7, 8] rfl rfl ?_
  rintro k ⟨hk, hno⟩
  refine g_seq ?_
  refine g_reg ?_
  refine g_v (v_lss rfl rfl) rfl ?_
  refine g_nil ?_
  refine g_seq ?_
  refine g_cond rfl (fun h9 => ?_) (fun h9 => ?_)
  · simp at h9
    have hkn : k < l.length := by omega
    obtain ⟨x, hx⟩ : ∃ x, l[k]? = some x := ⟨_, List.getElem?_eq_getElem hkn⟩
    refine g_skip ?_
    refine g_seq ?_
    refine g_block ?_
    refine g_seq ?_
    refine g_reg ?_
    refine g_v (v_move rfl) rfl ?_
    refine g_v (v_assign rfl) rfl ?_
    refine g_nil ?_
    refine g_seq ?_
    refine g_reg ?_
    refine g_v (v_move rfl) rfl ?_
    refine g_v (v_move rfl) rfl ?_
    refine g_v (v_move rfl) rfl ?_
    refine g_v (v_idxS (k) Tryz.underlying45 Tryz.sizeOf55 rfl rfl rfl hkn (by rw [ptR_len]; exact hkn)) rfl ?_
    refine g_v (v_loadAS (row := encPt x) Tryz.isAgg55 Tryz.sizeOf55 rfl (ptR_at hx) rfl) rfl ?_
    refine g_l (l_callV (fi := []) (cap := [ptr q 0]) (Pre := [pt q (.cells #[I id] 3 (0, 0))]) Tryz.call70 rfl rfl (ct_vault_Find1 x q id)) rfl ?_
    rintro _ _ ⟨rfl, rfl⟩
    refine g_nil ?_
    refine g_cond rfl (fun h16 => ?_) (fun h16 => ?_)
    · simp at h16
      refine g_seq ?_
      refine g_reg ?_
      refine g_v (v_move rfl) rfl ?_
      refine g_v (v_assign rfl) rfl ?_
      refine g_nil ?_
      refine g_ret1 rfl rfl ?_
      show I _ = I _
      rw [ptI_hit hno hx h16]
    · simp at h16
      refine g_skip ?_
      refine g_blk ?_
      refine g_reg ?_
      refine g_v (v_add rfl rfl (w64 (by omega))) rfl ?_
      refine g_v (v_move rfl) rfl ?_
      refine g_nil ?_
      exact g_again (k + 1) ⟨by omega, fun j hj t ht => by
          rcases Nat.lt_or_ge j k with h | h
          · exact hno j h t ht
          · obtain rfl : j = k := by omega
            rw [hx] at ht
            injection ht with ht
            rw [← ht]
            exact h16⟩ (by omega) [0, 1, 7, 8] rfl rfl
  · simp at h9
    obtain rfl : k = l.length := by omega
    refine g_exit rfl ?_
    refine g_seq ?_
    refine g_reg ?_
    refine g_v (v_assign rfl) rfl ?_
    refine g_nil ?_
    refine g_ret1 rfl rfl ?_
    show I _ = I _
    rw [ptI_none hno]

theorem ct_IndexFunc_ptDrop (l : List Pt) (s : Option Addr) (c q : Nat) (id : Int) (hl : l.length ≤ 1000000) (F : List HProp) : Ct Tryz.prog 69 [sl s l.length c, .func (.func 52) #[] #[ptr q 0]] ([owL 55 4 s c (ptR (l)), pt q (.cells #[I id] 3 (0, 0))] ++ F) (R1 (I (ptI l id)) (owL 55 4 s c (ptR (l)) :: pt q (.cells #[I id] 3 (0, 0)) :: F)) := by
  show Ct Tryz.prog 69 [sl s l.length c, .func (.func 52) #[] #[ptr q 0]] (owL 55 4 s c (ptR (l)) :: pt q (.cells #[I id] 3 (0, 0)) :: F) _
  refine Ct.of Tryz.func69 rfl 19 Tryz.ntmps69 (by simp) fun w0 => ?_
  refine g_seq ?_
  refine g_reg ?_
  refine g_v (v_assign rfl) rfl ?_
  refine g_nil ?_
  refine g_seq ?_
  refine g_seq ?_
  refine g_reg ?_
  refine g_v (v_move rfl) rfl ?_
  refine g_v (v_len Tryz.underlying45 rfl) rfl ?_
  refine g_v (v_move rfl) rfl ?_
  refine g_nil ?_
  refine g_block ?_
  refine g_loop (α := Nat) (fun k => k ≤ l.length ∧ ∀ j, j < k → ∀ t, l[j]? = some t → t.id ≠ id) (fun k => U [(0, sl s l.length c), (1, .func (.func 52) #[] #[ptr q 0]), (7, I l.length), (8, I k)]) (fun _ => owL 55 4 s c (ptR (l)) :: pt q (.cells #[I id] 3 (0, 0)) :: F) (fun k => l.length - k) 0 ⟨by simp, fun j hj => absurd hj (by omega)⟩ [0, 1, 7, 8] rfl rfl ?_
  rintro k ⟨hk, hno⟩
  refine g_seq ?_
  refine g_reg ?_
  refine g_v (v_lss rfl rfl) rfl ?_
  refine g_nil ?_
  refine g_seq ?_
  refine g_cond rfl (fun h9 => ?_) (fun h9 => ?_)
  · simp at h9
    have hkn : k < l.length := by omega
    obtain ⟨x, hx⟩ : ∃ x, l[k]? = some x := ⟨_, List.getElem?_eq_getElem hkn⟩
    refine g_skip ?_
    refine g_seq ?_
    refine g_block ?_
    refine g_seq ?_
    refine g_reg ?_
    refine g_v (v_move rfl) rfl ?_
    refine g_v (v_assign rfl) rfl ?_
    refine g_nil ?_
    refine g_seq ?_
    refine g_reg ?_
    refine g_v (v_move rfl) rfl ?_
    refine g_v (v_move rfl) rfl ?_
    refine g_v (v_move rfl) rfl ?_
    refine g_v (v_idxS (k) Tryz.underlying45 Tryz.sizeOf55 rfl rfl rfl hkn (by rw [ptR_len]; exact hkn)) rfl ?_
    refine g_v (v_loadAS (row := encPt x) Tryz.isAgg55 Tryz.sizeOf55 rfl (ptR_at hx) rfl) rfl ?_
    refine g_l (l_callV (fi := []) (cap := [ptr q 0]) (Pre := [pt q (.cells #[I id] 3 (0, 0))]) Tryz.call52 rfl rfl (ct_vault_Drop1 x q id)) rfl ?_
    rintro _ _ ⟨rfl, rfl⟩
    refine g_nil ?_
    refine g_cond rfl (fun h16 => ?_) (fun h16 => ?_)
    · simp at h16
      refine g_seq ?_
      refine g_reg ?_
      refine g_v (v_move rfl) rfl ?_
      refine g_v (v_assign rfl) rfl ?_
      refine g_nil ?_
      refine g_ret1 rfl rfl ?_
      show I _ = I _
      rw [ptI_hit hno hx h16]
    · simp at h16
      refine g_skip ?_
      refine g_blk ?_
      refine g_reg ?_
      refine g_v (v_add rfl rfl (w64 (by omega))) rfl ?_
      refine g_v (v_move rfl) rfl ?_
      refine g_nil ?_
      exact g_again (k + 1) ⟨by omega, fun j hj t ht => by
          rcases Nat.lt_or_ge j k with h | h
          · exact hno j h t ht
          · obtain rfl : j = k := by omega
            rw [hx] at ht
            injection ht with ht
            rw [← ht]
            exact h16⟩ (by omega) [0, 1, 7, 8] rfl rfl
  · simp at h9
    obtain rfl : k = l.length := by omega
    refine g_exit rfl ?_
    refine g_seq ?_
    refine g_reg ?_
    refine g_v (v_assign rfl) rfl ?_
    refine g_nil ?_
    refine g_ret1 rfl rfl ?_
    show I _ = I _
    rw [ptI_none hno]

theorem ct_Clone_pt (l : List Pt) (s : Option Addr) (c : Nat) (hl : l.length ≤ 1000000) (F : List HProp) : Ct Tryz.prog 45 [sl s l.length c] ([owL 55 4 s c (ptR (l))] ++ F) (RSl 55 4 l.length (ptR l) (owL 55 4 s c (ptR (l)) :: F)) := by
  show Ct Tryz.prog 45 [sl s l.length c] (owL 55 4 s c (ptR (l)) :: F) _
  refine Ct.of Tryz.func45 rfl 8 Tryz.ntmps45 (by simp) fun w0 => ?_
  refine g_fact (φ := s = none → l = []) (fun w hS hn => by
    rcases owL_open hS with ⟨_, h, _, _⟩ | ⟨b, cs, h, _⟩
    · exact List.map_eq_nil_iff.1 h
    · rw [hn] at h; cases h) (fun hnil => ?_)
  refine g_seq ?_
  refine g_reg ?_
  refine g_v (v_assign rfl) rfl ?_
  refine g_nil ?_
  refine g_seq ?_
  refine g_seq ?_
  refine g_reg ?_
  refine g_v (v_move rfl) rfl ?_
  refine g_v (v_slEq Tryz.underlying45 rfl) rfl ?_
  refine g_nil ?_
  refine g_cond rfl (fun h4 => ?_) (fun h4 => ?_)
  · have hl0 := hnil (by simpa using h4)
    subst hl0
    refine g_nilown 55 4 (ptR []) rfl ?_
    refine g_seq ?_
    refine g_reg ?_
    refine g_v (v_assign rfl) rfl ?_
    refine g_nil ?_
    exact g_retSl rfl rfl rfl rfl
  · skip
    refine g_skip ?_
    refine g_seq ?_
    refine g_reg ?_
    refine g_l (l_build0 Tryz.underlying45 Tryz.sizeOf55) rfl ?_
    rintro _ _ ⟨b5, rfl, rfl⟩
    refine g_v (v_move rfl) rfl ?_
    refine g_l (l_append Tryz.underlying45 Tryz.sizeOf55 Tryz.zeroValue55 rfl Tryz.typeInfo55 (by decide) rfl rfl rfl (ptR_len l) (by simp [ptR]) (by simp [ptR, Go.Sl.ones, Go.Sl.one]) ⟨by omega, by decide, by decide⟩) rfl ?_
    rintro _ _ ⟨s7, c7, rfl, rfl⟩
    rw [Nat.zero_add]
    simp only [List.nil_append]
    refine g_v (v_assign rfl) rfl ?_
    refine g_nil ?_
    exact g_retSl rfl rfl rfl rfl

theorem ct_vault_New  (F : List HProp) : Ct Tryz.prog 41 [] ([] ++ F) (fun v L' => ∃ b, v = ptr b 0 ∧ L' = vlt b (mkG gZ) [] 1 :: F) := by
  show Ct Tryz.prog 41 [] (F) _
  refine Ct.of Tryz.func41 rfl 4 Tryz.ntmps41 (by simp) fun w0 => ?_
  refine g_seq ?_
  refine g_reg ?_
  refine g_v (v_assign rfl) rfl ?_
  refine g_nil ?_
  refine g_seq ?_
  refine g_reg ?_
  refine g_l (l_call (Pre := []) Tryz.call58 rfl (ct_index_New)) rfl ?_
  rintro _ _ ⟨x, rfl, rfl⟩
  rw [← gZ_mk]
  refine g_v (v_build rfl (bldV x)) rfl ?_
  refine g_l (l_box #[ptr x 0, sl none 0 0, I 1] rfl rfl) rfl ?_
  rintro _ _ ⟨b3, rfl, rfl⟩
  refine g_v (v_assign rfl) rfl ?_
  refine g_nil ?_
  refine g_nilown 55 4 (ptR []) rfl ?_
  refine g_shutV b3 x none 0 (mkG gZ) [] 1 ?_
  exact fun a w hE hS => wp_ret (kq_ret (res_fpost (vs := [ptr b3 0]) rfl hE hS ⟨b3, rfl, rfl⟩))

theorem ct_vault_Vault_Find (b : Nat) (S : SI) (L : List Pt) (n : Int) (id : Int) (hl : L.length ≤ 1000000) (F : List HProp) : Ct Tryz.prog 33 [ptr b 0, I id] ([vlt b S L n] ++ F) (R1 (.tuple #[.agg (encPt ((findP L id).getD pt0)).toArray, Bo (findP L id).isSome]) (vlt b S L n :: F)) := by
  show Ct Tryz.prog 33 [ptr b 0, I id] (vlt b S L n :: F) _
  refine Ct.of Tryz.func33 rfl 23 Tryz.ntmps33 (by simp) fun w0 => ?_
  refine g_openV b S L n ?_
  intro x s c
  refine g_seq ?_
  refine g_reg ?_
  refine g_l (l_box #[I id] rfl rfl) rfl ?_
  rintro _ _ ⟨b3, rfl, rfl⟩
  refine g_l (l_alloc #[I 0, I 0, I 0, I 0] Tryz.zeroValue55) rfl ?_
  rintro _ _ ⟨b4, rfl, rfl⟩
  refine g_v (v_assign rfl) rfl ?_
  refine g_nil ?_
  refine g_seq ?_
  refine g_reg ?_
  refine g_v (v_move rfl) rfl ?_
  refine g_v (v_nilCheck rfl) rfl ?_
  refine g_v (v_fieldAddr 1 Tryz.underlying47 rfl rfl Tryz.sizeOf45 (by decide) rfl) rfl ?_
  refine g_v (v_load (v := sl s (L).length c) Tryz.isAgg45 rfl rfl) rfl ?_
  refine g_v (v_makeFunc rfl rfl) rfl ?_
  refine g_l (l_call (Pre := [owL 55 4 s c (ptR (L)), pt b3 (.cells #[I id] 3 (0, 0))]) Tryz.call69 rfl (ct_IndexFunc_ptFind L s c b3 id hl)) rfl ?_
  rintro _ _ ⟨rfl, rfl⟩
  refine g_v (v_assign rfl) rfl ?_
  refine g_nil ?_
  refine g_seq ?_
  refine g_seq ?_
  refine g_reg ?_
  refine g_v (v_move rfl) rfl ?_
  refine g_v (v_lss rfl rfl) rfl ?_
  refine g_nil ?_
  refine g_cond rfl (fun h14 => ?_) (fun h14 => ?_)
  · simp at h14
    have hf : findP L id = none := findP_none h14
    rw [hf]
    refine g_seq ?_
    refine g_reg ?_
    refine g_v (v_build rfl bldPt0) rfl ?_
    refine g_l0 (l_storeA (cs := #[I 0, I 0, I 0, I 0]) (vs := encPt (pt0)) (encPt (pt0)).toArray Tryz.sizeOf55 rfl rfl rfl rfl (by simp) (splice_whole rfl)) ?_
    rintro _ _ rfl
    refine g_v (v_assign rfl) rfl ?_
    refine g_nil ?_
    refine g_shutV b x s c (S) (L) (n) ?_
    exact g_retCT (encPt pt0) rfl rfl rfl rfl Tryz.isAgg55 Tryz.sizeOf55 rfl arr_ld
  · simp at h14
    obtain ⟨i, p, hi, hp, hid, hil, hf, _⟩ := ptI_pos (l := L) (id := id) (by omega)
    rw [hi, hf]
    refine g_skip ?_
    refine g_seq ?_
    refine g_reg ?_
    refine g_v (v_move rfl) rfl ?_
    refine g_v (v_nilCheck rfl) rfl ?_
    refine g_v (v_fieldAddr 1 Tryz.underlying47 rfl rfl Tryz.sizeOf45 (by decide) rfl) rfl ?_
    refine g_v (v_load (v := sl s (L).length c) Tryz.isAgg45 rfl rfl) rfl ?_
    refine g_v (v_move rfl) rfl ?_
    refine g_v (v_idxS (i) Tryz.underlying45 Tryz.sizeOf55 rfl rfl rfl hil (by rw [ptR_len]; exact hil)) rfl ?_
    refine g_v (v_loadAS (row := encPt p) Tryz.isAgg55 Tryz.sizeOf55 rfl (ptR_at hp) rfl) rfl ?_
    refine g_l0 (l_storeA (cs := #[I 0, I 0, I 0, I 0]) (vs := encPt (p)) (encPt (p)).toArray Tryz.sizeOf55 rfl rfl rfl rfl (by simp) (splice_whole rfl)) ?_
    rintro _ _ rfl
    refine g_v (v_assign rfl) rfl ?_
    refine g_nil ?_
    refine g_shutV b x s c (S) (L) (n) ?_
    exact g_retCT (encPt p) rfl rfl rfl rfl Tryz.isAgg55 Tryz.sizeOf55 rfl arr_ld

theorem ct_vault_Vault_add (b : Nat) (S : SI) (L : List Pt) (n : Int) (disk size root : Int) (hl : L.length ≤ 6) (hn : -9223372036854775808 ≤ n ∧ n ≤ 1000000) (F : List HProp) : Ct Tryz.prog 46 [ptr b 0, I disk, I size, I root] ([vlt b S L n] ++ F) (R1 (.tuple #[I (addI L n), errT 89 (addE L n)]) (vlt b S (addL L n disk size root) (addN L n) :: F)) := by
  show Ct Tryz.prog 46 [ptr b 0, I disk, I size, I root] (vlt b S L n :: F) _
  refine Ct.of Tryz.func46 rfl 51 Tryz.ntmps46 (by simp) fun w0 => ?_
  refine g_openV b S L n ?_
  intro x s c
  refine g_seq ?_
  refine g_reg ?_
  refine g_v (v_assign rfl) rfl ?_
  refine g_v (v_assign rfl) rfl ?_
  refine g_nil ?_
  refine g_seq ?_
  refine g_seq ?_
  refine g_reg ?_
  refine g_v (v_move rfl) rfl ?_
  refine g_v (v_nilCheck rfl) rfl ?_
  refine g_v (v_fieldAddr 1 Tryz.underlying47 rfl rfl Tryz.sizeOf45 (by decide) rfl) rfl ?_
  refine g_v (v_load (v := sl s (L).length c) Tryz.isAgg45 rfl rfl) rfl ?_
  refine g_v (v_len Tryz.underlying45 rfl) rfl ?_
  refine g_v (v_eql rfl rfl) rfl ?_
  refine g_v (v_move rfl) rfl ?_
  refine g_gv rfl rfl (fun hg => v_move rfl) rfl rfl ?_
  refine g_gv rfl rfl (fun hg => v_nilCheck rfl) rfl rfl ?_
  refine g_gv rfl rfl (fun hg => v_fieldAddr 2 Tryz.underlying47 rfl rfl Tryz.sizeOf3 (by decide) rfl) rfl rfl ?_
  refine g_gv rfl rfl (fun hg => v_load (v := I n) Tryz.isAgg3 rfl rfl) rfl rfl ?_
  refine g_gv rfl rfl (fun hg => v_gtr rfl rfl) rfl rfl ?_
  refine g_v (v_or rfl rfl) rfl ?_
  refine g_nil ?_
  refine g_cond rfl (fun h23 => ?_) (fun h23 => ?_)
  · simp at h23
    have ha : addE L n = 8 := by unfold addE; rw [if_pos (by omega)]
    refine g_seq ?_
    refine g_reg ?_
    refine g_v (v_iface Tryz.underlying89 rfl rfl) rfl ?_
    refine g_v (v_assign rfl) rfl ?_
    refine g_v (v_assign rfl) rfl ?_
    refine g_nil ?_
    rw [ha, show addI L n = 0 by unfold addI; rw [if_neg (by omega)], show addL L n disk size root = L by unfold addL; rw [if_neg (by omega)], show addN L n = n by unfold addN; rw [if_neg (by omega)]]
    refine g_shutV b x s c (S) (L) (n) ?_
    exact g_ret1 rfl rfl rfl
  · simp at h23
    have ha : addE L n = 0 := by unfold addE; rw [if_neg (by omega)]
    refine g_skip ?_
    refine g_seq ?_
    refine g_reg ?_
    refine g_v (v_move rfl) rfl ?_
    refine g_v (v_nilCheck rfl) rfl ?_
    refine g_v (v_fieldAddr 2 Tryz.underlying47 rfl rfl Tryz.sizeOf3 (by decide) rfl) rfl ?_
    refine g_v (v_load (v := I n) Tryz.isAgg3 rfl rfl) rfl ?_
    refine g_v (v_assign rfl) rfl ?_
    refine g_nil ?_
    refine g_seq ?_
    refine g_reg ?_
    refine g_v (v_move rfl) rfl ?_
    refine g_v (v_nilCheck rfl) rfl ?_
    refine g_v (v_fieldAddr 2 Tryz.underlying47 rfl rfl Tryz.sizeOf3 (by decide) rfl) rfl ?_
    refine g_v (v_load (v := I n) Tryz.isAgg3 rfl rfl) rfl ?_
    refine g_v (v_add rfl rfl (w64 (by omega))) rfl ?_
    refine g_v (v_nilCheck rfl) rfl ?_
    refine g_v (v_fieldAddr 2 Tryz.underlying47 rfl rfl Tryz.sizeOf3 (by decide) rfl) rfl ?_
    refine g_l0 (l_store #[ptr x 0, sl s L.length c, I (n + 1)] Tryz.sizeOf3 rfl rfl rfl (by simp) rfl) ?_
    rintro _ _ rfl
    refine g_nil ?_
    refine g_seq ?_
    refine g_reg ?_
    refine g_v (v_move rfl) rfl ?_
    refine g_v (v_move rfl) rfl ?_
    refine g_v (v_nilCheck rfl) rfl ?_
    refine g_v (v_fieldAddr 1 Tryz.underlying47 rfl rfl Tryz.sizeOf45 (by decide) rfl) rfl ?_
    refine g_v (v_load (v := sl s (L).length c) Tryz.isAgg45 rfl rfl) rfl ?_
    refine g_v (v_move rfl) rfl ?_
    refine g_v (v_move rfl) rfl ?_
    refine g_v (v_move rfl) rfl ?_
    refine g_v (v_move rfl) rfl ?_
    refine g_v (v_build rfl (bldPt n disk size root)) rfl ?_
    refine g_l (l_buildSlice [encPt ⟨n, disk, size, root⟩] Tryz.underlying45 Tryz.sizeOf55 Tryz.zeroValue55 rfl rfl rfl (by simp) (by decide) (by decide)) rfl ?_
    rintro _ _ ⟨b46, rfl, rfl⟩
    refine g_l (l_append Tryz.underlying45 Tryz.sizeOf55 Tryz.zeroValue55 rfl Tryz.typeInfo55 (by decide) rfl rfl (ptR_len _) rfl (by simp) (by simp [Go.Sl.ones, Go.Sl.one]) ⟨by omega, by decide, by decide⟩) rfl ?_
    rintro _ _ ⟨s47, c47, rfl, rfl⟩
    rw [show ptR L ++ [encPt ⟨n, disk, size, root⟩] = ptR (L ++ [⟨n, disk, size, root⟩]) by simp [ptR]]
    refine g_v (v_nilCheck rfl) rfl ?_
    refine g_v (v_fieldAddr 1 Tryz.underlying47 rfl rfl Tryz.sizeOf45 (by decide) rfl) rfl ?_
    refine g_l0 (l_store #[ptr x 0, sl s47 (L.length + 1) c47, I (n + 1)] Tryz.sizeOf45 rfl rfl rfl (by simp) rfl) ?_
    rintro _ _ rfl
    refine g_nil ?_
    refine g_seq ?_
    refine g_reg ?_
    refine g_v (v_move rfl) rfl ?_
    refine g_v (v_assign rfl) rfl ?_
    refine g_v (v_assign rfl) rfl ?_
    refine g_nil ?_
    rw [ha, show addI L n = n by unfold addI; rw [if_pos ha], show addL L n disk size root = L ++ [⟨n, disk, size, root⟩] by unfold addL; rw [if_pos ha], show addN L n = n + 1 by unfold addN; rw [if_pos ha], show L.length + 1 = (L ++ [(⟨n, disk, size, root⟩ : Pt)]).length by simp]
    refine g_shutV b x s47 c47 (S) (L ++ [⟨n, disk, size, root⟩]) (n + 1) ?_
    exact g_ret1 rfl rfl rfl

theorem ct_vault_Vault_base (b : Nat) (S : SI) (L : List Pt) (n : Int) (base disk size : Int) (G0 : Gh) (hV : Vok S L n G0) (hsz : 1 ≤ size ∧ size ≤ 16) (F : List HProp) : Ct Tryz.prog 76 [ptr b 0, I base, I disk, I size] ([vlt b S L n] ++ F) (vR vlt (errT 89) b F (baseV S L n base disk size)) := by
  show Ct Tryz.prog 76 [ptr b 0, I base, I disk, I size] (vlt b S L n :: F) _
  have hok := Vok_ok hV
  have hll := hV.len
  have hrl : (L.map (·.root)).length ≤ 8 := by simp; omega
  refine Ct.of Tryz.func76 rfl 67 Tryz.ntmps76 (by simp) fun w0 => ?_
  refine g_seq ?_
  refine g_reg ?_
  refine g_v (v_assign rfl) rfl ?_
  refine g_v (v_assign rfl) rfl ?_
  refine g_nil ?_
  refine g_seq ?_
  refine g_seq ?_
  refine g_reg ?_
  refine g_v (v_move rfl) rfl ?_
  refine g_v (v_eql rfl rfl) rfl ?_
  refine g_nil ?_
  refine g_cond rfl (fun h17 => ?_) (fun h17 => ?_)
  · simp at h17
    refine g_seq ?_
    refine g_reg ?_
    refine g_v (v_assign rfl) rfl ?_
    refine g_v (v_assign rfl) rfl ?_
    refine g_nil ?_
    exact g_somes (S := S) (P := L) (n := n) rfl (by unfold baseV baseF; rw [if_pos h17]) rfl rfl
  · simp at h17
    refine g_skip ?_
    refine g_seq ?_
    refine g_reg ?_
    refine g_v (v_move rfl) rfl ?_
    refine g_v (v_move rfl) rfl ?_
    refine g_l (l_call (Pre := [vlt b S L n]) Tryz.call33 rfl (ct_vault_Vault_Find b S L n base (by omega))) rfl ?_
    rintro _ _ ⟨rfl, rfl⟩
    refine g_v (v_move rfl) rfl ?_
    refine g_v (v_extract (v := .agg (encPt ((findP L base).getD pt0)).toArray) rfl rfl) rfl ?_
    refine g_v (v_extract (v := Bo (findP L base).isSome) rfl rfl) rfl ?_
    refine g_l (l_alloc #[I 0, I 0, I 0, I 0] Tryz.zeroValue55) rfl ?_
    rintro _ _ ⟨b10, rfl, rfl⟩
    refine g_l0 (l_storeA (cs := #[I 0, I 0, I 0, I 0]) (vs := encPt (((findP L base).getD pt0))) (encPt (((findP L base).getD pt0))).toArray Tryz.sizeOf55 rfl rfl rfl rfl (by simp) (splice_whole rfl)) ?_
    rintro _ _ rfl
    refine g_v (v_assign rfl) rfl ?_
    refine g_nil ?_
    refine g_seq ?_
    refine g_seq ?_
    refine g_reg ?_
    refine g_v (v_move rfl) rfl ?_
    refine g_v (v_not rfl) rfl ?_
    refine g_nil ?_
    refine g_cond rfl (fun h25 => ?_) (fun h25 => ?_)
    · simp at h25
      refine g_seq ?_
      refine g_reg ?_
      refine g_v (v_iface Tryz.underlying89 rfl rfl) rfl ?_
      refine g_v (v_assign rfl) rfl ?_
      refine g_v (v_assign rfl) rfl ?_
      refine g_nil ?_
      exact g_nones rfl (by unfold baseV baseF; rw [if_neg h17, h25]) rfl rfl
    · simp at h25
      obtain ⟨p, hf⟩ := Option.isSome_iff_exists.1 h25
      have hpm := findP_some hf
      have hps := hV.pts p hpm.1
      rw [show (findP L base).getD pt0 = p by rw [hf]; rfl]
      refine g_skip ?_
      refine g_seq ?_
      refine g_seq ?_
      refine g_reg ?_
      refine g_v (v_fieldAddr 1 Tryz.underlying55 rfl rfl Tryz.sizeOf3 (by decide) rfl) rfl ?_
      refine g_v (v_load (v := I p.disk) Tryz.isAgg3 rfl rfl) rfl ?_
      refine g_v (v_move rfl) rfl ?_
      refine g_v (v_neq rfl rfl) rfl ?_
      refine g_nil ?_
      refine g_cond rfl (fun h30 => ?_) (fun h30 => ?_)
      · simp at h30
        refine g_seq ?_
        refine g_reg ?_
        refine g_v (v_iface Tryz.underlying89 rfl rfl) rfl ?_
        refine g_v (v_assign rfl) rfl ?_
        refine g_v (v_assign rfl) rfl ?_
        refine g_nil ?_
        exact g_nones rfl (by unfold baseV baseF; rw [if_neg h17, hf]; simp only; rw [if_pos h30]) rfl rfl
      · simp at h30
        refine g_skip ?_
        refine g_seq ?_
        refine g_openV b S L n ?_
        intro x s c
        refine g_draw (Lf := [pt b (.cells #[ptr x 0, sl s (L).length c, I (n)] 47 (0, 0)), pt b10 (.cells (encPt (p)).toArray 55 (0, 0))]) [(0, false), (1, false), (2, false), (3, false), (4, false), (5, false), (6, true), (7, false)] (by kernel_rfl) (by kernel_rfl) rfl (by kernel_rfl) ?_
        refine d_v rfl (v_move rfl) rfl ?_
        refine d_v rfl (v_nilCheck rfl) rfl ?_
        refine d_v rfl (v_fieldAddr 0 Tryz.underlying47 rfl rfl Tryz.sizeOf44 (by decide) rfl) rfl ?_
        refine d_v rfl (v_load (v := ptr x 0) Tryz.isAgg44 rfl rfl) rfl ?_
        refine d_v rfl (v_fieldAddr 3 Tryz.underlying55 rfl rfl Tryz.sizeOf3 (by decide) rfl) rfl ?_
        refine d_v rfl (v_load (v := I p.root) Tryz.isAgg3 rfl rfl) rfl ?_
        refine d_l rfl (l_call (Pre := [ixl x S]) Tryz.call47 rfl (ct_index_Index_Share x S p.root 200 hok (by decide) (rt_rng hV.rt.V (RtRt hV.rt (findP_mem hf))).2)) rfl ?_
        rintro _ _ ⟨rfl, rfl⟩
        obtain ⟨G1, hs1, hR1, _⟩ := Rt_share hV.rt (findP_mem hf)
        have hs1 : shareS S p.root = mkG G1 := by rw [hV.e]; exact hs1
        rw [hs1]
        refine d_v rfl (v_assign rfl) rfl ?_
        refine d_nil ?_
        refine g_seq ?_
        refine g_seq ?_
        refine g_reg ?_
        refine g_v (v_move rfl) rfl ?_
        refine g_v (v_assign rfl) rfl ?_
        refine g_nil ?_
        obtain ⟨sz, rfl⟩ : ∃ k : Nat, size = k := ⟨size.toNat, by omega⟩
        refine g_block ?_
        refine g_loop (α := Nat × Gh × Int) (fun z => z.1 ≤ 16 ∧ Rt z.2.1 (z.2.2 :: L.map (·.root)) ∧ cutF (mkG z.2.1, z.2.2) (List.range' z.1 (p.size.toNat - z.1)) = cutF (shareS S p.root, p.root) (List.range' sz (p.size.toNat - sz))) (fun z => U [(0, ptr b 0), (10, ptr b10 0), (12, I z.2.2), (13, I z.1)]) (fun z => pt b10 (.cells (encPt (p)).toArray 55 (0, 0)) :: pt b (.cells #[ptr x 0, sl s (L).length c, I (n)] 47 (0, 0)) :: ixl x (mkG z.2.1) :: owL 55 4 s c (ptR (L)) :: F) (fun z => 16 - z.1) (sz, G1, p.root) ⟨by simp only []; omega, hR1, by rw [hs1]⟩ [0, 10, 12, 13] rfl rfl ?_
        rintro ⟨a, G, root⟩ ⟨ha, hR, hcut⟩
        simp only [] at ha hR hcut ⊢
        refine g_seq ?_
        refine g_seq ?_
        refine g_reg ?_
        refine g_v (v_move rfl) rfl ?_
        refine g_v (v_fieldAddr 2 Tryz.underlying55 rfl rfl Tryz.sizeOf3 (by decide) rfl) rfl ?_
        refine g_v (v_load (v := I p.size) Tryz.isAgg3 rfl rfl) rfl ?_
        refine g_v (v_lss rfl rfl) rfl ?_
        refine g_nil ?_
        refine g_cond rfl (fun h43 => ?_) (fun h43 => ?_)
        · simp at h43
          refine g_skip ?_
          refine g_seq ?_
          refine g_block ?_
          refine g_seq ?_
          refine g_reg ?_
          refine g_v (v_move rfl) rfl ?_
          refine g_v (v_nilCheck rfl) rfl ?_
          refine g_v (v_fieldAddr 0 Tryz.underlying47 rfl rfl Tryz.sizeOf44 (by decide) rfl) rfl ?_
          refine g_v (v_load (v := ptr x 0) Tryz.isAgg44 rfl rfl) rfl ?_
          refine g_v (v_move rfl) rfl ?_
          refine g_v (v_move rfl) rfl ?_
          refine g_l (l_call (Pre := [ixl x (mkG G)]) Tryz.call77 rfl (ct_index_Index_Set x (mkG G) root a [] 200 (RtOk hR (by simp; omega)) (by decide) (by omega) (by decide) (rt_kidr hR.V (RtRt hR (by simp))))) rfl ?_
          rintro _ _ ⟨rfl, rfl⟩
          refine g_v (v_move rfl) rfl ?_
          refine g_v (v_extract (v := I (setE (mkG G) root a []).1) rfl rfl) rfl ?_
          refine g_v (v_extract (v := errT 89 (setE (mkG G) root a []).2) rfl rfl) rfl ?_
          refine g_v (v_assign rfl) rfl ?_
          refine g_v (v_assign rfl) rfl ?_
          refine g_nil ?_
          refine g_seq ?_
          refine g_seq ?_
          refine g_reg ?_
          refine g_v (v_move rfl) rfl ?_
          refine g_v (v_ineq Tryz.underlying29 rfl) rfl ?_
          refine g_nil ?_
          refine g_cond rfl (fun h57 => ?_) (fun h57 => ?_)
          · simp at h57
            refine g_seq ?_
            refine g_reg ?_
            refine g_v (v_move rfl) rfl ?_
            refine g_v (v_assign rfl) rfl ?_
            refine g_v (v_assign rfl) rfl ?_
            refine g_nil ?_
            exact g_nones rfl (by
              unfold baseV baseF
              rw [if_neg h17, hf]
              simp only
              rw [if_neg (by omega), Int.toNat_natCast, ← hcut, range_cons (by omega)]
              simp only [cutF, put1]
              rw [if_neg h57]) rfl rfl
          · simp at h57
            obtain ⟨G1, G2, hu1, o1, r1, v1, hu2, hR2, _, _⟩ := put1_ok hR hrl (by omega) h57
            rw [hu1]
            refine g_skip ?_
            refine g_seq ?_
            refine g_reg ?_
            refine g_v (v_move rfl) rfl ?_
            refine g_v (v_nilCheck rfl) rfl ?_
            refine g_v (v_fieldAddr 0 Tryz.underlying47 rfl rfl Tryz.sizeOf44 (by decide) rfl) rfl ?_
            refine g_v (v_load (v := ptr x 0) Tryz.isAgg44 rfl rfl) rfl ?_
            refine g_v (v_move rfl) rfl ?_
            refine g_l (l_call (Pre := [ixl x (mkG G1)]) Tryz.call50 rfl (ct_index_Index_Free x (mkG G1) root 200 o1 (by decide))) rfl ?_
            rintro _ _ ⟨rfl, rfl⟩
            refine g_nil ?_
            refine g_reg ?_
            refine g_v (v_move rfl) rfl ?_
            refine g_v (v_assign rfl) rfl ?_
            refine g_nil ?_
            refine g_blk ?_
            refine g_reg ?_
            refine g_v (v_move rfl) rfl ?_
            refine g_v (v_add rfl rfl (w64 (by omega))) rfl ?_
            refine g_v (v_assign rfl) rfl ?_
            refine g_nil ?_
            rw [hu2]
            exact g_again (a + 1, G2, (setE (mkG G) root a []).1) ⟨by simp only []; omega, hR2, by
              rw [← hcut, range_cons (a := a) (m := p.size.toNat) (by omega)]
              simp only [cutF, put1]
              rw [if_pos h57, hu1, hu2]⟩ (by simp only []; omega) [0, 10, 12, 13] rfl rfl
        · simp at h43
          refine g_exit rfl ?_
          refine g_seq ?_
          refine g_reg ?_
          refine g_v (v_move rfl) rfl ?_
          refine g_v (v_assign rfl) rfl ?_
          refine g_v (v_assign rfl) rfl ?_
          refine g_nil ?_
          refine g_shutV b x s c (mkG G) (L) (n) ?_
          exact g_somes (S := mkG G) (P := L) (n := n) rfl (by
            unfold baseV baseF
            rw [if_neg h17, hf]
            simp only
            rw [if_neg (by omega), Int.toNat_natCast, ← hcut, range_nil (by omega)]
            simp only [cutF]) rfl rfl

end Go.Proofs.YthdjckbjjfiopacGreatDoor
