/- The walks through image.kinds and image.counted. No condition. -/
import Derived.Test.YthdjckbjjfiopacGreatDoorImK
import Derived.Test.YthdjckbjjfiopacGreatDoorIm
namespace Go.Proofs.YthdjckbjjfiopacGreatDoor
open Go.Sl Go.Proofs
set_option linter.unusedVariables false
set_option linter.unusedSimpArgs false
theorem lkNs {N : NdT} (h : sup 24 N) (q : Int) : (lk (tb encN 24 N) q).isSome = (N q).isSome := by
  rw [lk_sup encN h]; cases N q <;> rfl
theorem sayO_le {N : NdT} {F : IM} {o : Bool} {id kind : Int} (h : sayO N F o id kind = true) : o = true := by
  unfold sayO at h
  split at h
  · exact h
  · rw [Bool.and_eq_true] at h; exact h.1
theorem cm_root {Q : IM} {l : List Int} (h : cm Q (cA l)) (k : Int) : cm (sti Q k (cA l k + 1)) (cA (l ++ [k])) := by
  rw [show cA (l ++ [k]) = del (cA l) k 1 from funext fun q => cA_snoc l k q]
  exact cm_add h k
theorem cm_lk {Q : IM} {c : Int → Int} (h : cm Q c) (q : Int) : (lk (mi Q) q).getD (I 0) = I (c q) := by rw [lk_mi_getD, h.1]
theorem tb_in {N : NdT} (h : sup 24 N) {q : Int} {m : Nd} (hm : N q = some m) : q ∈ (tb encN 24 N).map (·.1) := by
  rw [tb_keys]; exact mem_ids.2 ⟨h q m hm, by rw [hm]; rfl⟩
theorem tbB_in {B : BkT} (h : sup 40 B) {q : Int} {x : Bk} (hx : B q = some x) : q ∈ (tb encB 40 B).map (·.1) := by
  rw [tb_keys]; exact mem_ids.2 ⟨h q x hx, by rw [hx]; rfl⟩
theorem perm_key {rest rest' : MM} {k : Int} {v : Value} (h : rest.Perm ((k, v) :: rest')) {q : Int} (hq : q ∈ rest.map (·.1)) : q = k ∨ q ∈ rest'.map (·.1) := by
  have := (h.map (·.1)).mem_iff.1 hq
  simpa using this
theorem perm_sub {rest rest' M : MM} {p : Int × Value} (h : rest.Perm (p :: rest')) (hs : ∀ p ∈ rest, p ∈ M) : ∀ p ∈ rest', p ∈ M := fun q hq => hs q (h.mem_iff.2 (List.mem_cons_of_mem _ hq))
theorem perm_hd {rest rest' M : MM} {p : Int × Value} (h : rest.Perm (p :: rest')) (hs : ∀ p ∈ rest, p ∈ M) : p ∈ M := hs p (h.mem_iff.2 (by simp))
theorem perm_lt {rest rest' : MM} {p : Int × Value} (h : rest.Perm (p :: rest')) : rest'.length < rest.length := by have := h.length_eq; simp at this; omega
theorem kd_at (m : Nd) : ∀ i, i < 4 → (kd m)[i]? = some (kat m i)
  | 0, _ => rfl
  | 1, _ => rfl
  | 2, _ => rfl
  | 3, _ => rfl
  | i + 4, h => absurd h (by omega)

theorem ct_image_kinds1 (b x p r q1 q5 q4 rm : Nat) (es : Array MapEntry) (clk : Nat) (S : SI) (L : List Pt) (n : Int) (s : Option Addr) (c : Nat) (Q : IM) (o : Bool) (id kind : Int) (hs : sup 24 S.N) (F : List HProp) : Ct Tryz.prog 139 [I id, I kind, ptr q1 0, ptr q5 0, ptr q4 0] ([pt q1 (.cells #[ptr b 0] 24 (0, 0)), pt q5 (.cells #[Bo (o)] 4 (0, 0)), pt q4 (.cells #[.map (some rm)] 154 (0, 0)), mp rm (mi Q), pt b (.cells #[ptr x 0, sl s (L).length c, I (n)] 47 (0, 0)), pt x (.cells #[ptr p 0, .map (some r)] 43 (0, 0)), mpE r es clk (tb encN 24 S.N)] ++ F) (R1 (.tuple #[]) (pt q1 (.cells #[ptr b 0] 24 (0, 0)) :: pt q5 (.cells #[Bo (sayO S.N Q o id kind)] 4 (0, 0)) :: pt q4 (.cells #[.map (some rm)] 154 (0, 0)) :: mp rm (mi (sayF Q id kind)) :: pt b (.cells #[ptr x 0, sl s (L).length c, I (n)] 47 (0, 0)) :: pt x (.cells #[ptr p 0, .map (some r)] 43 (0, 0)) :: mpE r es clk (tb encN 24 S.N) :: F)) := by
  show Ct Tryz.prog 139 [I id, I kind, ptr q1 0, ptr q5 0, ptr q4 0] (pt q1 (.cells #[ptr b 0] 24 (0, 0)) :: pt q5 (.cells #[Bo (o)] 4 (0, 0)) :: pt q4 (.cells #[.map (some rm)] 154 (0, 0)) :: mp rm (mi Q) :: pt b (.cells #[ptr x 0, sl s (L).length c, I (n)] 47 (0, 0)) :: pt x (.cells #[ptr p 0, .map (some r)] 43 (0, 0)) :: mpE r es clk (tb encN 24 S.N) :: F) _
  refine Ct.of Tryz.func139 rfl 43 Tryz.ntmps139 (by simp) fun w0 => ?_
  refine g_seq ?_
  refine g_seq ?_
  refine g_reg ?_
  refine g_v (v_move rfl) rfl ?_
  refine g_v (v_eql rfl rfl) rfl ?_
  refine g_nil ?_
  refine g_cond rfl (fun h10 => ?_) (fun h10 => ?_)
  · simp at h10
    rw [show sayO S.N Q o id kind = o by unfold sayO; rw [if_pos h10], show sayF Q id kind = Q by unfold sayF; rw [if_pos h10]]
    exact g_ret1 rfl rfl rfl
  · simp at h10
    refine g_skip ?_
    refine g_seq ?_
    refine g_reg ?_
    refine g_v (v_load (v := ptr b 0) Tryz.isAgg24 rfl rfl) rfl ?_
    refine g_v (v_nilCheck rfl) rfl ?_
    refine g_v (v_fieldAddr 0 Tryz.underlying47 rfl rfl Tryz.sizeOf44 (by decide) rfl) rfl ?_
    refine g_v (v_load (v := ptr x 0) Tryz.isAgg44 rfl rfl) rfl ?_
    refine g_v (v_nilCheck rfl) rfl ?_
    refine g_v (v_fieldAddr 1 Tryz.underlying43 rfl rfl Tryz.sizeOf41 (by decide) rfl) rfl ?_
    refine g_v (v_load (v := .map (some r)) Tryz.isAgg41 rfl rfl) rfl ?_
    refine g_v (v_move rfl) rfl ?_
    refine g_v (v_lookupOk (v := encN (gN S.N id)) (bb := (S.N id).isSome) Tryz.underlying41 Tryz.underlying3 Tryz.zeroValue99 rfl rfl (lkN hs id) (lkNs hs id)) rfl ?_
    refine g_v (v_move rfl) rfl ?_
    refine g_v (v_extract (v := encN (gN S.N id)) rfl rfl) rfl ?_
    refine g_v (v_extract (v := Bo (S.N id).isSome) rfl rfl) rfl ?_
    refine g_l (l_alloc #[I 0, I 0, I 0, I 0, I 0] Tryz.zeroValue99) rfl ?_
    rintro _ _ ⟨b7, rfl, rfl⟩
    refine g_l0 (l_storeA (cs := #[I 0, I 0, I 0, I 0, I 0]) (vs := ndC (gN S.N id)) (ndC (gN S.N id)).toArray Tryz.sizeOf99 rfl rfl rfl rfl (by simp) (splice_whole rfl)) ?_
    rintro _ _ rfl
    refine g_v (v_assign rfl) rfl ?_
    refine g_nil ?_
    refine g_seq ?_
    refine g_reg ?_
    refine g_v (v_load (v := Bo o) Tryz.isAgg4 rfl rfl) rfl ?_
    refine g_v (v_move rfl) rfl ?_
    refine g_gv rfl rfl (fun hg => v_move rfl) rfl rfl ?_
    refine g_v (v_and rfl rfl) rfl ?_
    refine g_v (v_move rfl) rfl ?_
    rcases hb1 : (o && (S.N id).isSome) with _ | _
    · skip
      refine g_no rfl rfl rfl rfl ?_
      refine g_no rfl rfl rfl rfl ?_
      refine g_no rfl rfl rfl rfl ?_
      refine g_no rfl rfl rfl rfl ?_
      refine g_no rfl rfl rfl rfl ?_
      refine g_no rfl rfl rfl rfl ?_
      refine g_no rfl rfl rfl rfl ?_
      refine g_no rfl rfl rfl rfl ?_
      refine g_no rfl rfl rfl rfl ?_
      refine g_no rfl rfl rfl rfl ?_
      refine g_no rfl rfl rfl rfl ?_
      refine g_v (v_pk2 rfl rfl rfl) rfl ?_
      refine g_l0 (l_store #[Bo false] Tryz.sizeOf4 rfl rfl rfl (by simp) rfl) ?_
      rintro _ _ rfl
      refine g_nil ?_
      refine g_reg ?_
      refine g_v (v_load (v := .map (some rm)) Tryz.isAgg154 rfl rfl) rfl ?_
      refine g_v (v_move rfl) rfl ?_
      refine g_v (v_move rfl) rfl ?_
      refine g_l0 (l_mapUpdate Tryz.underlying154 Tryz.underlying3 rfl rfl rfl) ?_
      rintro _ _ rfl
      rw [mi_set]
      refine g_nil ?_
      rw [show sayO S.N Q o id kind = false by unfold sayO; rw [if_neg h10, ← Bool.and_assoc, hb1]; rfl, show sayF Q id kind = sti Q id kind by unfold sayF; rw [if_neg h10]]
      exact g_end1 rfl rfl rfl
    · skip
      refine g_gv1 rfl rfl rfl (v_load (v := .map (some rm)) Tryz.isAgg154 rfl rfl) rfl ?_
      refine g_gv1 rfl rfl rfl (v_move rfl) rfl ?_
      refine g_gv1 rfl rfl rfl (v_lookup (v := I ((li Q id).getD 0)) Tryz.underlying154 Tryz.underlying3 Tryz.zeroValue3 rfl rfl (lk_mi_getD Q id 0)) rfl ?_
      refine g_gv1 rfl rfl rfl (v_eql rfl rfl) rfl ?_
      refine g_gv1 rfl rfl rfl (v_move rfl) rfl ?_
      by_cases h0 : (li Q id).getD 0 = 0
      · skip
        refine g_no rfl rfl (by rw [decide_eq_true h0]; rfl) rfl ?_
        refine g_no rfl rfl (by rw [decide_eq_true h0]; rfl) rfl ?_
        refine g_no rfl rfl (by rw [decide_eq_true h0]; rfl) rfl ?_
        refine g_no rfl rfl (by rw [decide_eq_true h0]; rfl) rfl ?_
        refine g_no rfl rfl (by rw [decide_eq_true h0]; rfl) rfl ?_
        refine g_gv1 rfl rfl rfl (v_pk1 rfl (decide_eq_true h0) rfl) rfl ?_
        refine g_v (v_pk1 rfl rfl rfl) rfl ?_
        refine g_l0 (l_store #[Bo true] Tryz.sizeOf4 rfl rfl rfl (by simp) rfl) ?_
        rintro _ _ rfl
        refine g_nil ?_
        refine g_reg ?_
        refine g_v (v_load (v := .map (some rm)) Tryz.isAgg154 rfl rfl) rfl ?_
        refine g_v (v_move rfl) rfl ?_
        refine g_v (v_move rfl) rfl ?_
        refine g_l0 (l_mapUpdate Tryz.underlying154 Tryz.underlying3 rfl rfl rfl) ?_
        rintro _ _ rfl
        rw [mi_set]
        refine g_nil ?_
        rw [show sayO S.N Q o id kind = true by unfold sayO; rw [if_neg h10, ← Bool.and_assoc, hb1, decide_eq_true h0]; rfl, show sayF Q id kind = sti Q id kind by unfold sayF; rw [if_neg h10]]
        exact g_end1 rfl rfl rfl
      · skip
        refine g_gv1 rfl rfl (decide_eq_false h0) (v_load (v := .map (some rm)) Tryz.isAgg154 rfl rfl) rfl ?_
        refine g_gv1 rfl rfl (decide_eq_false h0) (v_move rfl) rfl ?_
        refine g_gv1 rfl rfl (decide_eq_false h0) (v_lookup (v := I ((li Q id).getD 0)) Tryz.underlying154 Tryz.underlying3 Tryz.zeroValue3 rfl rfl (lk_mi_getD Q id 0)) rfl ?_
        refine g_gv1 rfl rfl (decide_eq_false h0) (v_move rfl) rfl ?_
        refine g_gv1 rfl rfl (decide_eq_false h0) (v_eql rfl rfl) rfl ?_
        refine g_gv1 rfl rfl rfl (v_pk2 rfl (decide_eq_false h0) rfl) rfl ?_
        refine g_v (v_pk1 rfl rfl rfl) rfl ?_
        refine g_l0 (l_store #[Bo (decide ((li Q id).getD 0 = kind))] Tryz.sizeOf4 rfl rfl rfl (by simp) rfl) ?_
        rintro _ _ rfl
        refine g_nil ?_
        refine g_reg ?_
        refine g_v (v_load (v := .map (some rm)) Tryz.isAgg154 rfl rfl) rfl ?_
        refine g_v (v_move rfl) rfl ?_
        refine g_v (v_move rfl) rfl ?_
        refine g_l0 (l_mapUpdate Tryz.underlying154 Tryz.underlying3 rfl rfl rfl) ?_
        rintro _ _ rfl
        rw [mi_set]
        refine g_nil ?_
        rw [show sayO S.N Q o id kind = decide ((li Q id).getD 0 = kind) by unfold sayO; rw [if_neg h10, ← Bool.and_assoc, hb1, decide_eq_false h0]; simp, show sayF Q id kind = sti Q id kind by unfold sayF; rw [if_neg h10]]
        exact g_end1 rfl rfl rfl

theorem ct_image_kinds (b : Nat) (S : SI) (L : List Pt) (n : Int) (hl : L.length ≤ 6) (hs : sup 24 S.N) (F : List HProp) : Ct Tryz.prog 89 [ptr b 0] ([vlt b S L n] ++ F) (fun v L' => ∃ rm Q o, v = .tuple #[.map (some rm), Bo o] ∧ L' = mp rm (mi Q) :: vlt b S L n :: F ∧ (o = true ↔ KindsP S.N L) ∧ (o = true → ∀ q, (li Q q).getD 0 = 1 ↔ isR L q)) := by
  show Ct Tryz.prog 89 [ptr b 0] (vlt b S L n :: F) _
  refine Ct.of Tryz.func89 rfl 70 Tryz.ntmps89 (by simp) fun w0 => ?_
  refine g_openV b S L n ?_
  intro x s c
  refine g_openX x S ?_
  intro p r
  refine g_mapOpen r ?_
  intro es clk
  refine g_seq ?_
  refine g_reg ?_
  refine g_l (l_box #[ptr b 0] rfl rfl) rfl ?_
  rintro _ _ ⟨b1, rfl, rfl⟩
  refine g_v (v_assign rfl) rfl ?_
  refine g_v (v_assign rfl) rfl ?_
  refine g_nil ?_
  refine g_seq ?_
  refine g_reg ?_
  refine g_l (l_makeMap) rfl ?_
  rintro _ _ ⟨b13, rfl, rfl⟩
  refine g_l (l_alloc1 (.map none) Tryz.zeroValue154 rfl) rfl ?_
  rintro _ _ ⟨b4, rfl, rfl⟩
  refine g_l0 (l_store #[.map (some b13)] Tryz.sizeOf154 rfl rfl rfl (by simp) rfl) ?_
  rintro _ _ rfl
  refine g_nil ?_
  refine g_seq ?_
  refine g_reg ?_
  refine g_l (l_alloc1 (Bo false) Tryz.zeroValue4 rfl) rfl ?_
  rintro _ _ ⟨b5, rfl, rfl⟩
  refine g_l0 (l_store #[Bo true] Tryz.sizeOf4 rfl rfl rfl (by simp) rfl) ?_
  rintro _ _ rfl
  refine g_nil ?_
  refine g_seq ?_
  refine g_reg ?_
  refine g_v (v_makeFunc rfl rfl) rfl ?_
  refine g_v (v_assign rfl) rfl ?_
  refine g_nil ?_
  refine g_map b13 (mi []) (.refl _) ?_
  refine g_seq ?_
  refine g_seq ?_
  refine g_reg ?_
  refine g_v (v_load (v := ptr b 0) Tryz.isAgg24 rfl rfl) rfl ?_
  refine g_v (v_nilCheck rfl) rfl ?_
  refine g_v (v_fieldAddr 1 Tryz.underlying47 rfl rfl Tryz.sizeOf45 (by decide) rfl) rfl ?_
  refine g_v (v_load (v := sl s (L).length c) Tryz.isAgg45 rfl rfl) rfl ?_
  refine g_v (v_len Tryz.underlying45 rfl) rfl ?_
  refine g_v (v_move rfl) rfl ?_
  refine g_nil ?_
  refine g_block ?_
  refine g_loop (α := Nat × Bool × IM) (fun z => z.1 ≤ L.length ∧ K1 S.N (L.take z.1) z.2.1 z.2.2) (fun z => U [(1, ptr b1 0), (4, ptr b4 0), (5, ptr b5 0), (6, .func (.func 139) #[] #[ptr b1 0, ptr b5 0, ptr b4 0]), (18, sl s L.length c), (19, I L.length), (20, I z.1)]) (fun z => pt b1 (.cells #[ptr b 0] 24 (0, 0)) :: pt b5 (.cells #[Bo (z.2.1)] 4 (0, 0)) :: pt b4 (.cells #[.map (some b13)] 154 (0, 0)) :: mp b13 (mi z.2.2) :: pt b (.cells #[ptr x 0, sl s (L).length c, I (n)] 47 (0, 0)) :: pt x (.cells #[ptr p 0, .map (some r)] 43 (0, 0)) :: mpE r es clk (tb encN 24 S.N) :: plb p S.B :: owL 55 4 s c (ptR (L)) :: F) (fun z => L.length - z.1) (0, true, []) ⟨by simp, by simpa using K1_nil S.N⟩ [1, 4, 5, 6, 18, 19, 20] rfl rfl ?_
  rintro ⟨j, o, Q⟩ ⟨hj, hK⟩
  simp only [] at hj hK ⊢
  refine g_seq ?_
  refine g_reg ?_
  refine g_v (v_lss rfl rfl) rfl ?_
  refine g_nil ?_
  refine g_seq ?_
  refine g_cond rfl (fun h21 => ?_) (fun h21 => ?_)
  · simp at h21
    have hjn : j < L.length := by omega
    obtain ⟨p0, hp⟩ : ∃ p0, L[j]? = some p0 := ⟨_, List.getElem?_eq_getElem hjn⟩
    refine g_skip ?_
    refine g_seq ?_
    refine g_block ?_
    refine g_seq ?_
    refine g_reg ?_
    refine g_v (v_idxS (j) Tryz.underlying45 Tryz.sizeOf55 rfl rfl rfl hjn (by rw [ptR_len]; exact hjn)) rfl ?_
    refine g_v (v_loadAS (row := encPt p0) Tryz.isAgg55 Tryz.sizeOf55 rfl (ptR_at hp) rfl) rfl ?_
    refine g_l (l_alloc #[I 0, I 0, I 0, I 0] Tryz.zeroValue55) rfl ?_
    rintro _ _ ⟨b8, rfl, rfl⟩
    refine g_l0 (l_storeA (cs := #[I 0, I 0, I 0, I 0]) (vs := encPt (p0)) (encPt (p0)).toArray Tryz.sizeOf55 rfl rfl rfl rfl (by simp) (splice_whole rfl)) ?_
    rintro _ _ rfl
    refine g_nil ?_
    refine g_reg ?_
    refine g_v (v_move rfl) rfl ?_
    refine g_v (v_fieldAddr 3 Tryz.underlying55 rfl rfl Tryz.sizeOf3 (by decide) rfl) rfl ?_
    refine g_v (v_load (v := I p0.root) Tryz.isAgg3 rfl rfl) rfl ?_
    refine g_l (l_callV (fi := []) (cap := [ptr b1 0, ptr b5 0, ptr b4 0]) (Pre := [pt b1 (.cells #[ptr b 0] 24 (0, 0)), pt b5 (.cells #[Bo (o)] 4 (0, 0)), pt b4 (.cells #[.map (some b13)] 154 (0, 0)), mp b13 (mi Q), pt b (.cells #[ptr x 0, sl s (L).length c, I (n)] 47 (0, 0)), pt x (.cells #[ptr p 0, .map (some r)] 43 (0, 0)), mpE r es clk (tb encN 24 S.N)]) Tryz.call139 rfl rfl (ct_image_kinds1 b x p r b1 b5 b4 b13 es clk S L n s c Q o (p0.root) 1 hs)) rfl ?_
    rintro _ _ ⟨rfl, rfl⟩
    refine g_nil ?_
    refine g_blk ?_
    refine g_reg ?_
    refine g_v (v_add rfl rfl (w64 (by omega))) rfl ?_
    refine g_v (v_move rfl) rfl ?_
    refine g_nil ?_
    exact g_again (j + 1, sayO S.N Q o p0.root 1, sayF Q p0.root 1) ⟨by simp only []; omega, by simp only []; rw [← tk_snoc hp]; exact K1_snoc hK p0⟩ (by simp only []; omega) [1, 4, 5, 6, 18, 19, 20] rfl rfl
  · simp at h21
    obtain rfl : j = L.length := by omega
    rw [List.take_length] at hK
    refine g_exit rfl ?_
    refine g_seq ?_
    refine g_seq ?_
    refine g_reg ?_
    refine g_v (v_load (v := ptr b 0) Tryz.isAgg24 rfl rfl) rfl ?_
    refine g_v (v_nilCheck rfl) rfl ?_
    refine g_v (v_fieldAddr 0 Tryz.underlying47 rfl rfl Tryz.sizeOf44 (by decide) rfl) rfl ?_
    refine g_v (v_load (v := ptr x 0) Tryz.isAgg44 rfl rfl) rfl ?_
    refine g_v (v_nilCheck rfl) rfl ?_
    refine g_v (v_fieldAddr 1 Tryz.underlying43 rfl rfl Tryz.sizeOf41 (by decide) rfl) rfl ?_
    refine g_v (v_load (v := .map (some r)) Tryz.isAgg41 rfl rfl) rfl ?_
    refine g_l (l_range Tryz.underlying41 rfl) rfl ?_
    rintro _ _ ⟨b36, rfl, rfl⟩
    refine g_nil ?_
    refine g_block ?_
    refine g_loop (α := MM × List Int × Option (Int × Value) × Bool × IM) (fun z => K2 S.N L z.2.1 [] z.2.2.2.1 z.2.2.2.2 ∧ (∀ q m, S.N q = some m → q ∈ z.2.1 ∨ q ∈ z.1.map (·.1)) ∧ ∀ p ∈ z.1, p ∈ tb encN 24 S.N) (fun z => U [(1, ptr b1 0), (4, ptr b4 0), (5, ptr b5 0), (6, .func (.func 139) #[] #[ptr b1 0, ptr b5 0, ptr b4 0]), (36, ptr b36 0)]) (fun z => mit b36 r es clk z.1 z.2.2.1 :: pt b1 (.cells #[ptr b 0] 24 (0, 0)) :: pt b5 (.cells #[Bo (z.2.2.2.1)] 4 (0, 0)) :: pt b4 (.cells #[.map (some b13)] 154 (0, 0)) :: mp b13 (mi z.2.2.2.2) :: pt b (.cells #[ptr x 0, sl s (L).length c, I (n)] 47 (0, 0)) :: pt x (.cells #[ptr p 0, .map (some r)] 43 (0, 0)) :: mpE r es clk (tb encN 24 S.N) :: plb p S.B :: owL 55 4 s c (ptR (L)) :: F) (fun z => z.1.length) (tb encN 24 S.N, [], none, o, Q) ⟨K2_start hK, fun q m h => .inr (tb_in hs h), fun _ h => h⟩ [1, 4, 5, 6, 36] rfl rfl ?_
    rintro ⟨rest, done, cur, o, Q⟩ ⟨hK, hall, hsub⟩
    simp only [] at hK hall hsub ⊢
    refine g_seq ?_
    refine g_reg ?_
    refine g_l (l_next rfl) rfl ?_
    rintro _ _ (⟨hr, rfl, rfl⟩ | ⟨⟨k, v⟩, rest', hq, rfl, rfl⟩)
    · subst hr
      refine g_v (v_extract rfl rfl) rfl ?_
      refine g_nil ?_
      refine g_seq ?_
      refine g_false rfl ?_
      refine g_exit rfl ?_
      refine g_seq ?_
      refine g_draw (Lf := [pt b1 (.cells #[ptr b 0] 24 (0, 0)), pt b5 (.cells #[Bo (o)] 4 (0, 0)), pt b4 (.cells #[.map (some b13)] 154 (0, 0)), mp b13 (mi Q), pt b (.cells #[ptr x 0, sl s (L).length c, I (n)] 47 (0, 0)), pt x (.cells #[ptr p 0, .map (some r)] 43 (0, 0)), mpE r es clk (tb encN 24 S.N)]) [(0, false), (1, false), (2, false), (3, false), (4, false), (5, false), (6, false), (7, false), (8, false), (9, false), (10, false), (11, false), (12, false), (13, false), (14, false), (15, false), (16, false)] (by kernel_rfl) (by kernel_rfl) rfl (by kernel_rfl) ?_
      refine d_v rfl (v_load (v := .map (some b13)) Tryz.isAgg154 rfl rfl) rfl ?_
      refine d_v rfl (v_load (v := Bo o) Tryz.isAgg4 rfl rfl) rfl ?_
      refine d_v rfl (v_move rfl) rfl ?_
      refine d_gv rfl rfl rfl (fun hg => v_load (v := .map (some b13)) Tryz.isAgg154 rfl rfl) rfl rfl ?_
      refine d_gv rfl rfl rfl (fun hg => v_lenM Tryz.underlying154 rfl) rfl rfl ?_
      refine d_gv rfl rfl rfl (fun hg => v_load (v := ptr b 0) Tryz.isAgg24 rfl rfl) rfl rfl ?_
      refine d_gv rfl rfl rfl (fun hg => v_nilCheck rfl) rfl rfl ?_
      refine d_gv rfl rfl rfl (fun hg => v_fieldAddr 0 Tryz.underlying47 rfl rfl Tryz.sizeOf44 (by decide) rfl) rfl rfl ?_
      refine d_gv rfl rfl rfl (fun hg => v_load (v := ptr x 0) Tryz.isAgg44 rfl rfl) rfl rfl ?_
      refine d_gv rfl rfl rfl (fun hg => v_nilCheck rfl) rfl rfl ?_
      refine d_gv rfl rfl rfl (fun hg => v_fieldAddr 1 Tryz.underlying43 rfl rfl Tryz.sizeOf41 (by decide) rfl) rfl rfl ?_
      refine d_gv rfl rfl rfl (fun hg => v_load (v := .map (some r)) Tryz.isAgg41 rfl rfl) rfl rfl ?_
      refine d_gv rfl rfl rfl (fun hg => v_lenM Tryz.underlying41 rfl) rfl rfl ?_
      refine d_gv rfl rfl rfl (fun hg => v_eql rfl rfl) rfl rfl ?_
      refine d_v rfl (v_and rfl rfl) rfl ?_
      refine d_v rfl (v_assign rfl) rfl ?_
      refine d_v rfl (v_assign rfl) rfl ?_
      refine d_nil ?_
      refine g_mapNodup b13 fun hnd => ?_
      rw [mi_keys] at hnd
      have hend := K2_end hK (fun q hq => by obtain ⟨m, hm⟩ := Option.isSome_iff_exists.1 hq; exact (hall q m hm).resolve_right (by simp)) hs hnd
      refine g_mapShut r ?_
      refine g_shutX p r x S (.refl _) ?_
      refine g_shutV b x s c (S) (L) (n) ?_
      refine g_sub (L2 := mp b13 (mi Q) :: vlt b S L n :: F) ?_
      exact fun a w hE hS => wp_ret (kq_ret (res_fpost (vs := [.map (some b13), Bo (o && decide (((mi Q).length : Int) = ((tb encN 24 S.N).length : Int)))]) rfl hE hS ⟨b13, Q, _, rfl, rfl, by rw [tb_len, show (mi Q).length = Q.length by simp [mi]]; exact hend.1, fun ho => hend.2 (by rw [Bool.and_eq_true] at ho; exact ho.1)⟩))
    · obtain ⟨m, hm, hv, hk⟩ := tb_mem (perm_hd hq hsub)
      simp only at hv hk hm
      subst hv
      have hall' : ∀ q m, S.N q = some m → q ∈ k :: done ∨ q ∈ rest'.map (·.1) := fun q m h => by
        rcases hall q m h with h1 | h1
        · exact .inl (List.mem_cons_of_mem _ h1)
        · rcases perm_key hq h1 with h2 | h2
          · exact .inl (by rw [h2]; simp)
          · exact .inr h2
      refine g_v (v_extract rfl rfl) rfl ?_
      refine g_nil ?_
      refine g_seq ?_
      refine g_true rfl ?_
      refine g_skip ?_
      refine g_block ?_
      refine g_seq ?_
      refine g_reg ?_
      refine g_v (v_entry rfl) rfl ?_
      refine g_v (v_extract (v := I k) rfl rfl) rfl ?_
      refine g_v (v_extract (v := encN m) rfl rfl) rfl ?_
      refine g_l (l_alloc #[I 0, I 0, I 0, I 0, I 0] Tryz.zeroValue99) rfl ?_
      rintro _ _ ⟨b10, rfl, rfl⟩
      refine g_v (v_assign rfl) rfl ?_
      refine g_l0 (l_storeA (cs := #[I 0, I 0, I 0, I 0, I 0]) (vs := ndC m) (ndC m).toArray Tryz.sizeOf99 rfl rfl rfl rfl (by simp) (splice_whole rfl)) ?_
      rintro _ _ rfl
      refine g_nil ?_
      refine g_seq ?_
      refine g_seq ?_
      refine g_reg ?_
      refine g_v (v_load (v := .map (some b13)) Tryz.isAgg154 rfl rfl) rfl ?_
      refine g_v (v_move rfl) rfl ?_
      refine g_v (v_lookup (v := I ((li Q k).getD 0)) Tryz.underlying154 Tryz.underlying3 Tryz.zeroValue3 rfl rfl (lk_mi_getD Q k 0)) rfl ?_
      refine g_v (v_neq rfl rfl) rfl ?_
      refine g_nil ?_
      refine g_cond rfl (fun h45 => ?_) (fun h45 => ?_)
      · simp at h45
        refine g_exit rfl ?_
        exact g_again (rest', k :: done, some (k, encN m), o, Q) ⟨K2_skip hK h45, hall', perm_sub hq hsub⟩ (perm_lt hq) [1, 4, 5, 6, 36] rfl rfl
      · simp at h45
        refine g_skip ?_
        refine g_seq ?_
        refine g_reg ?_
        refine g_v (v_fieldAddr 0 Tryz.underlying99 rfl rfl Tryz.sizeOf97 (by decide) rfl) rfl ?_
        refine g_v (v_loadA (vs := kdC m) Tryz.isAgg97 Tryz.sizeOf97 rfl rfl ndC_ld) rfl ?_
        refine g_v (v_move rfl) rfl ?_
        refine g_nil ?_
        refine g_block ?_
        refine g_loop (α := Nat × Bool × IM) (fun z => z.1 ≤ 4 ∧ K2 S.N L done ((kd m).take z.1) z.2.1 z.2.2 ∧ (z.2.1 = true → isR L k)) (fun z => U [(1, ptr b1 0), (4, ptr b4 0), (5, ptr b5 0), (6, .func (.func 139) #[] #[ptr b1 0, ptr b5 0, ptr b4 0]), (36, ptr b36 0), (47, .agg (kdC m).toArray), (48, I z.1)]) (fun z => mit b36 r es clk rest' (some (k, encN m)) :: pt b1 (.cells #[ptr b 0] 24 (0, 0)) :: pt b5 (.cells #[Bo (z.2.1)] 4 (0, 0)) :: pt b4 (.cells #[.map (some b13)] 154 (0, 0)) :: mp b13 (mi z.2.2) :: pt b (.cells #[ptr x 0, sl s (L).length c, I (n)] 47 (0, 0)) :: pt x (.cells #[ptr p 0, .map (some r)] 43 (0, 0)) :: mpE r es clk (tb encN 24 S.N) :: plb p S.B :: owL 55 4 s c (ptR (L)) :: F) (fun z => 4 - z.1) (0, o, Q) ⟨by simp, hK, fun ho => K2_root (by rw [← ho]; exact hK) h45⟩ [1, 4, 5, 6, 36, 47, 48] rfl rfl ?_
        rintro ⟨i, o, Q⟩ ⟨hi, hK2, hro⟩
        simp only [] at hi hK2 hro ⊢
        refine g_seq ?_
        refine g_reg ?_
        refine g_v (v_lss rfl rfl) rfl ?_
        refine g_nil ?_
        refine g_seq ?_
        refine g_cond rfl (fun h49 => ?_) (fun h49 => ?_)
        · simp at h49
          have hi4 : i < 4 := by omega
          refine g_skip ?_
          refine g_seq ?_
          refine g_block ?_
          refine g_seq ?_
          refine g_reg ?_
          refine g_v (v_index (v := I (kat m i)) i Tryz.underlying97 Tryz.sizeOf3 Tryz.isAgg3 rfl rfl rfl hi4 (by simpa using kdC_at m i hi4)) rfl ?_
          refine g_v (v_assign rfl) rfl ?_
          refine g_nil ?_
          refine g_reg ?_
          refine g_v (v_move rfl) rfl ?_
          refine g_v (v_move rfl) rfl ?_
          refine g_l (l_callV (fi := []) (cap := [ptr b1 0, ptr b5 0, ptr b4 0]) (Pre := [pt b1 (.cells #[ptr b 0] 24 (0, 0)), pt b5 (.cells #[Bo (o)] 4 (0, 0)), pt b4 (.cells #[.map (some b13)] 154 (0, 0)), mp b13 (mi Q), pt b (.cells #[ptr x 0, sl s (L).length c, I (n)] 47 (0, 0)), pt x (.cells #[ptr p 0, .map (some r)] 43 (0, 0)), mpE r es clk (tb encN 24 S.N)]) Tryz.call139 rfl rfl (ct_image_kinds1 b x p r b1 b5 b4 b13 es clk S L n s c Q o (kat m i) 2 hs)) rfl ?_
          rintro _ _ ⟨rfl, rfl⟩
          refine g_nil ?_
          refine g_blk ?_
          refine g_reg ?_
          refine g_v (v_add rfl rfl (w64 (by omega))) rfl ?_
          refine g_v (v_move rfl) rfl ?_
          refine g_nil ?_
          exact g_again (i + 1, sayO S.N Q o (kat m i) 2, sayF Q (kat m i) 2) ⟨by simp only []; omega, by simp only []; rw [← tk_snoc (kd_at m i hi4)]; exact K2_kid hK2 hro hm (kd_kat hi4), fun h => hro (sayO_le h)⟩ (by simp only []; omega) [1, 4, 5, 6, 36, 47, 48] rfl rfl
        · simp at h49
          obtain rfl : i = 4 := by omega
          refine g_exit rfl ?_
          refine g_blk ?_
          exact g_again (rest', k :: done, some (k, encN m), o, Q) ⟨K2_done hK2 hro hm, hall', perm_sub hq hsub⟩ (perm_lt hq) [1, 4, 5, 6, 36] rfl rfl

theorem ct_image_counted (b : Nat) (S : SI) (L : List Pt) (n : Int) (rk : Nat) (Kd : IM) (hl : L.length ≤ 6) (hs : sup 24 S.N) (hB : sup 40 S.B) (hpos : ∀ q x, S.B q = some x → 0 < x.2) (hK : ∀ q, (li Kd q).getD 0 = 1 ↔ isR L q) (F : List HProp) : Ct Tryz.prog 90 [ptr b 0, .map (some rk)] ([mp rk (mi Kd), vlt b S L n] ++ F) (fun v L' => ∃ o, v = Bo o ∧ L' = vlt b S L n :: F ∧ (o = true ↔ CountP S.B S.N L)) := by
  show Ct Tryz.prog 90 [ptr b 0, .map (some rk)] (mp rk (mi Kd) :: vlt b S L n :: F) _
  refine Ct.of Tryz.func90 rfl 126 Tryz.ntmps90 (by simp) fun w0 => ?_
  refine g_openV b S L n ?_
  intro x s c
  refine g_openX x S ?_
  intro p r
  refine g_mapOpen r ?_
  intro es clk
  refine g_seq ?_
  refine g_reg ?_
  refine g_v (v_assign rfl) rfl ?_
  refine g_nil ?_
  refine g_seq ?_
  refine g_reg ?_
  refine g_l (l_makeMap) rfl ?_
  rintro _ _ ⟨b17, rfl, rfl⟩
  refine g_l (l_makeMap) rfl ?_
  rintro _ _ ⟨b18, rfl, rfl⟩
  refine g_v (v_assign rfl) rfl ?_
  refine g_v (v_assign rfl) rfl ?_
  refine g_nil ?_
  refine g_map b17 (mi []) (.refl _) ?_
  refine g_map b18 (mi []) (.refl _) ?_
  refine g_seq ?_
  refine g_seq ?_
  refine g_reg ?_
  refine g_v (v_move rfl) rfl ?_
  refine g_v (v_nilCheck rfl) rfl ?_
  refine g_v (v_fieldAddr 1 Tryz.underlying47 rfl rfl Tryz.sizeOf45 (by decide) rfl) rfl ?_
  refine g_v (v_load (v := sl s (L).length c) Tryz.isAgg45 rfl rfl) rfl ?_
  refine g_v (v_len Tryz.underlying45 rfl) rfl ?_
  refine g_v (v_move rfl) rfl ?_
  refine g_nil ?_
  refine g_block ?_
  refine g_loop (α := Nat × IM) (fun z => z.1 ≤ L.length ∧ cm z.2 (cA ((L.take z.1).map (·.root)))) (fun z => U [(0, ptr b 0), (1, .map (some rk)), (5, .map (some b17)), (6, .map (some b18)), (22, sl s L.length c), (23, I L.length), (24, I z.1)]) (fun z => mp b17 (mi z.2) :: mp b18 (mi []) :: mp rk (mi Kd) :: pt b (.cells #[ptr x 0, sl s (L).length c, I (n)] 47 (0, 0)) :: pt x (.cells #[ptr p 0, .map (some r)] 43 (0, 0)) :: mpE r es clk (tb encN 24 S.N) :: plb p S.B :: owL 55 4 s c (ptR (L)) :: F) (fun z => L.length - z.1) (0, []) ⟨by simp, cm_nil⟩ [0, 1, 5, 6, 22, 23, 24] rfl rfl ?_
  rintro ⟨j, Q⟩ ⟨hj, hQ⟩
  simp only [] at hj hQ ⊢
  refine g_seq ?_
  refine g_reg ?_
  refine g_v (v_lss rfl rfl) rfl ?_
  refine g_nil ?_
  refine g_seq ?_
  refine g_cond rfl (fun h25 => ?_) (fun h25 => ?_)
  · simp at h25
    have hjn : j < L.length := by omega
    obtain ⟨p0, hp⟩ : ∃ p0, L[j]? = some p0 := ⟨_, List.getElem?_eq_getElem hjn⟩
    refine g_skip ?_
    refine g_seq ?_
    refine g_block ?_
    refine g_seq ?_
    refine g_reg ?_
    refine g_v (v_idxS (j) Tryz.underlying45 Tryz.sizeOf55 rfl rfl rfl hjn (by rw [ptR_len]; exact hjn)) rfl ?_
    refine g_v (v_loadAS (row := encPt p0) Tryz.isAgg55 Tryz.sizeOf55 rfl (ptR_at hp) rfl) rfl ?_
    refine g_l (l_alloc #[I 0, I 0, I 0, I 0] Tryz.zeroValue55) rfl ?_
    rintro _ _ ⟨b8, rfl, rfl⟩
    refine g_l0 (l_storeA (cs := #[I 0, I 0, I 0, I 0]) (vs := encPt (p0)) (encPt (p0)).toArray Tryz.sizeOf55 rfl rfl rfl rfl (by simp) (splice_whole rfl)) ?_
    rintro _ _ rfl
    refine g_nil ?_
    refine g_reg ?_
    refine g_v (v_move rfl) rfl ?_
    refine g_v (v_fieldAddr 3 Tryz.underlying55 rfl rfl Tryz.sizeOf3 (by decide) rfl) rfl ?_
    refine g_v (v_load (v := I p0.root) Tryz.isAgg3 rfl rfl) rfl ?_
    refine g_v (v_lookup (v := I (cA ((L.take j).map (·.root)) p0.root)) Tryz.underlying154 Tryz.underlying3 Tryz.zeroValue3 rfl rfl (cm_lk hQ _)) rfl ?_
    refine g_v (v_add rfl rfl (w64 (by have := cA_nn ((L.take j).map (·.root)) p0.root; have h9 := cA_le ((L.take j).map (·.root)) p0.root; rw [List.length_map, List.length_take] at h9; omega))) rfl ?_
    refine g_l0 (l_mapUpdate Tryz.underlying154 Tryz.underlying3 rfl rfl rfl) ?_
    rintro _ _ rfl
    rw [mi_set]
    refine g_nil ?_
    refine g_blk ?_
    refine g_reg ?_
    refine g_v (v_add rfl rfl (w64 (by omega))) rfl ?_
    refine g_v (v_move rfl) rfl ?_
    refine g_nil ?_
    exact g_again (j + 1, sti Q p0.root (cA ((L.take j).map (·.root)) p0.root + 1)) ⟨by simp only []; omega, by simp only []; rw [← tk_snoc hp, List.map_append]; exact cm_root hQ p0.root⟩ (by simp only []; omega) [0, 1, 5, 6, 22, 23, 24] rfl rfl
  · simp at h25
    obtain rfl : j = L.length := by omega
    rw [List.take_length] at hQ
    refine g_exit rfl ?_
    refine g_seq ?_
    refine g_seq ?_
    refine g_reg ?_
    refine g_v (v_move rfl) rfl ?_
    refine g_v (v_nilCheck rfl) rfl ?_
    refine g_v (v_fieldAddr 0 Tryz.underlying47 rfl rfl Tryz.sizeOf44 (by decide) rfl) rfl ?_
    refine g_v (v_load (v := ptr x 0) Tryz.isAgg44 rfl rfl) rfl ?_
    refine g_v (v_nilCheck rfl) rfl ?_
    refine g_v (v_fieldAddr 1 Tryz.underlying43 rfl rfl Tryz.sizeOf41 (by decide) rfl) rfl ?_
    refine g_v (v_load (v := .map (some r)) Tryz.isAgg41 rfl rfl) rfl ?_
    refine g_l (l_range Tryz.underlying41 rfl) rfl ?_
    rintro _ _ ⟨b41, rfl, rfl⟩
    refine g_nil ?_
    refine g_block ?_
    refine g_loop (α := MM × Option (Int × Value) × IM × IM × (Int → Int) × (Int → Int)) (fun z => Cnt S.N L z.1 z.2.2.2.2.1 z.2.2.2.2.2 ∧ cm z.2.2.1 z.2.2.2.2.1 ∧ cm z.2.2.2.1 z.2.2.2.2.2 ∧ (∀ q m, S.N q = some m → q ∈ z.1.map (·.1) ∨ ¬ noKids m) ∧ ∀ p ∈ z.1, p ∈ tb encN 24 S.N) (fun z => U [(0, ptr b 0), (1, .map (some rk)), (5, .map (some b17)), (6, .map (some b18)), (41, ptr b41 0)]) (fun z => mit b41 r es clk z.1 z.2.1 :: mp b17 (mi z.2.2.1) :: mp b18 (mi z.2.2.2.1) :: mp rk (mi Kd) :: pt b (.cells #[ptr x 0, sl s (L).length c, I (n)] 47 (0, 0)) :: pt x (.cells #[ptr p 0, .map (some r)] 43 (0, 0)) :: mpE r es clk (tb encN 24 S.N) :: plb p S.B :: owL 55 4 s c (ptR (L)) :: F) (fun z => z.1.length) (tb encN 24 S.N, none, Q, [], cA (L.map (·.root)), fun _ => 0) ⟨Cnt_start, hQ, cm_nil, fun q m h => .inl (tb_in hs h), fun _ h => h⟩ [0, 1, 5, 6, 41] rfl rfl ?_
    rintro ⟨rest, cur, Q1, Q2, c1, c2⟩ ⟨hC0, hQ1, hQ2, hnz, hsub⟩
    simp only [] at hC0 hQ1 hQ2 hnz hsub ⊢
    refine g_seq ?_
    refine g_reg ?_
    refine g_l (l_next rfl) rfl ?_
    rintro _ _ (⟨hr, rfl, rfl⟩ | ⟨⟨k, v⟩, rest', hq, rfl, rfl⟩)
    · subst hr
      have hnz' : ∀ q m, S.N q = some m → ¬ noKids m := fun q m h => (hnz q m h).resolve_left (by simp)
      refine g_v (v_extract rfl rfl) rfl ?_
      refine g_nil ?_
      refine g_seq ?_
      refine g_false rfl ?_
      refine g_exit rfl ?_
      refine g_seq ?_
      refine g_reg ?_
      refine g_v (v_move rfl) rfl ?_
      refine g_l0 (l_delete Tryz.underlying154 Tryz.underlying3 rfl rfl) ?_
      rintro _ _ ⟨rfl, rfl⟩
      rw [mi_del]
      refine g_nil ?_
      refine g_seq ?_
      refine g_reg ?_
      refine g_v (v_move rfl) rfl ?_
      refine g_l0 (l_delete Tryz.underlying154 Tryz.underlying3 rfl rfl) ?_
      rintro _ _ ⟨rfl, rfl⟩
      rw [mi_del]
      refine g_nil ?_
      have hE1 := cm_del0 hQ1
      have hE2 := cm_del0 hQ2
      obtain ⟨D1, eD1⟩ : ∃ D : Int → Int, D = fun q => if q = 0 then 0 else c1 q := ⟨_, rfl⟩
      obtain ⟨D2, eD2⟩ : ∃ D : Int → Int, D = fun q => if q = 0 then 0 else c2 q := ⟨_, rfl⟩
      have hD1 : cm (dli Q1 0) D1 := by rw [eD1]; exact hE1
      have hD2 : cm (dli Q2 0) D2 := by rw [eD2]; exact hE2
      refine g_seq ?_
      refine g_seq ?_
      refine g_reg ?_
      refine g_v (v_move rfl) rfl ?_
      refine g_v (v_nilCheck rfl) rfl ?_
      refine g_v (v_fieldAddr 0 Tryz.underlying47 rfl rfl Tryz.sizeOf44 (by decide) rfl) rfl ?_
      refine g_v (v_load (v := ptr x 0) Tryz.isAgg44 rfl rfl) rfl ?_
      refine g_v (v_nilCheck rfl) rfl ?_
      refine g_v (v_fieldAddr 1 Tryz.underlying43 rfl rfl Tryz.sizeOf41 (by decide) rfl) rfl ?_
      refine g_v (v_load (v := .map (some r)) Tryz.isAgg41 rfl rfl) rfl ?_
      refine g_l (l_range Tryz.underlying41 rfl) rfl ?_
      rintro _ _ ⟨b78, rfl, rfl⟩
      refine g_nil ?_
      refine g_block ?_
      refine g_loop (α := MM × Option (Int × Value)) (fun z => (∀ q m, S.N q = some m → q ∈ z.1.map (·.1) ∨ D1 q = m.refs) ∧ ∀ p ∈ z.1, p ∈ tb encN 24 S.N) (fun z => U [(0, ptr b 0), (5, .map (some b17)), (6, .map (some b18)), (78, ptr b78 0)]) (fun z => mit b78 r es clk z.1 z.2 :: mp b17 (mi (dli Q1 0)) :: mp b18 (mi (dli Q2 0)) :: mp rk (mi Kd) :: pt b (.cells #[ptr x 0, sl s (L).length c, I (n)] 47 (0, 0)) :: pt x (.cells #[ptr p 0, .map (some r)] 43 (0, 0)) :: mpE r es clk (tb encN 24 S.N) :: plb p S.B :: owL 55 4 s c (ptR (L)) :: F) (fun z => z.1.length) (tb encN 24 S.N, none) ⟨fun q m h => .inl (tb_in hs h), fun _ h => h⟩ [0, 5, 6, 78] rfl rfl ?_
      rintro ⟨rest, cur⟩ ⟨hnn, hsub⟩
      simp only [] at hnn hsub ⊢
      refine g_seq ?_
      refine g_reg ?_
      refine g_l (l_next rfl) rfl ?_
      rintro _ _ (⟨hr, rfl, rfl⟩ | ⟨⟨k, v⟩, rest', hq, rfl, rfl⟩)
      · subst hr
        have hnn' : ∀ q m, S.N q = some m → D1 q = m.refs := fun q m h => (hnn q m h).resolve_left (by simp)
        refine g_v (v_extract rfl rfl) rfl ?_
        refine g_nil ?_
        refine g_seq ?_
        refine g_false rfl ?_
        refine g_exit rfl ?_
        refine g_seq ?_
        refine g_seq ?_
        refine g_openP p S.B ?_
        intro r2
        refine g_mapOpen r2 ?_
        intro es2 clk2
        refine g_reg ?_
        refine g_v (v_move rfl) rfl ?_
        refine g_v (v_nilCheck rfl) rfl ?_
        refine g_v (v_fieldAddr 0 Tryz.underlying47 rfl rfl Tryz.sizeOf44 (by decide) rfl) rfl ?_
        refine g_v (v_load (v := ptr x 0) Tryz.isAgg44 rfl rfl) rfl ?_
        refine g_v (v_nilCheck rfl) rfl ?_
        refine g_v (v_fieldAddr 0 Tryz.underlying43 rfl rfl Tryz.sizeOf40 (by decide) rfl) rfl ?_
        refine g_v (v_load (v := ptr p 0) Tryz.isAgg40 rfl rfl) rfl ?_
        refine g_v (v_nilCheck rfl) rfl ?_
        refine g_v (v_fieldAddr 0 Tryz.underlying95 rfl rfl Tryz.sizeOf93 (by decide) rfl) rfl ?_
        refine g_v (v_load (v := .map (some r2)) Tryz.isAgg93 rfl rfl) rfl ?_
        refine g_l (l_range Tryz.underlying93 rfl) rfl ?_
        rintro _ _ ⟨b100, rfl, rfl⟩
        refine g_nil ?_
        refine g_block ?_
        refine g_loop (α := MM × Option (Int × Value)) (fun z => (∀ q y, S.B q = some y → q ∈ z.1.map (·.1) ∨ D2 q = y.2) ∧ ∀ p ∈ z.1, p ∈ tb encB 40 S.B) (fun z => U [(0, ptr b 0), (6, .map (some b18)), (100, ptr b100 0)]) (fun z => mit b100 r2 es2 clk2 z.1 z.2 :: mp b17 (mi (dli Q1 0)) :: mp b18 (mi (dli Q2 0)) :: mp rk (mi Kd) :: pt b (.cells #[ptr x 0, sl s (L).length c, I (n)] 47 (0, 0)) :: pt x (.cells #[ptr p 0, .map (some r)] 43 (0, 0)) :: mpE r es clk (tb encN 24 S.N) :: pt p (.cells #[.map (some r2)] 95 (0, 0)) :: mpE r2 es2 clk2 (tb encB 40 S.B) :: owL 55 4 s c (ptR (L)) :: F) (fun z => z.1.length) (tb encB 40 S.B, none) ⟨fun q m h => .inl (tbB_in hB h), fun _ h => h⟩ [0, 6, 100] rfl rfl ?_
        rintro ⟨rest, cur⟩ ⟨hbb, hsub⟩
        simp only [] at hbb hsub ⊢
        refine g_seq ?_
        refine g_reg ?_
        refine g_l (l_next rfl) rfl ?_
        rintro _ _ (⟨hr, rfl, rfl⟩ | ⟨⟨k, v⟩, rest', hq, rfl, rfl⟩)
        · subst hr
          have hbb' : ∀ q y, S.B q = some y → D2 q = y.2 := fun q y h => (hbb q y h).resolve_left (by simp)
          refine g_v (v_extract rfl rfl) rfl ?_
          refine g_nil ?_
          refine g_seq ?_
          refine g_false rfl ?_
          refine g_exit rfl ?_
          refine g_seq ?_
          refine g_draw (Lf := [mp b18 (mi (dli Q2 0)), pt b (.cells #[ptr x 0, sl s (L).length c, I (n)] 47 (0, 0)), pt x (.cells #[ptr p 0, .map (some r)] 43 (0, 0)), pt p (.cells #[.map (some r2)] 95 (0, 0)), mpE r2 es2 clk2 (tb encB 40 S.B)]) [(0, false), (1, false), (2, false), (3, false), (4, false), (5, false), (6, false), (7, false), (8, false), (9, false), (10, false), (11, false), (12, false), (13, false), (14, false)] (by kernel_rfl) (by kernel_rfl) rfl (by kernel_rfl) ?_
          refine d_v rfl (v_move rfl) rfl ?_
          refine d_v rfl (v_lenM Tryz.underlying154 rfl) rfl ?_
          refine d_v rfl (v_move rfl) rfl ?_
          refine d_v rfl (v_nilCheck rfl) rfl ?_
          refine d_v rfl (v_fieldAddr 0 Tryz.underlying47 rfl rfl Tryz.sizeOf44 (by decide) rfl) rfl ?_
          refine d_v rfl (v_load (v := ptr x 0) Tryz.isAgg44 rfl rfl) rfl ?_
          refine d_v rfl (v_nilCheck rfl) rfl ?_
          refine d_v rfl (v_fieldAddr 0 Tryz.underlying43 rfl rfl Tryz.sizeOf40 (by decide) rfl) rfl ?_
          refine d_v rfl (v_load (v := ptr p 0) Tryz.isAgg40 rfl rfl) rfl ?_
          refine d_v rfl (v_nilCheck rfl) rfl ?_
          refine d_v rfl (v_fieldAddr 0 Tryz.underlying95 rfl rfl Tryz.sizeOf93 (by decide) rfl) rfl ?_
          refine d_v rfl (v_load (v := .map (some r2)) Tryz.isAgg93 rfl rfl) rfl ?_
          refine d_v rfl (v_lenM Tryz.underlying93 rfl) rfl ?_
          refine d_v rfl (v_eql rfl rfl) rfl ?_
          refine d_v rfl (v_assign rfl) rfl ?_
          refine d_nil ?_
          first
          | (refine g_mapShut r ?_
             refine g_shutX p r x S (.refl _) ?_
             refine g_shutV b x s c (S) (L) (n) ?_
             refine g_sub (L2 := vlt b S L n :: F) ?_
             exact fun a w hE hS => wp_ret (kq_ret (res_fpost (vs := [Bo false]) rfl hE hS ⟨false, rfl, rfl, (fun h => by cases h), fun h => absurd h (fun hc => hc.nz k m hm hno)⟩)))
          | (subst eD1
             refine g_mapShut r ?_
             refine g_shutX p r x S (.refl _) ?_
             refine g_shutV b x s c (S) (L) (n) ?_
             refine g_sub (L2 := vlt b S L n :: F) ?_
             exact fun a w hE hS => wp_ret (kq_ret (res_fpost (vs := [Bo false]) rfl hE hS ⟨false, rfl, rfl, (fun h => by cases h), fun h => absurd h (count_no_n hC0 hs hm h89)⟩)))
          | (subst eD2
             refine g_mapShut r2 ?_
             refine g_shutP r2 p S.B (.refl _) ?_
             refine g_mapShut r ?_
             refine g_shutX p r x S (.refl _) ?_
             refine g_shutV b x s c (S) (L) (n) ?_
             refine g_sub (L2 := vlt b S L n :: F) ?_
             exact fun a w hE hS => wp_ret (kq_ret (res_fpost (vs := [Bo false]) rfl hE hS ⟨false, rfl, rfl, (fun h => by cases h), fun h => absurd h (count_no_b hC0 hB hy h111)⟩)))
          | (refine g_mapNodup b18 fun hnd => ?_
             rw [mi_keys] at hnd
             subst eD1 eD2
             have hend := count_end hC0 hnz' hnn' hbb' hB hs hpos hD2 hnd
             refine g_mapShut r2 ?_
             refine g_shutP r2 p S.B (.refl _) ?_
             refine g_mapShut r ?_
             refine g_shutX p r x S (.refl _) ?_
             refine g_shutV b x s c (S) (L) (n) ?_
             refine g_sub (L2 := vlt b S L n :: F) ?_
             exact fun a w hE hS => wp_ret (kq_ret (res_fpost (vs := [Bo (decide (((mi (dli Q2 0)).length : Int) = ((tb encB 40 S.B).length : Int)))]) rfl hE hS ⟨_, rfl, rfl, by rw [tb_len, show (mi (dli Q2 0)).length = (dli Q2 0).length by simp [mi]]; exact hend⟩)))
        · obtain ⟨y, hy, hv, hk⟩ := tb_mem (perm_hd hq hsub)
          simp only at hv hk hy
          subst hv
          refine g_v (v_extract rfl rfl) rfl ?_
          refine g_nil ?_
          refine g_seq ?_
          refine g_true rfl ?_
          refine g_skip ?_
          refine g_block ?_
          refine g_seq ?_
          refine g_reg ?_
          refine g_v (v_entry rfl) rfl ?_
          refine g_v (v_extract (v := I k) rfl rfl) rfl ?_
          refine g_v (v_extract (v := encB y) rfl rfl) rfl ?_
          refine g_l (l_alloc #[Str [], I 0] Tryz.zeroValue92) rfl ?_
          rintro _ _ ⟨b16, rfl, rfl⟩
          refine g_v (v_assign rfl) rfl ?_
          refine g_l0 (l_storeA (cs := #[Str [], I 0]) (vs := [Str y.1, I y.2]) #[Str y.1, I y.2] Tryz.sizeOf92 rfl rfl rfl rfl (by simp) (splice_whole rfl)) ?_
          rintro _ _ rfl
          refine g_nil ?_
          refine g_seq ?_
          refine g_reg ?_
          refine g_v (v_move rfl) rfl ?_
          refine g_v (v_move rfl) rfl ?_
          refine g_v (v_lookup (v := I (D2 k)) Tryz.underlying154 Tryz.underlying3 Tryz.zeroValue3 rfl rfl (cm_lk hD2 _)) rfl ?_
          refine g_v (v_fieldAddr 1 Tryz.underlying92 rfl rfl Tryz.sizeOf3 (by decide) rfl) rfl ?_
          refine g_v (v_load (v := I y.2) Tryz.isAgg3 rfl rfl) rfl ?_
          refine g_v (v_neq rfl rfl) rfl ?_
          refine g_nil ?_
          refine g_cond rfl (fun h111 => ?_) (fun h111 => ?_)
          · have h111 : D2 k ≠ y.2 := by simpa using h111
            refine g_seq ?_
            refine g_reg ?_
            refine g_v (v_assign rfl) rfl ?_
            refine g_nil ?_
            first
            | (refine g_mapShut r ?_
               refine g_shutX p r x S (.refl _) ?_
               refine g_shutV b x s c (S) (L) (n) ?_
               refine g_sub (L2 := vlt b S L n :: F) ?_
               exact fun a w hE hS => wp_ret (kq_ret (res_fpost (vs := [Bo false]) rfl hE hS ⟨false, rfl, rfl, (fun h => by cases h), fun h => absurd h (fun hc => hc.nz k m hm hno)⟩)))
            | (subst eD1
               refine g_mapShut r ?_
               refine g_shutX p r x S (.refl _) ?_
               refine g_shutV b x s c (S) (L) (n) ?_
               refine g_sub (L2 := vlt b S L n :: F) ?_
               exact fun a w hE hS => wp_ret (kq_ret (res_fpost (vs := [Bo false]) rfl hE hS ⟨false, rfl, rfl, (fun h => by cases h), fun h => absurd h (count_no_n hC0 hs hm h89)⟩)))
            | (subst eD2
               refine g_mapShut r2 ?_
               refine g_shutP r2 p S.B (.refl _) ?_
               refine g_mapShut r ?_
               refine g_shutX p r x S (.refl _) ?_
               refine g_shutV b x s c (S) (L) (n) ?_
               refine g_sub (L2 := vlt b S L n :: F) ?_
               exact fun a w hE hS => wp_ret (kq_ret (res_fpost (vs := [Bo false]) rfl hE hS ⟨false, rfl, rfl, (fun h => by cases h), fun h => absurd h (count_no_b hC0 hB hy h111)⟩)))
            | (refine g_mapNodup b18 fun hnd => ?_
               rw [mi_keys] at hnd
               subst eD1 eD2
               have hend := count_end hC0 hnz' hnn' hbb' hB hs hpos hD2 hnd
               refine g_mapShut r2 ?_
               refine g_shutP r2 p S.B (.refl _) ?_
               refine g_mapShut r ?_
               refine g_shutX p r x S (.refl _) ?_
               refine g_shutV b x s c (S) (L) (n) ?_
               refine g_sub (L2 := vlt b S L n :: F) ?_
               exact fun a w hE hS => wp_ret (kq_ret (res_fpost (vs := [Bo (decide (((mi (dli Q2 0)).length : Int) = ((tb encB 40 S.B).length : Int)))]) rfl hE hS ⟨_, rfl, rfl, by rw [tb_len, show (mi (dli Q2 0)).length = (dli Q2 0).length by simp [mi]]; exact hend⟩)))
          · have h111 : D2 k = y.2 := by simpa using h111
            refine g_skip ?_
            refine g_blk ?_
            exact g_again (rest', some (k, encB y)) ⟨(fun q m' h => by
              rcases hbb q m' h with h1 | h1
              · rcases perm_key hq h1 with rfl | h2
                · rw [hy] at h; injection h with h; subst h; exact .inr h111
                · exact .inl h2
              · exact .inr h1), perm_sub hq hsub⟩ (perm_lt hq) [0, 6, 100] rfl rfl
      · obtain ⟨m, hm, hv, hk⟩ := tb_mem (perm_hd hq hsub)
        simp only at hv hk hm
        subst hv
        refine g_v (v_extract rfl rfl) rfl ?_
        refine g_nil ?_
        refine g_seq ?_
        refine g_true rfl ?_
        refine g_skip ?_
        refine g_block ?_
        refine g_seq ?_
        refine g_reg ?_
        refine g_v (v_entry rfl) rfl ?_
        refine g_v (v_extract (v := I k) rfl rfl) rfl ?_
        refine g_v (v_extract (v := encN m) rfl rfl) rfl ?_
        refine g_l (l_alloc #[I 0, I 0, I 0, I 0, I 0] Tryz.zeroValue99) rfl ?_
        rintro _ _ ⟨b14, rfl, rfl⟩
        refine g_v (v_assign rfl) rfl ?_
        refine g_l0 (l_storeA (cs := #[I 0, I 0, I 0, I 0, I 0]) (vs := ndC m) (ndC m).toArray Tryz.sizeOf99 rfl rfl rfl rfl (by simp) (splice_whole rfl)) ?_
        rintro _ _ rfl
        refine g_nil ?_
        refine g_seq ?_
        refine g_reg ?_
        refine g_v (v_move rfl) rfl ?_
        refine g_v (v_move rfl) rfl ?_
        refine g_v (v_lookup (v := I (D1 k)) Tryz.underlying154 Tryz.underlying3 Tryz.zeroValue3 rfl rfl (cm_lk hD1 _)) rfl ?_
        refine g_v (v_fieldAddr 4 Tryz.underlying99 rfl rfl Tryz.sizeOf3 (by decide) rfl) rfl ?_
        refine g_v (v_load (v := I m.refs) Tryz.isAgg3 rfl rfl) rfl ?_
        refine g_v (v_neq rfl rfl) rfl ?_
        refine g_nil ?_
        refine g_cond rfl (fun h89 => ?_) (fun h89 => ?_)
        · have h89 : D1 k ≠ m.refs := by simpa using h89
          refine g_seq ?_
          refine g_reg ?_
          refine g_v (v_assign rfl) rfl ?_
          refine g_nil ?_
          first
          | (refine g_mapShut r ?_
             refine g_shutX p r x S (.refl _) ?_
             refine g_shutV b x s c (S) (L) (n) ?_
             refine g_sub (L2 := vlt b S L n :: F) ?_
             exact fun a w hE hS => wp_ret (kq_ret (res_fpost (vs := [Bo false]) rfl hE hS ⟨false, rfl, rfl, (fun h => by cases h), fun h => absurd h (fun hc => hc.nz k m hm hno)⟩)))
          | (subst eD1
             refine g_mapShut r ?_
             refine g_shutX p r x S (.refl _) ?_
             refine g_shutV b x s c (S) (L) (n) ?_
             refine g_sub (L2 := vlt b S L n :: F) ?_
             exact fun a w hE hS => wp_ret (kq_ret (res_fpost (vs := [Bo false]) rfl hE hS ⟨false, rfl, rfl, (fun h => by cases h), fun h => absurd h (count_no_n hC0 hs hm h89)⟩)))
          | (subst eD2
             refine g_mapShut r2 ?_
             refine g_shutP r2 p S.B (.refl _) ?_
             refine g_mapShut r ?_
             refine g_shutX p r x S (.refl _) ?_
             refine g_shutV b x s c (S) (L) (n) ?_
             refine g_sub (L2 := vlt b S L n :: F) ?_
             exact fun a w hE hS => wp_ret (kq_ret (res_fpost (vs := [Bo false]) rfl hE hS ⟨false, rfl, rfl, (fun h => by cases h), fun h => absurd h (count_no_b hC0 hB hy h111)⟩)))
          | (refine g_mapNodup b18 fun hnd => ?_
             rw [mi_keys] at hnd
             subst eD1 eD2
             have hend := count_end hC0 hnz' hnn' hbb' hB hs hpos hD2 hnd
             refine g_mapShut r2 ?_
             refine g_shutP r2 p S.B (.refl _) ?_
             refine g_mapShut r ?_
             refine g_shutX p r x S (.refl _) ?_
             refine g_shutV b x s c (S) (L) (n) ?_
             refine g_sub (L2 := vlt b S L n :: F) ?_
             exact fun a w hE hS => wp_ret (kq_ret (res_fpost (vs := [Bo (decide (((mi (dli Q2 0)).length : Int) = ((tb encB 40 S.B).length : Int)))]) rfl hE hS ⟨_, rfl, rfl, by rw [tb_len, show (mi (dli Q2 0)).length = (dli Q2 0).length by simp [mi]]; exact hend⟩)))
        · have h89 : D1 k = m.refs := by simpa using h89
          refine g_skip ?_
          refine g_blk ?_
          exact g_again (rest', some (k, encN m)) ⟨(fun q m' h => by
            rcases hnn q m' h with h1 | h1
            · rcases perm_key hq h1 with rfl | h2
              · rw [hm] at h; injection h with h; subst h; exact .inr h89
              · exact .inl h2
            · exact .inr h1), perm_sub hq hsub⟩ (perm_lt hq) [0, 5, 6, 78] rfl rfl
    · obtain ⟨m, hm, hv, hk⟩ := tb_mem (perm_hd hq hsub)
      simp only at hv hk hm
      subst hv
      refine g_v (v_extract rfl rfl) rfl ?_
      refine g_nil ?_
      refine g_seq ?_
      refine g_true rfl ?_
      refine g_skip ?_
      refine g_block ?_
      refine g_seq ?_
      refine g_reg ?_
      refine g_v (v_entry rfl) rfl ?_
      refine g_v (v_extract (v := I k) rfl rfl) rfl ?_
      refine g_v (v_extract (v := encN m) rfl rfl) rfl ?_
      refine g_l (l_alloc #[I 0, I 0, I 0, I 0, I 0] Tryz.zeroValue99) rfl ?_
      rintro _ _ ⟨b10, rfl, rfl⟩
      refine g_v (v_assign rfl) rfl ?_
      refine g_l0 (l_storeA (cs := #[I 0, I 0, I 0, I 0, I 0]) (vs := ndC m) (ndC m).toArray Tryz.sizeOf99 rfl rfl rfl rfl (by simp) (splice_whole rfl)) ?_
      rintro _ _ rfl
      refine g_nil ?_
      refine g_seq ?_
      refine g_seq ?_
      refine g_reg ?_
      refine g_v (v_fieldAddr 0 Tryz.underlying99 rfl rfl Tryz.sizeOf97 (by decide) rfl) rfl ?_
      refine g_v (v_loadA (vs := kdC m) Tryz.isAgg97 Tryz.sizeOf97 rfl rfl ndC_ld) rfl ?_
      refine g_v (v_move rfl) rfl ?_
      refine g_nil ?_
      refine g_block ?_
      refine g_loop (α := Nat × IM × IM × (Int → Int) × (Int → Int)) (fun z => z.1 ≤ 4 ∧ Cni S.N L rest' k m z.1 z.2.2.2.1 z.2.2.2.2 ∧ cm z.2.1 z.2.2.2.1 ∧ cm z.2.2.1 z.2.2.2.2) (fun z => U [(0, ptr b 0), (1, .map (some rk)), (5, .map (some b17)), (6, .map (some b18)), (41, ptr b41 0), (9, I k), (10, ptr b10 0), (48, .agg (kdC m).toArray), (49, I z.1)]) (fun z => mit b41 r es clk rest' (some (k, encN m)) :: pt b10 (.cells (ndC m).toArray 99 (0, 0)) :: mp b17 (mi z.2.1) :: mp b18 (mi z.2.2.1) :: mp rk (mi Kd) :: pt b (.cells #[ptr x 0, sl s (L).length c, I (n)] 47 (0, 0)) :: pt x (.cells #[ptr p 0, .map (some r)] 43 (0, 0)) :: mpE r es clk (tb encN 24 S.N) :: plb p S.B :: owL 55 4 s c (ptR (L)) :: F) (fun z => 4 - z.1) (0, Q1, Q2, c1, c2) ⟨by simp, Cnt_in hC0 hq hm, hQ1, hQ2⟩ [0, 1, 5, 6, 41, 9, 10, 48, 49] rfl rfl ?_
      rintro ⟨i, Q1, Q2, c1, c2⟩ ⟨hi, hC, hQ1, hQ2⟩
      simp only [] at hi hC hQ1 hQ2 ⊢
      refine g_seq ?_
      refine g_reg ?_
      refine g_v (v_lss rfl rfl) rfl ?_
      refine g_nil ?_
      refine g_seq ?_
      refine g_cond rfl (fun h50 => ?_) (fun h50 => ?_)
      · simp at h50
        have hi4 : i < 4 := by omega
        refine g_skip ?_
        refine g_seq ?_
        refine g_block ?_
        refine g_seq ?_
        refine g_reg ?_
        refine g_v (v_index (v := I (kat m i)) i Tryz.underlying97 Tryz.sizeOf3 Tryz.isAgg3 rfl rfl rfl hi4 (by simpa using kdC_at m i hi4)) rfl ?_
        refine g_v (v_assign rfl) rfl ?_
        refine g_nil ?_
        refine g_seq ?_
        refine g_reg ?_
        refine g_v (v_move rfl) rfl ?_
        refine g_v (v_move rfl) rfl ?_
        refine g_v (v_lookup (v := I ((li Kd k).getD 0)) Tryz.underlying154 Tryz.underlying3 Tryz.zeroValue3 rfl rfl (lk_mi_getD Kd k 0)) rfl ?_
        refine g_v (v_eql rfl rfl) rfl ?_
        refine g_nil ?_
        refine g_cond rfl (fun h55 => ?_) (fun h55 => ?_)
        · have h55 : (li Kd k).getD 0 = 1 := by simpa using h55
          refine g_reg ?_
          refine g_v (v_move rfl) rfl ?_
          refine g_v (v_move rfl) rfl ?_
          refine g_v (v_lookup (v := I (c1 (kat m i))) Tryz.underlying154 Tryz.underlying3 Tryz.zeroValue3 rfl rfl (cm_lk hQ1 _)) rfl ?_
          refine g_v (v_add rfl rfl (w64 (by have := hQ1.2.2 (kat m i); have := (Cni_bd hC hl (kat m i)).1; omega))) rfl ?_
          refine g_l0 (l_mapUpdate Tryz.underlying154 Tryz.underlying3 rfl rfl rfl) ?_
          rintro _ _ rfl
          rw [mi_set]
          refine g_nil ?_
          refine g_blk ?_
          refine g_reg ?_
          refine g_v (v_add rfl rfl (w64 (by omega))) rfl ?_
          refine g_v (v_move rfl) rfl ?_
          refine g_nil ?_
          exact g_again (i + 1, sti Q1 (kat m i) (c1 (kat m i) + 1), Q2, del c1 (kat m i) 1, c2) ⟨by simp only []; omega, Cni_R hC hi4 ((hK k).1 h55), cm_add hQ1 _, hQ2⟩ (by simp only []; omega) [0, 1, 5, 6, 41, 9, 10, 48, 49] rfl rfl
        · have h55 : ¬ (li Kd k).getD 0 = 1 := by simpa using h55
          refine g_reg ?_
          refine g_v (v_move rfl) rfl ?_
          refine g_v (v_move rfl) rfl ?_
          refine g_v (v_lookup (v := I (c2 (kat m i))) Tryz.underlying154 Tryz.underlying3 Tryz.zeroValue3 rfl rfl (cm_lk hQ2 _)) rfl ?_
          refine g_v (v_add rfl rfl (w64 (by have := hQ2.2.2 (kat m i); have := (Cni_bd hC hl (kat m i)).2; omega))) rfl ?_
          refine g_l0 (l_mapUpdate Tryz.underlying154 Tryz.underlying3 rfl rfl rfl) ?_
          rintro _ _ rfl
          rw [mi_set]
          refine g_nil ?_
          refine g_blk ?_
          refine g_reg ?_
          refine g_v (v_add rfl rfl (w64 (by omega))) rfl ?_
          refine g_v (v_move rfl) rfl ?_
          refine g_nil ?_
          exact g_again (i + 1, Q1, sti Q2 (kat m i) (c2 (kat m i) + 1), c1, del c2 (kat m i) 1) ⟨by simp only []; omega, Cni_L hC hi4 (fun h => h55 ((hK k).2 h)), hQ1, cm_add hQ2 _⟩ (by simp only []; omega) [0, 1, 5, 6, 41, 9, 10, 48, 49] rfl rfl
      · simp at h50
        obtain rfl : i = 4 := by omega
        refine g_exit rfl ?_
        refine g_seq ?_
        refine g_reg ?_
        refine g_v (v_fieldAddr 0 Tryz.underlying99 rfl rfl Tryz.sizeOf97 (by decide) rfl) rfl ?_
        refine g_v (v_loadA (vs := kdC m) Tryz.isAgg97 Tryz.sizeOf97 rfl rfl ndC_ld) rfl ?_
        refine g_v (v_build rfl bldA4) rfl ?_
        refine g_v (v_aeql Tryz.eqGuardType97 rfl rfl (eq_A4 m nd0)) rfl ?_
        refine g_nil ?_
        refine g_cond rfl (fun h68 => ?_) (fun h68 => ?_)
        · have hno : noKids m := of_decide_eq_true h68
          refine g_seq ?_
          refine g_reg ?_
          refine g_v (v_assign rfl) rfl ?_
          refine g_nil ?_
          first
          | (refine g_mapShut r ?_
             refine g_shutX p r x S (.refl _) ?_
             refine g_shutV b x s c (S) (L) (n) ?_
             refine g_sub (L2 := vlt b S L n :: F) ?_
             exact fun a w hE hS => wp_ret (kq_ret (res_fpost (vs := [Bo false]) rfl hE hS ⟨false, rfl, rfl, (fun h => by cases h), fun h => absurd h (fun hc => hc.nz k m hm hno)⟩)))
          | (subst eD1
             refine g_mapShut r ?_
             refine g_shutX p r x S (.refl _) ?_
             refine g_shutV b x s c (S) (L) (n) ?_
             refine g_sub (L2 := vlt b S L n :: F) ?_
             exact fun a w hE hS => wp_ret (kq_ret (res_fpost (vs := [Bo false]) rfl hE hS ⟨false, rfl, rfl, (fun h => by cases h), fun h => absurd h (count_no_n hC0 hs hm h89)⟩)))
          | (subst eD2
             refine g_mapShut r2 ?_
             refine g_shutP r2 p S.B (.refl _) ?_
             refine g_mapShut r ?_
             refine g_shutX p r x S (.refl _) ?_
             refine g_shutV b x s c (S) (L) (n) ?_
             refine g_sub (L2 := vlt b S L n :: F) ?_
             exact fun a w hE hS => wp_ret (kq_ret (res_fpost (vs := [Bo false]) rfl hE hS ⟨false, rfl, rfl, (fun h => by cases h), fun h => absurd h (count_no_b hC0 hB hy h111)⟩)))
          | (refine g_mapNodup b18 fun hnd => ?_
             rw [mi_keys] at hnd
             subst eD1 eD2
             have hend := count_end hC0 hnz' hnn' hbb' hB hs hpos hD2 hnd
             refine g_mapShut r2 ?_
             refine g_shutP r2 p S.B (.refl _) ?_
             refine g_mapShut r ?_
             refine g_shutX p r x S (.refl _) ?_
             refine g_shutV b x s c (S) (L) (n) ?_
             refine g_sub (L2 := vlt b S L n :: F) ?_
             exact fun a w hE hS => wp_ret (kq_ret (res_fpost (vs := [Bo (decide (((mi (dli Q2 0)).length : Int) = ((tb encB 40 S.B).length : Int)))]) rfl hE hS ⟨_, rfl, rfl, by rw [tb_len, show (mi (dli Q2 0)).length = (dli Q2 0).length by simp [mi]]; exact hend⟩)))
        · have h68 : ¬ noKids m := of_decide_eq_false h68
          refine g_skip ?_
          refine g_blk ?_
          exact g_again (rest', some (k, encN m), Q1, Q2, c1, c2) ⟨Cni_out hC, hQ1, hQ2, (fun q m' h => by
            rcases hnz q m' h with h1 | h1
            · rcases perm_key hq h1 with rfl | h2
              · rw [hm] at h; injection h with h; subst h; exact .inr h68
              · exact .inl h2
            · exact .inr h1), perm_sub hq hsub⟩ (perm_lt hq) [0, 1, 5, 6, 41] rfl rfl

end Go.Proofs.YthdjckbjjfiopacGreatDoor
