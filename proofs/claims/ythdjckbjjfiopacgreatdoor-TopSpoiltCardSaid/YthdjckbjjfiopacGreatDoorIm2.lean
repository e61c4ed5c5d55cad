/- The walk through image.row: a row is read into a vault in the making. No condition but the library's tables. -/
import Derived.Test.YthdjckbjjfiopacGreatDoorIm
namespace Go.Proofs.YthdjckbjjfiopacGreatDoor
open Go.Sl Go.Proofs
set_option linter.unusedVariables false
set_option linter.unusedSimpArgs false
def pvP (b : Nat) (st : PS) (z : Nat × Nat × Nat × Nat × Option Addr × Nat) : List HProp := [pt b (.cells #[ptr z.1 0, sl z.2.2.2.2.1 st.L.length z.2.2.2.2.2, I st.n] 47 (0, 0)), pt z.1 (.cells #[ptr z.2.1 0, .map (some z.2.2.1)] 43 (0, 0)), pt z.2.1 (.cells #[.map (some z.2.2.2.1)] 95 (0, 0)), mp z.2.2.1 (tb encN 999 st.N), mp z.2.2.2.1 (tb encB 999 st.B), owL 55 4 z.2.2.2.2.1 z.2.2.2.2.2 (ptR st.L)]
/-- a vault in the making at b -/
def pvl (b : Nat) (st : PS) : HProp := hx (pvP b st)
def rowR (b : Nat) (st' : Option PS) (F : List HProp) : Value → List HProp → Prop := fun v L' => match st' with
  | none => v = Bo false ∧ L' = F
  | some st => v = Bo true ∧ L' = pvl b st :: F
section
variable {c : Cx} {E : Env} {L : List HProp} {K : List KI}
theorem g_openW {F : List HProp} (b : Nat) (st : PS) [R : Rem L (pvl b st) F] (k : ∀ x p r r2 s cc, G c K E (pt b (.cells #[ptr x 0, sl s st.L.length cc, I st.n] 47 (0, 0)) :: pt x (.cells #[ptr p 0, .map (some r)] 43 (0, 0)) :: pt p (.cells #[.map (some r2)] 95 (0, 0)) :: mp r (tb encN 999 st.N) :: mp r2 (tb encB 999 st.B) :: owL 55 4 s cc (ptR st.L) :: F)) : G c K E L := g_open (pvl b st) rfl fun z => k z.1 z.2.1 z.2.2.1 z.2.2.2.1 z.2.2.2.2.1 z.2.2.2.2.2
theorem g_shutW {F : List HProp} (b x p r r2 : Nat) (s : Option Addr) (cc : Nat) (st : PS) [Sp : Split L [pt b (.cells #[ptr x 0, sl s st.L.length cc, I st.n] 47 (0, 0)), pt x (.cells #[ptr p 0, .map (some r)] 43 (0, 0)), pt p (.cells #[.map (some r2)] 95 (0, 0)), mp r (tb encN 999 st.N), mp r2 (tb encB 999 st.B), owL 55 4 s cc (ptR st.L)] F] (k : G c K E (pvl b st :: F)) : G c K E L :=
  g_pack (A := pvP b st) [pt b (.cells #[ptr x 0, sl s st.L.length cc, I st.n] 47 (0, 0)), pt x (.cells #[ptr p 0, .map (some r)] 43 (0, 0)), pt p (.cells #[.map (some r2)] 95 (0, 0)), mp r (tb encN 999 st.N), mp r2 (tb encB 999 st.B), owL 55 4 s cc (ptR st.L)] (pvl b st) (x, p, r, r2, s, cc) rfl rfl k
theorem g_rowNo {F : List HProp} {b : Nat} {R : Option PS} {vs : List Value} (hR : c.R = rowR b R F) (he : R = none) (hr : resOf E c.fn.results.toList = some vs) (hv : tup vs = Bo false) [S : Sub L F] (hds : c.n.ds = [] := by rfl) : G c (.code .ret :: K) E L :=
  fun a w hE hS => wp_ret (kq_ret (res_fpost (hds := hds) hr hE (S.sat hS) (by rw [hR, he]; exact ⟨hv, rfl⟩)))
theorem g_rowYes {F : List HProp} {b : Nat} {R : Option PS} {st : PS} {vs : List Value} (hR : c.R = rowR b R F) (he : R = some st) (hr : resOf E c.fn.results.toList = some vs) (hv : tup vs = Bo true) [S : Sub L (pvl b st :: F)] (hds : c.n.ds = [] := by rfl) : G c (.code .ret :: K) E L :=
  fun a w hE hS => wp_ret (kq_ret (res_fpost (hds := hds) hr hE (S.sat hS) (by rw [hR, he]; exact ⟨hv, rfl⟩)))
end
theorem bldNodeR (n : Nd) (r : Int) (w : World) : (Instr.build 99 #[(0, .agg (kdC n).toArray), (1, I r)]).run Tryz.prog w = .ok (encN (rf n r)) w := by
  simp [Instr.build, Tryz.zeroValue99, Tryz.runUnderlying99, Tryz.sizeOf97, Tryz.sizeOf3, Instr.fill, cells_agg, show (I r).cells = #[I r] from rfl, rf]
theorem rows5 {r k0 k1 k2 k3 : Int} : ∀ k v, (kdC ⟨k0, k1, k2, k3, r⟩)[k]? = some v → (intR [r, k0, k1, k2, k3])[1 + k]? = some [v]
  | 0, v, h => by simpa [intR] using h
  | 1, v, h => by simpa [intR] using h
  | 2, v, h => by simpa [intR] using h
  | 3, v, h => by simpa [intR] using h
  | k + 4, v, h => by simp at h
theorem y_of {y : UInt8} {n : Nat} (hn : n < 256) (h : (y.toNat : Int) = n) : y = UInt8.ofNat n := by
  rw [← UInt8.toNat_inj, UInt8.toNat_ofNat']; omega
theorem bo_yes {b : Bool} {P : Prop} (h : b = true ↔ P) (hp : P) : tup [Bo b] = Bo true := by rw [h.2 hp]; rfl
theorem bo_no {b : Bool} {P : Prop} (h : b = true ↔ P) (hp : ¬ P) : tup [Bo b] = Bo false := by
  cases b with
  | true => exact absurd (h.1 rfl) hp
  | false => rfl

theorem ct_image_row (b : Nat) (st : PS) (c : ChangeM) (hL : st.L.length ≤ 1000000) (hkl : c.key.length ≤ 9223372036854775807) (hvl : c.val.length ≤ 9223372036854775807) (F : List HProp) : Ct Tryz.prog 59 [ptr b 0, .agg (encC c).toArray] ([tabs, pvl b st] ++ F) (rowR b (rowF st c) (tabs :: F)) := by
  show Ct Tryz.prog 59 [ptr b 0, .agg (encC c).toArray] (tabs :: pvl b st :: F) _
  refine Ct.of Tryz.func59 rfl 214 Tryz.ntmps59 (by simp) fun w0 => ?_
  refine g_seq ?_
  refine g_reg ?_
  refine g_l (l_box (encC c).toArray rfl rfl) rfl ?_
  rintro _ _ ⟨b3, rfl, rfl⟩
  refine g_v (v_assign rfl) rfl ?_
  refine g_nil ?_
  refine g_seq ?_
  refine g_seq ?_
  refine g_reg ?_
  refine g_v (v_fieldAddr 0 Tryz.underlying58 rfl rfl Tryz.sizeOf9 (by decide) rfl) rfl ?_
  refine g_v (v_load (v := Str c.key) Tryz.isAgg9 rfl rfl) rfl ?_
  refine g_v (v_seql rfl rfl) rfl ?_
  refine g_nil ?_
  refine g_cond rfl (fun h17 => ?_) (fun h17 => ?_)
  · have hX : c.key = [120] := by simpa using h17
    refine g_seq ?_
    refine g_reg ?_
    refine g_v (v_fieldAddr 1 Tryz.underlying58 rfl rfl Tryz.sizeOf9 (by decide) rfl) rfl ?_
    refine g_v (v_load (v := Str c.val) Tryz.isAgg9 rfl rfl) rfl ?_
    refine g_l (l_call (Pre := [tabs]) Tryz.call88 rfl (ct_image_numbers (c.val) 1 (by decide) hvl)) rfl ?_
    rintro _ _ hnv
    unfold numsR at hnv
    rcases hn1 : numsG 1 (c.val) with _ | l1 <;> rw [hn1] at hnv
    · obtain ⟨rfl, rfl⟩ := hnv
      refine g_v (v_move rfl) rfl ?_
      refine g_v (v_extract (v := sl none 0 0) rfl rfl) rfl ?_
      refine g_v (v_extract (v := Bo false) rfl rfl) rfl ?_
      refine g_v (v_assign rfl) rfl ?_
      refine g_v (v_assign rfl) rfl ?_
      refine g_nil ?_
      refine g_seq ?_
      refine g_seq ?_
      refine g_reg ?_
      refine g_v (v_fieldAddr 1 Tryz.underlying58 rfl rfl Tryz.sizeOf9 (by decide) rfl) rfl ?_
      refine g_v (v_load (v := Str c.val) Tryz.isAgg9 rfl rfl) rfl ?_
      refine g_v (v_seql rfl rfl) rfl ?_
      refine g_nil ?_
      refine g_cond rfl (fun h26 => ?_) (fun h26 => ?_)
      · have h26 : c.val = [49, 48, 48, 48] := by simpa using h26
        refine g_seq ?_
        refine g_openW b st ?_
        intro x p r r2 s cc
        refine g_reg ?_
        refine g_v (v_move rfl) rfl ?_
        refine g_v (v_nilCheck rfl) rfl ?_
        refine g_v (v_fieldAddr 2 Tryz.underlying47 rfl rfl Tryz.sizeOf3 (by decide) rfl) rfl ?_
        refine g_l0 (l_store #[ptr x 0, sl s st.L.length cc, I 1000] Tryz.sizeOf3 rfl rfl rfl (by simp) rfl) ?_
        rintro _ _ rfl
        refine g_nil ?_
        refine g_seq ?_
        refine g_reg ?_
        refine g_v (v_assign rfl) rfl ?_
        refine g_nil ?_
        refine g_shutW b x p r r2 s cc ({ st with n := 1000 }) ?_
        exact g_rowYes (st := { st with n := 1000 }) rfl (by unfold rowF; rw [if_pos hX]; unfold xF; rw [if_pos h26]) rfl rfl
      · have h26 : ¬ c.val = [49, 48, 48, 48] := by simpa using h26
        refine g_skip ?_
        refine g_seq ?_
        refine g_seq ?_
        refine g_reg ?_
        refine g_v (v_move rfl) rfl ?_
        refine g_nil ?_
        refine g_false rfl ?_
        refine g_skip ?_
        refine g_seq ?_
        refine g_reg ?_
        refine g_v (v_move rfl) rfl ?_
        refine g_v (v_move rfl) rfl ?_
        refine g_no rfl rfl rfl rfl ?_
        refine g_no rfl rfl rfl rfl ?_
        refine g_no rfl rfl rfl rfl ?_
        refine g_no rfl rfl rfl rfl ?_
        refine g_v (v_pk2 rfl rfl rfl) rfl ?_
        refine g_v (v_assign rfl) rfl ?_
        refine g_nil ?_
        exact g_rowNo rfl (by unfold rowF; rw [if_pos hX]; unfold xF; rw [if_neg h26, hn1]) rfl rfl
    · obtain ⟨sa1, ca1, rfl, rfl⟩ := hnv
      obtain ⟨v, rfl⟩ := len1 (numsG_len hn1).1
      have hvr1 := (numsG_text hn1).2
      have hln1 := (numsG_len hn1).2
      refine g_v (v_move rfl) rfl ?_
      refine g_v (v_extract (v := sl sa1 1 ca1) rfl rfl) rfl ?_
      refine g_v (v_extract (v := Bo true) rfl rfl) rfl ?_
      refine g_v (v_assign rfl) rfl ?_
      refine g_v (v_assign rfl) rfl ?_
      refine g_nil ?_
      refine g_seq ?_
      refine g_seq ?_
      refine g_reg ?_
      refine g_v (v_fieldAddr 1 Tryz.underlying58 rfl rfl Tryz.sizeOf9 (by decide) rfl) rfl ?_
      refine g_v (v_load (v := Str c.val) Tryz.isAgg9 rfl rfl) rfl ?_
      refine g_v (v_seql rfl rfl) rfl ?_
      refine g_nil ?_
      refine g_cond rfl (fun h26 => ?_) (fun h26 => ?_)
      · have h26 : c.val = [49, 48, 48, 48] := by simpa using h26
        refine g_seq ?_
        refine g_openW b st ?_
        intro x p r r2 s cc
        refine g_reg ?_
        refine g_v (v_move rfl) rfl ?_
        refine g_v (v_nilCheck rfl) rfl ?_
        refine g_v (v_fieldAddr 2 Tryz.underlying47 rfl rfl Tryz.sizeOf3 (by decide) rfl) rfl ?_
        refine g_l0 (l_store #[ptr x 0, sl s st.L.length cc, I 1000] Tryz.sizeOf3 rfl rfl rfl (by simp) rfl) ?_
        rintro _ _ rfl
        refine g_nil ?_
        refine g_seq ?_
        refine g_reg ?_
        refine g_v (v_assign rfl) rfl ?_
        refine g_nil ?_
        refine g_shutW b x p r r2 s cc ({ st with n := 1000 }) ?_
        exact g_rowYes (st := { st with n := 1000 }) rfl (by unfold rowF; rw [if_pos hX]; unfold xF; rw [if_pos h26]) rfl rfl
      · have h26 : ¬ c.val = [49, 48, 48, 48] := by simpa using h26
        refine g_skip ?_
        refine g_seq ?_
        refine g_seq ?_
        refine g_reg ?_
        refine g_v (v_move rfl) rfl ?_
        refine g_nil ?_
        refine g_true rfl ?_
        refine g_openW b st ?_
        intro x p r r2 s cc
        refine g_reg ?_
        refine g_v (v_move rfl) rfl ?_
        refine g_v (v_move rfl) rfl ?_
        refine g_v (v_idxS 0 Tryz.underlying39 Tryz.sizeOf3 rfl rfl rfl (by decide) (by simp [intR])) rfl ?_
        refine g_v (v_loadS0 (v := I v) Tryz.isAgg3 rfl rfl rfl) rfl ?_
        refine g_v (v_nilCheck rfl) rfl ?_
        refine g_v (v_fieldAddr 2 Tryz.underlying47 rfl rfl Tryz.sizeOf3 (by decide) rfl) rfl ?_
        refine g_l0 (l_store #[ptr x 0, sl s st.L.length cc, I v] Tryz.sizeOf3 rfl rfl rfl (by simp) rfl) ?_
        rintro _ _ rfl
        refine g_nil ?_
        refine g_seq ?_
        refine g_reg ?_
        refine g_v (v_move rfl) rfl ?_
        refine g_v (v_move rfl) rfl ?_
        refine g_gv1 rfl rfl rfl (v_fieldAddr 1 Tryz.underlying58 rfl rfl Tryz.sizeOf9 (by decide) rfl) rfl ?_
        refine g_gv1 rfl rfl rfl (v_load (v := Str c.val) Tryz.isAgg9 rfl rfl) rfl ?_
        refine g_gv1 rfl rfl rfl (v_slen Tryz.underlying9 rfl) rfl ?_
        refine g_gv1 rfl rfl rfl (v_eql rfl rfl) rfl ?_
        refine g_v (v_and rfl rfl) rfl ?_
        refine g_v (v_assign rfl) rfl ?_
        refine g_nil ?_
        by_cases h3 : c.val.length = 3
        · refine g_shutW b x p r r2 s cc ({ st with n := v }) ?_
          exact g_rowYes (st := { st with n := v }) rfl (by unfold rowF; rw [if_pos hX]; unfold xF; rw [if_neg h26, hn1]; simp only; rw [if_pos h3]) rfl (bo_yes (by simp; omega) h3)
        · exact g_rowNo rfl (by unfold rowF; rw [if_pos hX]; unfold xF; rw [if_neg h26, hn1]; simp only; rw [if_neg h3]) rfl (bo_no (P := c.val.length = 3) (by simp; omega) h3)
  · have hX : ¬ c.key = [120] := by simpa using h17
    refine g_skip ?_
    refine g_seq ?_
    refine g_seq ?_
    refine g_reg ?_
    refine g_v (v_fieldAddr 0 Tryz.underlying58 rfl rfl Tryz.sizeOf9 (by decide) rfl) rfl ?_
    refine g_v (v_load (v := Str c.key) Tryz.isAgg9 rfl rfl) rfl ?_
    refine g_v (v_slen Tryz.underlying9 rfl) rfl ?_
    refine g_v (v_neq rfl rfl) rfl ?_
    refine g_v (v_move rfl) rfl ?_
    refine g_gv rfl rfl (fun hg => v_fieldAddr 2 Tryz.underlying58 rfl rfl Tryz.sizeOf4 (by decide) rfl) rfl rfl ?_
    refine g_gv rfl rfl (fun hg => v_load (v := Bo c.gone) Tryz.isAgg4 rfl rfl) rfl rfl ?_
    refine g_v (v_or rfl rfl) rfl ?_
    refine g_nil ?_
    refine g_cond rfl (fun h51 => ?_) (fun h51 => ?_)
    · have hk4 : c.key.length ≠ 4 ∨ c.gone = true := by simp at h51; rcases h51 with h | h; exact .inl (by omega); exact .inr h
      refine g_seq ?_
      refine g_reg ?_
      refine g_v (v_assign rfl) rfl ?_
      refine g_nil ?_
      exact g_rowNo rfl (by unfold rowF; rw [if_neg hX, if_pos hk4]) rfl rfl
    · have hk4 : ¬ (c.key.length ≠ 4 ∨ c.gone = true) := by simp at h51; rintro (h | h); exact h (by omega); rw [h51.2] at h; cases h
      have hk44 : c.key.length = 4 := by omega
      refine g_skip ?_
      refine g_seq ?_
      refine g_reg ?_
      refine g_v (v_fieldAddr 0 Tryz.underlying58 rfl rfl Tryz.sizeOf9 (by decide) rfl) rfl ?_
      refine g_v (v_load (v := Str c.key) Tryz.isAgg9 rfl rfl) rfl ?_
      refine g_v (v_strLo (l := 1) Tryz.underlying9 rfl rfl rfl (by omega)) rfl ?_
      refine g_l (l_call (Pre := [tabs]) Tryz.call88 rfl (ct_image_numbers (c.key.drop 1) 1 (by decide) (by simp; omega))) rfl ?_
      rintro _ _ hnv
      unfold numsR at hnv
      rcases hn0 : numsG 1 (c.key.drop 1) with _ | l0 <;> rw [hn0] at hnv
      · obtain ⟨rfl, rfl⟩ := hnv
        refine g_v (v_move rfl) rfl ?_
        refine g_v (v_extract (v := sl none 0 0) rfl rfl) rfl ?_
        refine g_v (v_extract (v := Bo false) rfl rfl) rfl ?_
        refine g_v (v_assign rfl) rfl ?_
        refine g_v (v_assign rfl) rfl ?_
        refine g_nil ?_
        refine g_seq ?_
        refine g_seq ?_
        refine g_reg ?_
        refine g_v (v_move rfl) rfl ?_
        refine g_v (v_not rfl) rfl ?_
        refine g_v (v_move rfl) rfl ?_
        refine g_no rfl rfl rfl rfl ?_
        refine g_no rfl rfl rfl rfl ?_
        refine g_no rfl rfl rfl rfl ?_
        refine g_no rfl rfl rfl rfl ?_
        refine g_v (v_pk1 rfl rfl rfl) rfl ?_
        refine g_nil ?_
        refine g_cond rfl (fun h66 => ?_) (fun h66 => ?_)
        · skip
          refine g_seq ?_
          refine g_reg ?_
          refine g_v (v_assign rfl) rfl ?_
          refine g_nil ?_
          exact g_rowNo rfl (by unfold rowF; rw [if_neg hX, if_neg hk4, hn0]) rfl rfl
        · cases h66
      · obtain ⟨sa0, ca0, rfl, rfl⟩ := hnv
        obtain ⟨id, rfl⟩ := len1 (numsG_len hn0).1
        have hvr0 := (numsG_text hn0).2
        have hln0 := (numsG_len hn0).2
        refine g_v (v_move rfl) rfl ?_
        refine g_v (v_extract (v := sl sa0 1 ca0) rfl rfl) rfl ?_
        refine g_v (v_extract (v := Bo true) rfl rfl) rfl ?_
        refine g_v (v_assign rfl) rfl ?_
        refine g_v (v_assign rfl) rfl ?_
        refine g_nil ?_
        refine g_seq ?_
        refine g_seq ?_
        refine g_reg ?_
        refine g_v (v_move rfl) rfl ?_
        refine g_v (v_not rfl) rfl ?_
        refine g_v (v_move rfl) rfl ?_
        refine g_gv1 rfl rfl rfl (v_move rfl) rfl ?_
        refine g_gv1 rfl rfl rfl (v_idxS 0 Tryz.underlying39 Tryz.sizeOf3 rfl rfl rfl (by decide) (by simp [intR])) rfl ?_
        refine g_gv1 rfl rfl rfl (v_loadS0 (v := I id) Tryz.isAgg3 rfl rfl rfl) rfl ?_
        refine g_gv1 rfl rfl rfl (v_lss rfl rfl) rfl ?_
        refine g_v (v_or rfl rfl) rfl ?_
        refine g_nil ?_
        refine g_cond rfl (fun h66 => ?_) (fun h66 => ?_)
        · have hid0 : id < 1 := by simpa using h66
          refine g_seq ?_
          refine g_reg ?_
          refine g_v (v_assign rfl) rfl ?_
          refine g_nil ?_
          exact g_rowNo rfl (by unfold rowF; rw [if_neg hX, if_neg hk4, hn0]; simp only; rw [if_pos hid0]) rfl rfl
        · have hid1 : ¬ id < 1 := by simpa using h66
          have hidr := hvr0 id (by simp)
          obtain ⟨y, hy⟩ : ∃ y, c.key[0]? = some y := ⟨_, List.getElem?_eq_getElem (by omega)⟩
          have hyh : c.key.head? = some y := by rw [List.head?_eq_getElem?]; exact hy
          refine g_skip ?_
          refine g_seq ?_
          refine g_seq ?_
          refine g_reg ?_
          refine g_v (v_fieldAddr 0 Tryz.underlying58 rfl rfl Tryz.sizeOf9 (by decide) rfl) rfl ?_
          refine g_v (v_load (v := Str c.key) Tryz.isAgg9 rfl rfl) rfl ?_
          refine g_v (v_indexStr 0 Tryz.underlying9 rfl rfl rfl hy) rfl ?_
          refine g_nil ?_
          refine g_block ?_
          refine g_seq ?_
          refine g_reg ?_
          refine g_v (v_eql rfl rfl) rfl ?_
          refine g_v (v_assign rfl) rfl ?_
          refine g_nil ?_
          refine g_cond rfl (fun h70 => ?_) (fun h70 => ?_)
          · have h98 : y = 98 := y_of (n := 98) (by decide) (by simpa using h70)
            subst h98
            refine g_seq ?_
            refine g_reg ?_
            refine g_v (v_fieldAddr 1 Tryz.underlying58 rfl rfl Tryz.sizeOf9 (by decide) rfl) rfl ?_
            refine g_v (v_load (v := Str c.val) Tryz.isAgg9 rfl rfl) rfl ?_
            refine g_l (l_call (Pre := [tabs]) Tryz.call88 rfl (ct_image_numbers (c.val) 1 (by decide) hvl)) rfl ?_
            rintro _ _ hnv
            unfold numsR at hnv
            rcases hn2 : numsG 1 (c.val) with _ | l2 <;> rw [hn2] at hnv
            · obtain ⟨rfl, rfl⟩ := hnv
              refine g_v (v_move rfl) rfl ?_
              refine g_v (v_extract (v := sl none 0 0) rfl rfl) rfl ?_
              refine g_v (v_extract (v := Bo false) rfl rfl) rfl ?_
              refine g_v (v_assign rfl) rfl ?_
              refine g_v (v_assign rfl) rfl ?_
              refine g_nil ?_
              refine g_seq ?_
              refine g_seq ?_
              refine g_reg ?_
              refine g_v (v_move rfl) rfl ?_
              refine g_nil ?_
              refine g_false rfl ?_
              refine g_skip ?_
              refine g_seq ?_
              refine g_reg ?_
              refine g_v (v_move rfl) rfl ?_
              refine g_v (v_move rfl) rfl ?_
              refine g_no rfl rfl rfl rfl ?_
              refine g_no rfl rfl rfl rfl ?_
              refine g_no rfl rfl rfl rfl ?_
              refine g_no rfl rfl rfl rfl ?_
              refine g_v (v_pk2 rfl rfl rfl) rfl ?_
              refine g_v (v_move rfl) rfl ?_
              refine g_no rfl rfl rfl rfl ?_
              refine g_no rfl rfl rfl rfl ?_
              refine g_no rfl rfl rfl rfl ?_
              refine g_no rfl rfl rfl rfl ?_
              refine g_v (v_pk2 rfl rfl rfl) rfl ?_
              refine g_v (v_move rfl) rfl ?_
              refine g_no rfl rfl rfl rfl ?_
              refine g_no rfl rfl rfl rfl ?_
              refine g_no rfl rfl rfl rfl ?_
              refine g_no rfl rfl rfl rfl ?_
              refine g_v (v_pk2 rfl rfl rfl) rfl ?_
              refine g_v (v_assign rfl) rfl ?_
              refine g_nil ?_
              exact g_rowNo rfl (by unfold rowF; rw [if_neg hX, if_neg hk4, hn0]; simp only; rw [if_neg hid1, kF_98 hyh] ; unfold bF; rw [show numsG 1 c.val = none from hn2]) rfl rfl
            · obtain ⟨sa2, ca2, rfl, rfl⟩ := hnv
              obtain ⟨rr, rfl⟩ := len1 (numsG_len hn2).1
              have hvr2 := (numsG_text hn2).2
              have hln2 := (numsG_len hn2).2
              refine g_v (v_move rfl) rfl ?_
              refine g_v (v_extract (v := sl sa2 1 ca2) rfl rfl) rfl ?_
              refine g_v (v_extract (v := Bo true) rfl rfl) rfl ?_
              refine g_v (v_assign rfl) rfl ?_
              refine g_v (v_assign rfl) rfl ?_
              refine g_nil ?_
              refine g_seq ?_
              refine g_seq ?_
              refine g_reg ?_
              refine g_v (v_move rfl) rfl ?_
              refine g_nil ?_
              refine g_true rfl ?_
              refine g_openW b st ?_
              intro x p r r2 s cc
              refine g_drawZ (Lf := [pt b (.cells #[ptr x 0, sl s st.L.length cc, I st.n] 47 (0, 0)), pt x (.cells #[ptr p 0, .map (some r)] 43 (0, 0)), pt p (.cells #[.map (some r2)] 95 (0, 0)), pt b3 (.cells (encC c).toArray 58 (0, 0)), owL 3 1 sa0 ca0 (intR [id]), owL 3 1 sa2 ca2 (intR [rr]), mp r2 (tb encB 999 st.B)]) [(0, false), (1, false), (2, false), (3, false), (4, false), (5, false), (6, false), (7, false), (8, false), (9, false), (10, false), (11, false), (12, false), (13, false), (14, false), (15, false), (16, false), (17, false), (18, false), (19, false)] 20 rfl (by kernel_rfl) (by kernel_rfl) rfl (by kernel_rfl) (by kernel_rfl) ?_
              refine d_v rfl (v_move rfl) rfl ?_
              refine d_v rfl (v_nilCheck rfl) rfl ?_
              refine d_v rfl (v_fieldAddr 0 Tryz.underlying47 rfl rfl Tryz.sizeOf44 (by decide) rfl) rfl ?_
              refine d_v rfl (v_load (v := ptr x 0) Tryz.isAgg44 rfl rfl) rfl ?_
              refine d_v rfl (v_nilCheck rfl) rfl ?_
              refine d_v rfl (v_fieldAddr 0 Tryz.underlying43 rfl rfl Tryz.sizeOf40 (by decide) rfl) rfl ?_
              refine d_v rfl (v_load (v := ptr p 0) Tryz.isAgg40 rfl rfl) rfl ?_
              refine d_v rfl (v_nilCheck rfl) rfl ?_
              refine d_v rfl (v_fieldAddr 0 Tryz.underlying95 rfl rfl Tryz.sizeOf93 (by decide) rfl) rfl ?_
              refine d_v rfl (v_load (v := .map (some r2)) Tryz.isAgg93 rfl rfl) rfl ?_
              refine d_v rfl (v_move rfl) rfl ?_
              refine d_v rfl (v_idxS 0 Tryz.underlying39 Tryz.sizeOf3 rfl rfl rfl (by decide) (by simp [intR])) rfl ?_
              refine d_v rfl (v_loadS0 (v := I id) Tryz.isAgg3 rfl rfl rfl) rfl ?_
              refine d_v rfl (v_fieldAddr 1 Tryz.underlying58 rfl rfl Tryz.sizeOf9 (by decide) rfl) rfl ?_
              refine d_v rfl (v_load (v := Str c.val) Tryz.isAgg9 rfl rfl) rfl ?_
              refine d_v rfl (v_strLo (l := 3) Tryz.underlying9 rfl rfl rfl (by omega)) rfl ?_
              refine d_v rfl (v_move rfl) rfl ?_
              refine d_v rfl (v_idxS 0 Tryz.underlying39 Tryz.sizeOf3 rfl rfl rfl (by decide) (by simp [intR])) rfl ?_
              refine d_v rfl (v_loadS0 (v := I rr) Tryz.isAgg3 rfl rfl rfl) rfl ?_
              refine d_v rfl (v_build rfl (bld92_0_1 _ rfl _ rfl)) rfl ?_
              refine d_nil ?_
              refine g_l0 (l_mapUpdate Tryz.underlying93 Tryz.underlying3 rfl rfl rfl) ?_
              rintro _ _ rfl
              refine g_nil ?_
              refine g_map r2 (tb encB 999 (pset st.B id (some (c.val.drop 3, rr)))) (tb_set encB (x := (c.val.drop 3, rr)) ⟨by omega, by omega⟩) ?_
              refine g_shutW b x p r r2 s cc ({ st with B := pset st.B id (some (c.val.drop 3, rr)) }) ?_
              refine g_seq ?_
              refine g_reg ?_
              refine g_v (v_move rfl) rfl ?_
              refine g_v (v_move rfl) rfl ?_
              refine g_gv1 rfl rfl rfl (v_move rfl) rfl ?_
              refine g_gv1 rfl rfl rfl (v_idxS 0 Tryz.underlying39 Tryz.sizeOf3 rfl rfl rfl (by decide) (by simp [intR])) rfl ?_
              refine g_gv1 rfl rfl rfl (v_loadS0 (v := I rr) Tryz.isAgg3 rfl rfl rfl) rfl ?_
              refine g_gv1 rfl rfl rfl (v_gtr rfl rfl) rfl ?_
              refine g_v (v_and rfl rfl) rfl ?_
              refine g_v (v_move rfl) rfl ?_
              refine g_gv rfl rfl (fun hg => v_fieldAddr 1 Tryz.underlying58 rfl rfl Tryz.sizeOf9 (by decide) rfl) rfl rfl ?_
              refine g_gv rfl rfl (fun hg => v_load (v := Str c.val) Tryz.isAgg9 rfl rfl) rfl rfl ?_
              refine g_gv rfl rfl (fun hg => v_slen Tryz.underlying9 rfl) rfl rfl ?_
              refine g_gv rfl rfl (fun hg => v_gtr rfl rfl) rfl rfl ?_
              refine g_v (v_and rfl rfl) rfl ?_
              refine g_v (v_move rfl) rfl ?_
              refine g_gv rfl rfl (fun hg => v_fieldAddr 1 Tryz.underlying58 rfl rfl Tryz.sizeOf9 (by decide) rfl) rfl rfl ?_
              refine g_gv rfl rfl (fun hg => v_load (v := Str c.val) Tryz.isAgg9 rfl rfl) rfl rfl ?_
              refine g_gv rfl rfl (fun hg => v_slen Tryz.underlying9 rfl) rfl rfl ?_
              refine g_gv rfl rfl (fun hg => v_leq rfl rfl) rfl rfl ?_
              refine g_v (v_and rfl rfl) rfl ?_
              refine g_v (v_assign rfl) rfl ?_
              refine g_nil ?_
              by_cases hcnd : 0 < rr ∧ 3 < c.val.length ∧ c.val.length ≤ 9
              · skip
                exact g_rowYes (st := { st with B := pset st.B id (some (c.val.drop 3, rr)) }) rfl (by unfold rowF; rw [if_neg hX, if_neg hk4, hn0]; simp only; rw [if_neg hid1, kF_98 hyh]; unfold bF; rw [show numsG 1 c.val = some [rr] from hn2]; simp only; rw [if_pos hcnd]) rfl (bo_yes (by simp; omega) hcnd)
              · exact g_rowNo rfl (by unfold rowF; rw [if_neg hX, if_neg hk4, hn0]; simp only; rw [if_neg hid1, kF_98 hyh]; unfold bF; rw [show numsG 1 c.val = some [rr] from hn2]; simp only; rw [if_neg hcnd]) rfl (bo_no (P := 0 < rr ∧ 3 < c.val.length ∧ c.val.length ≤ 9) (by simp; omega) hcnd)
          · have h70 : ¬ ((y.toNat : Int) = 98) := by simpa using h70
            refine g_seq ?_
            refine g_reg ?_
            refine g_v (v_eql rfl rfl) rfl ?_
            refine g_v (v_assign rfl) rfl ?_
            refine g_nil ?_
            refine g_cond rfl (fun h118 => ?_) (fun h118 => ?_)
            · have h110 : y = 110 := y_of (n := 110) (by decide) (by simpa using h118)
              subst h110
              refine g_seq ?_
              refine g_reg ?_
              refine g_v (v_fieldAddr 1 Tryz.underlying58 rfl rfl Tryz.sizeOf9 (by decide) rfl) rfl ?_
              refine g_v (v_load (v := Str c.val) Tryz.isAgg9 rfl rfl) rfl ?_
              refine g_l (l_call (Pre := [tabs]) Tryz.call88 rfl (ct_image_numbers (c.val) 5 (by decide) hvl)) rfl ?_
              rintro _ _ hnv
              unfold numsR at hnv
              rcases hn2 : numsG 5 (c.val) with _ | l2 <;> rw [hn2] at hnv
              · obtain ⟨rfl, rfl⟩ := hnv
                refine g_v (v_move rfl) rfl ?_
                refine g_v (v_extract (v := sl none 0 0) rfl rfl) rfl ?_
                refine g_v (v_extract (v := Bo false) rfl rfl) rfl ?_
                refine g_v (v_assign rfl) rfl ?_
                refine g_v (v_assign rfl) rfl ?_
                refine g_nil ?_
                refine g_seq ?_
                refine g_seq ?_
                refine g_reg ?_
                refine g_v (v_move rfl) rfl ?_
                refine g_nil ?_
                refine g_false rfl ?_
                refine g_skip ?_
                refine g_seq ?_
                refine g_reg ?_
                refine g_v (v_move rfl) rfl ?_
                refine g_v (v_move rfl) rfl ?_
                refine g_no rfl rfl rfl rfl ?_
                refine g_no rfl rfl rfl rfl ?_
                refine g_no rfl rfl rfl rfl ?_
                refine g_no rfl rfl rfl rfl ?_
                refine g_v (v_pk2 rfl rfl rfl) rfl ?_
                refine g_v (v_move rfl) rfl ?_
                refine g_no rfl rfl rfl rfl ?_
                refine g_no rfl rfl rfl rfl ?_
                refine g_no rfl rfl rfl rfl ?_
                refine g_no rfl rfl rfl rfl ?_
                refine g_v (v_pk2 rfl rfl rfl) rfl ?_
                refine g_v (v_assign rfl) rfl ?_
                refine g_nil ?_
                exact g_rowNo rfl (by unfold rowF; rw [if_neg hX, if_neg hk4, hn0]; simp only; rw [if_neg hid1, kF_110 hyh] ; unfold nF; rw [show numsG 5 c.val = none from hn2]) rfl rfl
              · obtain ⟨sa2, ca2, rfl, rfl⟩ := hnv
                obtain ⟨rr, k0, k1, k2, k3, rfl⟩ := len5 (numsG_len hn2).1
                have hvr2 := (numsG_text hn2).2
                have hln2 := (numsG_len hn2).2
                refine g_cap sa2 fun hcap => ?_
                have hcap2 : 1 < ca2 := by simp [intR] at hcap; omega
                refine g_v (v_move rfl) rfl ?_
                refine g_v (v_extract (v := sl sa2 5 ca2) rfl rfl) rfl ?_
                refine g_v (v_extract (v := Bo true) rfl rfl) rfl ?_
                refine g_v (v_assign rfl) rfl ?_
                refine g_v (v_assign rfl) rfl ?_
                refine g_nil ?_
                refine g_seq ?_
                refine g_seq ?_
                refine g_reg ?_
                refine g_v (v_move rfl) rfl ?_
                refine g_nil ?_
                refine g_true rfl ?_
                refine g_openW b st ?_
                intro x p r r2 s cc
                refine g_drawZ (Lf := [pt b (.cells #[ptr x 0, sl s st.L.length cc, I st.n] 47 (0, 0)), pt x (.cells #[ptr p 0, .map (some r)] 43 (0, 0)), owL 3 1 sa0 ca0 (intR [id]), owL 3 1 sa2 ca2 (intR [rr, k0, k1, k2, k3]), mp r (tb encN 999 st.N)]) [(0, false), (1, false), (2, false), (3, false), (4, false), (5, false), (6, false), (7, false), (8, false), (9, false), (10, false), (11, false), (12, false), (13, false), (14, false), (15, false), (16, false), (17, false)] 18 rfl (by kernel_rfl) (by kernel_rfl) rfl (by kernel_rfl) (by kernel_rfl) ?_
                refine d_v rfl (v_move rfl) rfl ?_
                refine d_v rfl (v_nilCheck rfl) rfl ?_
                refine d_v rfl (v_fieldAddr 0 Tryz.underlying47 rfl rfl Tryz.sizeOf44 (by decide) rfl) rfl ?_
                refine d_v rfl (v_load (v := ptr x 0) Tryz.isAgg44 rfl rfl) rfl ?_
                refine d_v rfl (v_nilCheck rfl) rfl ?_
                refine d_v rfl (v_fieldAddr 1 Tryz.underlying43 rfl rfl Tryz.sizeOf41 (by decide) rfl) rfl ?_
                refine d_v rfl (v_load (v := .map (some r)) Tryz.isAgg41 rfl rfl) rfl ?_
                refine d_v rfl (v_move rfl) rfl ?_
                refine d_v rfl (v_idxS 0 Tryz.underlying39 Tryz.sizeOf3 rfl rfl rfl (by decide) (by simp [intR])) rfl ?_
                refine d_v rfl (v_loadS0 (v := I id) Tryz.isAgg3 rfl rfl rfl) rfl ?_
                refine d_v rfl (v_move rfl) rfl ?_
                refine d_v rfl (v_slLoC (l := 1) Tryz.underlying39 Tryz.sizeOf3 rfl rfl rfl (by decide) hcap2) rfl ?_
                refine d_v rfl (v_s2ap Tryz.underlying97 rfl (by decide)) rfl ?_
                refine d_v rfl (v_loadRows (s := sa2) (vs := kdC ⟨k0, k1, k2, k3, rr⟩) 1 Tryz.isAgg97 Tryz.sizeOf97 rfl rfl (by decide) rows5) rfl ?_
                refine d_v rfl (v_move rfl) rfl ?_
                refine d_v rfl (v_idxS 0 Tryz.underlying39 Tryz.sizeOf3 rfl rfl rfl (by decide) (by simp [intR])) rfl ?_
                refine d_v rfl (v_loadS0 (v := I rr) Tryz.isAgg3 rfl rfl rfl) rfl ?_
                refine d_v rfl (v_build rfl (bldNodeR ⟨k0, k1, k2, k3, rr⟩ rr)) rfl ?_
                refine d_nil ?_
                refine g_l0 (l_mapUpdate Tryz.underlying41 Tryz.underlying3 rfl rfl rfl) ?_
                rintro _ _ rfl
                refine g_nil ?_
                refine g_map r (tb encN 999 (pset st.N id (some ⟨k0, k1, k2, k3, rr⟩))) (tb_set encN (x := ⟨k0, k1, k2, k3, rr⟩) ⟨by omega, by omega⟩) ?_
                refine g_shutW b x p r r2 s cc ({ st with N := pset st.N id (some ⟨k0, k1, k2, k3, rr⟩) }) ?_
                refine g_seq ?_
                refine g_reg ?_
                refine g_v (v_move rfl) rfl ?_
                refine g_v (v_move rfl) rfl ?_
                refine g_gv1 rfl rfl rfl (v_move rfl) rfl ?_
                refine g_gv1 rfl rfl rfl (v_idxS 0 Tryz.underlying39 Tryz.sizeOf3 rfl rfl rfl (by decide) (by simp [intR])) rfl ?_
                refine g_gv1 rfl rfl rfl (v_loadS0 (v := I rr) Tryz.isAgg3 rfl rfl rfl) rfl ?_
                refine g_gv1 rfl rfl rfl (v_gtr rfl rfl) rfl ?_
                refine g_v (v_and rfl rfl) rfl ?_
                refine g_v (v_move rfl) rfl ?_
                refine g_gv rfl rfl (fun hg => v_fieldAddr 1 Tryz.underlying58 rfl rfl Tryz.sizeOf9 (by decide) rfl) rfl rfl ?_
                refine g_gv rfl rfl (fun hg => v_load (v := Str c.val) Tryz.isAgg9 rfl rfl) rfl rfl ?_
                refine g_gv rfl rfl (fun hg => v_slen Tryz.underlying9 rfl) rfl rfl ?_
                refine g_gv rfl rfl (fun hg => v_eql rfl rfl) rfl rfl ?_
                refine g_v (v_and rfl rfl) rfl ?_
                refine g_v (v_assign rfl) rfl ?_
                refine g_nil ?_
                by_cases hcnd : 0 < rr ∧ c.val.length = 15
                · skip
                  exact g_rowYes (st := { st with N := pset st.N id (some ⟨k0, k1, k2, k3, rr⟩) }) rfl (by unfold rowF; rw [if_neg hX, if_neg hk4, hn0]; simp only; rw [if_neg hid1, kF_110 hyh]; unfold nF; rw [show numsG 5 c.val = some [rr, k0, k1, k2, k3] from hn2]; simp only; rw [if_pos hcnd]) rfl (bo_yes (by simp; omega) hcnd)
                · exact g_rowNo rfl (by unfold rowF; rw [if_neg hX, if_neg hk4, hn0]; simp only; rw [if_neg hid1, kF_110 hyh]; unfold nF; rw [show numsG 5 c.val = some [rr, k0, k1, k2, k3] from hn2]; simp only; rw [if_neg hcnd]) rfl (bo_no (P := 0 < rr ∧ c.val.length = 15) (by simp; omega) hcnd)
            · have h118 : ¬ ((y.toNat : Int) = 110) := by simpa using h118
              refine g_seq ?_
              refine g_reg ?_
              refine g_v (v_eql rfl rfl) rfl ?_
              refine g_v (v_assign rfl) rfl ?_
              refine g_nil ?_
              refine g_cond rfl (fun h158 => ?_) (fun h158 => ?_)
              · have h112 : y = 112 := y_of (n := 112) (by decide) (by simpa using h158)
                subst h112
                refine g_seq ?_
                refine g_reg ?_
                refine g_v (v_fieldAddr 1 Tryz.underlying58 rfl rfl Tryz.sizeOf9 (by decide) rfl) rfl ?_
                refine g_v (v_load (v := Str c.val) Tryz.isAgg9 rfl rfl) rfl ?_
                refine g_l (l_call (Pre := [tabs]) Tryz.call88 rfl (ct_image_numbers (c.val) 3 (by decide) hvl)) rfl ?_
                rintro _ _ hnv
                unfold numsR at hnv
                rcases hn2 : numsG 3 (c.val) with _ | l2 <;> rw [hn2] at hnv
                · obtain ⟨rfl, rfl⟩ := hnv
                  refine g_v (v_move rfl) rfl ?_
                  refine g_v (v_extract (v := sl none 0 0) rfl rfl) rfl ?_
                  refine g_v (v_extract (v := Bo false) rfl rfl) rfl ?_
                  refine g_v (v_assign rfl) rfl ?_
                  refine g_v (v_assign rfl) rfl ?_
                  refine g_nil ?_
                  refine g_seq ?_
                  refine g_seq ?_
                  refine g_reg ?_
                  refine g_v (v_move rfl) rfl ?_
                  refine g_nil ?_
                  refine g_false rfl ?_
                  refine g_skip ?_
                  refine g_seq ?_
                  refine g_reg ?_
                  refine g_v (v_move rfl) rfl ?_
                  refine g_v (v_move rfl) rfl ?_
                  refine g_no rfl rfl rfl rfl ?_
                  refine g_no rfl rfl rfl rfl ?_
                  refine g_no rfl rfl rfl rfl ?_
                  refine g_no rfl rfl rfl rfl ?_
                  refine g_v (v_pk2 rfl rfl rfl) rfl ?_
                  refine g_v (v_move rfl) rfl ?_
                  refine g_no rfl rfl rfl rfl ?_
                  refine g_no rfl rfl rfl rfl ?_
                  refine g_no rfl rfl rfl rfl ?_
                  refine g_no rfl rfl rfl rfl ?_
                  refine g_v (v_pk2 rfl rfl rfl) rfl ?_
                  refine g_v (v_move rfl) rfl ?_
                  refine g_no rfl rfl rfl rfl ?_
                  refine g_no rfl rfl rfl rfl ?_
                  refine g_no rfl rfl rfl rfl ?_
                  refine g_no rfl rfl rfl rfl ?_
                  refine g_v (v_pk2 rfl rfl rfl) rfl ?_
                  refine g_v (v_move rfl) rfl ?_
                  refine g_no rfl rfl rfl rfl ?_
                  refine g_no rfl rfl rfl rfl ?_
                  refine g_no rfl rfl rfl rfl ?_
                  refine g_no rfl rfl rfl rfl ?_
                  refine g_v (v_pk2 rfl rfl rfl) rfl ?_
                  refine g_v (v_assign rfl) rfl ?_
                  refine g_nil ?_
                  exact g_rowNo rfl (by unfold rowF; rw [if_neg hX, if_neg hk4, hn0]; simp only; rw [if_neg hid1, kF_112 hyh] ; unfold pF; rw [show numsG 3 c.val = none from hn2]) rfl rfl
                · obtain ⟨sa2, ca2, rfl, rfl⟩ := hnv
                  obtain ⟨d0, z0, r0, rfl⟩ := len3 (numsG_len hn2).1
                  have hvr2 := (numsG_text hn2).2
                  have hln2 := (numsG_len hn2).2
                  refine g_v (v_move rfl) rfl ?_
                  refine g_v (v_extract (v := sl sa2 3 ca2) rfl rfl) rfl ?_
                  refine g_v (v_extract (v := Bo true) rfl rfl) rfl ?_
                  refine g_v (v_assign rfl) rfl ?_
                  refine g_v (v_assign rfl) rfl ?_
                  refine g_nil ?_
                  refine g_seq ?_
                  refine g_seq ?_
                  refine g_reg ?_
                  refine g_v (v_move rfl) rfl ?_
                  refine g_nil ?_
                  refine g_true rfl ?_
                  refine g_openW b st ?_
                  intro x p r r2 s cc
                  refine g_drawZ (Lf := [pt b (.cells #[ptr x 0, sl s st.L.length cc, I st.n] 47 (0, 0)), owL 3 1 sa0 ca0 (intR [id]), owL 3 1 sa2 ca2 (intR [d0, z0, r0])]) [(0, false), (1, false), (2, false), (3, false), (4, false), (5, false), (6, false), (7, false), (8, false), (9, false), (10, false), (11, false), (12, false), (13, false), (14, false), (15, false), (16, false), (17, false), (18, true), (19, true), (20, false), (21, false)] 22 rfl (by kernel_rfl) (by kernel_rfl) rfl (by kernel_rfl) (by kernel_rfl) ?_
                  refine d_v rfl (v_move rfl) rfl ?_
                  refine d_v rfl (v_move rfl) rfl ?_
                  refine d_v rfl (v_nilCheck rfl) rfl ?_
                  refine d_v rfl (v_fieldAddr 1 Tryz.underlying47 rfl rfl Tryz.sizeOf45 (by decide) rfl) rfl ?_
                  refine d_v rfl (v_load (v := sl s st.L.length cc) Tryz.isAgg45 rfl rfl) rfl ?_
                  refine d_v rfl (v_move rfl) rfl ?_
                  refine d_v rfl (v_idxS 0 Tryz.underlying39 Tryz.sizeOf3 rfl rfl rfl (by decide) (by simp [intR])) rfl ?_
                  refine d_v rfl (v_loadS0 (v := I id) Tryz.isAgg3 rfl rfl rfl) rfl ?_
                  refine d_v rfl (v_move rfl) rfl ?_
                  refine d_v rfl (v_idxS 0 Tryz.underlying39 Tryz.sizeOf3 rfl rfl rfl (by decide) (by simp [intR])) rfl ?_
                  refine d_v rfl (v_loadS0 (v := I d0) Tryz.isAgg3 rfl rfl rfl) rfl ?_
                  refine d_v rfl (v_move rfl) rfl ?_
                  refine d_v rfl (v_idxS 1 Tryz.underlying39 Tryz.sizeOf3 rfl rfl rfl (by decide) (by simp [intR])) rfl ?_
                  refine d_v rfl (v_loadS0 (v := I z0) Tryz.isAgg3 rfl rfl rfl) rfl ?_
                  refine d_v rfl (v_move rfl) rfl ?_
                  refine d_v rfl (v_idxS 2 Tryz.underlying39 Tryz.sizeOf3 rfl rfl rfl (by decide) (by simp [intR])) rfl ?_
                  refine d_v rfl (v_loadS0 (v := I r0) Tryz.isAgg3 rfl rfl rfl) rfl ?_
                  refine d_v rfl (v_build rfl (bldPt id d0 z0 r0)) rfl ?_
                  refine d_l rfl (l_buildSlice [encPt ⟨id, d0, z0, r0⟩] Tryz.underlying45 Tryz.sizeOf55 Tryz.zeroValue55 rfl rfl rfl (by simp) (by decide) (by decide)) rfl ?_
                  rintro _ _ ⟨b185, rfl, rfl⟩
                  refine d_l rfl (l_append Tryz.underlying45 Tryz.sizeOf55 Tryz.zeroValue55 rfl Tryz.typeInfo55 (by decide) rfl rfl (ptR_len _) rfl (by simp) (by simp [Go.Sl.ones, Go.Sl.one]) ⟨by omega, by decide, by decide⟩) rfl ?_
                  rintro _ _ ⟨s186, c186, rfl, rfl⟩
                  rw [show ptR st.L ++ [encPt ⟨id, d0, z0, r0⟩] = ptR (st.L ++ [⟨id, d0, z0, r0⟩]) by simp [ptR]]
                  refine d_v rfl (v_nilCheck rfl) rfl ?_
                  refine d_v rfl (v_fieldAddr 1 Tryz.underlying47 rfl rfl Tryz.sizeOf45 (by decide) rfl) rfl ?_
                  refine d_nil ?_
                  refine g_l0 (l_store #[ptr x 0, sl s186 (st.L.length + 1) c186, I st.n] Tryz.sizeOf45 rfl rfl rfl (by simp) rfl) ?_
                  rintro _ _ rfl
                  refine g_nil ?_
                  rw [show st.L.length + 1 = (st.L ++ [(⟨id, d0, z0, r0⟩ : Pt)]).length by simp]
                  refine g_shutW b x p r r2 s186 c186 ({ st with L := st.L ++ [⟨id, d0, z0, r0⟩] }) ?_
                  refine g_seq ?_
                  refine g_reg ?_
                  refine g_v (v_move rfl) rfl ?_
                  refine g_v (v_move rfl) rfl ?_
                  refine g_gv1 rfl rfl rfl (v_fieldAddr 1 Tryz.underlying58 rfl rfl Tryz.sizeOf9 (by decide) rfl) rfl ?_
                  refine g_gv1 rfl rfl rfl (v_load (v := Str c.val) Tryz.isAgg9 rfl rfl) rfl ?_
                  refine g_gv1 rfl rfl rfl (v_slen Tryz.underlying9 rfl) rfl ?_
                  refine g_gv1 rfl rfl rfl (v_eql rfl rfl) rfl ?_
                  refine g_v (v_and rfl rfl) rfl ?_
                  refine g_v (v_move rfl) rfl ?_
                  refine g_gv rfl rfl (fun hg => v_move rfl) rfl rfl ?_
                  refine g_gv rfl rfl (fun hg => v_idxS 0 Tryz.underlying39 Tryz.sizeOf3 rfl rfl rfl (by decide) (by simp [intR])) rfl rfl ?_
                  refine g_gv rfl rfl (fun hg => v_loadS0 (v := I d0) Tryz.isAgg3 rfl rfl rfl) rfl rfl ?_
                  refine g_gv rfl rfl (fun hg => v_gtr rfl rfl) rfl rfl ?_
                  refine g_v (v_and rfl rfl) rfl ?_
                  refine g_v (v_move rfl) rfl ?_
                  refine g_gv rfl rfl (fun hg => v_move rfl) rfl rfl ?_
                  refine g_gv rfl rfl (fun hg => v_idxS 1 Tryz.underlying39 Tryz.sizeOf3 rfl rfl rfl (by decide) (by simp [intR])) rfl rfl ?_
                  refine g_gv rfl rfl (fun hg => v_loadS0 (v := I z0) Tryz.isAgg3 rfl rfl rfl) rfl rfl ?_
                  refine g_gv rfl rfl (fun hg => v_gtr rfl rfl) rfl rfl ?_
                  refine g_v (v_and rfl rfl) rfl ?_
                  refine g_v (v_move rfl) rfl ?_
                  refine g_gv rfl rfl (fun hg => v_move rfl) rfl rfl ?_
                  refine g_gv rfl rfl (fun hg => v_idxS 1 Tryz.underlying39 Tryz.sizeOf3 rfl rfl rfl (by decide) (by simp [intR])) rfl rfl ?_
                  refine g_gv rfl rfl (fun hg => v_loadS0 (v := I z0) Tryz.isAgg3 rfl rfl rfl) rfl rfl ?_
                  refine g_gv rfl rfl (fun hg => v_leq rfl rfl) rfl rfl ?_
                  refine g_v (v_and rfl rfl) rfl ?_
                  refine g_v (v_assign rfl) rfl ?_
                  refine g_nil ?_
                  by_cases hcnd : c.val.length = 9 ∧ 0 < d0 ∧ 0 < z0 ∧ z0 ≤ 16
                  · skip
                    exact g_rowYes (st := { st with L := st.L ++ [⟨id, d0, z0, r0⟩] }) rfl (by unfold rowF; rw [if_neg hX, if_neg hk4, hn0]; simp only; rw [if_neg hid1, kF_112 hyh]; unfold pF; rw [show numsG 3 c.val = some [d0, z0, r0] from hn2]; simp only; rw [if_pos hcnd]) rfl (bo_yes (by simp; omega) hcnd)
                  · exact g_rowNo rfl (by unfold rowF; rw [if_neg hX, if_neg hk4, hn0]; simp only; rw [if_neg hid1, kF_112 hyh]; unfold pF; rw [show numsG 3 c.val = some [d0, z0, r0] from hn2]; simp only; rw [if_neg hcnd]) rfl (bo_no (P := c.val.length = 9 ∧ 0 < d0 ∧ 0 < z0 ∧ z0 ≤ 16) (by simp; omega) hcnd)
              · have h158 : ¬ ((y.toNat : Int) = 112) := by simpa using h158
                refine g_skip ?_
                refine g_blk ?_
                refine g_seq ?_
                refine g_reg ?_
                refine g_v (v_assign rfl) rfl ?_
                refine g_nil ?_
                exact g_rowNo rfl (by unfold rowF; rw [if_neg hX, if_neg hk4, hn0]; simp only; rw [if_neg hid1]; unfold kF; rw [hyh, if_neg (fun hh => h70 (by injection hh with hh; rw [hh]; rfl)), if_neg (fun hh => h118 (by injection hh with hh; rw [hh]; rfl)), if_neg (fun hh => h158 (by injection hh with hh; rw [hh]; rfl))]) rfl rfl

end Go.Proofs.YthdjckbjjfiopacGreatDoor
