/- Walks through package log: opening. No condition. -/
import Derived.Test.YthdjckbjjfiopacLg2
namespace Go.Proofs.Ythdjckbjjfiopac
open Go.Sl Go.Proofs
set_option linter.unusedVariables false
set_option linter.unusedSimpArgs false
def badO (D : DiskM) (from_ many first : Int) : Prop := from_ < 0 ∨ many < 1 ∨ (D.now.length : Int) < many ∨ (D.now.length : Int) - many < from_ ∨ first < 1
instance (D : DiskM) (from_ many first : Int) : Decidable (badO D from_ many first) := by unfold badO; infer_instance
def secD (D : DiskM) (from_ : Nat) (i : Nat) : Bytes := D.now.getD (from_ + i) []
abbrev LogG := List (List ChangeM × LocA)
def ROpen (T TT TL TC bd : Nat) (D : DiskM) (from_ many first : Int) (F : List HProp) : Value → List HProp → Prop := fun v L' =>
  (badO D from_ many first ∧ v = .tuple #[.pointer none, sl none 0 0, errV 1] ∧ L' = dsk T TT bd D :: F) ∨
  (¬ badO D from_ many first ∧ D.down = true ∧ v = .tuple #[.pointer none, sl none 0 0, errV 9] ∧ L' = dsk T TT bd D :: F) ∨
  (¬ badO D from_ many first ∧ D.down = false ∧ ∃ (bl : Nat) (gl : LogG) (so : Option Addr) (co used : Nat), v = .tuple #[ptr bl 0, sl so gl.length co, errV 0] ∧ used ≤ many.toNat ∧ gl.length ≤ many.toNat ∧
    scanF first.toNat (secD D from_.toNat) many.toNat 0 [] [] 0 = (gl.map (·.1), used) ∧
    L' = pt bl (.cells (lgC bd from_.toNat many.toNat first.toNat used) TL (0, 0)) :: owL TC 1 so co (dR gl) :: dees gl :: dsk T TT bd D :: F)
section
variable {c : Cx} {E : Env} {L : List HProp} {K : List KI}
theorem g_retAny {vs : List Value} (L1 : List HProp) (hr : resOf E c.fn.results.toList = some vs) (hp : c.R (tup vs) L1) [S : Sub L L1] (hds : c.n.ds = [] := by rfl) : G c (.code .ret :: K) E L :=
  fun a w hE hS => wp_ret (kq_ret (res_fpost (hds := hds) hr hE (S.sat hS) hp))
end
theorem look_short {num : Nat} {s : Bytes} {k : UInt8} {t : Bytes} (h : lookB num s = some (k, t)) : t.length ≤ s.length ∧ (k = 111 ∨ k = 99) := by
  unfold lookB at h
  split at h
  · rename_i hc
    injection h with h
    injection h with h1 h2
    subst h1 h2
    exact ⟨by simp only [List.length_drop, List.length_take]; omega, hc.2.1⟩
  · cases h
theorem u99 {k : UInt8} : ((k.toNat : Int) = 99) ↔ k = 99 := ⟨fun h => UInt8.toNat_inj.1 (by rw [show (99 : UInt8).toNat = 99 from rfl]; omega), fun h => by rw [h]; rfl⟩
theorem scan_none {first : Nat} {sec : Nat → Bytes} {f i used : Nat} {out : Deeds} {deed : List ChangeM} (h : lookB (first + i) (sec i) = none) : scanF first sec (f + 1) i out deed used = (out, used) := by rw [scan_s, h]
theorem scan_shut {first : Nat} {sec : Nat → Bytes} {f i used : Nat} {out : Deeds} {deed : List ChangeM} {t : Bytes} (h : lookB (first + i) (sec i) = some (99, t)) (ht : t = fourN deed.length) : scanF first sec (f + 1) i out deed used = scanF first sec f (i + 1) (out ++ [deed]) [] (i + 1) := by rw [scan_s, h]; simp only; rw [if_pos trivial, if_pos ht]
theorem scan_off {first : Nat} {sec : Nat → Bytes} {f i used : Nat} {out : Deeds} {deed : List ChangeM} {t : Bytes} (h : lookB (first + i) (sec i) = some (99, t)) (ht : ¬ t = fourN deed.length) : scanF first sec (f + 1) i out deed used = (out, used) := by rw [scan_s, h]; simp only; rw [if_pos trivial, if_neg ht]
theorem scan_row {first : Nat} {sec : Nat → Bytes} {f i used : Nat} {out : Deeds} {deed : List ChangeM} {t : Bytes} {k : UInt8} (h : lookB (first + i) (sec i) = some (k, t)) (hk : ¬ k = 99) (hp : (prS t).2 = 0) : scanF first sec (f + 1) i out deed used = scanF first sec f (i + 1) out (deed ++ [(prS t).1]) used := by rw [scan_s, h]; simp only; rw [if_neg hk, if_pos hp]
theorem scan_bad {first : Nat} {sec : Nat → Bytes} {f i used : Nat} {out : Deeds} {deed : List ChangeM} {t : Bytes} {k : UInt8} (h : lookB (first + i) (sec i) = some (k, t)) (hk : ¬ k = 99) (hp : ¬ (prS t).2 = 0) : scanF first sec (f + 1) i out deed used = (out, used) := by rw [scan_s, h]; simp only; rw [if_neg hk, if_neg hp]
theorem dR_snoc (gl : LogG) (d : List ChangeM) (s : Option Addr) (c : Nat) : dR gl ++ [[sl s d.length c]] = dR (gl ++ [(d, (s, c))]) := by simp [dR]
theorem map_snoc (gl : LogG) (d : List ChangeM) (s : Option Addr) (c : Nat) : (gl ++ [(d, (s, c))]).map (·.1) = gl.map (·.1) ++ [d] := by simp
theorem chR_snoc' (a : List ChangeM) (x : ChangeM) : chR a ++ [encC x] = chR (a ++ [x]) := by simp [chR]

theorem ct_log_Open (bd : Nat) (D : DiskM) (from_ many first : Int) (hS : ∀ x ∈ D.now, x.length = 80) (hbd : D.now.length ≤ 1000000 ∧ first ≤ 1000000000000) (F : List HProp) : Ct Try.prog 62 [ptr bd 0, I from_, I many, I first] ([dsk 117 135 bd (D)] ++ F) (ROpen 117 135 154 49 bd D from_ many first F) := by
  show Ct Try.prog 62 [ptr bd 0, I from_, I many, I first] (dsk 117 135 bd (D) :: F) _
  refine Ct.of Try.func62 rfl 103 Try.ntmps62 (by simp) fun w0 => ?_
  refine g_seq ?_
  refine g_reg ?_
  refine g_v (v_assign rfl) rfl ?_
  refine g_v (v_assign rfl) rfl ?_
  refine g_v (v_assign rfl) rfl ?_
  refine g_nil ?_
  refine g_seq ?_
  refine g_seq ?_
  refine g_reg ?_
  refine g_v (v_move rfl) rfl ?_
  refine g_v (v_lss rfl rfl) rfl ?_
  refine g_v (v_move rfl) rfl ?_
  refine g_gv rfl rfl (fun hg => v_move rfl) rfl rfl ?_
  refine g_gv rfl rfl (fun hg => v_lss rfl rfl) rfl rfl ?_
  refine g_v (v_or rfl rfl) rfl ?_
  refine g_v (v_move rfl) rfl ?_
  refine g_gv rfl rfl (fun hg => v_move rfl) rfl rfl ?_
  refine g_gv rfl rfl (fun hg => v_move rfl) rfl rfl ?_
  refine g_gq rfl rfl (fun hg => l_call (Pre := [dsk 117 135 bd (D)]) (R := fun F => R1 (I (D.now.length : Int)) (dsk 117 135 bd (D) :: F)) Try.call63 rfl (ct_disk_Sectors bd D)) rfl rfl ?_
  refine g_gv rfl rfl (fun hg => v_gtr rfl rfl) rfl rfl ?_
  refine g_v (v_or rfl rfl) rfl ?_
  refine g_v (v_move rfl) rfl ?_
  refine g_gv rfl rfl (fun hg => v_move rfl) rfl rfl ?_
  refine g_gv rfl rfl (fun hg => v_move rfl) rfl rfl ?_
  refine g_gq rfl rfl (fun hg => l_call (Pre := [dsk 117 135 bd (D)]) (R := fun F => R1 (I (D.now.length : Int)) (dsk 117 135 bd (D) :: F)) Try.call63 rfl (ct_disk_Sectors bd D)) rfl rfl ?_
  refine g_gv rfl rfl (fun hg => v_move rfl) rfl rfl ?_
  refine g_gv rfl rfl (fun hg => v_sub (r := (D.now.length : Int) - many) rfl rfl (w64 (by simp at hg; omega))) rfl rfl ?_
  refine g_gv rfl rfl (fun hg => v_gtr rfl rfl) rfl rfl ?_
  refine g_v (v_or rfl rfl) rfl ?_
  refine g_v (v_move rfl) rfl ?_
  refine g_gv rfl rfl (fun hg => v_move rfl) rfl rfl ?_
  refine g_gv rfl rfl (fun hg => v_lss rfl rfl) rfl rfl ?_
  refine g_v (v_or rfl rfl) rfl ?_
  refine g_nil ?_
  refine g_cond rfl (fun h43 => ?_) (fun h43 => ?_)
  · simp at h43
    have hbad : badO D from_ many first := by unfold badO; omega
    refine g_seq ?_
    refine g_reg ?_
    refine g_v (v_iface Try.underlying94 rfl rfl) rfl ?_
    refine g_v (v_assign rfl) rfl ?_
    refine g_v (v_assign rfl) rfl ?_
    refine g_v (v_assign rfl) rfl ?_
    refine g_nil ?_
    exact g_retAny (dsk 117 135 bd (D) :: F) rfl (.inl ⟨hbad, rfl, rfl⟩)
  · simp at h43
    have hbad : ¬ badO D from_ many first := by unfold badO; omega
    have hb2 : ¬ (from_ < 0 ∨ many < 1 ∨ (D.now.length : Int) < many ∨ (D.now.length : Int) - many < from_ ∨ first < 1) := hbad
    refine g_skip ?_
    refine g_seq ?_
    refine g_seq ?_
    refine g_reg ?_
    refine g_v (v_move rfl) rfl ?_
    refine g_l (l_call (Pre := [dsk 117 135 bd (D)]) Try.call68 rfl (ct_disk_Down bd D)) rfl ?_
    rintro _ _ ⟨rfl, rfl⟩
    refine g_nil ?_
    refine g_cond rfl (fun h46 => ?_) (fun h46 => ?_)
    · skip
      refine g_seq ?_
      refine g_reg ?_
      refine g_v (v_iface Try.underlying94 rfl rfl) rfl ?_
      refine g_v (v_assign rfl) rfl ?_
      refine g_v (v_assign rfl) rfl ?_
      refine g_v (v_assign rfl) rfl ?_
      refine g_nil ?_
      exact g_retAny (dsk 117 135 bd (D) :: F) rfl (.inr (.inl ⟨hbad, h46, rfl, rfl⟩))
    · have hdn : D.down = false := by simpa using h46
      obtain ⟨from_, rfl⟩ := Int.eq_ofNat_of_zero_le (show 0 ≤ from_ by omega)
      obtain ⟨many, rfl⟩ := Int.eq_ofNat_of_zero_le (show 0 ≤ many by omega)
      obtain ⟨first, rfl⟩ := Int.eq_ofNat_of_zero_le (show 0 ≤ first by omega)
      refine g_skip ?_
      refine g_seq ?_
      refine g_reg ?_
      refine g_v (v_move rfl) rfl ?_
      refine g_v (v_move rfl) rfl ?_
      refine g_v (v_move rfl) rfl ?_
      refine g_v (v_move rfl) rfl ?_
      refine g_v (v_build rfl (bld154_0_1_2_3 _ rfl _ rfl _ rfl _ rfl)) rfl ?_
      refine g_l (l_box (lgC bd from_ many first 0) rfl rfl) rfl ?_
      rintro _ _ ⟨b53, rfl, rfl⟩
      refine g_v (v_assign rfl) rfl ?_
      refine g_nil ?_
      refine g_seq ?_
      refine g_reg ?_
      refine g_v (v_assign rfl) rfl ?_
      refine g_nil ?_
      refine g_seq ?_
      refine g_reg ?_
      refine g_v (v_assign rfl) rfl ?_
      refine g_nil ?_
      refine g_seq ?_
      refine g_seq ?_
      refine g_nilown 49 1 (dR []) rfl ?_
      refine g_nilown 111 3 (chR []) rfl ?_
      refine g_dees0 ?_
      refine g_reg ?_
      refine g_v (v_move rfl) rfl ?_
      refine g_v (v_move rfl) rfl ?_
      refine g_nil ?_
      refine g_block ?_
      refine g_loop (α := Nat × LogG × List ChangeM × Nat × LocA × LocA) (fun z => z.1 ≤ many ∧ scanF first (secD D from_) many 0 [] [] 0 = scanF first (secD D from_) (many - z.1) z.1 (z.2.1.map (·.1)) z.2.2.1 z.2.2.2.1 ∧ z.2.2.1.length ≤ z.1 ∧ z.2.1.length ≤ z.1 ∧ z.2.2.2.1 ≤ z.1) (fun z => U [(0, ptr bd 0), (11, ptr b53 0), (12, sl z.2.2.2.2.1.1 z.2.1.length z.2.2.2.2.1.2), (13, sl z.2.2.2.2.2.1 z.2.2.1.length z.2.2.2.2.2.2), (54, I many), (55, I z.1)]) (fun z => pt b53 (.cells (lgC bd from_ many first z.2.2.2.1) 154 (0, 0)) :: owL 49 1 z.2.2.2.2.1.1 z.2.2.2.2.1.2 (dR z.2.1) :: owL 111 3 z.2.2.2.2.2.1 z.2.2.2.2.2.2 (chR z.2.2.1) :: dees z.2.1 :: dsk 117 135 bd (D) :: F) (fun z => many - z.1) (0, [], [], 0, (none, 0), (none, 0)) ⟨by simp, rfl, by simp, by simp, by simp⟩ [0, 11, 12, 13, 54, 55] rfl rfl ?_
      rintro ⟨i, gl, deed, used, ⟨so, co⟩, ⟨sd, cd⟩⟩ ⟨hi, hsc, hdl, hgl, hul⟩
      simp only [] at hi hsc hdl hgl hul ⊢
      refine g_seq ?_
      refine g_reg ?_
      refine g_v (v_lss rfl rfl) rfl ?_
      refine g_nil ?_
      refine g_seq ?_
      refine g_cond rfl (fun h56 => ?_) (fun h56 => ?_)
      · simp at h56
        have him : i < many := by omega
        have hso : scanF first (secD D from_) many 0 [] [] 0 = scanF first (secD D from_) ((many - (i + 1)) + 1) i (gl.map (·.1)) deed used := by rw [hsc, show (many - (i + 1)) + 1 = many - i by omega]
        refine g_skip ?_
        refine g_seq ?_
        refine g_block ?_
        refine g_seq ?_
        refine g_reg ?_
        refine g_v (v_move rfl) rfl ?_
        refine g_v (v_assign rfl) rfl ?_
        refine g_nil ?_
        refine g_seq ?_
        refine g_reg ?_
        refine g_v (v_move rfl) rfl ?_
        refine g_v (v_move rfl) rfl ?_
        refine g_l (l_call (Pre := [pt b53 (.cells (lgC bd from_ many first (used)) 154 (0, 0)), dsk 117 135 bd (D)]) Try.call90 rfl (ct_log_look b53 bd from_ many first used D i (by omega) hdn hS (by omega) ⟨hbd.1, by omega⟩)) rfl ?_
        rintro _ _ ⟨rfl, rfl⟩
        rw [show D.now.getD (from_ + i) [] = secD D from_ i from rfl]
        have hsl : (secD D from_ i).length = 80 := getD_len (by omega) hS
        rcases hlk : lookB (first + i) (secD D from_ i) with _ | ⟨k, t⟩
        rotate_left
        obtain ⟨hts, hk2⟩ := look_short hlk
        by_cases hk99 : k = 99
        · subst hk99
          refine g_v (v_move rfl) rfl ?_
          refine g_v (v_extract (v := By 99) rfl rfl) rfl ?_
          refine g_v (v_extract (v := Str t) rfl rfl) rfl ?_
          refine g_v (v_extract (v := Bo true) rfl rfl) rfl ?_
          refine g_v (v_assign rfl) rfl ?_
          refine g_v (v_assign rfl) rfl ?_
          refine g_v (v_assign rfl) rfl ?_
          refine g_nil ?_
          refine g_seq ?_
          refine g_seq ?_
          refine g_reg ?_
          refine g_v (v_move rfl) rfl ?_
          refine g_v (v_not rfl) rfl ?_
          refine g_v (v_move rfl) rfl ?_
          refine g_gv1 rfl rfl rfl (v_move rfl) rfl ?_
          refine g_gv1 rfl rfl rfl (v_eql rfl rfl) rfl ?_
          refine g_gv1 rfl rfl rfl (v_move rfl) rfl ?_
          refine g_gv1 rfl rfl rfl (v_move rfl) rfl ?_
          refine g_gv1 rfl rfl rfl (v_move rfl) rfl ?_
          refine g_gv1 rfl rfl rfl (v_len Try.underlying49 rfl) rfl ?_
          refine g_gl rfl rfl rfl (l_call (Pre := []) Try.call91 rfl (ct_log_four deed.length)) rfl ?_
          rintro _ _ ⟨rfl, rfl⟩
          refine g_gv1 rfl rfl rfl (v_sneq rfl rfl) rfl ?_
          refine g_gv1 rfl rfl rfl (v_and rfl rfl) rfl ?_
          refine g_v (v_or rfl rfl) rfl ?_
          refine g_nil ?_
          refine g_cond rfl (fun h77 => ?_) (fun h77 => ?_)
          · simp at h77
            have hfin : scanF first (secD D from_) many 0 [] [] 0 = (gl.map (·.1), used) := by rw [hso, scan_off hlk h77]
            refine g_exit rfl ?_
            refine g_seq ?_
            refine g_reg ?_
            refine g_v (v_move rfl) rfl ?_
            refine g_v (v_move rfl) rfl ?_
            refine g_v (v_assign rfl) rfl ?_
            refine g_v (v_assign rfl) rfl ?_
            refine g_v (v_assign rfl) rfl ?_
            refine g_nil ?_
            refine g_retAny (pt b53 (.cells (lgC bd from_ many first (used)) 154 (0, 0)) :: owL 49 1 so co (dR gl) :: dees gl :: dsk 117 135 bd (D) :: F) rfl (.inr (.inr ⟨hbad, hdn, b53, gl, so, co, used, rfl, (Nat.le_trans hul (by omega)), (Nat.le_trans hgl (by omega)), hfin, rfl⟩))
          · simp at h77
            have ht : t = fourN deed.length := h77
            refine g_skip ?_
            refine g_seq ?_
            refine g_seq ?_
            refine g_reg ?_
            refine g_v (v_move rfl) rfl ?_
            refine g_v (v_eql rfl rfl) rfl ?_
            refine g_nil ?_
            refine g_true rfl ?_
            refine g_seq ?_
            refine g_reg ?_
            refine g_v (v_move rfl) rfl ?_
            refine g_v (v_move rfl) rfl ?_
            refine g_v (v_move rfl) rfl ?_
            refine g_l (l_buildSlice [[sl sd deed.length cd]] Try.underlying68 Try.sizeOf49 Try.zeroValue49 rfl rfl rfl (by simp) (by decide) (by decide)) rfl ?_
            rintro _ _ ⟨b83, rfl, rfl⟩
            refine g_l (l_append Try.underlying68 Try.sizeOf49 Try.zeroValue49 rfl Try.typeInfo49 (by decide) rfl rfl (dR_len _) rfl (by simp) (by simp [ones, one, sl]) ⟨by omega, by decide, by decide⟩) rfl ?_
            rintro _ _ ⟨s84, c84, rfl, rfl⟩
            rw [dR_snoc, show gl.length + 1 = (gl ++ [(deed, (sd, cd))]).length by simp]
            refine g_v (v_move rfl) rfl ?_
            refine g_v (v_add (r := ((i + 1 : Nat) : Int)) rfl rfl (by rw [show (i : Int) + 1 = ((i + 1 : Nat) : Int) by omega]; exact w64 (by omega))) rfl ?_
            refine g_v (v_assign rfl) rfl ?_
            refine g_v (v_assign rfl) rfl ?_
            refine g_v (v_nilCheck rfl) rfl ?_
            refine g_v (v_fieldAddr 4 Try.underlying154 rfl rfl Try.sizeOf3 (by decide) rfl) rfl ?_
            refine g_l0 (l_store (lgC bd from_ many first (i + 1)) Try.sizeOf3 rfl rfl rfl (by simp) rfl) ?_
            rintro _ _ rfl
            refine g_nil ?_
            refine g_exit rfl ?_
            refine g_reg ?_
            refine g_v (v_add (r := ((i + 1 : Nat) : Int)) rfl rfl (by rw [show (i : Int) + 1 = ((i + 1 : Nat) : Int) by omega]; exact w64 (by omega))) rfl ?_
            refine g_v (v_move rfl) rfl ?_
            refine g_nil ?_
            refine g_freeze (T := 111) (cap := cd) sd ?_
            refine g_deesApp gl deed sd cd ?_
            refine g_nilown 111 3 (chR []) rfl ?_
            refine g_again (i + 1, gl ++ [(deed, (sd, cd))], [], i + 1, (s84, c84), (none, 0)) ⟨by simp; omega, ?_, by simp, by simp; omega, by simp⟩ (by simp; omega) [0, 11, 12, 13, 54, 55] rfl rfl
            simp only []
            rw [hso, scan_shut hlk ht, map_snoc]
        · skip
          refine g_v (v_move rfl) rfl ?_
          refine g_v (v_extract (v := By k.toNat) rfl rfl) rfl ?_
          refine g_v (v_extract (v := Str t) rfl rfl) rfl ?_
          refine g_v (v_extract (v := Bo true) rfl rfl) rfl ?_
          refine g_v (v_assign rfl) rfl ?_
          refine g_v (v_assign rfl) rfl ?_
          refine g_v (v_assign rfl) rfl ?_
          refine g_nil ?_
          refine g_seq ?_
          refine g_seq ?_
          refine g_reg ?_
          refine g_v (v_move rfl) rfl ?_
          refine g_v (v_not rfl) rfl ?_
          refine g_v (v_move rfl) rfl ?_
          have hk99' : ¬ ((k.toNat : Int) = 99) := fun h => hk99 (u99.1 h)
          refine g_gv1 rfl rfl rfl (v_move rfl) rfl ?_
          refine g_gv1 rfl rfl rfl (v_eql rfl rfl) rfl ?_
          refine g_gv1 rfl rfl rfl (v_move rfl) rfl ?_
          refine g_no rfl rfl (by simp [notB, hk99']) rfl ?_
          refine g_no rfl rfl (by simp [notB, hk99']) rfl ?_
          refine g_no rfl rfl (by simp [notB, hk99']) rfl ?_
          refine g_no rfl rfl (by simp [notB, hk99']) rfl ?_
          refine g_no rfl rfl (by simp [notB, hk99']) rfl ?_
          refine g_gv1 rfl rfl rfl (v_pk2 rfl (by simp [hk99']) rfl) rfl ?_
          refine g_v (v_or rfl rfl) rfl ?_
          refine g_nil ?_
          refine g_cond rfl (fun h77 => ?_) (fun h77 => ?_)
          · simp at h77
          · skip
            refine g_skip ?_
            refine g_seq ?_
            refine g_seq ?_
            refine g_reg ?_
            refine g_v (v_move rfl) rfl ?_
            refine g_v (v_eql rfl rfl) rfl ?_
            refine g_nil ?_
            refine g_cond rfl (fun h79 => ?_) (fun h79 => ?_)
            · simp at h79
              exact absurd (u99.1 h79) hk99
            · skip
              refine g_skip ?_
              refine g_seq ?_
              refine g_reg ?_
              refine g_v (v_move rfl) rfl ?_
              refine g_l (l_call (Pre := []) Try.call92 rfl (ct_row_Parse t (by omega))) rfl ?_
              rintro _ _ ⟨rfl, rfl⟩
              refine g_v (v_move rfl) rfl ?_
              refine g_v (v_extract (v := .agg (encC (prS t).1).toArray) rfl rfl) rfl ?_
              refine g_v (v_extract (v := errV (prS t).2) rfl rfl) rfl ?_
              refine g_l (l_alloc #[Str [], Str [], Bo false] Try.zeroValue111) rfl ?_
              rintro _ _ ⟨b18, rfl, rfl⟩
              refine g_l0 (l_storeA (cs := #[Str [], Str [], Bo false]) (vs := encC (prS t).1) (encC (prS t).1).toArray Try.sizeOf111 rfl rfl rfl rfl (by decide) (splice_all rfl)) ?_
              rintro _ _ rfl
              refine g_v (v_assign rfl) rfl ?_
              refine g_nil ?_
              refine g_seq ?_
              refine g_seq ?_
              refine g_reg ?_
              refine g_v (v_move rfl) rfl ?_
              refine g_v (v_ineq Try.underlying33 rfl) rfl ?_
              refine g_nil ?_
              refine g_cond rfl (fun h95 => ?_) (fun h95 => ?_)
              · simp at h95
                have hfin : scanF first (secD D from_) many 0 [] [] 0 = (gl.map (·.1), used) := by rw [hso, scan_bad hlk hk99 h95]
                refine g_exit rfl ?_
                refine g_seq ?_
                refine g_reg ?_
                refine g_v (v_move rfl) rfl ?_
                refine g_v (v_move rfl) rfl ?_
                refine g_v (v_assign rfl) rfl ?_
                refine g_v (v_assign rfl) rfl ?_
                refine g_v (v_assign rfl) rfl ?_
                refine g_nil ?_
                refine g_retAny (pt b53 (.cells (lgC bd from_ many first (used)) 154 (0, 0)) :: owL 49 1 so co (dR gl) :: dees gl :: dsk 117 135 bd (D) :: F) rfl (.inr (.inr ⟨hbad, hdn, b53, gl, so, co, used, rfl, (Nat.le_trans hul (by omega)), (Nat.le_trans hgl (by omega)), hfin, rfl⟩))
              · simp at h95
                have hpe : (prS t).2 = 0 := h95
                refine g_skip ?_
                refine g_reg ?_
                refine g_v (v_move rfl) rfl ?_
                refine g_v (v_loadA (vs := encC ((prS t).1)) Try.isAgg111 Try.sizeOf111 rfl rfl arr_ld) rfl ?_
                refine g_l (l_buildSlice [encC (prS t).1] Try.underlying49 Try.sizeOf111 Try.zeroValue111 rfl rfl rfl (by simp [encC]) (by decide) (by decide)) rfl ?_
                rintro _ _ ⟨b98, rfl, rfl⟩
                refine g_l (l_append Try.underlying49 Try.sizeOf111 Try.zeroValue111 rfl Try.typeInfo111 (by decide) rfl rfl (chR_len _) rfl (by simp [encC]) (by simp [ones, one, encC]) ⟨by omega, by decide, by decide⟩) rfl ?_
                rintro _ _ ⟨s99, c99, rfl, rfl⟩
                rw [chR_snoc', show deed.length + 1 = (deed ++ [(prS t).1]).length by simp]
                refine g_v (v_assign rfl) rfl ?_
                refine g_nil ?_
                refine g_blk ?_
                refine g_reg ?_
                refine g_v (v_add (r := ((i + 1 : Nat) : Int)) rfl rfl (by rw [show (i : Int) + 1 = ((i + 1 : Nat) : Int) by omega]; exact w64 (by omega))) rfl ?_
                refine g_v (v_move rfl) rfl ?_
                refine g_nil ?_
                refine g_again (i + 1, gl, deed ++ [(prS t).1], used, (so, co), (s99, c99)) ⟨by simp; omega, ?_, by simp; omega, by simp only []; omega, by simp only []; omega⟩ (by simp; omega) [0, 11, 12, 13, 54, 55] rfl rfl
                simp only []
                rw [hso, scan_row hlk hk99 hpe]
        · skip
          refine g_v (v_move rfl) rfl ?_
          refine g_v (v_extract (v := By 0) rfl rfl) rfl ?_
          refine g_v (v_extract (v := Str []) rfl rfl) rfl ?_
          refine g_v (v_extract (v := Bo false) rfl rfl) rfl ?_
          refine g_v (v_assign rfl) rfl ?_
          refine g_v (v_assign rfl) rfl ?_
          refine g_v (v_assign rfl) rfl ?_
          refine g_nil ?_
          refine g_seq ?_
          refine g_seq ?_
          refine g_reg ?_
          refine g_v (v_move rfl) rfl ?_
          refine g_v (v_not rfl) rfl ?_
          refine g_v (v_move rfl) rfl ?_
          refine g_no rfl rfl rfl rfl ?_
          refine g_no rfl rfl rfl rfl ?_
          refine g_no rfl rfl rfl rfl ?_
          refine g_no rfl rfl rfl rfl ?_
          refine g_no rfl rfl rfl rfl ?_
          refine g_no rfl rfl rfl rfl ?_
          refine g_no rfl rfl rfl rfl ?_
          refine g_no rfl rfl rfl rfl ?_
          refine g_no rfl rfl rfl rfl ?_
          refine g_v (v_pk1 rfl rfl rfl) rfl ?_
          refine g_nil ?_
          refine g_true rfl ?_
          refine g_exit rfl ?_
          refine g_seq ?_
          refine g_reg ?_
          refine g_v (v_move rfl) rfl ?_
          refine g_v (v_move rfl) rfl ?_
          refine g_v (v_assign rfl) rfl ?_
          refine g_v (v_assign rfl) rfl ?_
          refine g_v (v_assign rfl) rfl ?_
          refine g_nil ?_
          have hfin : scanF first (secD D from_) many 0 [] [] 0 = (gl.map (·.1), used) := by rw [hso, scan_none hlk]
          refine g_retAny (pt b53 (.cells (lgC bd from_ many first (used)) 154 (0, 0)) :: owL 49 1 so co (dR gl) :: dees gl :: dsk 117 135 bd (D) :: F) rfl (.inr (.inr ⟨hbad, hdn, b53, gl, so, co, used, rfl, (Nat.le_trans hul (by omega)), (Nat.le_trans hgl (by omega)), hfin, rfl⟩))
      · simp at h56
        obtain rfl : many = i := by omega
        have hfin : scanF first (secD D from_) many 0 [] [] 0 = (gl.map (·.1), used) := by rw [hsc, Nat.sub_self]; rfl
        refine g_exit rfl ?_
        refine g_seq ?_
        refine g_reg ?_
        refine g_v (v_move rfl) rfl ?_
        refine g_v (v_move rfl) rfl ?_
        refine g_v (v_assign rfl) rfl ?_
        refine g_v (v_assign rfl) rfl ?_
        refine g_v (v_assign rfl) rfl ?_
        refine g_nil ?_
        refine g_retAny (pt b53 (.cells (lgC bd from_ many first (used)) 154 (0, 0)) :: owL 49 1 so co (dR gl) :: dees gl :: dsk 117 135 bd (D) :: F) rfl (.inr (.inr ⟨hbad, hdn, b53, gl, so, co, used, rfl, (Nat.le_trans hul (by omega)), (Nat.le_trans hgl (by omega)), hfin, rfl⟩))

end Go.Proofs.Ythdjckbjjfiopac
